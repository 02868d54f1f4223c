/-
  How many are left. CONDITIONS: none.
-/
import Derived.Test.YtcgpbamkkhjoiaaOxO7
set_option linter.unusedSimpArgs false
set_option linter.unusedVariables false
namespace Go.Proofs
open Go Go.Ox
set_option maxRecDepth 100000
set_option maxHeartbeats 2000000
/-- How many are left in the first ones. -/
def leftS (A : List (List Rc)) (O : List Int) : Nat → Int
  | 0 => 0
  | i + 1 => leftS A O i + (((A.getD i []).length : Int) - O.getD i 0)
theorem leftS_bd (A : List (List Rc)) (O : List Int) (hb : ∀ L ∈ A, L.length < 1000000) (hp : ∀ q, 0 ≤ O.getD q 0 ∧ O.getD q 0 ≤ ((A.getD q []).length : Int)) : ∀ i, 0 ≤ leftS A O i ∧ leftS A O i ≤ i * 1000000
  | 0 => by simp [leftS]
  | i + 1 => by
    have ih := leftS_bd A O hb hp i
    have h1 := hp i
    have h2 : (A.getD i []).length ≤ 1000000 := by
      by_cases hi : i < A.length
      · rw [List.getD_eq_getElem?_getD, List.getElem?_eq_getElem hi]
        exact Nat.le_of_lt (hb _ (List.getElem_mem hi))
      · rw [List.getD_eq_getElem?_getD, List.getElem?_eq_none (by omega)]; simp
    simp only [leftS]
    omega
theorem nth0_zero {n i : Nat} (hi : i < n) : nth0 n 0 i = i := by
  have : fst0 n 0 = 0 := by unfold fst0; show ((0 : Int) % (n : Int)).toNat = 0; simp
  rw [nth0, this, Nat.zero_add, Nat.mod_eq_of_lt hi]

theorem Left_any {h0 : AHeap} {F : List Asn} (p : Nat) (A : List (List Rc)) (O : List Int) (h : AHeap) (K : Value → AHeap → Prop) (s : St h0 h (src p A O :: F)) (hl : A.length < 1000000) (hb : ∀ L ∈ A, L.length < 1000000) (hO : O.length = A.length) (hp : ∀ q, 0 ≤ O.getD q 0 ∧ O.getD q 0 ≤ ((A.getD q []).length : Int))
    (hk : ∀ h', St h0 h' (src p A O :: F) → K (.int .i64 (leftS A O A.length)) h') : wpF Try.prog (.fn 23) [.pointer (some ⟨p, 0, none⟩)] h K := by
  refine wpF_fun 27 [.tmp 2] Try.func23 rfl rfl rfl rfl ?_
  refine sr (fun LL hLL => ?_)
  simp only [ptrTo, pend, pend0, Pd.old, pendU, pendU0, oxA0, oxA1, oxA2, oxA3, oxA4, oxA5, oxA6, oxA7, oxA8, oxA9, oxA10, oxL0, oxL1, oxTy0, oxTy1, ↓reduceIte, Nat.reduceAdd, Nat.reduceLeDiff, Nat.reduceLT, Nat.reduceEqDiff, Nat.reduceMul, Nat.reduceSub, Int.reduceEq, Int.reduceLT, Int.reduceLE, Int.reduceAdd, Int.reduceNeg, Int.reduceNe, Int.reduceToNat, Nat.testBit, Nat.reduceShiftRight, Nat.reduceAnd, Nat.reduceBneDiff, Nat.reduceBEq, gR_some]
  refine hLL _ _ ?_
  refine sr (fun LL hLL => ?_)
  simp only [ptrTo, pend, pend0, Pd.old, pendU, pendU0, oxA0, oxA1, oxA2, oxA3, oxA4, oxA5, oxA6, oxA7, oxA8, oxA9, oxA10, oxL0, oxL1, oxTy0, oxTy1, ↓reduceIte, Nat.reduceAdd, Nat.reduceLeDiff, Nat.reduceLT, Nat.reduceEqDiff, Nat.reduceMul, Nat.reduceSub, Int.reduceEq, Int.reduceLT, Int.reduceLE, Int.reduceAdd, Int.reduceNeg, Int.reduceNe, Int.reduceToNat, Nat.testBit, Nat.reduceShiftRight, Nat.reduceAnd, Nat.reduceBneDiff, Nat.reduceBEq, gR_some, AHeap.get_set, AHeap.get_push, AHeap.get_del, AHeap.next_set, AHeap.next_push, AHeap.next_del]
  refine hLL _ _ ?_
  have s0 := ((s.push (.cells false 0 [.pointer (some ⟨p, 0, none⟩)] 28)).push (.cells false 0 [.int .i64 0] 3)).set (.cells false 0 [.int .i64 0] 3)
  obtain ⟨c1, e1⟩ : ∃ c, c = h.next := ⟨_, rfl⟩
  obtain ⟨h1, e2⟩ : ∃ h1, h1 = ((h.push (.cells false 0 [.pointer (some ⟨p, 0, none⟩)] 28)).push (.cells false 0 [.int .i64 0] 3)).set (h.next + 1) (.cells false 0 [.int .i64 0] 3) := ⟨_, rfl⟩
  simp only [AHeap.next_push] at s0
  rw [← e2, ← e1] at s0 ⊢
  obtain ⟨c3, e3⟩ : ∃ c, c = c1 + 1 := ⟨_, rfl⟩
  rw [← e3] at s0 ⊢
  have g1 := (s0.mv 1).get
  refine wpC_seq ?_
  refine sr (fun LL hLL => ?_)
  simp only [ptrTo, pend, pend0, Pd.old, pendU, pendU0, oxA0, oxA1, oxA2, oxA3, oxA4, oxA5, oxA6, oxA7, oxA8, oxA9, oxA10, oxL0, oxL1, oxTy0, oxTy1, ↓reduceIte, Nat.reduceAdd, Nat.reduceLeDiff, Nat.reduceLT, Nat.reduceEqDiff, Nat.reduceMul, Nat.reduceSub, Int.reduceEq, Int.reduceLT, Int.reduceLE, Int.reduceAdd, Int.reduceNeg, Int.reduceNe, Int.reduceToNat, Nat.testBit, Nat.reduceShiftRight, Nat.reduceAnd, Nat.reduceBneDiff, Nat.reduceBEq, gR_some, g1]
  refine round_any _ 0 _ _ s0 (fun cs cf h2 s2 => ?_) rfl rfl
  refine hLL _ _ ?_
  obtain ⟨β, hβ⟩ : ∃ β, β = h2.next := ⟨_, rfl⟩
  refine wpC_block (wpC_rangeL 36 #[] #[.pointer (some ⟨cs, 0, none⟩), .pointer (some ⟨cf, 0, none⟩)] (by simp only [ptrTo, pend, pend0, Pd.old, pendU, pendU0, oxA0, oxA1, oxA2, oxA3, oxA4, oxA5, oxA6, oxA7, oxA8, oxA9, oxA10, oxL0, oxL1, oxTy0, oxTy1, ↓reduceIte, Nat.reduceAdd, Nat.reduceLeDiff, Nat.reduceLT, Nat.reduceEqDiff, Nat.reduceMul, Nat.reduceSub, Int.reduceEq, Int.reduceLT, Int.reduceLE, Int.reduceAdd, Int.reduceNeg, Int.reduceNe, Int.reduceToNat, Nat.testBit, Nat.reduceShiftRight, Nat.reduceAnd, Nat.reduceBneDiff, Nat.reduceBEq, gR_some]) (fun L LB LD hL hLB hLD => ?_))
  have s3 := s2.push L
  rw [← hβ] at s3 ⊢
  obtain ⟨h3, e3'⟩ : ∃ h3, h3 = h2.push L := ⟨_, rfl⟩
  rw [← e3'] at s3 ⊢
  obtain ⟨aP, cP, aO, cO, s4⟩ := src_out (s3.mv 5)
  refine rnd_any β cs cf p A.length 0 aP cP (.slice aO O.length cO) h3 _ (s3.mv 2).get s4.get (s3.mv 1).get hl
    (fun i h' => St h0 h' (own β L :: own c3 (.cells false 0 [.int .i64 (leftS A O i)] 3) :: own c1 (.cells false 0 [.pointer (some ⟨p, 0, none⟩)] 28) :: src p A O :: F))
    (fun _ => False) (s3.sel 6 [0, 3, 4, 5]) ?_ ?_ (fun _ k => k.elim)
  · rintro i h' Q hi s5 hq1 hq2
    rw [nth0_zero hi]
    refine wpF_yieldL hL hLB hLD s5.get rfl (by decide) ?_
    change wpC _ _ _ _ (tput _ 7 _) _ _
    refine rg (fun LL hLL => ?_)
    simp only [ptrTo, pend, pend0, Pd.old, pendU, pendU0, oxA0, oxA1, oxA2, oxA3, oxA4, oxA5, oxA6, oxA7, oxA8, oxA9, oxA10, oxL0, oxL1, oxTy0, oxTy1, ↓reduceIte, Nat.reduceAdd, Nat.reduceLeDiff, Nat.reduceLT, Nat.reduceEqDiff, Nat.reduceMul, Nat.reduceSub, Int.reduceEq, Int.reduceLT, Int.reduceLE, Int.reduceAdd, Int.reduceNeg, Int.reduceNe, Int.reduceToNat, Nat.testBit, Nat.reduceShiftRight, Nat.reduceAnd, Nat.reduceBneDiff, Nat.reduceBEq, gR_some]
    refine hLL _ _ ?_
    simp only [ptrTo, pend, pend0, Pd.old, pendU, pendU0, oxA0, oxA1, oxA2, oxA3, oxA4, oxA5, oxA6, oxA7, oxA8, oxA9, oxA10, oxL0, oxL1, oxTy0, oxTy1, ↓reduceIte, Nat.reduceAdd, Nat.reduceLeDiff, Nat.reduceLT, Nat.reduceEqDiff, Nat.reduceMul, Nat.reduceSub, Int.reduceEq, Int.reduceLT, Int.reduceLE, Int.reduceAdd, Int.reduceNeg, Int.reduceNe, Int.reduceToNat, Nat.testBit, Nat.reduceShiftRight, Nat.reduceAnd, Nat.reduceBneDiff, Nat.reduceBEq, gR_some]
    refine ⟨s5.get, ?_⟩
    have s6 := s5.set LB
    obtain ⟨h4, e4'⟩ : ∃ h4, h4 = h'.set β LB := ⟨_, rfl⟩
    rw [← e4'] at s6 ⊢
    have hiO : i < O.length := by omega
    have g1 := (s6.mv 2).get
    have g3 := (s6.mv 1).get
    obtain ⟨aP, cP, aO, cO, s7⟩ := src_out (s6.mv 3)
    have gp := s7.get
    obtain ⟨S, hS, s8⟩ := (s7.mv 1).nest_out
    have hSl := lens hS
    have hiS : i < S.length := by omega
    have eO : O.getD i 0 = O[i] := by rw [List.getD_eq_getElem?_getD, List.getElem?_eq_getElem hiO]; rfl
    have eA : A.getD i [] = A[i] := by rw [List.getD_eq_getElem?_getD, List.getElem?_eq_getElem hi]; rfl
    obtain ⟨bP, oP, roP, szP, CP, eP, rfl, pP, gP, rP, qP⟩ := (s8.rs Sv.len1).resolve_left (by rintro rfl; simp at hiS)
    have wP : CP[oP + i * 1]? = some (.slice S[i].a S[i].len S[i].cap) := Rs.cell Sv.len1 rP qP i hiS 0 (by omega)
    rw [lens_at hS i hiS hi] at wP
    obtain ⟨bO, oO, roO, szO, CO, eO', rfl, pO, gO, rO, qO⟩ := ((s8.mv 3).rs icell.len).resolve_left (by rintro rfl; simp at hiO)
    have wO : CO[oO + i * 1]? = some (.int .i64 O[i]) := Rs.cell icell.len rO qO i hiO 0 (by omega)
    have v1 : ∀ (a : Option Addr) (m n : Nat), veq 6 (.slice a m n) (.slice a m n) = true := by intro a m n; simp [veq]
    have hb1 := hp i
    rw [eO, eA] at hb1
    have hbi := hb _ (List.getElem_mem hi)
    have hbd := leftS_bd A O hb hp i
    have hw1 : IntKind.i64.wrap ((A[i].length : Int) - O[i]) = (A[i].length : Int) - O[i] := wrap_i64 (by omega) (by omega)
    have hw2 : IntKind.i64.wrap (leftS A O i + ((A[i].length : Int) - O[i])) = leftS A O (i + 1) := by
      rw [wrap_i64 (by omega) (by omega)]; simp only [leftS, eO, eA]
    refine wpC_block ?_
    refine du [some 8, some 9, some 10, some 11, some 12, some 13, some 14, some 15, some 16, some 17, some 18, some 19, some 20, some 21, some 22, some 23, some 24, some 25, none] 19 [0, 0, 2, 6, 14, 0, 62, 126, 254, 0, 512, 1536, 3584, 0, 15872, 32256, 65534, 131071, 262143] (by rfl) (by rfl) (by decide +kernel) (by decide +kernel) (by decide +kernel) (fun LL hLL => ?_)
    simp only [ptrTo, pend, pend0, Pd.old, pendU, pendU0, oxA0, oxA1, oxA2, oxA3, oxA4, oxA5, oxA6, oxA7, oxA8, oxA9, oxA10, oxL0, oxL1, oxTy0, oxTy1, ↓reduceIte, Nat.reduceAdd, Nat.reduceLeDiff, Nat.reduceLT, Nat.reduceEqDiff, Nat.reduceMul, Nat.reduceSub, Int.reduceEq, Int.reduceLT, Int.reduceLE, Int.reduceAdd, Int.reduceNeg, Int.reduceNe, Int.reduceToNat, Nat.testBit, Nat.reduceShiftRight, Nat.reduceAnd, Nat.reduceBneDiff, Nat.reduceBEq, gR_some, g1, g3, gp, ixF hi, ixF hiO, gP, gO, wP, wO, v1, hw1, hw2]
    refine hLL _ _ ?_
    simp only [ptrTo, pend, pend0, Pd.old, pendU, pendU0, oxA0, oxA1, oxA2, oxA3, oxA4, oxA5, oxA6, oxA7, oxA8, oxA9, oxA10, oxL0, oxL1, oxTy0, oxTy1, ↓reduceIte, Nat.reduceAdd, Nat.reduceLeDiff, Nat.reduceLT, Nat.reduceEqDiff, Nat.reduceMul, Nat.reduceSub, Int.reduceEq, Int.reduceLT, Int.reduceLE, Int.reduceAdd, Int.reduceNeg, Int.reduceNe, Int.reduceToNat, Nat.testBit, Nat.reduceShiftRight, Nat.reduceAnd, Nat.reduceBneDiff, Nat.reduceBEq, gR_some]
    have t1 := (s6.mv 1).set (.cells false 0 [.int .i64 (leftS A O (i + 1))] 3)
    have t2 := (t1.mv 1).set L
    exact ⟨(t1.mv 1).get, .inl (hq1 _ t2)⟩
  · intro h' s5
    refine .inl ⟨s5.get, fun Y => ?_⟩
    simp only [ptrTo, pend, pend0, Pd.old, pendU, pendU0, oxA0, oxA1, oxA2, oxA3, oxA4, oxA5, oxA6, oxA7, oxA8, oxA9, oxA10, oxL0, oxL1, oxTy0, oxTy1, ↓reduceIte, Nat.reduceAdd, Nat.reduceLeDiff, Nat.reduceLT, Nat.reduceEqDiff, Nat.reduceMul, Nat.reduceSub, Int.reduceEq, Int.reduceLT, Int.reduceLE, Int.reduceAdd, Int.reduceNeg, Int.reduceNe, Int.reduceToNat, Nat.testBit, Nat.reduceShiftRight, Nat.reduceAnd, Nat.reduceBneDiff, Nat.reduceBEq, gR_some]
    have s6 := s5.set Y
    have g3 := (s6.mv 1).get
    refine sr (fun LL hLL => ?_)
    simp only [ptrTo, pend, pend0, Pd.old, pendU, pendU0, oxA0, oxA1, oxA2, oxA3, oxA4, oxA5, oxA6, oxA7, oxA8, oxA9, oxA10, oxL0, oxL1, oxTy0, oxTy1, ↓reduceIte, Nat.reduceAdd, Nat.reduceLeDiff, Nat.reduceLT, Nat.reduceEqDiff, Nat.reduceMul, Nat.reduceSub, Int.reduceEq, Int.reduceLT, Int.reduceLE, Int.reduceAdd, Int.reduceNeg, Int.reduceNe, Int.reduceToNat, Nat.testBit, Nat.reduceShiftRight, Nat.reduceAnd, Nat.reduceBneDiff, Nat.reduceBEq, gR_some, g3]
    refine hLL _ _ ?_
    refine wpC_ret (out_ret ?_)
    simp only [ptrTo, pend, pend0, Pd.old, pendU, pendU0, oxA0, oxA1, oxA2, oxA3, oxA4, oxA5, oxA6, oxA7, oxA8, oxA9, oxA10, oxL0, oxL1, oxTy0, oxTy1, ↓reduceIte, Nat.reduceAdd, Nat.reduceLeDiff, Nat.reduceLT, Nat.reduceEqDiff, Nat.reduceMul, Nat.reduceSub, Int.reduceEq, Int.reduceLT, Int.reduceLE, Int.reduceAdd, Int.reduceNeg, Int.reduceNe, Int.reduceToNat, Nat.testBit, Nat.reduceShiftRight, Nat.reduceAnd, Nat.reduceBneDiff, Nat.reduceBEq, gR_some]
    exact hk _ (s6.sel 4 [3])
end Go.Proofs
