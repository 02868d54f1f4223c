/-
  'next' of the statements. CONDITIONS: none.
-/
import Derived.Test.YtcgpbamkkhjoiaaOxO12
set_option linter.unusedSimpArgs false
set_option linter.unusedVariables false
namespace Go.Proofs
open Go Go.Ox
set_option maxRecDepth 100000
set_option maxHeartbeats 4000000
theorem nth0_onto {n : Nat} (f : Int) {q : Nat} (hq : q < n) : ∃ i, i < n ∧ nth0 n f i = q := by
  have h0 := fst0_lt (show 0 < n by omega) f
  refine ⟨(q + n - fst0 n f) % n, Nat.mod_lt _ (by omega), ?_⟩
  unfold nth0
  rw [Nat.add_mod_mod]
  rw [show fst0 n f + (q + n - fst0 n f) = q + n by omega, Nat.add_mod_right, Nat.mod_eq_of_lt hq]
theorem none_all {A : List (List Rc)} {V : List Int} {f : Int} (h : ∀ j, j < A.length → ¬ has A V (nth0 A.length f j)) : ∀ q, q < A.length → ¬ has A V q := fun q hq => by
  obtain ⟨i, hi, rfl⟩ := nth0_onto f hq
  exact h i hi
theorem leftS_zero {A : List (List Rc)} {V : List Int} (o : OkV A V) (h : ∀ q, q < A.length → ¬ has A V q) : ∀ i, i ≤ A.length → leftS A V i = 0
  | 0, _ => rfl
  | i + 1, hi => by
    rw [leftS, leftS_zero o h i (by omega)]
    have h1 := h i (by omega)
    have h2 := o.bd i
    unfold has at h1
    omega
theorem leftS_set {A : List (List Rc)} {V : List Int} (q : Nat) (hq : q < V.length) : ∀ i, leftS A (V.set q (V.getD q 0 + 1)) i = leftS A V i - if q < i then 1 else 0
  | 0 => by simp [leftS]
  | i + 1 => by
    rw [leftS, leftS, leftS_set q hq i, getD_set]
    by_cases h : i = q
    · subst h
      rw [if_pos (⟨rfl, hq⟩ : i = i ∧ i < V.length)]
      split <;> split <;> omega
    · rw [if_neg (show ¬ (i = q ∧ q < V.length) from fun k => h k.1)]
      split <;> split <;> omega
theorem eq_rec' (x y : Operand) (a b : Int) : aBin Try.prog .eql 37 x y (.agg #[.int .i64 a, .int .i64 b]) (.agg #[.int .i64 a, .int .i64 b]) = some (.bool true) := by
  have h := (aBin_nums (P := Try.prog) (t := 37) (by rfl) (by decide +kernel) (by decide +kernel) (by rfl) x y [a, b] [a, b] (by rfl) (by rfl)).2
  rw [(allEq_iff rfl).2 rfl] at h
  exact h

theorem next_any {h0 : AHeap} {F : List Asn} (ps : Nat) (A : List (List Rc)) (V : List Int) (f : Int) (a aT : Option Addr) (c cT : Nat) (h : AHeap) (K : Value → AHeap → Prop) (s : St h0 h (src ps A V :: wn icell 1 3 aT cT V :: F)) (rA : RsN Rc.cells 2 h0 a A) (hl : A.length < 1000000) (hb : ∀ L ∈ A, L.length < 1000000) (o : OkV A V)
    (hk : ∀ V' h', OkV A V' → St h0 h' (src ps A V' :: wn icell 1 3 aT cT V' :: F) → K (.bool true) h') : wpF Try.prog (.fn 26) [.pointer (some ⟨ps, 0, none⟩), .slice a A.length c, .slice aT V.length cT, .int .i64 f] h K := by
  obtain ⟨S, hS, rS, rI⟩ := rA
  have hSl := lens hS
  have hVl := o.len
  refine wpF_fun 104 [.tmp 8] Try.func26 rfl rfl rfl rfl ?_
  refine sr (fun LL hLL => ?_)
  simp only [ptrTo, pend, pend0, Pd.old, pendU, pendU0, oxA0, oxA1, oxA2, oxA3, oxA4, oxA5, oxA6, oxA7, oxA8, oxA9, oxA10, oxL0, oxL1, oxTy0, oxTy1, ↓reduceIte, Nat.reduceAdd, Nat.reduceLeDiff, Nat.reduceLT, Nat.reduceEqDiff, Nat.reduceMul, Nat.reduceSub, Int.reduceEq, Int.reduceLT, Int.reduceLE, Int.reduceAdd, Int.reduceNeg, Int.reduceNe, Int.reduceToNat, Nat.testBit, Nat.reduceShiftRight, Nat.reduceAnd, Nat.reduceBneDiff, Nat.reduceBEq, gR_some]
  refine hLL _ _ ?_
  refine sr (fun LL hLL => ?_)
  simp only [ptrTo, pend, pend0, Pd.old, pendU, pendU0, oxA0, oxA1, oxA2, oxA3, oxA4, oxA5, oxA6, oxA7, oxA8, oxA9, oxA10, oxL0, oxL1, oxTy0, oxTy1, ↓reduceIte, Nat.reduceAdd, Nat.reduceLeDiff, Nat.reduceLT, Nat.reduceEqDiff, Nat.reduceMul, Nat.reduceSub, Int.reduceEq, Int.reduceLT, Int.reduceLE, Int.reduceAdd, Int.reduceNeg, Int.reduceNe, Int.reduceToNat, Nat.testBit, Nat.reduceShiftRight, Nat.reduceAnd, Nat.reduceBneDiff, Nat.reduceBEq, gR_some]
  refine hLL _ _ ?_
  refine wpC_seq ?_
  refine sr (fun LL hLL => ?_)
  simp only [ptrTo, pend, pend0, Pd.old, pendU, pendU0, oxA0, oxA1, oxA2, oxA3, oxA4, oxA5, oxA6, oxA7, oxA8, oxA9, oxA10, oxL0, oxL1, oxTy0, oxTy1, ↓reduceIte, Nat.reduceAdd, Nat.reduceLeDiff, Nat.reduceLT, Nat.reduceEqDiff, Nat.reduceMul, Nat.reduceSub, Int.reduceEq, Int.reduceLT, Int.reduceLE, Int.reduceAdd, Int.reduceNeg, Int.reduceNe, Int.reduceToNat, Nat.testBit, Nat.reduceShiftRight, Nat.reduceAnd, Nat.reduceBneDiff, Nat.reduceBEq, gR_some]
  refine hLL _ _ ?_
  refine fg11 (fun R => ?_)
  refine wpC_block ?_
  refine wpC_loop (fun k T h1 => ∃ (i : Nat) (t4 t5 t6 t7 : Value) (R : List Value), k + i = A.length ∧ h1 = h ∧ T = .pointer (some ⟨ps, 0, none⟩) :: .slice a A.length c :: .slice aT V.length cT :: .int .i64 f :: t4 :: t5 :: t6 :: t7 :: .bool false :: .int .i64 (leftS A V i) :: .int .i64 i :: R) ?_ A.length _ _ ⟨0, _, _, _, _, _, by omega, rfl, rfl⟩
  rintro k T h1 ⟨i, t4, t5, t6, t7, R, hi, rfl, rfl⟩
  refine wpC_seq (sr fun LL hLL => ?_)
  simp only [ptrTo, pend, pend0, Pd.old, pendU, pendU0, oxA0, oxA1, oxA2, oxA3, oxA4, oxA5, oxA6, oxA7, oxA8, oxA9, oxA10, oxL0, oxL1, oxTy0, oxTy1, ↓reduceIte, Nat.reduceAdd, Nat.reduceLeDiff, Nat.reduceLT, Nat.reduceEqDiff, Nat.reduceMul, Nat.reduceSub, Int.reduceEq, Int.reduceLT, Int.reduceLE, Int.reduceAdd, Int.reduceNeg, Int.reduceNe, Int.reduceToNat, Nat.testBit, Nat.reduceShiftRight, Nat.reduceAnd, Nat.reduceBneDiff, Nat.reduceBEq, gR_some]
  refine hLL _ _ ?_
  refine wpC_if ?_
  simp only [ptrTo, pend, pend0, Pd.old, pendU, pendU0, oxA0, oxA1, oxA2, oxA3, oxA4, oxA5, oxA6, oxA7, oxA8, oxA9, oxA10, oxL0, oxL1, oxTy0, oxTy1, ↓reduceIte, Nat.reduceAdd, Nat.reduceLeDiff, Nat.reduceLT, Nat.reduceEqDiff, Nat.reduceMul, Nat.reduceSub, Int.reduceEq, Int.reduceLT, Int.reduceLE, Int.reduceAdd, Int.reduceNeg, Int.reduceNe, Int.reduceToNat, Nat.testBit, Nat.reduceShiftRight, Nat.reduceAnd, Nat.reduceBneDiff, Nat.reduceBEq, gR_some]
  refine gC_of (fun hc => ?_) (fun hc => ?_)
  · refine wpC_skip ?_
    simp only [ptrTo, pend, pend0, Pd.old, pendU, pendU0, oxA0, oxA1, oxA2, oxA3, oxA4, oxA5, oxA6, oxA7, oxA8, oxA9, oxA10, oxL0, oxL1, oxTy0, oxTy1, ↓reduceIte, Nat.reduceAdd, Nat.reduceLeDiff, Nat.reduceLT, Nat.reduceEqDiff, Nat.reduceMul, Nat.reduceSub, Int.reduceEq, Int.reduceLT, Int.reduceLE, Int.reduceAdd, Int.reduceNeg, Int.reduceNe, Int.reduceToNat, Nat.testBit, Nat.reduceShiftRight, Nat.reduceAnd, Nat.reduceBneDiff, Nat.reduceBEq, gR_some]
    refine fg11 (fun R => ?_)
    have hi' : i < A.length := by omega
    have hiS : i < S.length := by omega
    have hiV : i < V.length := by omega
    obtain ⟨b1, o1, ro1, sz1, C1, e1, rfl, p1, g1, r1, q1⟩ := (rS.fr s.base).resolve_left (by rintro rfl; simp at hiS)
    have w1 : C1[o1 + i * 1]? = some (.slice S[i].a S[i].len S[i].cap) := Rs.cell Sv.len1 r1 q1 i hiS 0 (by omega)
    rw [lens_at hS i hiS hi'] at w1
    obtain ⟨b2, o2, ro2, sz2, C2, e2, rfl, p2, g2, r2, q2⟩ := ((s.mv 1).rs icell.len).resolve_left (by rintro rfl; simp at hiV)
    have w2 : C2[o2 + i * 1]? = some (.int .i64 V[i]) := Rs.cell icell.len r2 q2 i hiV 0 (by omega)
    have v1 : ∀ (a : Option Addr) (m n : Nat), veq 6 (.slice a m n) (.slice a m n) = true := by intro a m n; simp [veq]
    have hbd := leftS_bd A V hb o.bd i
    have ho := o.bd i
    rw [getD_in A _ _ hi', getD_in V _ _ hiV] at ho
    have hbi := hb _ (List.getElem_mem hi')
    have hw1 : IntKind.i64.wrap (leftS A V i + (A[i].length : Int)) = leftS A V i + (A[i].length : Int) := wrap_i64 (by omega) (by omega)
    have hw2 : IntKind.i64.wrap (leftS A V i + (A[i].length : Int) - V[i]) = leftS A V (i + 1) := by
      rw [wrap_i64 (by omega) (by omega)]; simp only [leftS, getD_in A _ _ hi', getD_in V _ _ hiV]; omega
    refine wpC_seq (wpC_block ?_)
    refine du [some 20, some 21, some 22, some 23, some 24, some 25, some 26, some 27, some 28, some 29, some 30, some 31, some 9] 13 [0, 0, 0, 6, 14, 30, 63, 0, 0, 384, 896, 2047, 4095] (by rfl) (by rfl) (by decide +kernel) (by decide +kernel) (by decide +kernel) (fun LL hLL => ?_)
    simp only [ptrTo, pend, pend0, Pd.old, pendU, pendU0, oxA0, oxA1, oxA2, oxA3, oxA4, oxA5, oxA6, oxA7, oxA8, oxA9, oxA10, oxL0, oxL1, oxTy0, oxTy1, ↓reduceIte, Nat.reduceAdd, Nat.reduceLeDiff, Nat.reduceLT, Nat.reduceEqDiff, Nat.reduceMul, Nat.reduceSub, Int.reduceEq, Int.reduceLT, Int.reduceLE, Int.reduceAdd, Int.reduceNeg, Int.reduceNe, Int.reduceToNat, Nat.testBit, Nat.reduceShiftRight, Nat.reduceAnd, Nat.reduceBneDiff, Nat.reduceBEq, gR_some, ixF hi', ixF hiV, g1, g2, w1, w2, v1, hw1, hw2]
    refine hLL _ _ ?_
    simp only [ptrTo, pend, pend0, Pd.old, pendU, pendU0, oxA0, oxA1, oxA2, oxA3, oxA4, oxA5, oxA6, oxA7, oxA8, oxA9, oxA10, oxL0, oxL1, oxTy0, oxTy1, ↓reduceIte, Nat.reduceAdd, Nat.reduceLeDiff, Nat.reduceLT, Nat.reduceEqDiff, Nat.reduceMul, Nat.reduceSub, Int.reduceEq, Int.reduceLT, Int.reduceLE, Int.reduceAdd, Int.reduceNeg, Int.reduceNe, Int.reduceToNat, Nat.testBit, Nat.reduceShiftRight, Nat.reduceAnd, Nat.reduceBneDiff, Nat.reduceBEq, gR_some]
    refine fg11 (fun R => ?_)
    refine rg (fun LL hLL => ?_)
    simp only [ptrTo, pend, pend0, Pd.old, pendU, pendU0, oxA0, oxA1, oxA2, oxA3, oxA4, oxA5, oxA6, oxA7, oxA8, oxA9, oxA10, oxL0, oxL1, oxTy0, oxTy1, ↓reduceIte, Nat.reduceAdd, Nat.reduceLeDiff, Nat.reduceLT, Nat.reduceEqDiff, Nat.reduceMul, Nat.reduceSub, Int.reduceEq, Int.reduceLT, Int.reduceLE, Int.reduceAdd, Int.reduceNeg, Int.reduceNe, Int.reduceToNat, Nat.testBit, Nat.reduceShiftRight, Nat.reduceAnd, Nat.reduceBneDiff, Nat.reduceBEq, gR_some, wsucc (show i < 9223372036854775807 by omega)]
    refine hLL _ _ ?_
    simp only [ptrTo, pend, pend0, Pd.old, pendU, pendU0, oxA0, oxA1, oxA2, oxA3, oxA4, oxA5, oxA6, oxA7, oxA8, oxA9, oxA10, oxL0, oxL1, oxTy0, oxTy1, ↓reduceIte, Nat.reduceAdd, Nat.reduceLeDiff, Nat.reduceLT, Nat.reduceEqDiff, Nat.reduceMul, Nat.reduceSub, Int.reduceEq, Int.reduceLT, Int.reduceLE, Int.reduceAdd, Int.reduceNeg, Int.reduceNe, Int.reduceToNat, Nat.testBit, Nat.reduceShiftRight, Nat.reduceAnd, Nat.reduceBneDiff, Nat.reduceBEq, gR_some]
    exact ⟨k - 1, by omega, i + 1, _, _, _, _, _, by omega, rfl⟩
  have hil : i = A.length := by omega
  rw [hil]
  refine wpC_exit ?_
  simp only [ptrTo, pend, pend0, Pd.old, pendU, pendU0, oxA0, oxA1, oxA2, oxA3, oxA4, oxA5, oxA6, oxA7, oxA8, oxA9, oxA10, oxL0, oxL1, oxTy0, oxTy1, ↓reduceIte, Nat.reduceAdd, Nat.reduceLeDiff, Nat.reduceLT, Nat.reduceEqDiff, Nat.reduceMul, Nat.reduceSub, Int.reduceEq, Int.reduceLT, Int.reduceLE, Int.reduceAdd, Int.reduceNeg, Int.reduceNe, Int.reduceToNat, Nat.testBit, Nat.reduceShiftRight, Nat.reduceAnd, Nat.reduceBneDiff, Nat.reduceBEq, gR_some]
  refine fg11 (fun R => ?_)
  have hbd := leftS_bd A V hb o.bd A.length
  refine sr (fun LL hLL => ?_)
  simp only [ptrTo, pend, pend0, Pd.old, pendU, pendU0, oxA0, oxA1, oxA2, oxA3, oxA4, oxA5, oxA6, oxA7, oxA8, oxA9, oxA10, oxL0, oxL1, oxTy0, oxTy1, ↓reduceIte, Nat.reduceAdd, Nat.reduceLeDiff, Nat.reduceLT, Nat.reduceEqDiff, Nat.reduceMul, Nat.reduceSub, Int.reduceEq, Int.reduceLT, Int.reduceLE, Int.reduceAdd, Int.reduceNeg, Int.reduceNe, Int.reduceToNat, Nat.testBit, Nat.reduceShiftRight, Nat.reduceAnd, Nat.reduceBneDiff, Nat.reduceBEq, gR_some]
  refine Next_one ps A V f _ _ s hl hb o.len (fun q => (o.bd q).1) fun r q bb V' h2 x1 s1 => ?_
  have hcl : r.cells = [.int .i64 r.key, .int .i64 r.val] := rfl
  simp only [ptrTo, pend, pend0, Pd.old, pendU, pendU0, oxA0, oxA1, oxA2, oxA3, oxA4, oxA5, oxA6, oxA7, oxA8, oxA9, oxA10, oxL0, oxL1, oxTy0, oxTy1, ↓reduceIte, Nat.reduceAdd, Nat.reduceLeDiff, Nat.reduceLT, Nat.reduceEqDiff, Nat.reduceMul, Nat.reduceSub, Int.reduceEq, Int.reduceLT, Int.reduceLE, Int.reduceAdd, Int.reduceNeg, Int.reduceNe, Int.reduceToNat, Nat.testBit, Nat.reduceShiftRight, Nat.reduceAnd, Nat.reduceBneDiff, Nat.reduceBEq, gR_some, xt30, xt31, xt32, hcl, AHeap.get_set, AHeap.get_push, AHeap.get_del, AHeap.next_set, AHeap.next_push, AHeap.next_del, if_true]
  obtain ⟨cA, hcA⟩ : ∃ c, c = h2.next := ⟨_, rfl⟩
  obtain ⟨h3, eh3⟩ : ∃ h3, h3 = (h2.push (.cells false 0 [.int .i64 0, .int .i64 0] 37)).set h2.next (.cells false 0 [.int .i64 r.key, .int .i64 r.val] 37) := ⟨_, rfl⟩
  have s2 := (s1.push (.cells false 0 [.int .i64 0, .int .i64 0] 37)).set (.cells false 0 [.int .i64 r.key, .int .i64 r.val] 37)
  rw [← eh3, ← hcA] at s2 ⊢
  refine hLL _ _ ?_
  refine xp11 3 (by repeat (first | exact tput_le _ _ _ _ (.inr (by omega)) | refine tput_le _ _ _ _ (.inl ?_))) (fun R => ?_)
  simp only [ptrTo, pend, pend0, Pd.old, pendU, pendU0, oxA0, oxA1, oxA2, oxA3, oxA4, oxA5, oxA6, oxA7, oxA8, oxA9, oxA10, oxL0, oxL1, oxTy0, oxTy1, ↓reduceIte, Nat.reduceAdd, Nat.reduceLeDiff, Nat.reduceLT, Nat.reduceEqDiff, Nat.reduceMul, Nat.reduceSub, Int.reduceEq, Int.reduceLT, Int.reduceLE, Int.reduceAdd, Int.reduceNeg, Int.reduceNe, Int.reduceToNat, Nat.testBit, Nat.reduceShiftRight, Nat.reduceAnd, Nat.reduceBneDiff, Nat.reduceBEq, gR_some, show List.range 3 = [0, 1, 2] from rfl]
  refine fg14 (fun R => ?_)
  have gA := s2.get
  rcases x1 with ⟨rfl, rfl, rfl, rfl, hx⟩ | ⟨rfl, i, k1, k2, k3, k4, k5, rfl⟩
  · have hz := leftS_zero o (none_all hx) A.length (Nat.le_refl _)
    rw [hz]
    refine wpC_seq (sr fun LL hLL => ?_)
    simp only [ptrTo, pend, pend0, Pd.old, pendU, pendU0, oxA0, oxA1, oxA2, oxA3, oxA4, oxA5, oxA6, oxA7, oxA8, oxA9, oxA10, oxL0, oxL1, oxTy0, oxTy1, ↓reduceIte, Nat.reduceAdd, Nat.reduceLeDiff, Nat.reduceLT, Nat.reduceEqDiff, Nat.reduceMul, Nat.reduceSub, Int.reduceEq, Int.reduceLT, Int.reduceLE, Int.reduceAdd, Int.reduceNeg, Int.reduceNe, Int.reduceToNat, Nat.testBit, Nat.reduceShiftRight, Nat.reduceAnd, Nat.reduceBneDiff, Nat.reduceBEq, gR_some]
    refine hLL _ _ ?_
    refine wpC_if ?_
    simp only [ptrTo, pend, pend0, Pd.old, pendU, pendU0, oxA0, oxA1, oxA2, oxA3, oxA4, oxA5, oxA6, oxA7, oxA8, oxA9, oxA10, oxL0, oxL1, oxTy0, oxTy1, ↓reduceIte, Nat.reduceAdd, Nat.reduceLeDiff, Nat.reduceLT, Nat.reduceEqDiff, Nat.reduceMul, Nat.reduceSub, Int.reduceEq, Int.reduceLT, Int.reduceLE, Int.reduceAdd, Int.reduceNeg, Int.reduceNe, Int.reduceToNat, Nat.testBit, Nat.reduceShiftRight, Nat.reduceAnd, Nat.reduceBneDiff, Nat.reduceBEq, gR_some]
    refine sr (fun LL hLL => ?_)
    simp only [ptrTo, pend, pend0, Pd.old, pendU, pendU0, oxA0, oxA1, oxA2, oxA3, oxA4, oxA5, oxA6, oxA7, oxA8, oxA9, oxA10, oxL0, oxL1, oxTy0, oxTy1, ↓reduceIte, Nat.reduceAdd, Nat.reduceLeDiff, Nat.reduceLT, Nat.reduceEqDiff, Nat.reduceMul, Nat.reduceSub, Int.reduceEq, Int.reduceLT, Int.reduceLE, Int.reduceAdd, Int.reduceNeg, Int.reduceNe, Int.reduceToNat, Nat.testBit, Nat.reduceShiftRight, Nat.reduceAnd, Nat.reduceBneDiff, Nat.reduceBEq, gR_held, gA, eq_rec']
    refine Left_any ps A V' _ _ (s2.mv 1) hl hb o.len o.bd fun h4 s4 => ?_
    rw [hz]
    simp only [ptrTo, pend, pend0, Pd.old, pendU, pendU0, oxA0, oxA1, oxA2, oxA3, oxA4, oxA5, oxA6, oxA7, oxA8, oxA9, oxA10, oxL0, oxL1, oxTy0, oxTy1, ↓reduceIte, Nat.reduceAdd, Nat.reduceLeDiff, Nat.reduceLT, Nat.reduceEqDiff, Nat.reduceMul, Nat.reduceSub, Int.reduceEq, Int.reduceLT, Int.reduceLE, Int.reduceAdd, Int.reduceNeg, Int.reduceNe, Int.reduceToNat, Nat.testBit, Nat.reduceShiftRight, Nat.reduceAnd, Nat.reduceBneDiff, Nat.reduceBEq, gR_held]
    refine hLL _ _ ?_
    refine wpC_ret (out_ret ?_)
    simp only [ptrTo, pend, pend0, Pd.old, pendU, pendU0, oxA0, oxA1, oxA2, oxA3, oxA4, oxA5, oxA6, oxA7, oxA8, oxA9, oxA10, oxL0, oxL1, oxTy0, oxTy1, ↓reduceIte, Nat.reduceAdd, Nat.reduceLeDiff, Nat.reduceLT, Nat.reduceEqDiff, Nat.reduceMul, Nat.reduceSub, Int.reduceEq, Int.reduceLT, Int.reduceLE, Int.reduceAdd, Int.reduceNeg, Int.reduceNe, Int.reduceToNat, Nat.testBit, Nat.reduceShiftRight, Nat.reduceAnd, Nat.reduceBneDiff, Nat.reduceBEq, gR_some]
    exact hk V' h4 o (s4.sel 3 [0, 2])
  · obtain ⟨V', hV'⟩ : ∃ V', V' = V.set q (V.getD q 0 + 1) := ⟨_, rfl⟩
    have o' : OkV A V' := by
      rw [hV']
      exact NxR.ok o (.inr ⟨rfl, i, k1, k2, k3, k4, k5, rfl⟩)
    rw [← hV'] at s2
    have hqA : q < A.length := by rw [k2]; exact nth0_lt (by omega) _ _
    have hqS : q < S.length := by omega
    have hqV : q < V.length := by omega
    have hls : leftS A V' A.length = leftS A V A.length - 1 := by rw [hV', leftS_set q hqV, if_pos hqA]
    obtain ⟨b1, o1, ro1, sz1, C1, e1, rfl, p1, g1, r1, q1⟩ := (rS.fr s2.base).resolve_left (by rintro rfl; simp at hqS)
    have w1 : C1[o1 + q * 1]? = some (.slice S[q].a S[q].len S[q].cap) := Rs.cell Sv.len1 r1 q1 q hqS 0 (by omega)
    rw [lens_at hS q hqS hqA] at w1
    obtain ⟨bV, rfl, hcV, s3⟩ := (s2.mv 2).wn_out (.inl (by rintro rfl; simp at hqV))
    have g2 := s3.get
    have w2 : (V.flatMap icell)[q * 1]? = some (.int .i64 V[q]) := (flat_get' icell.len V q hqV (by omega)).trans rfl
    have ho := o.bd q
    rw [getD_in A _ _ hqA, getD_in V _ _ hqV] at ho
    rw [getD_in A _ _ hqA, getD_in V _ _ hqV] at k5
    have hbq := hb _ (List.getElem_mem hqA)
    obtain ⟨u, hu⟩ : ∃ u : Nat, V[q] = (u : Int) := ⟨V[q].toNat, by omega⟩
    have huL : u < A[q].length := by unfold has at k4; rw [getD_in A _ _ hqA, getD_in V _ _ hqV, hu] at k4; omega
    rw [hu, Int.toNat_natCast, List.getElem?_eq_getElem huL, Option.some.injEq] at k5
    rw [hu] at w2
    obtain ⟨b3, o3, ro3, sz3, C3, e3, hSa, p3, g3, r3, q3⟩ := ((rI q hqS hqA).1.fr s2.base).resolve_left (by intro k; rw [k] at huL; simp at huL)
    obtain ⟨w3, x3⟩ := Rs.row Rc.len r3 q3 u huL
    rw [k5] at w3
    have va : (r.cells.all fun y => veq 5 y y) = true := by simp [Rc.cells, veq]
    have v1 : ∀ (a : Option Addr) (m n : Nat), veq 6 (.slice a m n) (.slice a m n) = true := by intro a m n; simp [veq]
    have n1 : ((q : Int) < 0) = False := by simp
    have n2 : (((A.length : Nat) : Int) ≤ (q : Int)) = False := by simp; omega
    have n3 : (((A[q].length : Nat) : Int) ≤ (u : Int)) = False := by simp; omega
    refine wpC_seq (sr fun LL hLL => ?_)
    simp only [ptrTo, pend, pend0, Pd.old, pendU, pendU0, oxA0, oxA1, oxA2, oxA3, oxA4, oxA5, oxA6, oxA7, oxA8, oxA9, oxA10, oxL0, oxL1, oxTy0, oxTy1, ↓reduceIte, Nat.reduceAdd, Nat.reduceLeDiff, Nat.reduceLT, Nat.reduceEqDiff, Nat.reduceMul, Nat.reduceSub, Int.reduceEq, Int.reduceLT, Int.reduceLE, Int.reduceAdd, Int.reduceNeg, Int.reduceNe, Int.reduceToNat, Nat.testBit, Nat.reduceShiftRight, Nat.reduceAnd, Nat.reduceBneDiff, Nat.reduceBEq, gR_some]
    refine hLL _ _ ?_
    refine wpC_if ?_
    simp only [ptrTo, pend, pend0, Pd.old, pendU, pendU0, oxA0, oxA1, oxA2, oxA3, oxA4, oxA5, oxA6, oxA7, oxA8, oxA9, oxA10, oxL0, oxL1, oxTy0, oxTy1, ↓reduceIte, Nat.reduceAdd, Nat.reduceLeDiff, Nat.reduceLT, Nat.reduceEqDiff, Nat.reduceMul, Nat.reduceSub, Int.reduceEq, Int.reduceLT, Int.reduceLE, Int.reduceAdd, Int.reduceNeg, Int.reduceNe, Int.reduceToNat, Nat.testBit, Nat.reduceShiftRight, Nat.reduceAnd, Nat.reduceBneDiff, Nat.reduceBEq, gR_some]
    refine wpC_skip ?_
    simp only [ptrTo, pend, pend0, Pd.old, pendU, pendU0, oxA0, oxA1, oxA2, oxA3, oxA4, oxA5, oxA6, oxA7, oxA8, oxA9, oxA10, oxL0, oxL1, oxTy0, oxTy1, ↓reduceIte, Nat.reduceAdd, Nat.reduceLeDiff, Nat.reduceLT, Nat.reduceEqDiff, Nat.reduceMul, Nat.reduceSub, Int.reduceEq, Int.reduceLT, Int.reduceLE, Int.reduceAdd, Int.reduceNeg, Int.reduceNe, Int.reduceToNat, Nat.testBit, Nat.reduceShiftRight, Nat.reduceAnd, Nat.reduceBneDiff, Nat.reduceBEq, gR_some]
    refine fg14 (fun R => ?_)
    refine wpC_seq ?_
    refine su [some 57, some 58, some 59, some 60, some 61, some 62, some 63, some 64, some 65, some 66, some 67, some 68, some 69, some 70, some 71, some 72, some 73, some 74, some 75, some 76, some 77, some 78, some 79, some 80, some 81, some 82, some 83, some 84, some 85, some 86, some 87, some 88, some 89, some 90] 34 [0, 1, 3, 7, 7, 23, 63, 127, 255, 511, 511, 2047, 4095, 511, 511, 25087, 57855, 123391, 262143, 524287, 1048575, 2097151, 2097151, 8388607, 16777215, 2097151, 2097151, 102760447, 236978175, 536870911, 1073741823, 2097151, 4294967295, 8589934591] (by rfl) (by rfl) (by decide +kernel) (by decide +kernel) (by decide +kernel) (fun LL hLL => ?_)
    simp only [ptrTo, pend, pend0, Pd.old, pendU, pendU0, oxA0, oxA1, oxA2, oxA3, oxA4, oxA5, oxA6, oxA7, oxA8, oxA9, oxA10, oxL0, oxL1, oxTy0, oxTy1, ↓reduceIte, Nat.reduceAdd, Nat.reduceLeDiff, Nat.reduceLT, Nat.reduceEqDiff, Nat.reduceMul, Nat.reduceSub, Int.reduceEq, Int.reduceLT, Int.reduceLE, Int.reduceAdd, Int.reduceNeg, Int.reduceNe, Int.reduceToNat, Nat.testBit, Nat.reduceShiftRight, Nat.reduceAnd, Nat.reduceBneDiff, Nat.reduceBEq, gR_some, gA, ixF hqA, ixF hqV, ixF huL, g1, g2, w1, w2, hSa, g3, w3, eq_true x3, va, v1, hcl, n1, n2, n3, neq_rec', not_true_eq_false]
    refine hLL _ _ ?_
    refine wpC_if ?_
    simp only [ptrTo, pend, pend0, Pd.old, pendU, pendU0, oxA0, oxA1, oxA2, oxA3, oxA4, oxA5, oxA6, oxA7, oxA8, oxA9, oxA10, oxL0, oxL1, oxTy0, oxTy1, ↓reduceIte, Nat.reduceAdd, Nat.reduceLeDiff, Nat.reduceLT, Nat.reduceEqDiff, Nat.reduceMul, Nat.reduceSub, Int.reduceEq, Int.reduceLT, Int.reduceLE, Int.reduceAdd, Int.reduceNeg, Int.reduceNe, Int.reduceToNat, Nat.testBit, Nat.reduceShiftRight, Nat.reduceAnd, Nat.reduceBneDiff, Nat.reduceBEq, gR_some]
    refine wpC_skip ?_
    simp only [ptrTo, pend, pend0, Pd.old, pendU, pendU0, oxA0, oxA1, oxA2, oxA3, oxA4, oxA5, oxA6, oxA7, oxA8, oxA9, oxA10, oxL0, oxL1, oxTy0, oxTy1, ↓reduceIte, Nat.reduceAdd, Nat.reduceLeDiff, Nat.reduceLT, Nat.reduceEqDiff, Nat.reduceMul, Nat.reduceSub, Int.reduceEq, Int.reduceLT, Int.reduceLE, Int.reduceAdd, Int.reduceNeg, Int.reduceNe, Int.reduceToNat, Nat.testBit, Nat.reduceShiftRight, Nat.reduceAnd, Nat.reduceBneDiff, Nat.reduceBEq, gR_some]
    refine fg14 (fun R => ?_)
    have hw : IntKind.i64.wrap ((u : Int) + 1) = ((u + 1 : Nat) : Int) := wsucc (by omega)
    have hst : splice (V.flatMap icell) (q * 1) [.int .i64 ((u + 1 : Nat) : Int)] = (V.set q ((u + 1 : Nat) : Int)).flatMap icell := flat_store icell.len V q _ hqV
    have hle := flat_le icell.len V q hqV
    have eV' : V.set q ((u + 1 : Nat) : Int) = V' := by rw [hV', getD_in V _ _ hqV, hu]; rfl
    have hVl' : V'.length = V.length := by rw [hV']; simp
    rw [eV'] at hst
    refine sr (fun LL hLL => ?_)
    simp only [ptrTo, pend, pend0, Pd.old, pendU, pendU0, oxA0, oxA1, oxA2, oxA3, oxA4, oxA5, oxA6, oxA7, oxA8, oxA9, oxA10, oxL0, oxL1, oxTy0, oxTy1, ↓reduceIte, Nat.reduceAdd, Nat.reduceLeDiff, Nat.reduceLT, Nat.reduceEqDiff, Nat.reduceMul, Nat.reduceSub, Int.reduceEq, Int.reduceLT, Int.reduceLE, Int.reduceAdd, Int.reduceNeg, Int.reduceNe, Int.reduceToNat, Nat.testBit, Nat.reduceShiftRight, Nat.reduceAnd, Nat.reduceBneDiff, Nat.reduceBEq, gR_some, ixF hqV, g2, w2, hw, hst, eq_true (show q * 1 + 1 ≤ (V.flatMap icell).length by omega)]
    refine hLL _ _ ?_
    refine fg14 (fun R => ?_)
    have s4 := s3.set (.cells false 1 (V'.flatMap icell) 3)
    obtain ⟨h5, eh5⟩ : ∃ h5, h5 = h3.set bV (.cells false 1 (V'.flatMap icell) 3) := ⟨_, rfl⟩
    rw [← eh5] at s4 ⊢
    have s5 := s4.wn_in (c := cT) (by rw [hVl']; exact hcV)
    have hbd' := leftS_bd A V' hb o'.bd A.length
    have hwl : IntKind.i64.wrap (leftS A V A.length - 1) = leftS A V' A.length := by rw [hls, wrap_i64 (by omega) (by omega)]
    refine sr (fun LL hLL => ?_)
    simp only [ptrTo, pend, pend0, Pd.old, pendU, pendU0, oxA0, oxA1, oxA2, oxA3, oxA4, oxA5, oxA6, oxA7, oxA8, oxA9, oxA10, oxL0, oxL1, oxTy0, oxTy1, ↓reduceIte, Nat.reduceAdd, Nat.reduceLeDiff, Nat.reduceLT, Nat.reduceEqDiff, Nat.reduceMul, Nat.reduceSub, Int.reduceEq, Int.reduceLT, Int.reduceLE, Int.reduceAdd, Int.reduceNeg, Int.reduceNe, Int.reduceToNat, Nat.testBit, Nat.reduceShiftRight, Nat.reduceAnd, Nat.reduceBneDiff, Nat.reduceBEq, gR_some]
    refine Left_any ps A V' _ _ (s5.mv 2) hl hb o'.len o'.bd fun h6 s6 => ?_
    simp only [ptrTo, pend, pend0, Pd.old, pendU, pendU0, oxA0, oxA1, oxA2, oxA3, oxA4, oxA5, oxA6, oxA7, oxA8, oxA9, oxA10, oxL0, oxL1, oxTy0, oxTy1, ↓reduceIte, Nat.reduceAdd, Nat.reduceLeDiff, Nat.reduceLT, Nat.reduceEqDiff, Nat.reduceMul, Nat.reduceSub, Int.reduceEq, Int.reduceLT, Int.reduceLE, Int.reduceAdd, Int.reduceNeg, Int.reduceNe, Int.reduceToNat, Nat.testBit, Nat.reduceShiftRight, Nat.reduceAnd, Nat.reduceBneDiff, Nat.reduceBEq, gR_some, hwl]
    refine hLL _ _ ?_
    refine wpC_ret (out_ret ?_)
    simp only [ptrTo, pend, pend0, Pd.old, pendU, pendU0, oxA0, oxA1, oxA2, oxA3, oxA4, oxA5, oxA6, oxA7, oxA8, oxA9, oxA10, oxL0, oxL1, oxTy0, oxTy1, ↓reduceIte, Nat.reduceAdd, Nat.reduceLeDiff, Nat.reduceLT, Nat.reduceEqDiff, Nat.reduceMul, Nat.reduceSub, Int.reduceEq, Int.reduceLT, Int.reduceLE, Int.reduceAdd, Int.reduceNeg, Int.reduceNe, Int.reduceToNat, Nat.testBit, Nat.reduceShiftRight, Nat.reduceAnd, Nat.reduceBneDiff, Nat.reduceBEq, gR_some]
    refine hk V' _ o' ?_
    exact s6.sel 3 [0, 1]
end Go.Proofs
