/-
  The next record. CONDITIONS: none.
-/
import Derived.Test.YtcgpbamkkhjoiaaOxO6
set_option linter.unusedSimpArgs false
set_option linter.unusedVariables false
namespace Go.Proofs
open Go Go.Ox
set_option maxRecDepth 100000
set_option maxHeartbeats 2000000
def has (A : List (List Rc)) (O : List Int) (q : Nat) : Prop := O.getD q 0 < ((A.getD q []).length : Int)
instance (A : List (List Rc)) (O : List Int) (q : Nat) : Decidable (has A O q) := by unfold has; infer_instance

theorem Next_any {h0 : AHeap} {F : List Asn} (p : Nat) (A : List (List Rc)) (O : List Int) (f : Int) (h : AHeap) (K : Value → AHeap → Prop) (s : St h0 h (src p A O :: F)) (hl : A.length < 1000000) (hb : ∀ L ∈ A, L.length < 1000000) (hO : O.length = A.length) (hp : ∀ q, 0 ≤ O.getD q 0)
    (hk0 : ∀ h', (∀ j, j < A.length → ¬ has A O (nth0 A.length f j)) → St h0 h' (src p A O :: F) → K (.tuple #[.agg #[.int .i64 0, .int .i64 0], .int .i64 0, .bool false]) h')
    (hk1 : ∀ i q r h', i < A.length → q = nth0 A.length f i → (∀ j, j < i → ¬ has A O (nth0 A.length f j)) → has A O q → (A.getD q [])[(O.getD q 0).toNat]? = some r → St h0 h' (src p A (O.set q (O.getD q 0 + 1)) :: F) → K (.tuple #[.agg r.cells.toArray, .int .i64 q, .bool true]) h') :
    wpF Try.prog (.fn 18) [.pointer (some ⟨p, 0, none⟩), .int .i64 f] h K := by
  refine wpF_fun 56 [.cell 4 37, .cell 5 3, .cell 6 4] Try.func18 rfl rfl rfl rfl ?_
  refine sr (fun LL hLL => ?_)
  simp only [ptrTo, pend, pend0, Pd.old, pendU, pendU0, oxA0, oxA1, oxA2, oxA3, oxA4, oxA5, oxA6, oxA7, oxA8, oxA9, oxA10, oxL0, oxL1, oxTy0, oxTy1, ↓reduceIte, Nat.reduceAdd, Nat.reduceLeDiff, Nat.reduceLT, Nat.reduceEqDiff, Nat.reduceMul, Nat.reduceSub, Int.reduceEq, Int.reduceLT, Int.reduceLE, Int.reduceAdd, Int.reduceNeg, Int.reduceNe, Int.reduceToNat, Nat.testBit, Nat.reduceShiftRight, Nat.reduceAnd, Nat.reduceBneDiff, Nat.reduceBEq, gR_some]
  refine hLL _ _ ?_
  have s1 := (((s.push (.cells false 0 [.pointer (some ⟨p, 0, none⟩)] 28)).push (.cells false 0 [.int .i64 0, .int .i64 0] 37)).push (.cells false 0 [.int .i64 0] 3)).push (.cells false 0 [.bool false] 4)
  obtain ⟨c2, e2⟩ : ∃ c, c = h.next := ⟨_, rfl⟩
  obtain ⟨h1, e1⟩ : ∃ h1, h1 = (((h.push (.cells false 0 [.pointer (some ⟨p, 0, none⟩)] 28)).push (.cells false 0 [.int .i64 0, .int .i64 0] 37)).push (.cells false 0 [.int .i64 0] 3)).push (.cells false 0 [.bool false] 4) := ⟨_, rfl⟩
  simp only [AHeap.next_push] at s1
  rw [← e1, ← e2] at s1 ⊢
  obtain ⟨c4, e4⟩ : ∃ c, c = c2 + 1 := ⟨_, rfl⟩
  obtain ⟨c5, e5⟩ : ∃ c, c = c4 + 1 := ⟨_, rfl⟩
  obtain ⟨c6, e6⟩ : ∃ c, c = c5 + 1 := ⟨_, rfl⟩
  rw [← e4, ← e5, ← e6] at s1 ⊢
  have g2 := (s1.mv 3).get
  refine wpC_seq ?_
  refine sr (fun LL hLL => ?_)
  simp only [ptrTo, pend, pend0, Pd.old, pendU, pendU0, oxA0, oxA1, oxA2, oxA3, oxA4, oxA5, oxA6, oxA7, oxA8, oxA9, oxA10, oxL0, oxL1, oxTy0, oxTy1, ↓reduceIte, Nat.reduceAdd, Nat.reduceLeDiff, Nat.reduceLT, Nat.reduceEqDiff, Nat.reduceMul, Nat.reduceSub, Int.reduceEq, Int.reduceLT, Int.reduceLE, Int.reduceAdd, Int.reduceNeg, Int.reduceNe, Int.reduceToNat, Nat.testBit, Nat.reduceShiftRight, Nat.reduceAnd, Nat.reduceBneDiff, Nat.reduceBEq, gR_some, g2]
  refine round_any _ f _ _ s1 (fun cs cf h2 s2 => ?_) rfl rfl
  refine hLL _ _ ?_
  obtain ⟨β, hβ⟩ : ∃ β, β = h2.next := ⟨_, rfl⟩
  refine wpC_block (wpC_rangeL 36 #[] #[.pointer (some ⟨cs, 0, none⟩), .pointer (some ⟨cf, 0, none⟩)] (by simp only [ptrTo, pend, pend0, Pd.old, pendU, pendU0, oxA0, oxA1, oxA2, oxA3, oxA4, oxA5, oxA6, oxA7, oxA8, oxA9, oxA10, oxL0, oxL1, oxTy0, oxTy1, ↓reduceIte, Nat.reduceAdd, Nat.reduceLeDiff, Nat.reduceLT, Nat.reduceEqDiff, Nat.reduceMul, Nat.reduceSub, Int.reduceEq, Int.reduceLT, Int.reduceLE, Int.reduceAdd, Int.reduceNeg, Int.reduceNe, Int.reduceToNat, Nat.testBit, Nat.reduceShiftRight, Nat.reduceAnd, Nat.reduceBneDiff, Nat.reduceBEq, gR_some]) (fun L LB LD hL hLB hLD => ?_))
  have s3 := s2.push L
  rw [← hβ] at s3 ⊢
  obtain ⟨h3, e3⟩ : ∃ h3, h3 = h2.push L := ⟨_, rfl⟩
  rw [← e3] at s3 ⊢
  obtain ⟨aP, cP, aO, cO, s4⟩ := src_out (s3.mv 7)
  refine rnd_any β cs cf p A.length f aP cP (.slice aO O.length cO) h3 _ (s3.mv 2).get s4.get (s3.mv 1).get hl
    (fun i h' => (∀ j, j < i → ¬ has A O (nth0 A.length f j)) ∧ St h0 h' (own β L :: own c6 (.cells false 0 [.bool false] 4) :: own c5 (.cells false 0 [.int .i64 0] 3) :: own c4 (.cells false 0 [.int .i64 0, .int .i64 0] 37) :: own c2 (.cells false 0 [.pointer (some ⟨p, 0, none⟩)] 28) :: src p A O :: F))
    (fun h' => ∃ i q r, i < A.length ∧ q = nth0 A.length f i ∧ (∀ j, j < i → ¬ has A O (nth0 A.length f j)) ∧ has A O q ∧ (A.getD q [])[(O.getD q 0).toNat]? = some r ∧
      St h0 h' (own β LD :: own c6 (.cells false 0 [.bool true] 4) :: own c5 (.cells false 0 [.int .i64 q] 3) :: own c4 (.cells false 0 r.cells 37) :: src p A (O.set q (O.getD q 0 + 1)) :: F))
    ⟨fun j hj => by omega, s3.sel 8 [0, 3, 4, 5, 6, 7]⟩ ?_ ?_ ?_
  · rintro i h' Q hi ⟨hJ, s5⟩ hq1 hq2
    refine wpF_yieldL hL hLB hLD s5.get rfl (by decide) ?_
    change wpC _ _ _ _ (tput _ 11 _) _ _
    refine rg (fun LL hLL => ?_)
    simp only [ptrTo, pend, pend0, Pd.old, pendU, pendU0, oxA0, oxA1, oxA2, oxA3, oxA4, oxA5, oxA6, oxA7, oxA8, oxA9, oxA10, oxL0, oxL1, oxTy0, oxTy1, ↓reduceIte, Nat.reduceAdd, Nat.reduceLeDiff, Nat.reduceLT, Nat.reduceEqDiff, Nat.reduceMul, Nat.reduceSub, Int.reduceEq, Int.reduceLT, Int.reduceLE, Int.reduceAdd, Int.reduceNeg, Int.reduceNe, Int.reduceToNat, Nat.testBit, Nat.reduceShiftRight, Nat.reduceAnd, Nat.reduceBneDiff, Nat.reduceBEq, gR_some]
    refine hLL _ _ ?_
    simp only [ptrTo, pend, pend0, Pd.old, pendU, pendU0, oxA0, oxA1, oxA2, oxA3, oxA4, oxA5, oxA6, oxA7, oxA8, oxA9, oxA10, oxL0, oxL1, oxTy0, oxTy1, ↓reduceIte, Nat.reduceAdd, Nat.reduceLeDiff, Nat.reduceLT, Nat.reduceEqDiff, Nat.reduceMul, Nat.reduceSub, Int.reduceEq, Int.reduceLT, Int.reduceLE, Int.reduceAdd, Int.reduceNeg, Int.reduceNe, Int.reduceToNat, Nat.testBit, Nat.reduceShiftRight, Nat.reduceAnd, Nat.reduceBneDiff, Nat.reduceBEq, gR_some]
    refine ⟨s5.get, ?_⟩
    have s6 := s5.set LB
    obtain ⟨h4, e4'⟩ : ∃ h4, h4 = h'.set β LB := ⟨_, rfl⟩
    rw [← e4'] at s6 ⊢
    have hn0 : 0 < A.length := by omega
    obtain ⟨q, hq⟩ : ∃ q, q = nth0 A.length f i := ⟨_, rfl⟩
    have hqA : q < A.length := by rw [hq]; exact nth0_lt hn0 f i
    have hqO : q < O.length := by omega
    rw [← hq]
    have g2 := (s6.mv 4).get
    obtain ⟨aP, cP, aO, cO, s7⟩ := src_out (s6.mv 5)
    have gp := s7.get
    obtain ⟨S, hS, s8⟩ := (s7.mv 1).nest_out
    have hSl := lens hS
    have hqS : q < S.length := by omega
    have eO : O.getD q 0 = O[q] := by rw [List.getD_eq_getElem?_getD, List.getElem?_eq_getElem hqO]; rfl
    have eA : A.getD q [] = A[q] := by rw [List.getD_eq_getElem?_getD, List.getElem?_eq_getElem hqA]; rfl
    obtain ⟨u, hu⟩ : ∃ u : Nat, O[q] = (u : Int) := ⟨O[q].toNat, by have := hp q; rw [eO] at this; omega⟩
    obtain ⟨bP, oP, roP, szP, CP, eP, rfl, pP, gP, rP, qP⟩ := (s8.rs Sv.len1).resolve_left (by rintro rfl; simp at hqS)
    have wP : CP[oP + q * 1]? = some (.slice S[q].a S[q].len S[q].cap) := Rs.cell Sv.len1 rP qP q hqS 0 (by omega)
    rw [lens_at hS q hqS hqA] at wP
    obtain ⟨bO, rfl, hcO, s9⟩ := (s8.mv 3).wn_out (.inl (by rintro rfl; simp at hqO))
    have gO := s9.get
    have wO : (O.flatMap icell)[q * 1]? = some (.int .i64 O[q]) := (flat_get' icell.len O q hqO (by omega)).trans rfl
    have hle := flat_le icell.len O q hqO
    have v1 : ∀ (a : Option Addr) (m n : Nat), veq 6 (.slice a m n) (.slice a m n) = true := by intro a m n; simp [veq]
    refine wpC_block ?_
    by_cases hh : has A O q
    · have hlt : (u : Int) < (A[q].length : Int) := by unfold has at hh; rw [eO, eA, hu] at hh; exact hh
      have hbq := hb _ (List.getElem_mem hqA)
      have huL : u < A[q].length := by omega
      refine su [some 12, some 13, some 14, some 15, some 16, some 17, some 18, some 19, some 20, some 21, some 22, some 23, some 24, some 25, some 26, some 27] 16 [0, 1, 3, 7, 0, 31, 63, 0, 128, 384, 896, 0, 3968, 8064, 16256, 32767] (by rfl) (by rfl) (by decide +kernel) (by decide +kernel) (by decide +kernel) (fun LL hLL => ?_)
      simp only [ptrTo, pend, pend0, Pd.old, pendU, pendU0, oxA0, oxA1, oxA2, oxA3, oxA4, oxA5, oxA6, oxA7, oxA8, oxA9, oxA10, oxL0, oxL1, oxTy0, oxTy1, ↓reduceIte, Nat.reduceAdd, Nat.reduceLeDiff, Nat.reduceLT, Nat.reduceEqDiff, Nat.reduceMul, Nat.reduceSub, Int.reduceEq, Int.reduceLT, Int.reduceLE, Int.reduceAdd, Int.reduceNeg, Int.reduceNe, Int.reduceToNat, Nat.testBit, Nat.reduceShiftRight, Nat.reduceAnd, Nat.reduceBneDiff, Nat.reduceBEq, gR_some, g2, gp, ixF hqA, ixF hqO, gP, gO, wP, wO, v1, hu, eq_true hlt]
      refine hLL _ _ ?_
      refine wpC_if ?_
      simp only [ptrTo, pend, pend0, Pd.old, pendU, pendU0, oxA0, oxA1, oxA2, oxA3, oxA4, oxA5, oxA6, oxA7, oxA8, oxA9, oxA10, oxL0, oxL1, oxTy0, oxTy1, ↓reduceIte, Nat.reduceAdd, Nat.reduceLeDiff, Nat.reduceLT, Nat.reduceEqDiff, Nat.reduceMul, Nat.reduceSub, Int.reduceEq, Int.reduceLT, Int.reduceLE, Int.reduceAdd, Int.reduceNeg, Int.reduceNe, Int.reduceToNat, Nat.testBit, Nat.reduceShiftRight, Nat.reduceAnd, Nat.reduceBneDiff, Nat.reduceBEq, gR_some]
      have hst : splice (O.flatMap icell) (q * 1) [.int .i64 ((u + 1 : Nat) : Int)] = (O.set q ((u + 1 : Nat) : Int)).flatMap icell := flat_store icell.len O q _ hqO
      refine sr (fun LL hLL => ?_)
      simp only [ptrTo, pend, pend0, Pd.old, pendU, pendU0, oxA0, oxA1, oxA2, oxA3, oxA4, oxA5, oxA6, oxA7, oxA8, oxA9, oxA10, oxL0, oxL1, oxTy0, oxTy1, ↓reduceIte, Nat.reduceAdd, Nat.reduceLeDiff, Nat.reduceLT, Nat.reduceEqDiff, Nat.reduceMul, Nat.reduceSub, Int.reduceEq, Int.reduceLT, Int.reduceLE, Int.reduceAdd, Int.reduceNeg, Int.reduceNe, Int.reduceToNat, Nat.testBit, Nat.reduceShiftRight, Nat.reduceAnd, Nat.reduceBneDiff, Nat.reduceBEq, gR_some, g2, gp, ixF hqO, gO, wO, hu, wsucc (show u < 9223372036854775807 by omega), hst, eq_true (show q * 1 + 1 ≤ (O.flatMap icell).length by omega)]
      refine hLL _ _ ?_
      obtain ⟨h5, e5'⟩ : ∃ h5, h5 = h4.set bO (.cells false 1 ((O.set q ((u + 1 : Nat) : Int)).flatMap icell) 3) := ⟨_, rfl⟩
      have s10 := s9.set (.cells false 1 ((O.set q ((u + 1 : Nat) : Int)).flatMap icell) 3)
      rw [← e5'] at s10 ⊢
      have g2 := (s10.mv 8).get
      have gp := (s10.mv 3).get
      have gO := s10.get
      have wO : ((O.set q ((u + 1 : Nat) : Int)).flatMap icell)[q * 1]? = some (.int .i64 ((u + 1 : Nat) : Int)) := by
        have hq' : q < (O.set q ((u + 1 : Nat) : Int)).length := by simpa using hqO
        have := (flat_get' icell.len (O.set q ((u + 1 : Nat) : Int)) q hq' (by omega)).trans (rfl : _ = some (Value.int .i64 (O.set q ((u + 1 : Nat) : Int))[q]))
        rw [List.getElem_set_self] at this; exact this
      obtain ⟨b2, o2, ro2, sz2, C2, e2', q0, p2, gP, rP, qP⟩ := ((s10.mv 1).rs Sv.len1).resolve_left (by rintro rfl; simp at hqS)
      simp only [Option.some.injEq, Addr.mk.injEq, and_true] at q0
      obtain ⟨rfl, rfl⟩ := q0
      have wP : C2[oP + q * 1]? = some (.slice S[q].a S[q].len S[q].cap) := Rs.cell Sv.len1 rP qP q hqS 0 (by omega)
      rw [lens_at hS q hqS hqA] at wP
      obtain ⟨b3, o3, ro3, sz3, C3, e3', hSa, p3, g3, r3, q3⟩ := ((s10.mv 2).wns_rs Rc.len q hqS hqA).1.resolve_left (by intro k; rw [k] at huL; simp at huL)
      obtain ⟨w3, x3⟩ := Rs.row Rc.len r3 q3 u huL
      have va : (A[q][u].cells.all fun y => veq 5 y y) = true := by simp [Rc.cells, veq]
      have hcl : A[q][u].cells = [.int .i64 A[q][u].key, .int .i64 A[q][u].val] := rfl
      have hwm : IntKind.i64.wrap (((u + 1 : Nat) : Int) - 1) = (u : Int) := by rw [wrap_i64 (by omega) (by omega)]; omega
      have hlO : (O.set q ((u + 1 : Nat) : Int)).length = O.length := by simp
      have n45 : c4 ≠ c5 := by omega
      have n46 : c4 ≠ c6 := by omega
      have n56 : c5 ≠ c6 := by omega
      have g4 := (s10.mv 7).get
      have g5 := (s10.mv 6).get
      have g6 := (s10.mv 5).get
      refine su [some 37, some 38, some 39, some 40, some 41, some 42, some 43, some 44, some 45, some 46, some 47, some 48, some 49, some 50, some 51, some 52, some 53, some 54, none, none, none] 21 [0, 1, 3, 7, 0, 31, 63, 0, 128, 384, 896, 0, 3968, 8064, 16256, 32767, 65535, 0, 131071, 524287, 1048575] (by rfl) (by rfl) (by decide +kernel) (by decide +kernel) (by decide +kernel) (fun LL hLL => ?_)
      simp only [ptrTo, pend, pend0, Pd.old, pendU, pendU0, oxA0, oxA1, oxA2, oxA3, oxA4, oxA5, oxA6, oxA7, oxA8, oxA9, oxA10, oxL0, oxL1, oxTy0, oxTy1, ↓reduceIte, Nat.reduceAdd, Nat.reduceLeDiff, Nat.reduceLT, Nat.reduceEqDiff, Nat.reduceMul, Nat.reduceSub, Int.reduceEq, Int.reduceLT, Int.reduceLE, Int.reduceAdd, Int.reduceNeg, Int.reduceNe, Int.reduceToNat, Nat.testBit, Nat.reduceShiftRight, Nat.reduceAnd, Nat.reduceBneDiff, Nat.reduceBEq, gR_some, g2, gp, ixF hqA, ixF hqO, ixF huL, gP, gO, wP, wO, v1, hSa, g3, w3, eq_true x3, va, hcl, hwm, g4, g5, g6, AHeap.get_set, AHeap.get_push, AHeap.get_del, AHeap.next_set, AHeap.next_push, AHeap.next_del, eq_false n45.symm, eq_false n46.symm, eq_false n56.symm]
      refine hLL _ _ ?_
      refine wpC_ret ?_
      simp only [ptrTo, pend, pend0, Pd.old, pendU, pendU0, oxA0, oxA1, oxA2, oxA3, oxA4, oxA5, oxA6, oxA7, oxA8, oxA9, oxA10, oxL0, oxL1, oxTy0, oxTy1, ↓reduceIte, Nat.reduceAdd, Nat.reduceLeDiff, Nat.reduceLT, Nat.reduceEqDiff, Nat.reduceMul, Nat.reduceSub, Int.reduceEq, Int.reduceLT, Int.reduceLE, Int.reduceAdd, Int.reduceNeg, Int.reduceNe, Int.reduceToNat, Nat.testBit, Nat.reduceShiftRight, Nat.reduceAnd, Nat.reduceBneDiff, Nat.reduceBEq, gR_some]
      have t1 := (s10.mv 7).set (.cells false 0 [.int .i64 A[q][u].key, .int .i64 A[q][u].val] 37)
      have t2 := (t1.mv 7).set (.cells false 0 [.int .i64 q] 3)
      have t3 := (t2.mv 7).set (.cells false 0 [.bool true] 4)
      have t4 := (t3.mv 7).set LD
      have a1 := (t4.mv 4).wn_in (L := O.set q ((u + 1 : Nat) : Int)) (by rw [hlO]; exact hcO)
      have a2 := (a1).sel 9 [5, 6, 7, 0, 1, 2, 3, 4]
      simp only [List.filterMap_cons, List.filterMap_nil, List.getElem?_cons_succ, List.getElem?_cons_zero, List.drop_succ_cons, List.drop_zero, List.cons_append, List.nil_append] at a2
      have a3 := (St.nest_in hS a2).mv 1
      refine ⟨(t3.mv 7).get, .inr (hq2 _ ⟨i, q, A[q][u], hi, hq, hJ, hh, ?_, ?_⟩)⟩
      · rw [eO, eA, hu]; simp [List.getElem?_eq_getElem huL]
      · rw [eO, hu]
        have a4 := src_in (O := O.set q ((u + 1 : Nat) : Int)) (by rw [hlO]; exact a3)
        exact a4.sel 5 [1, 2, 3, 4, 0]
    · have hlt : ¬ (u : Int) < (A[q].length : Int) := by unfold has at hh; rw [eO, eA, hu] at hh; exact hh
      refine su [some 12, some 13, some 14, some 15, some 16, some 17, some 18, some 19, some 20, some 21, some 22, some 23, some 24, some 25, some 26, some 27] 16 [0, 1, 3, 7, 0, 31, 63, 0, 128, 384, 896, 0, 3968, 8064, 16256, 32767] (by rfl) (by rfl) (by decide +kernel) (by decide +kernel) (by decide +kernel) (fun LL hLL => ?_)
      simp only [ptrTo, pend, pend0, Pd.old, pendU, pendU0, oxA0, oxA1, oxA2, oxA3, oxA4, oxA5, oxA6, oxA7, oxA8, oxA9, oxA10, oxL0, oxL1, oxTy0, oxTy1, ↓reduceIte, Nat.reduceAdd, Nat.reduceLeDiff, Nat.reduceLT, Nat.reduceEqDiff, Nat.reduceMul, Nat.reduceSub, Int.reduceEq, Int.reduceLT, Int.reduceLE, Int.reduceAdd, Int.reduceNeg, Int.reduceNe, Int.reduceToNat, Nat.testBit, Nat.reduceShiftRight, Nat.reduceAnd, Nat.reduceBneDiff, Nat.reduceBEq, gR_some, g2, gp, ixF hqA, ixF hqO, gP, gO, wP, wO, v1, hu, eq_false hlt]
      refine hLL _ _ ?_
      refine wpC_if ?_
      simp only [ptrTo, pend, pend0, Pd.old, pendU, pendU0, oxA0, oxA1, oxA2, oxA3, oxA4, oxA5, oxA6, oxA7, oxA8, oxA9, oxA10, oxL0, oxL1, oxTy0, oxTy1, ↓reduceIte, Nat.reduceAdd, Nat.reduceLeDiff, Nat.reduceLT, Nat.reduceEqDiff, Nat.reduceMul, Nat.reduceSub, Int.reduceEq, Int.reduceLT, Int.reduceLE, Int.reduceAdd, Int.reduceNeg, Int.reduceNe, Int.reduceToNat, Nat.testBit, Nat.reduceShiftRight, Nat.reduceAnd, Nat.reduceBneDiff, Nat.reduceBEq, gR_some]
      refine wpC_skip ?_
      simp only [ptrTo, pend, pend0, Pd.old, pendU, pendU0, oxA0, oxA1, oxA2, oxA3, oxA4, oxA5, oxA6, oxA7, oxA8, oxA9, oxA10, oxL0, oxL1, oxTy0, oxTy1, ↓reduceIte, Nat.reduceAdd, Nat.reduceLeDiff, Nat.reduceLT, Nat.reduceEqDiff, Nat.reduceMul, Nat.reduceSub, Int.reduceEq, Int.reduceLT, Int.reduceLE, Int.reduceAdd, Int.reduceNeg, Int.reduceNe, Int.reduceToNat, Nat.testBit, Nat.reduceShiftRight, Nat.reduceAnd, Nat.reduceBneDiff, Nat.reduceBEq, gR_some]
      refine ⟨(s9.mv 4).get, .inl (hq1 _ ⟨fun j hj => ?_, ?_⟩)⟩
      · by_cases hji : j = i
        · rw [hji, ← hq]; exact hh
        · exact hJ j (by omega)
      · have a1 := (((s9.mv 4).set L).mv 1).wn_in hcO
        have a2 := (a1).sel 9 [2, 3, 4, 0, 1, 5, 6, 7, 8]
        simp only [List.filterMap_cons, List.filterMap_nil, List.getElem?_cons_succ, List.getElem?_cons_zero, List.drop_succ_cons, List.drop_zero, List.cons_append, List.nil_append] at a2
        have a4 := src_in ((St.nest_in hS a2).mv 1)
        exact a4.sel 6 [1, 2, 3, 4, 5, 0]
  · rintro h' ⟨hJ, s5⟩
    refine .inl ⟨s5.get, fun Y => ?_⟩
    simp only [ptrTo, pend, pend0, Pd.old, pendU, pendU0, oxA0, oxA1, oxA2, oxA3, oxA4, oxA5, oxA6, oxA7, oxA8, oxA9, oxA10, oxL0, oxL1, oxTy0, oxTy1, ↓reduceIte, Nat.reduceAdd, Nat.reduceLeDiff, Nat.reduceLT, Nat.reduceEqDiff, Nat.reduceMul, Nat.reduceSub, Int.reduceEq, Int.reduceLT, Int.reduceLE, Int.reduceAdd, Int.reduceNeg, Int.reduceNe, Int.reduceToNat, Nat.testBit, Nat.reduceShiftRight, Nat.reduceAnd, Nat.reduceBneDiff, Nat.reduceBEq, gR_some]
    have s6 := s5.set Y
    obtain ⟨h6, e6'⟩ : ∃ h6, h6 = h'.set β Y := ⟨_, rfl⟩
    rw [← e6'] at s6 ⊢
    have n45 : c4 ≠ c5 := by omega
    have n46 : c4 ≠ c6 := by omega
    have n56 : c5 ≠ c6 := by omega
    have g4 := (s6.mv 3).get
    have g5 := (s6.mv 2).get
    have g6 := (s6.mv 1).get
    refine sr (fun LL hLL => ?_)
    simp only [ptrTo, pend, pend0, Pd.old, pendU, pendU0, oxA0, oxA1, oxA2, oxA3, oxA4, oxA5, oxA6, oxA7, oxA8, oxA9, oxA10, oxL0, oxL1, oxTy0, oxTy1, ↓reduceIte, Nat.reduceAdd, Nat.reduceLeDiff, Nat.reduceLT, Nat.reduceEqDiff, Nat.reduceMul, Nat.reduceSub, Int.reduceEq, Int.reduceLT, Int.reduceLE, Int.reduceAdd, Int.reduceNeg, Int.reduceNe, Int.reduceToNat, Nat.testBit, Nat.reduceShiftRight, Nat.reduceAnd, Nat.reduceBneDiff, Nat.reduceBEq, gR_some, g4, g5, g6, AHeap.get_set, AHeap.get_push, AHeap.get_del, AHeap.next_set, AHeap.next_push, AHeap.next_del, eq_false n45.symm, eq_false n46.symm, eq_false n56.symm]
    refine hLL _ _ ?_
    refine wpC_ret (out_ret ?_)
    simp only [ptrTo, pend, pend0, Pd.old, pendU, pendU0, oxA0, oxA1, oxA2, oxA3, oxA4, oxA5, oxA6, oxA7, oxA8, oxA9, oxA10, oxL0, oxL1, oxTy0, oxTy1, ↓reduceIte, Nat.reduceAdd, Nat.reduceLeDiff, Nat.reduceLT, Nat.reduceEqDiff, Nat.reduceMul, Nat.reduceSub, Int.reduceEq, Int.reduceLT, Int.reduceLE, Int.reduceAdd, Int.reduceNeg, Int.reduceNe, Int.reduceToNat, Nat.testBit, Nat.reduceShiftRight, Nat.reduceAnd, Nat.reduceBneDiff, Nat.reduceBEq, gR_some, AHeap.get_set, AHeap.get_push, AHeap.get_del, AHeap.next_set, AHeap.next_push, AHeap.next_del, eq_false n45, eq_false n46, eq_false n56, if_true, if_false]
    have u1 := (s6.mv 3).set (.cells false 0 [.int .i64 0, .int .i64 0] 37)
    have u2 := (u1.mv 3).set (.cells false 0 [.int .i64 0] 3)
    have u3 := (u2.mv 3).set (.cells false 0 [.bool false] 4)
    exact hk0 _ hJ (u3.sel 6 [5])
  · rintro h' ⟨i, q, r, q1, q2, q3, q4, q5, s5⟩
    refine .inr ⟨s5.get, fun Y => ?_⟩
    have s6 := s5.set Y
    obtain ⟨h6, e6'⟩ : ∃ h6, h6 = h'.set β Y := ⟨_, rfl⟩
    rw [← e6'] at s6 ⊢
    have g4 := (s6.mv 3).get
    have g5 := (s6.mv 2).get
    have g6 := (s6.mv 1).get
    have hcl : r.cells = [.int .i64 r.key, .int .i64 r.val] := rfl
    refine out_ret ?_
    simp only [ptrTo, pend, pend0, Pd.old, pendU, pendU0, oxA0, oxA1, oxA2, oxA3, oxA4, oxA5, oxA6, oxA7, oxA8, oxA9, oxA10, oxL0, oxL1, oxTy0, oxTy1, ↓reduceIte, Nat.reduceAdd, Nat.reduceLeDiff, Nat.reduceLT, Nat.reduceEqDiff, Nat.reduceMul, Nat.reduceSub, Int.reduceEq, Int.reduceLT, Int.reduceLE, Int.reduceAdd, Int.reduceNeg, Int.reduceNe, Int.reduceToNat, Nat.testBit, Nat.reduceShiftRight, Nat.reduceAnd, Nat.reduceBneDiff, Nat.reduceBEq, gR_some, g4, g5, g6, hcl]
    exact hk1 i q r _ q1 q2 q3 q4 q5 (s6.sel 5 [4])
end Go.Proofs
