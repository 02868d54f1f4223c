/-
  The document's source: New. CONDITIONS: none.
-/
import Derived.Test.YtcgpbamkkhjoiaaOxO8
set_option linter.unusedSimpArgs false
set_option linter.unusedVariables false
namespace Go.Proofs
open Go Go.Ox
set_option maxRecDepth 100000
set_option maxHeartbeats 2000000
/-- What is left of each. -/
def lefts (A : List (List Rc)) (V : List Int) : List (List Rc) := (List.range A.length).map fun i => (A.getD i []).drop (V.getD i 0).toNat
theorem lefts_len (A : List (List Rc)) (V : List Int) : (lefts A V).length = A.length := by simp [lefts]
theorem lefts_at (A : List (List Rc)) (V : List Int) (i : Nat) (hi : i < A.length) (hj : i < (lefts A V).length) : (lefts A V)[i] = A[i].drop (V.getD i 0).toNat := by
  simp [lefts, List.getD_eq_getElem?_getD, List.getElem?_eq_getElem hi]
theorem lefts_take (A : List (List Rc)) (V : List Int) (i : Nat) (hi : i < A.length) : (lefts A V).take (i + 1) = (lefts A V).take i ++ [A[i].drop (V.getD i 0).toNat] := by
  have hj : i < (lefts A V).length := by rw [lefts_len]; exact hi
  rw [List.take_succ_eq_append_getElem hj, lefts_at A V i hi hj]
theorem clampV_bd (n : Nat) (o : Option Int) : 0 ≤ clampV n o ∧ clampV n o ≤ n := by
  unfold clampV
  split <;> omega

theorem RNew_any {h0 : AHeap} {F : List Asn} (a b : Option Addr) (c d : Nat) (A : List (List Rc)) (O : List Int) (h : AHeap) (K : Value → AHeap → Prop) (s : St h0 h F) (rA : RdN h0 F Rc.cells 2 a A) (rO : Rd h0 F icell 1 b O) (hl : A.length < 1000000) (hb : ∀ L ∈ A, L.length < 1000000)
    (hO : O.length < 9223372036854775808) (hk : ∀ p h', St h0 h' (srcT 54 p (lefts A (offs A O)) (offs A O) :: F) → K (.pointer (some ⟨p, 0, none⟩)) h') : wpF Try.prog (.fn 13) [.slice a A.length c, .slice b O.length d] h K := by
  obtain ⟨S, hS, rS, rI⟩ := rA
  have hSl := lens hS
  obtain ⟨V, hV⟩ : ∃ V, V = offs A O := ⟨_, rfl⟩
  have hVl : V.length = A.length := by rw [hV, offs_len]
  rw [← hV] at hk
  refine wpF_fun 86 [.tmp 4] Try.func13 rfl rfl rfl rfl ?_
  refine sr (fun LL hLL => ?_)
  simp only [ptrTo, pend, pend0, Pd.old, pendU, pendU0, oxA0, oxA1, oxA2, oxA3, oxA4, oxA5, oxA6, oxA7, oxA8, oxA9, oxA10, oxL0, oxL1, oxTy0, oxTy1, ↓reduceIte, Nat.reduceAdd, Nat.reduceLeDiff, Nat.reduceLT, Nat.reduceEqDiff, Nat.reduceMul, Nat.reduceSub, Int.reduceEq, Int.reduceLT, Int.reduceLE, Int.reduceAdd, Int.reduceNeg, Int.reduceNe, Int.reduceToNat, Nat.testBit, Nat.reduceShiftRight, Nat.reduceAnd, Nat.reduceBneDiff, Nat.reduceBEq, gR_some]
  refine hLL _ _ ?_
  refine sr (fun LL hLL => ?_)
  simp only [ptrTo, pend, pend0, Pd.old, pendU, pendU0, oxA0, oxA1, oxA2, oxA3, oxA4, oxA5, oxA6, oxA7, oxA8, oxA9, oxA10, oxL0, oxL1, oxTy0, oxTy1, ↓reduceIte, Nat.reduceAdd, Nat.reduceLeDiff, Nat.reduceLT, Nat.reduceEqDiff, Nat.reduceMul, Nat.reduceSub, Int.reduceEq, Int.reduceLT, Int.reduceLE, Int.reduceAdd, Int.reduceNeg, Int.reduceNe, Int.reduceToNat, Nat.testBit, Nat.reduceShiftRight, Nat.reduceAnd, Nat.reduceBneDiff, Nat.reduceBEq, gR_some]
  refine hLL _ _ ?_
  obtain ⟨p, hp⟩ : ∃ p, p = h.next := ⟨_, rfl⟩
  obtain ⟨h1, e1⟩ : ∃ h1, h1 = h.push (.cells false 0 [.slice none 0 0, .slice none 0 0] 54) := ⟨_, rfl⟩
  have s1 := s.push (.cells false 0 [.slice none 0 0, .slice none 0 0] 54)
  rw [← e1, ← hp] at s1 ⊢
  refine wpC_seq ?_
  refine sr (fun LL hLL => ?_)
  simp only [ptrTo, pend, pend0, Pd.old, pendU, pendU0, oxA0, oxA1, oxA2, oxA3, oxA4, oxA5, oxA6, oxA7, oxA8, oxA9, oxA10, oxL0, oxL1, oxTy0, oxTy1, ↓reduceIte, Nat.reduceAdd, Nat.reduceLeDiff, Nat.reduceLT, Nat.reduceEqDiff, Nat.reduceMul, Nat.reduceSub, Int.reduceEq, Int.reduceLT, Int.reduceLE, Int.reduceAdd, Int.reduceNeg, Int.reduceNe, Int.reduceToNat, Nat.testBit, Nat.reduceShiftRight, Nat.reduceAnd, Nat.reduceBneDiff, Nat.reduceBEq, gR_some]
  refine hLL _ _ ?_
  refine fg10 (fun R => ?_)
  refine wpC_block ?_
  refine wpC_loop (fun k T h' => ∃ (i : Nat) (aP aO : Option Addr) (cP cO : Nat) (t2 t3 t4 t7 t8 t9 : Value) (R : List Value), k + i = A.length ∧
    St h0 h' (own p (.cells false 0 [.slice aP i cP, .slice aO i cO] 54) :: nest Rc.cells 2 37 46 aP cP ((lefts A V).take i) :: wn icell 1 3 aO cO (V.take i) :: F) ∧
    T = .slice a A.length c :: .slice b O.length d :: t2 :: t3 :: t4 :: .pointer (some ⟨p, 0, none⟩) :: .int .i64 i :: t7 :: t8 :: t9 :: R) ?_ A.length _ _ ⟨0, none, none, 0, 0, _, _, _, _, _, _, _, by omega, ?_, rfl⟩
  rotate_left
  · exact (s1.nest_nil.wn_nil (f := icell)).sel 3 [2, 1, 0]
  rintro k T h' ⟨i, aP, aO, cP, cO, t2, t3, t4, t7, t8, t9, R, hi, s2, rfl⟩
  refine wpC_seq (sr fun LL hLL => ?_)
  simp only [ptrTo, pend, pend0, Pd.old, pendU, pendU0, oxA0, oxA1, oxA2, oxA3, oxA4, oxA5, oxA6, oxA7, oxA8, oxA9, oxA10, oxL0, oxL1, oxTy0, oxTy1, ↓reduceIte, Nat.reduceAdd, Nat.reduceLeDiff, Nat.reduceLT, Nat.reduceEqDiff, Nat.reduceMul, Nat.reduceSub, Int.reduceEq, Int.reduceLT, Int.reduceLE, Int.reduceAdd, Int.reduceNeg, Int.reduceNe, Int.reduceToNat, Nat.testBit, Nat.reduceShiftRight, Nat.reduceAnd, Nat.reduceBneDiff, Nat.reduceBEq, gR_some]
  refine hLL _ _ ?_
  refine wpC_if ?_
  simp only [ptrTo, pend, pend0, Pd.old, pendU, pendU0, oxA0, oxA1, oxA2, oxA3, oxA4, oxA5, oxA6, oxA7, oxA8, oxA9, oxA10, oxL0, oxL1, oxTy0, oxTy1, ↓reduceIte, Nat.reduceAdd, Nat.reduceLeDiff, Nat.reduceLT, Nat.reduceEqDiff, Nat.reduceMul, Nat.reduceSub, Int.reduceEq, Int.reduceLT, Int.reduceLE, Int.reduceAdd, Int.reduceNeg, Int.reduceNe, Int.reduceToNat, Nat.testBit, Nat.reduceShiftRight, Nat.reduceAnd, Nat.reduceBneDiff, Nat.reduceBEq, gR_some]
  refine gC_of (fun hc => ?_) (fun hc => ?_)
  · refine wpC_skip ?_
    simp only [ptrTo, pend, pend0, Pd.old, pendU, pendU0, oxA0, oxA1, oxA2, oxA3, oxA4, oxA5, oxA6, oxA7, oxA8, oxA9, oxA10, oxL0, oxL1, oxTy0, oxTy1, ↓reduceIte, Nat.reduceAdd, Nat.reduceLeDiff, Nat.reduceLT, Nat.reduceEqDiff, Nat.reduceMul, Nat.reduceSub, Int.reduceEq, Int.reduceLT, Int.reduceLE, Int.reduceAdd, Int.reduceNeg, Int.reduceNe, Int.reduceToNat, Nat.testBit, Nat.reduceShiftRight, Nat.reduceAnd, Nat.reduceBneDiff, Nat.reduceBEq, gR_some]
    refine fg10 (fun R => ?_)
    have hi' : i < A.length := by omega
    have hiS : i < S.length := by omega
    have hiV : i < V.length := by omega
    obtain ⟨b1, o1, ro1, sz1, C1, e1, rfl, p1, g1, r1, q1⟩ := (rS _ s2.drop.drop.drop).resolve_left (by rintro rfl; simp at hiS)
    have w1 : C1[o1 + i * 1]? = some (.slice S[i].a S[i].len S[i].cap) := Rs.cell Sv.len1 r1 q1 i hiS 0 (by omega)
    rw [lens_at hS i hiS hi'] at w1
    have hbi := hb _ (List.getElem_mem hi')
    obtain ⟨v, hv⟩ : ∃ v : Nat, V[i] = (v : Int) := ⟨V[i].toNat, by have := clampV_bd A[i].length O[i]?; simp only [hV, offs_at A O i hi' (by rw [← hV]; exact hiV)]; omega⟩
    have hvc : clampV A[i].length O[i]? = (v : Int) := by rw [← hv]; simp only [hV]; rw [offs_at A O i hi' (by rw [← hV]; exact hiV)]
    have hvl : v ≤ A[i].length := by have := clampV_bd A[i].length O[i]?; omega
    refine wpC_seq (wpC_block ?_)
    refine sr (fun LL hLL => ?_)
    simp only [ptrTo, pend, pend0, Pd.old, pendU, pendU0, oxA0, oxA1, oxA2, oxA3, oxA4, oxA5, oxA6, oxA7, oxA8, oxA9, oxA10, oxL0, oxL1, oxTy0, oxTy1, ↓reduceIte, Nat.reduceAdd, Nat.reduceLeDiff, Nat.reduceLT, Nat.reduceEqDiff, Nat.reduceMul, Nat.reduceSub, Int.reduceEq, Int.reduceLT, Int.reduceLE, Int.reduceAdd, Int.reduceNeg, Int.reduceNe, Int.reduceToNat, Nat.testBit, Nat.reduceShiftRight, Nat.reduceAnd, Nat.reduceBneDiff, Nat.reduceBEq, gR_some]
    refine hLL _ _ ?_
    refine fg10 (fun R => ?_)
    refine sm (fun T1 h1 => ∃ (t2 t3 t4 t8 t9 : Value) (R : List Value) (x : Int), h1 = h' ∧ (if (A[i].length : Int) < x then (A[i].length : Int) else x) = v ∧ T1 = .slice (some ⟨b1, o1, none⟩) A.length c :: .slice b O.length d :: t2 :: t3 :: t4 :: .pointer (some ⟨p, 0, none⟩) :: .int .i64 i :: .int .i64 x :: t8 :: t9 :: R) ?_ ?_
    · by_cases hio : i < O.length
      · obtain ⟨b2, o2, ro2, sz2, C2, e2, rfl, p2, g2, r2, q2⟩ := (rO _ s2.drop.drop.drop).resolve_left (by rintro rfl; simp at hio)
        have w2 : C2[o2 + i * 1]? = some (.int .i64 O[i]) := Rs.cell icell.len r2 q2 i hio 0 (by omega)
        rw [List.getElem?_eq_getElem hio] at hvc
        simp only [clampV] at hvc
        by_cases h0 : 0 < O[i]
        · refine sr (fun LL hLL => ?_)
          simp only [ptrTo, pend, pend0, Pd.old, pendU, pendU0, oxA0, oxA1, oxA2, oxA3, oxA4, oxA5, oxA6, oxA7, oxA8, oxA9, oxA10, oxL0, oxL1, oxTy0, oxTy1, ↓reduceIte, Nat.reduceAdd, Nat.reduceLeDiff, Nat.reduceLT, Nat.reduceEqDiff, Nat.reduceMul, Nat.reduceSub, Int.reduceEq, Int.reduceLT, Int.reduceLE, Int.reduceAdd, Int.reduceNeg, Int.reduceNe, Int.reduceToNat, Nat.testBit, Nat.reduceShiftRight, Nat.reduceAnd, Nat.reduceBneDiff, Nat.reduceBEq, gR_some, eq_true (show (i : Int) < (O.length : Int) by omega), ixF hio, g2, w2, gt_iff_lt, eq_true h0]
          refine hLL _ _ ?_
          refine wpC_if ?_
          simp only [ptrTo, pend, pend0, Pd.old, pendU, pendU0, oxA0, oxA1, oxA2, oxA3, oxA4, oxA5, oxA6, oxA7, oxA8, oxA9, oxA10, oxL0, oxL1, oxTy0, oxTy1, ↓reduceIte, Nat.reduceAdd, Nat.reduceLeDiff, Nat.reduceLT, Nat.reduceEqDiff, Nat.reduceMul, Nat.reduceSub, Int.reduceEq, Int.reduceLT, Int.reduceLE, Int.reduceAdd, Int.reduceNeg, Int.reduceNe, Int.reduceToNat, Nat.testBit, Nat.reduceShiftRight, Nat.reduceAnd, Nat.reduceBneDiff, Nat.reduceBEq, gR_some]
          refine rg (fun LL hLL => ?_)
          simp only [ptrTo, pend, pend0, Pd.old, pendU, pendU0, oxA0, oxA1, oxA2, oxA3, oxA4, oxA5, oxA6, oxA7, oxA8, oxA9, oxA10, oxL0, oxL1, oxTy0, oxTy1, ↓reduceIte, Nat.reduceAdd, Nat.reduceLeDiff, Nat.reduceLT, Nat.reduceEqDiff, Nat.reduceMul, Nat.reduceSub, Int.reduceEq, Int.reduceLT, Int.reduceLE, Int.reduceAdd, Int.reduceNeg, Int.reduceNe, Int.reduceToNat, Nat.testBit, Nat.reduceShiftRight, Nat.reduceAnd, Nat.reduceBneDiff, Nat.reduceBEq, gR_some, ixF hio, g2, w2]
          refine hLL _ _ ?_
          simp only [ptrTo, pend, pend0, Pd.old, pendU, pendU0, oxA0, oxA1, oxA2, oxA3, oxA4, oxA5, oxA6, oxA7, oxA8, oxA9, oxA10, oxL0, oxL1, oxTy0, oxTy1, ↓reduceIte, Nat.reduceAdd, Nat.reduceLeDiff, Nat.reduceLT, Nat.reduceEqDiff, Nat.reduceMul, Nat.reduceSub, Int.reduceEq, Int.reduceLT, Int.reduceLE, Int.reduceAdd, Int.reduceNeg, Int.reduceNe, Int.reduceToNat, Nat.testBit, Nat.reduceShiftRight, Nat.reduceAnd, Nat.reduceBneDiff, Nat.reduceBEq, gR_some]
          exact ⟨_, _, _, _, _, _, O[i], by split <;> omega, rfl⟩
        · refine sr (fun LL hLL => ?_)
          simp only [ptrTo, pend, pend0, Pd.old, pendU, pendU0, oxA0, oxA1, oxA2, oxA3, oxA4, oxA5, oxA6, oxA7, oxA8, oxA9, oxA10, oxL0, oxL1, oxTy0, oxTy1, ↓reduceIte, Nat.reduceAdd, Nat.reduceLeDiff, Nat.reduceLT, Nat.reduceEqDiff, Nat.reduceMul, Nat.reduceSub, Int.reduceEq, Int.reduceLT, Int.reduceLE, Int.reduceAdd, Int.reduceNeg, Int.reduceNe, Int.reduceToNat, Nat.testBit, Nat.reduceShiftRight, Nat.reduceAnd, Nat.reduceBneDiff, Nat.reduceBEq, gR_some, eq_true (show (i : Int) < (O.length : Int) by omega), ixF hio, g2, w2, gt_iff_lt, eq_false h0]
          refine hLL _ _ ?_
          refine wpC_if ?_
          simp only [ptrTo, pend, pend0, Pd.old, pendU, pendU0, oxA0, oxA1, oxA2, oxA3, oxA4, oxA5, oxA6, oxA7, oxA8, oxA9, oxA10, oxL0, oxL1, oxTy0, oxTy1, ↓reduceIte, Nat.reduceAdd, Nat.reduceLeDiff, Nat.reduceLT, Nat.reduceEqDiff, Nat.reduceMul, Nat.reduceSub, Int.reduceEq, Int.reduceLT, Int.reduceLE, Int.reduceAdd, Int.reduceNeg, Int.reduceNe, Int.reduceToNat, Nat.testBit, Nat.reduceShiftRight, Nat.reduceAnd, Nat.reduceBneDiff, Nat.reduceBEq, gR_some]
          refine wpC_skip ?_
          simp only [ptrTo, pend, pend0, Pd.old, pendU, pendU0, oxA0, oxA1, oxA2, oxA3, oxA4, oxA5, oxA6, oxA7, oxA8, oxA9, oxA10, oxL0, oxL1, oxTy0, oxTy1, ↓reduceIte, Nat.reduceAdd, Nat.reduceLeDiff, Nat.reduceLT, Nat.reduceEqDiff, Nat.reduceMul, Nat.reduceSub, Int.reduceEq, Int.reduceLT, Int.reduceLE, Int.reduceAdd, Int.reduceNeg, Int.reduceNe, Int.reduceToNat, Nat.testBit, Nat.reduceShiftRight, Nat.reduceAnd, Nat.reduceBneDiff, Nat.reduceBEq, gR_some]
          exact ⟨_, _, _, _, _, _, 0, by split <;> omega, rfl⟩
      · rw [List.getElem?_eq_none (by omega)] at hvc
        simp only [clampV] at hvc
        refine sr (fun LL hLL => ?_)
        simp only [ptrTo, pend, pend0, Pd.old, pendU, pendU0, oxA0, oxA1, oxA2, oxA3, oxA4, oxA5, oxA6, oxA7, oxA8, oxA9, oxA10, oxL0, oxL1, oxTy0, oxTy1, ↓reduceIte, Nat.reduceAdd, Nat.reduceLeDiff, Nat.reduceLT, Nat.reduceEqDiff, Nat.reduceMul, Nat.reduceSub, Int.reduceEq, Int.reduceLT, Int.reduceLE, Int.reduceAdd, Int.reduceNeg, Int.reduceNe, Int.reduceToNat, Nat.testBit, Nat.reduceShiftRight, Nat.reduceAnd, Nat.reduceBneDiff, Nat.reduceBEq, gR_some, eq_false (show ¬ (i : Int) < (O.length : Int) by omega)]
        refine hLL _ _ ?_
        refine wpC_if ?_
        simp only [ptrTo, pend, pend0, Pd.old, pendU, pendU0, oxA0, oxA1, oxA2, oxA3, oxA4, oxA5, oxA6, oxA7, oxA8, oxA9, oxA10, oxL0, oxL1, oxTy0, oxTy1, ↓reduceIte, Nat.reduceAdd, Nat.reduceLeDiff, Nat.reduceLT, Nat.reduceEqDiff, Nat.reduceMul, Nat.reduceSub, Int.reduceEq, Int.reduceLT, Int.reduceLE, Int.reduceAdd, Int.reduceNeg, Int.reduceNe, Int.reduceToNat, Nat.testBit, Nat.reduceShiftRight, Nat.reduceAnd, Nat.reduceBneDiff, Nat.reduceBEq, gR_some]
        refine wpC_skip ?_
        simp only [ptrTo, pend, pend0, Pd.old, pendU, pendU0, oxA0, oxA1, oxA2, oxA3, oxA4, oxA5, oxA6, oxA7, oxA8, oxA9, oxA10, oxL0, oxL1, oxTy0, oxTy1, ↓reduceIte, Nat.reduceAdd, Nat.reduceLeDiff, Nat.reduceLT, Nat.reduceEqDiff, Nat.reduceMul, Nat.reduceSub, Int.reduceEq, Int.reduceLT, Int.reduceLE, Int.reduceAdd, Int.reduceNeg, Int.reduceNe, Int.reduceToNat, Nat.testBit, Nat.reduceShiftRight, Nat.reduceAnd, Nat.reduceBneDiff, Nat.reduceBEq, gR_some]
        exact ⟨_, _, _, _, _, _, 0, by split <;> omega, rfl⟩
    rintro T3 h3 ⟨t2, t3, t4, t8, t9, R, x, rfl, hx, rfl⟩
    refine sm (fun T1 h1 => ∃ (t2 t3 t4 t8 t9 : Value) (R : List Value), h1 = h3 ∧ T1 = .slice (some ⟨b1, o1, none⟩) A.length c :: .slice b O.length d :: t2 :: t3 :: t4 :: .pointer (some ⟨p, 0, none⟩) :: .int .i64 i :: .int .i64 v :: t8 :: t9 :: R) ?_ ?_
    · by_cases hxl : (A[i].length : Int) < x
      · rw [if_pos hxl] at hx
        refine sr (fun LL hLL => ?_)
        simp only [ptrTo, pend, pend0, Pd.old, pendU, pendU0, oxA0, oxA1, oxA2, oxA3, oxA4, oxA5, oxA6, oxA7, oxA8, oxA9, oxA10, oxL0, oxL1, oxTy0, oxTy1, ↓reduceIte, Nat.reduceAdd, Nat.reduceLeDiff, Nat.reduceLT, Nat.reduceEqDiff, Nat.reduceMul, Nat.reduceSub, Int.reduceEq, Int.reduceLT, Int.reduceLE, Int.reduceAdd, Int.reduceNeg, Int.reduceNe, Int.reduceToNat, Nat.testBit, Nat.reduceShiftRight, Nat.reduceAnd, Nat.reduceBneDiff, Nat.reduceBEq, gR_some, ixF hi', g1, w1, gt_iff_lt, eq_true hxl]
        refine hLL _ _ ?_
        refine wpC_if ?_
        simp only [ptrTo, pend, pend0, Pd.old, pendU, pendU0, oxA0, oxA1, oxA2, oxA3, oxA4, oxA5, oxA6, oxA7, oxA8, oxA9, oxA10, oxL0, oxL1, oxTy0, oxTy1, ↓reduceIte, Nat.reduceAdd, Nat.reduceLeDiff, Nat.reduceLT, Nat.reduceEqDiff, Nat.reduceMul, Nat.reduceSub, Int.reduceEq, Int.reduceLT, Int.reduceLE, Int.reduceAdd, Int.reduceNeg, Int.reduceNe, Int.reduceToNat, Nat.testBit, Nat.reduceShiftRight, Nat.reduceAnd, Nat.reduceBneDiff, Nat.reduceBEq, gR_some]
        refine rg (fun LL hLL => ?_)
        simp only [ptrTo, pend, pend0, Pd.old, pendU, pendU0, oxA0, oxA1, oxA2, oxA3, oxA4, oxA5, oxA6, oxA7, oxA8, oxA9, oxA10, oxL0, oxL1, oxTy0, oxTy1, ↓reduceIte, Nat.reduceAdd, Nat.reduceLeDiff, Nat.reduceLT, Nat.reduceEqDiff, Nat.reduceMul, Nat.reduceSub, Int.reduceEq, Int.reduceLT, Int.reduceLE, Int.reduceAdd, Int.reduceNeg, Int.reduceNe, Int.reduceToNat, Nat.testBit, Nat.reduceShiftRight, Nat.reduceAnd, Nat.reduceBneDiff, Nat.reduceBEq, gR_some, ixF hi', g1, w1, hx]
        refine hLL _ _ ?_
        simp only [ptrTo, pend, pend0, Pd.old, pendU, pendU0, oxA0, oxA1, oxA2, oxA3, oxA4, oxA5, oxA6, oxA7, oxA8, oxA9, oxA10, oxL0, oxL1, oxTy0, oxTy1, ↓reduceIte, Nat.reduceAdd, Nat.reduceLeDiff, Nat.reduceLT, Nat.reduceEqDiff, Nat.reduceMul, Nat.reduceSub, Int.reduceEq, Int.reduceLT, Int.reduceLE, Int.reduceAdd, Int.reduceNeg, Int.reduceNe, Int.reduceToNat, Nat.testBit, Nat.reduceShiftRight, Nat.reduceAnd, Nat.reduceBneDiff, Nat.reduceBEq, gR_some]
        exact ⟨_, _, _, _, _, _, rfl⟩
      · rw [if_neg hxl] at hx
        subst hx
        refine sr (fun LL hLL => ?_)
        simp only [ptrTo, pend, pend0, Pd.old, pendU, pendU0, oxA0, oxA1, oxA2, oxA3, oxA4, oxA5, oxA6, oxA7, oxA8, oxA9, oxA10, oxL0, oxL1, oxTy0, oxTy1, ↓reduceIte, Nat.reduceAdd, Nat.reduceLeDiff, Nat.reduceLT, Nat.reduceEqDiff, Nat.reduceMul, Nat.reduceSub, Int.reduceEq, Int.reduceLT, Int.reduceLE, Int.reduceAdd, Int.reduceNeg, Int.reduceNe, Int.reduceToNat, Nat.testBit, Nat.reduceShiftRight, Nat.reduceAnd, Nat.reduceBneDiff, Nat.reduceBEq, gR_some, ixF hi', g1, w1, gt_iff_lt, eq_false hxl]
        refine hLL _ _ ?_
        refine wpC_if ?_
        simp only [ptrTo, pend, pend0, Pd.old, pendU, pendU0, oxA0, oxA1, oxA2, oxA3, oxA4, oxA5, oxA6, oxA7, oxA8, oxA9, oxA10, oxL0, oxL1, oxTy0, oxTy1, ↓reduceIte, Nat.reduceAdd, Nat.reduceLeDiff, Nat.reduceLT, Nat.reduceEqDiff, Nat.reduceMul, Nat.reduceSub, Int.reduceEq, Int.reduceLT, Int.reduceLE, Int.reduceAdd, Int.reduceNeg, Int.reduceNe, Int.reduceToNat, Nat.testBit, Nat.reduceShiftRight, Nat.reduceAnd, Nat.reduceBneDiff, Nat.reduceBEq, gR_some]
        refine wpC_skip ?_
        simp only [ptrTo, pend, pend0, Pd.old, pendU, pendU0, oxA0, oxA1, oxA2, oxA3, oxA4, oxA5, oxA6, oxA7, oxA8, oxA9, oxA10, oxL0, oxL1, oxTy0, oxTy1, ↓reduceIte, Nat.reduceAdd, Nat.reduceLeDiff, Nat.reduceLT, Nat.reduceEqDiff, Nat.reduceMul, Nat.reduceSub, Int.reduceEq, Int.reduceLT, Int.reduceLE, Int.reduceAdd, Int.reduceNeg, Int.reduceNe, Int.reduceToNat, Nat.testBit, Nat.reduceShiftRight, Nat.reduceAnd, Nat.reduceBneDiff, Nat.reduceBEq, gR_some]
        exact ⟨_, _, _, _, _, _, rfl⟩
    rintro T3 h3 ⟨t2, t3, t4, t8, t9, R, rfl, rfl⟩
    refine sr (fun LL hLL => ?_)
    simp only [ptrTo, pend, pend0, Pd.old, pendU, pendU0, oxA0, oxA1, oxA2, oxA3, oxA4, oxA5, oxA6, oxA7, oxA8, oxA9, oxA10, oxL0, oxL1, oxTy0, oxTy1, ↓reduceIte, Nat.reduceAdd, Nat.reduceLeDiff, Nat.reduceLT, Nat.reduceEqDiff, Nat.reduceMul, Nat.reduceSub, Int.reduceEq, Int.reduceLT, Int.reduceLE, Int.reduceAdd, Int.reduceNeg, Int.reduceNe, Int.reduceToNat, Nat.testBit, Nat.reduceShiftRight, Nat.reduceAnd, Nat.reduceBneDiff, Nat.reduceBEq, gR_some]
    refine hLL _ _ ?_
    refine fg10 (fun R => ?_)
    have hdl : (A[i].drop v).length = A[i].length - v := by simp
    refine sm (fun T1 h1 => ∃ (t2 t3 t4 t9 : Value) (aL : Option Addr) (cL : Nat) (R : List Value), St h0 h1 (wn Rc.cells 2 37 aL cL (A[i].drop v) :: own p (.cells false 0 [.slice aP i cP, .slice aO i cO] 54) :: nest Rc.cells 2 37 46 aP cP ((lefts A V).take i) :: wn icell 1 3 aO cO (V.take i) :: F) ∧
      T1 = .slice (some ⟨b1, o1, none⟩) A.length c :: .slice b O.length d :: t2 :: t3 :: t4 :: .pointer (some ⟨p, 0, none⟩) :: .int .i64 i :: .int .i64 v :: .slice aL (A[i].drop v).length cL :: t9 :: R) ?_ ?_
    · refine sr (fun LL hLL => ?_)
      simp only [ptrTo, pend, pend0, Pd.old, pendU, pendU0, oxA0, oxA1, oxA2, oxA3, oxA4, oxA5, oxA6, oxA7, oxA8, oxA9, oxA10, oxL0, oxL1, oxTy0, oxTy1, ↓reduceIte, Nat.reduceAdd, Nat.reduceLeDiff, Nat.reduceLT, Nat.reduceEqDiff, Nat.reduceMul, Nat.reduceSub, Int.reduceEq, Int.reduceLT, Int.reduceLE, Int.reduceAdd, Int.reduceNeg, Int.reduceNe, Int.reduceToNat, Nat.testBit, Nat.reduceShiftRight, Nat.reduceAnd, Nat.reduceBneDiff, Nat.reduceBEq, gR_some]
      refine hLL _ _ ?_
      refine fg10 (fun R => ?_)
      refine wpC_block ?_
      refine wpC_loop (fun k T h' => ∃ (j : Nat) (aL : Option Addr) (cL : Nat) (t2 t3 t4 : Value) (R : List Value), k + j = A[i].length - v ∧
        St h0 h' (wn Rc.cells 2 37 aL cL ((A[i].drop v).take j) :: own p (.cells false 0 [.slice aP i cP, .slice aO i cO] 54) :: nest Rc.cells 2 37 46 aP cP ((lefts A V).take i) :: wn icell 1 3 aO cO (V.take i) :: F) ∧
        T = .slice (some ⟨b1, o1, none⟩) A.length c :: .slice b O.length d :: t2 :: t3 :: t4 :: .pointer (some ⟨p, 0, none⟩) :: .int .i64 i :: .int .i64 v :: .slice aL j cL :: .int .i64 (v + j : Nat) :: R) ?_ (A[i].length - v) _ _ ⟨0, none, 0, _, _, _, _, by omega, s2.wn_nil, rfl⟩
      rintro k T h' ⟨j, aL, cL, t2, t3, t4, R, hj, s3, rfl⟩
      obtain ⟨b1', o1', ro1, sz1, C1, e1, q0, p1, g1, r1, q1⟩ := (rS _ s3.drop.drop.drop.drop).resolve_left (by rintro rfl; simp at hiS)
      simp only [Option.some.injEq, Addr.mk.injEq, and_true] at q0
      obtain ⟨rfl, rfl⟩ := q0
      have w1 : C1[o1 + i * 1]? = some (.slice S[i].a S[i].len S[i].cap) := Rs.cell Sv.len1 r1 q1 i hiS 0 (by omega)
      rw [lens_at hS i hiS hi'] at w1
      refine wpC_seq (sr fun LL hLL => ?_)
      simp only [ptrTo, pend, pend0, Pd.old, pendU, pendU0, oxA0, oxA1, oxA2, oxA3, oxA4, oxA5, oxA6, oxA7, oxA8, oxA9, oxA10, oxL0, oxL1, oxTy0, oxTy1, ↓reduceIte, Nat.reduceAdd, Nat.reduceLeDiff, Nat.reduceLT, Nat.reduceEqDiff, Nat.reduceMul, Nat.reduceSub, Int.reduceEq, Int.reduceLT, Int.reduceLE, Int.reduceAdd, Int.reduceNeg, Int.reduceNe, Int.reduceToNat, Nat.testBit, Nat.reduceShiftRight, Nat.reduceAnd, Nat.reduceBneDiff, Nat.reduceBEq, gR_some, ixF hi', g1, w1]
      refine hLL _ _ ?_
      refine wpC_if ?_
      simp only [ptrTo, pend, pend0, Pd.old, pendU, pendU0, oxA0, oxA1, oxA2, oxA3, oxA4, oxA5, oxA6, oxA7, oxA8, oxA9, oxA10, oxL0, oxL1, oxTy0, oxTy1, ↓reduceIte, Nat.reduceAdd, Nat.reduceLeDiff, Nat.reduceLT, Nat.reduceEqDiff, Nat.reduceMul, Nat.reduceSub, Int.reduceEq, Int.reduceLT, Int.reduceLE, Int.reduceAdd, Int.reduceNeg, Int.reduceNe, Int.reduceToNat, Nat.testBit, Nat.reduceShiftRight, Nat.reduceAnd, Nat.reduceBneDiff, Nat.reduceBEq, gR_some]
      refine gC_of (fun hc => ?_) (fun hc => ?_)
      · refine wpC_skip ?_
        simp only [ptrTo, pend, pend0, Pd.old, pendU, pendU0, oxA0, oxA1, oxA2, oxA3, oxA4, oxA5, oxA6, oxA7, oxA8, oxA9, oxA10, oxL0, oxL1, oxTy0, oxTy1, ↓reduceIte, Nat.reduceAdd, Nat.reduceLeDiff, Nat.reduceLT, Nat.reduceEqDiff, Nat.reduceMul, Nat.reduceSub, Int.reduceEq, Int.reduceLT, Int.reduceLE, Int.reduceAdd, Int.reduceNeg, Int.reduceNe, Int.reduceToNat, Nat.testBit, Nat.reduceShiftRight, Nat.reduceAnd, Nat.reduceBneDiff, Nat.reduceBEq, gR_some]
        refine fg10 (fun R => ?_)
        have hjA : v + j < A[i].length := by omega
        have hjD : j < (A[i].drop v).length := by omega
        obtain ⟨b3, o3, ro3, sz3, C3, e3', hSa, p3, g3, r3, q3⟩ := ((rI i hiS hi').1 _ s3.drop.drop.drop.drop).resolve_left (by intro k; rw [k] at hjA; simp at hjA)
        obtain ⟨w3, x3⟩ := Rs.row Rc.len r3 q3 (v + j) hjA
        have va : (A[i][v + j].cells.all fun y => veq 5 y y) = true := by simp [Rc.cells, veq]
        have hcl : A[i][v + j].cells = [.int .i64 A[i][v + j].key, .int .i64 A[i][v + j].val] := rfl
        have zz : aZeros [.int .i64 0, .int .i64 0] 1 = [.int .i64 0, .int .i64 0] := rfl
        have hlj : ((A[i].drop v).take j).length = j := by simp; omega
        have htj : (A[i].drop v).take (j + 1) = (A[i].drop v).take j ++ [A[i][v + j]] := by rw [List.take_succ_eq_append_getElem hjD]; simp
        obtain ⟨aE, cE, h7, y1, y2⟩ := s3.app1 (bytes := 16) A[i][v + j] Rc.len Rc.oc (by omega) (by omega)
        rw [hlj] at y1
        rw [← htj] at y2
        refine wpC_seq (wpC_block ?_)
        refine rg (fun LL hLL => ?_)
        simp only [ptrTo, pend, pend0, Pd.old, pendU, pendU0, oxA0, oxA1, oxA2, oxA3, oxA4, oxA5, oxA6, oxA7, oxA8, oxA9, oxA10, oxL0, oxL1, oxTy0, oxTy1, ↓reduceIte, Nat.reduceAdd, Nat.reduceLeDiff, Nat.reduceLT, Nat.reduceEqDiff, Nat.reduceMul, Nat.reduceSub, Int.reduceEq, Int.reduceLT, Int.reduceLE, Int.reduceAdd, Int.reduceNeg, Int.reduceNe, Int.reduceToNat, Nat.testBit, Nat.reduceShiftRight, Nat.reduceAnd, Nat.reduceBneDiff, Nat.reduceBEq, gR_some, ixF hi', ixF hjA, g1, w1, hSa, g3, w3, eq_true x3, va, hcl, zz]
        rw [hcl] at y1
        rw [y1]
        simp only [ptrTo, pend, pend0, Pd.old, pendU, pendU0, oxA0, oxA1, oxA2, oxA3, oxA4, oxA5, oxA6, oxA7, oxA8, oxA9, oxA10, oxL0, oxL1, oxTy0, oxTy1, ↓reduceIte, Nat.reduceAdd, Nat.reduceLeDiff, Nat.reduceLT, Nat.reduceEqDiff, Nat.reduceMul, Nat.reduceSub, Int.reduceEq, Int.reduceLT, Int.reduceLE, Int.reduceAdd, Int.reduceNeg, Int.reduceNe, Int.reduceToNat, Nat.testBit, Nat.reduceShiftRight, Nat.reduceAnd, Nat.reduceBneDiff, Nat.reduceBEq, gR_some]
        refine hLL _ _ ?_
        simp only [ptrTo, pend, pend0, Pd.old, pendU, pendU0, oxA0, oxA1, oxA2, oxA3, oxA4, oxA5, oxA6, oxA7, oxA8, oxA9, oxA10, oxL0, oxL1, oxTy0, oxTy1, ↓reduceIte, Nat.reduceAdd, Nat.reduceLeDiff, Nat.reduceLT, Nat.reduceEqDiff, Nat.reduceMul, Nat.reduceSub, Int.reduceEq, Int.reduceLT, Int.reduceLE, Int.reduceAdd, Int.reduceNeg, Int.reduceNe, Int.reduceToNat, Nat.testBit, Nat.reduceShiftRight, Nat.reduceAnd, Nat.reduceBneDiff, Nat.reduceBEq, gR_some]
        refine fg10 (fun R => ?_)
        refine rg (fun LL hLL => ?_)
        simp only [ptrTo, pend, pend0, Pd.old, pendU, pendU0, oxA0, oxA1, oxA2, oxA3, oxA4, oxA5, oxA6, oxA7, oxA8, oxA9, oxA10, oxL0, oxL1, oxTy0, oxTy1, ↓reduceIte, Nat.reduceAdd, Nat.reduceLeDiff, Nat.reduceLT, Nat.reduceEqDiff, Nat.reduceMul, Nat.reduceSub, Int.reduceEq, Int.reduceLT, Int.reduceLE, Int.reduceAdd, Int.reduceNeg, Int.reduceNe, Int.reduceToNat, Nat.testBit, Nat.reduceShiftRight, Nat.reduceAnd, Nat.reduceBneDiff, Nat.reduceBEq, gR_some, wsucc (show v + j < 9223372036854775807 by omega)]
        refine hLL _ _ ?_
        simp only [ptrTo, pend, pend0, Pd.old, pendU, pendU0, oxA0, oxA1, oxA2, oxA3, oxA4, oxA5, oxA6, oxA7, oxA8, oxA9, oxA10, oxL0, oxL1, oxTy0, oxTy1, ↓reduceIte, Nat.reduceAdd, Nat.reduceLeDiff, Nat.reduceLT, Nat.reduceEqDiff, Nat.reduceMul, Nat.reduceSub, Int.reduceEq, Int.reduceLT, Int.reduceLE, Int.reduceAdd, Int.reduceNeg, Int.reduceNe, Int.reduceToNat, Nat.testBit, Nat.reduceShiftRight, Nat.reduceAnd, Nat.reduceBneDiff, Nat.reduceBEq, gR_some]
        exact ⟨k - 1, by omega, j + 1, aE, cE, _, _, _, _, by omega, y2, by rw [Nat.add_assoc]⟩
      · refine wpC_exit ?_
        simp only [ptrTo, pend, pend0, Pd.old, pendU, pendU0, oxA0, oxA1, oxA2, oxA3, oxA4, oxA5, oxA6, oxA7, oxA8, oxA9, oxA10, oxL0, oxL1, oxTy0, oxTy1, ↓reduceIte, Nat.reduceAdd, Nat.reduceLeDiff, Nat.reduceLT, Nat.reduceEqDiff, Nat.reduceMul, Nat.reduceSub, Int.reduceEq, Int.reduceLT, Int.reduceLE, Int.reduceAdd, Int.reduceNeg, Int.reduceNe, Int.reduceToNat, Nat.testBit, Nat.reduceShiftRight, Nat.reduceAnd, Nat.reduceBneDiff, Nat.reduceBEq, gR_some]
        have hjl : j = A[i].length - v := by omega
        rw [hjl, ← hdl, List.take_length] at s3
        exact ⟨_, _, _, _, aL, cL, _, s3, by rw [hjl, hdl]⟩
    rintro T3 h3 ⟨t2, t3, t4, t9, aL, cL, R, s3, rfl⟩
    have hVi : V.getD i 0 = (v : Int) := by rw [List.getD_eq_getElem?_getD, List.getElem?_eq_getElem hiV]; exact hv
    have hlt := lefts_take A V i hi'
    rw [hVi, Int.toNat_natCast] at hlt
    have hVt : V.take (i + 1) = V.take i ++ [(v : Int)] := by rw [List.take_succ_eq_append_getElem hiV, hv]
    have hll : ((lefts A V).take i).length = i := by rw [List.length_take, lefts_len]; omega
    have hVtl : (V.take i).length = i := by rw [List.length_take]; omega
    have zS : aZeros [.slice none 0 0] 1 = [.slice none 0 0] := rfl
    have zI : aZeros [.int .i64 0] 1 = [.int .i64 0] := rfl
    have s4 := (s3).sel 4 [0, 2, 1, 3]
    simp only [List.filterMap_cons, List.filterMap_nil, List.getElem?_cons_succ, List.getElem?_cons_zero, List.drop_succ_cons, List.drop_zero, List.cons_append, List.nil_append] at s4
    obtain ⟨aE, cE, h4, y1, y2⟩ := s4.nest_app (by omega)
    rw [hll, ← hlt] at *
    have gp := (s3.mv 1).get
    have gp4 := (y2.mv 1).get
    refine sr (fun LL hLL => ?_)
    simp only [ptrTo, pend, pend0, Pd.old, pendU, pendU0, oxA0, oxA1, oxA2, oxA3, oxA4, oxA5, oxA6, oxA7, oxA8, oxA9, oxA10, oxL0, oxL1, oxTy0, oxTy1, ↓reduceIte, Nat.reduceAdd, Nat.reduceLeDiff, Nat.reduceLT, Nat.reduceEqDiff, Nat.reduceMul, Nat.reduceSub, Int.reduceEq, Int.reduceLT, Int.reduceLE, Int.reduceAdd, Int.reduceNeg, Int.reduceNe, Int.reduceToNat, Nat.testBit, Nat.reduceShiftRight, Nat.reduceAnd, Nat.reduceBneDiff, Nat.reduceBEq, gR_some, gp, zS]
    rw [y1]
    simp only [ptrTo, pend, pend0, Pd.old, pendU, pendU0, oxA0, oxA1, oxA2, oxA3, oxA4, oxA5, oxA6, oxA7, oxA8, oxA9, oxA10, oxL0, oxL1, oxTy0, oxTy1, ↓reduceIte, Nat.reduceAdd, Nat.reduceLeDiff, Nat.reduceLT, Nat.reduceEqDiff, Nat.reduceMul, Nat.reduceSub, Int.reduceEq, Int.reduceLT, Int.reduceLE, Int.reduceAdd, Int.reduceNeg, Int.reduceNe, Int.reduceToNat, Nat.testBit, Nat.reduceShiftRight, Nat.reduceAnd, Nat.reduceBneDiff, Nat.reduceBEq, gR_some, gp4]
    refine hLL _ _ ?_
    refine fg10 (fun R => ?_)
    have s5 := (y2.mv 1).set (.cells false 0 [.slice aE (i + 1) cE, .slice aO i cO] 54)
    obtain ⟨h5, e5⟩ : ∃ h5, h5 = h4.set p (.cells false 0 [.slice aE (i + 1) cE, .slice aO i cO] 54) := ⟨_, rfl⟩
    rw [← e5] at s5 ⊢
    obtain ⟨aG, cG, h6, z1, z2⟩ := (s5.mv 2).app1 (bytes := 8) (v : Int) icell.len icell.oc (by omega) (by omega)
    rw [hVtl, ← hVt] at *
    have gp5 := s5.get
    have gp6 := (z2.mv 1).get
    refine rg (fun LL hLL => ?_)
    simp only [ptrTo, pend, pend0, Pd.old, pendU, pendU0, oxA0, oxA1, oxA2, oxA3, oxA4, oxA5, oxA6, oxA7, oxA8, oxA9, oxA10, oxL0, oxL1, oxTy0, oxTy1, ↓reduceIte, Nat.reduceAdd, Nat.reduceLeDiff, Nat.reduceLT, Nat.reduceEqDiff, Nat.reduceMul, Nat.reduceSub, Int.reduceEq, Int.reduceLT, Int.reduceLE, Int.reduceAdd, Int.reduceNeg, Int.reduceNe, Int.reduceToNat, Nat.testBit, Nat.reduceShiftRight, Nat.reduceAnd, Nat.reduceBneDiff, Nat.reduceBEq, gR_some, gp5, zI]
    rw [show ([.int .i64 (v : Int)] : List Value) = icell (v : Int) from rfl, z1]
    simp only [ptrTo, pend, pend0, Pd.old, pendU, pendU0, oxA0, oxA1, oxA2, oxA3, oxA4, oxA5, oxA6, oxA7, oxA8, oxA9, oxA10, oxL0, oxL1, oxTy0, oxTy1, ↓reduceIte, Nat.reduceAdd, Nat.reduceLeDiff, Nat.reduceLT, Nat.reduceEqDiff, Nat.reduceMul, Nat.reduceSub, Int.reduceEq, Int.reduceLT, Int.reduceLE, Int.reduceAdd, Int.reduceNeg, Int.reduceNe, Int.reduceToNat, Nat.testBit, Nat.reduceShiftRight, Nat.reduceAnd, Nat.reduceBneDiff, Nat.reduceBEq, gR_some, gp6]
    refine hLL _ _ ?_
    simp only [ptrTo, pend, pend0, Pd.old, pendU, pendU0, oxA0, oxA1, oxA2, oxA3, oxA4, oxA5, oxA6, oxA7, oxA8, oxA9, oxA10, oxL0, oxL1, oxTy0, oxTy1, ↓reduceIte, Nat.reduceAdd, Nat.reduceLeDiff, Nat.reduceLT, Nat.reduceEqDiff, Nat.reduceMul, Nat.reduceSub, Int.reduceEq, Int.reduceLT, Int.reduceLE, Int.reduceAdd, Int.reduceNeg, Int.reduceNe, Int.reduceToNat, Nat.testBit, Nat.reduceShiftRight, Nat.reduceAnd, Nat.reduceBneDiff, Nat.reduceBEq, gR_some]
    refine fg10 (fun R => ?_)
    refine rg (fun LL hLL => ?_)
    simp only [ptrTo, pend, pend0, Pd.old, pendU, pendU0, oxA0, oxA1, oxA2, oxA3, oxA4, oxA5, oxA6, oxA7, oxA8, oxA9, oxA10, oxL0, oxL1, oxTy0, oxTy1, ↓reduceIte, Nat.reduceAdd, Nat.reduceLeDiff, Nat.reduceLT, Nat.reduceEqDiff, Nat.reduceMul, Nat.reduceSub, Int.reduceEq, Int.reduceLT, Int.reduceLE, Int.reduceAdd, Int.reduceNeg, Int.reduceNe, Int.reduceToNat, Nat.testBit, Nat.reduceShiftRight, Nat.reduceAnd, Nat.reduceBneDiff, Nat.reduceBEq, gR_some, wsucc (show i < 9223372036854775807 by omega)]
    refine hLL _ _ ?_
    simp only [ptrTo, pend, pend0, Pd.old, pendU, pendU0, oxA0, oxA1, oxA2, oxA3, oxA4, oxA5, oxA6, oxA7, oxA8, oxA9, oxA10, oxL0, oxL1, oxTy0, oxTy1, ↓reduceIte, Nat.reduceAdd, Nat.reduceLeDiff, Nat.reduceLT, Nat.reduceEqDiff, Nat.reduceMul, Nat.reduceSub, Int.reduceEq, Int.reduceLT, Int.reduceLE, Int.reduceAdd, Int.reduceNeg, Int.reduceNe, Int.reduceToNat, Nat.testBit, Nat.reduceShiftRight, Nat.reduceAnd, Nat.reduceBneDiff, Nat.reduceBEq, gR_some]
    have s7 := ((z2.mv 1).set (.cells false 0 [.slice aE (i + 1) cE, .slice aG (i + 1) cG] 54)).sel 3 [0, 2, 1]
    exact ⟨k - 1, by omega, i + 1, aE, aG, cE, cG, _, _, _, _, _, _, _, by omega, s7, rfl⟩
  · have hil : i = A.length := by omega
    subst hil
    refine wpC_exit ?_
    simp only [ptrTo, pend, pend0, Pd.old, pendU, pendU0, oxA0, oxA1, oxA2, oxA3, oxA4, oxA5, oxA6, oxA7, oxA8, oxA9, oxA10, oxL0, oxL1, oxTy0, oxTy1, ↓reduceIte, Nat.reduceAdd, Nat.reduceLeDiff, Nat.reduceLT, Nat.reduceEqDiff, Nat.reduceMul, Nat.reduceSub, Int.reduceEq, Int.reduceLT, Int.reduceLE, Int.reduceAdd, Int.reduceNeg, Int.reduceNe, Int.reduceToNat, Nat.testBit, Nat.reduceShiftRight, Nat.reduceAnd, Nat.reduceBneDiff, Nat.reduceBEq, gR_some]
    refine fg10 (fun R => ?_)
    refine sr (fun LL hLL => ?_)
    simp only [ptrTo, pend, pend0, Pd.old, pendU, pendU0, oxA0, oxA1, oxA2, oxA3, oxA4, oxA5, oxA6, oxA7, oxA8, oxA9, oxA10, oxL0, oxL1, oxTy0, oxTy1, ↓reduceIte, Nat.reduceAdd, Nat.reduceLeDiff, Nat.reduceLT, Nat.reduceEqDiff, Nat.reduceMul, Nat.reduceSub, Int.reduceEq, Int.reduceLT, Int.reduceLE, Int.reduceAdd, Int.reduceNeg, Int.reduceNe, Int.reduceToNat, Nat.testBit, Nat.reduceShiftRight, Nat.reduceAnd, Nat.reduceBneDiff, Nat.reduceBEq, gR_some]
    refine hLL _ _ ?_
    refine wpC_ret (out_ret ?_)
    simp only [ptrTo, pend, pend0, Pd.old, pendU, pendU0, oxA0, oxA1, oxA2, oxA3, oxA4, oxA5, oxA6, oxA7, oxA8, oxA9, oxA10, oxL0, oxL1, oxTy0, oxTy1, ↓reduceIte, Nat.reduceAdd, Nat.reduceLeDiff, Nat.reduceLT, Nat.reduceEqDiff, Nat.reduceMul, Nat.reduceSub, Int.reduceEq, Int.reduceLT, Int.reduceLE, Int.reduceAdd, Int.reduceNeg, Int.reduceNe, Int.reduceToNat, Nat.testBit, Nat.reduceShiftRight, Nat.reduceAnd, Nat.reduceBneDiff, Nat.reduceBEq, gR_some]
    rw [List.take_of_length_le (by rw [lefts_len]; exact Nat.le_refl _), List.take_of_length_le (by omega)] at s2
    refine hk _ _ (src_in (aP := aP) (cP := cP) (aO := aO) (cO := cO) ?_)
    rw [lefts_len, hVl]
    exact s2
end Go.Proofs
