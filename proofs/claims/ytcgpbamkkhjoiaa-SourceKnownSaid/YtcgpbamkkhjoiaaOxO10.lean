/-
  The document's source: Next. CONDITIONS: none.
-/
import Derived.Test.YtcgpbamkkhjoiaaOxO9
set_option linter.unusedSimpArgs false
set_option linter.unusedVariables false
namespace Go.Proofs
open Go Go.Ox
set_option maxRecDepth 100000
set_option maxHeartbeats 2000000
theorem fst0_pick {n : Nat} (hn : 0 < n) (f : Int) : (if f.tmod n < 0 then f.tmod n + n else f.tmod n) = (fst0 n f : Nat) := by
  have h := fst0_eq hn f
  have h1 := Int.tmod_lt_of_pos f (show (0 : Int) < n by omega)
  have h2 := tmod_gt (k := f) (n := n) (by omega)
  obtain ⟨t, ht⟩ : ∃ t, t = f.tmod n := ⟨_, rfl⟩
  rw [← ht] at h h1 h2 ⊢
  rw [← h]
  split
  · exact (Int.tmod_eq_of_lt (by omega) (by omega)).symm
  · rw [Int.tmod_eq_emod_of_nonneg (by omega), Int.add_emod_right, Int.emod_eq_of_lt (by omega) (by omega)]

theorem RNext_any {h0 : AHeap} {F : List Asn} (p : Nat) (B : List (List Rc)) (V : List Int) (f : Int) (h : AHeap) (K : Value → AHeap → Prop) (s : St h0 h (srcT 54 p B V :: F)) (hl : B.length < 1000000) (hb : ∀ L ∈ B, L.length < 1000000) (hV : V.length = B.length) (hp : ∀ q, 0 ≤ V.getD q 0 ∧ V.getD q 0 < 1000000)
    (hk0 : ∀ h', (∀ j, j < B.length → B.getD (nth0 B.length f j) [] = []) → St h0 h' (srcT 54 p B V :: F) → K (.tuple #[.agg #[.int .i64 0, .int .i64 0], .int .i64 0, .bool false]) h')
    (hk1 : ∀ i q r tl h', i < B.length → q = nth0 B.length f i → (∀ j, j < i → B.getD (nth0 B.length f j) [] = []) → B.getD q [] = r :: tl → St h0 h' (srcT 54 p (B.set q tl) (V.set q (V.getD q 0 + 1)) :: F) → K (.tuple #[.agg r.cells.toArray, .int .i64 q, .bool true]) h') :
    wpF Try.prog (.fn 19) [.pointer (some ⟨p, 0, none⟩), .int .i64 f] h K := by
  obtain ⟨aP, cP, aO, cO, s0⟩ := src_out s
  refine wpF_fun 103 [.cell 4 37, .tmp 5, .tmp 6] Try.func19 rfl rfl rfl rfl ?_
  refine sr (fun LL hLL => ?_)
  simp only [ptrTo, pend, pend0, Pd.old, pendU, pendU0, oxA0, oxA1, oxA2, oxA3, oxA4, oxA5, oxA6, oxA7, oxA8, oxA9, oxA10, oxL0, oxL1, oxTy0, oxTy1, ↓reduceIte, Nat.reduceAdd, Nat.reduceLeDiff, Nat.reduceLT, Nat.reduceEqDiff, Nat.reduceMul, Nat.reduceSub, Int.reduceEq, Int.reduceLT, Int.reduceLE, Int.reduceAdd, Int.reduceNeg, Int.reduceNe, Int.reduceToNat, Nat.testBit, Nat.reduceShiftRight, Nat.reduceAnd, Nat.reduceBneDiff, Nat.reduceBEq, gR_some]
  refine hLL _ _ ?_
  have s1 := s0.push (.cells false 0 [.int .i64 0, .int .i64 0] 37)
  obtain ⟨c4, e4⟩ : ∃ c, c = h.next := ⟨_, rfl⟩
  obtain ⟨h1, e1⟩ : ∃ h1, h1 = h.push (.cells false 0 [.int .i64 0, .int .i64 0] 37) := ⟨_, rfl⟩
  rw [← e1, ← e4] at s1 ⊢
  have gp := (s1.mv 1).get
  refine sr (fun LL hLL => ?_)
  simp only [ptrTo, pend, pend0, Pd.old, pendU, pendU0, oxA0, oxA1, oxA2, oxA3, oxA4, oxA5, oxA6, oxA7, oxA8, oxA9, oxA10, oxL0, oxL1, oxTy0, oxTy1, ↓reduceIte, Nat.reduceAdd, Nat.reduceLeDiff, Nat.reduceLT, Nat.reduceEqDiff, Nat.reduceMul, Nat.reduceSub, Int.reduceEq, Int.reduceLT, Int.reduceLE, Int.reduceAdd, Int.reduceNeg, Int.reduceNe, Int.reduceToNat, Nat.testBit, Nat.reduceShiftRight, Nat.reduceAnd, Nat.reduceBneDiff, Nat.reduceBEq, gR_some, gp]
  refine hLL _ _ ?_
  refine wpC_seq ?_
  refine sr (fun LL hLL => ?_)
  simp only [ptrTo, pend, pend0, Pd.old, pendU, pendU0, oxA0, oxA1, oxA2, oxA3, oxA4, oxA5, oxA6, oxA7, oxA8, oxA9, oxA10, oxL0, oxL1, oxTy0, oxTy1, ↓reduceIte, Nat.reduceAdd, Nat.reduceLeDiff, Nat.reduceLT, Nat.reduceEqDiff, Nat.reduceMul, Nat.reduceSub, Int.reduceEq, Int.reduceLT, Int.reduceLE, Int.reduceAdd, Int.reduceNeg, Int.reduceNe, Int.reduceToNat, Nat.testBit, Nat.reduceShiftRight, Nat.reduceAnd, Nat.reduceBneDiff, Nat.reduceBEq, gR_some]
  refine hLL _ _ ?_
  refine fg13 (fun R => ?_)
  obtain ⟨n, hn⟩ : ∃ n, n = B.length := ⟨_, rfl⟩
  rw [← hn] at hk0 hk1 ⊢
  refine wpC_block ?_
  refine wpC_loop (fun k T h' => ∃ (i : Nat) (t2 t3 t9 t10 t11 t12 : Value) (R : List Value), k + i = n ∧ (∀ j, j < i → B.getD (nth0 n f j) [] = []) ∧
    St h0 h' (own c4 (.cells false 0 [.int .i64 0, .int .i64 0] 37) :: own p (.cells false 0 [.slice aP B.length cP, .slice aO V.length cO] 54) :: nest Rc.cells 2 37 46 aP cP B :: wn icell 1 3 aO cO V :: F) ∧
    T = .pointer (some ⟨p, 0, none⟩) :: .int .i64 f :: t2 :: t3 :: .pointer (some ⟨c4, 0, none⟩) :: .int .i64 0 :: .bool false :: .int .i64 n :: .int .i64 i :: t9 :: t10 :: t11 :: t12 :: R) ?_ n _ _ ⟨0, _, _, _, _, _, _, _, by omega, fun j hj => by omega, s1, rfl⟩
  rintro k T h' ⟨i, t2, t3, t9, t10, t11, t12, R, hi, hJ, s2, rfl⟩
  refine wpC_seq (sr fun LL hLL => ?_)
  simp only [ptrTo, pend, pend0, Pd.old, pendU, pendU0, oxA0, oxA1, oxA2, oxA3, oxA4, oxA5, oxA6, oxA7, oxA8, oxA9, oxA10, oxL0, oxL1, oxTy0, oxTy1, ↓reduceIte, Nat.reduceAdd, Nat.reduceLeDiff, Nat.reduceLT, Nat.reduceEqDiff, Nat.reduceMul, Nat.reduceSub, Int.reduceEq, Int.reduceLT, Int.reduceLE, Int.reduceAdd, Int.reduceNeg, Int.reduceNe, Int.reduceToNat, Nat.testBit, Nat.reduceShiftRight, Nat.reduceAnd, Nat.reduceBneDiff, Nat.reduceBEq, gR_some]
  refine hLL _ _ ?_
  refine wpC_if ?_
  simp only [ptrTo, pend, pend0, Pd.old, pendU, pendU0, oxA0, oxA1, oxA2, oxA3, oxA4, oxA5, oxA6, oxA7, oxA8, oxA9, oxA10, oxL0, oxL1, oxTy0, oxTy1, ↓reduceIte, Nat.reduceAdd, Nat.reduceLeDiff, Nat.reduceLT, Nat.reduceEqDiff, Nat.reduceMul, Nat.reduceSub, Int.reduceEq, Int.reduceLT, Int.reduceLE, Int.reduceAdd, Int.reduceNeg, Int.reduceNe, Int.reduceToNat, Nat.testBit, Nat.reduceShiftRight, Nat.reduceAnd, Nat.reduceBneDiff, Nat.reduceBEq, gR_some]
  refine gC_of (fun hc => ?_) (fun hc => ?_)
  · refine wpC_skip ?_
    simp only [ptrTo, pend, pend0, Pd.old, pendU, pendU0, oxA0, oxA1, oxA2, oxA3, oxA4, oxA5, oxA6, oxA7, oxA8, oxA9, oxA10, oxL0, oxL1, oxTy0, oxTy1, ↓reduceIte, Nat.reduceAdd, Nat.reduceLeDiff, Nat.reduceLT, Nat.reduceEqDiff, Nat.reduceMul, Nat.reduceSub, Int.reduceEq, Int.reduceLT, Int.reduceLE, Int.reduceAdd, Int.reduceNeg, Int.reduceNe, Int.reduceToNat, Nat.testBit, Nat.reduceShiftRight, Nat.reduceAnd, Nat.reduceBneDiff, Nat.reduceBEq, gR_some]
    refine fg13 (fun R => ?_)
    have hi' : i < n := by omega
    have hn0 : 0 < n := by omega
    have e0 : ((n : Int) = 0) = False := by simp; omega
    have hb1 := Int.tmod_lt_of_pos f (show (0 : Int) < n by omega)
    have hb2 := tmod_gt (k := f) (n := n) (by omega)
    have hfl := fst0_lt hn0 f
    refine wpC_seq (wpC_block ?_)
    refine sr (fun LL hLL => ?_)
    simp only [ptrTo, pend, pend0, Pd.old, pendU, pendU0, oxA0, oxA1, oxA2, oxA3, oxA4, oxA5, oxA6, oxA7, oxA8, oxA9, oxA10, oxL0, oxL1, oxTy0, oxTy1, ↓reduceIte, Nat.reduceAdd, Nat.reduceLeDiff, Nat.reduceLT, Nat.reduceEqDiff, Nat.reduceMul, Nat.reduceSub, Int.reduceEq, Int.reduceLT, Int.reduceLE, Int.reduceAdd, Int.reduceNeg, Int.reduceNe, Int.reduceToNat, Nat.testBit, Nat.reduceShiftRight, Nat.reduceAnd, Nat.reduceBneDiff, Nat.reduceBEq, gR_some, e0]
    refine hLL _ _ ?_
    refine fg13 (fun R => ?_)
    refine sm (fun T1 h1 => ∃ (t2 t3 t10 t11 t12 : Value) (R : List Value), h1 = h' ∧ T1 = .pointer (some ⟨p, 0, none⟩) :: .int .i64 f :: t2 :: t3 :: .pointer (some ⟨c4, 0, none⟩) :: .int .i64 0 :: .bool false :: .int .i64 n :: .int .i64 i :: .int .i64 (fst0 n f : Nat) :: t10 :: t11 :: t12 :: R) ?_ ?_
    · have hpk := fst0_pick hn0 f
      by_cases h0' : f.tmod n < 0
      · rw [if_pos h0'] at hpk
        have hw : IntKind.i64.wrap (f.tmod n + n) = (fst0 n f : Nat) := by rw [wrap_i64 (by omega) (by omega)]; exact hpk
        refine sr (fun LL hLL => ?_)
        simp only [ptrTo, pend, pend0, Pd.old, pendU, pendU0, oxA0, oxA1, oxA2, oxA3, oxA4, oxA5, oxA6, oxA7, oxA8, oxA9, oxA10, oxL0, oxL1, oxTy0, oxTy1, ↓reduceIte, Nat.reduceAdd, Nat.reduceLeDiff, Nat.reduceLT, Nat.reduceEqDiff, Nat.reduceMul, Nat.reduceSub, Int.reduceEq, Int.reduceLT, Int.reduceLE, Int.reduceAdd, Int.reduceNeg, Int.reduceNe, Int.reduceToNat, Nat.testBit, Nat.reduceShiftRight, Nat.reduceAnd, Nat.reduceBneDiff, Nat.reduceBEq, gR_some, eq_true h0']
        refine hLL _ _ ?_
        refine wpC_if ?_
        simp only [ptrTo, pend, pend0, Pd.old, pendU, pendU0, oxA0, oxA1, oxA2, oxA3, oxA4, oxA5, oxA6, oxA7, oxA8, oxA9, oxA10, oxL0, oxL1, oxTy0, oxTy1, ↓reduceIte, Nat.reduceAdd, Nat.reduceLeDiff, Nat.reduceLT, Nat.reduceEqDiff, Nat.reduceMul, Nat.reduceSub, Int.reduceEq, Int.reduceLT, Int.reduceLE, Int.reduceAdd, Int.reduceNeg, Int.reduceNe, Int.reduceToNat, Nat.testBit, Nat.reduceShiftRight, Nat.reduceAnd, Nat.reduceBneDiff, Nat.reduceBEq, gR_some]
        refine rg (fun LL hLL => ?_)
        simp only [ptrTo, pend, pend0, Pd.old, pendU, pendU0, oxA0, oxA1, oxA2, oxA3, oxA4, oxA5, oxA6, oxA7, oxA8, oxA9, oxA10, oxL0, oxL1, oxTy0, oxTy1, ↓reduceIte, Nat.reduceAdd, Nat.reduceLeDiff, Nat.reduceLT, Nat.reduceEqDiff, Nat.reduceMul, Nat.reduceSub, Int.reduceEq, Int.reduceLT, Int.reduceLE, Int.reduceAdd, Int.reduceNeg, Int.reduceNe, Int.reduceToNat, Nat.testBit, Nat.reduceShiftRight, Nat.reduceAnd, Nat.reduceBneDiff, Nat.reduceBEq, gR_some, hw]
        refine hLL _ _ ?_
        simp only [ptrTo, pend, pend0, Pd.old, pendU, pendU0, oxA0, oxA1, oxA2, oxA3, oxA4, oxA5, oxA6, oxA7, oxA8, oxA9, oxA10, oxL0, oxL1, oxTy0, oxTy1, ↓reduceIte, Nat.reduceAdd, Nat.reduceLeDiff, Nat.reduceLT, Nat.reduceEqDiff, Nat.reduceMul, Nat.reduceSub, Int.reduceEq, Int.reduceLT, Int.reduceLE, Int.reduceAdd, Int.reduceNeg, Int.reduceNe, Int.reduceToNat, Nat.testBit, Nat.reduceShiftRight, Nat.reduceAnd, Nat.reduceBneDiff, Nat.reduceBEq, gR_some]
        exact ⟨_, _, _, _, _, _, rfl⟩
      · rw [if_neg h0'] at hpk
        refine sr (fun LL hLL => ?_)
        simp only [ptrTo, pend, pend0, Pd.old, pendU, pendU0, oxA0, oxA1, oxA2, oxA3, oxA4, oxA5, oxA6, oxA7, oxA8, oxA9, oxA10, oxL0, oxL1, oxTy0, oxTy1, ↓reduceIte, Nat.reduceAdd, Nat.reduceLeDiff, Nat.reduceLT, Nat.reduceEqDiff, Nat.reduceMul, Nat.reduceSub, Int.reduceEq, Int.reduceLT, Int.reduceLE, Int.reduceAdd, Int.reduceNeg, Int.reduceNe, Int.reduceToNat, Nat.testBit, Nat.reduceShiftRight, Nat.reduceAnd, Nat.reduceBneDiff, Nat.reduceBEq, gR_some, eq_false h0']
        refine hLL _ _ ?_
        refine wpC_if ?_
        simp only [ptrTo, pend, pend0, Pd.old, pendU, pendU0, oxA0, oxA1, oxA2, oxA3, oxA4, oxA5, oxA6, oxA7, oxA8, oxA9, oxA10, oxL0, oxL1, oxTy0, oxTy1, ↓reduceIte, Nat.reduceAdd, Nat.reduceLeDiff, Nat.reduceLT, Nat.reduceEqDiff, Nat.reduceMul, Nat.reduceSub, Int.reduceEq, Int.reduceLT, Int.reduceLE, Int.reduceAdd, Int.reduceNeg, Int.reduceNe, Int.reduceToNat, Nat.testBit, Nat.reduceShiftRight, Nat.reduceAnd, Nat.reduceBneDiff, Nat.reduceBEq, gR_some]
        refine wpC_skip ?_
        simp only [ptrTo, pend, pend0, Pd.old, pendU, pendU0, oxA0, oxA1, oxA2, oxA3, oxA4, oxA5, oxA6, oxA7, oxA8, oxA9, oxA10, oxL0, oxL1, oxTy0, oxTy1, ↓reduceIte, Nat.reduceAdd, Nat.reduceLeDiff, Nat.reduceLT, Nat.reduceEqDiff, Nat.reduceMul, Nat.reduceSub, Int.reduceEq, Int.reduceLT, Int.reduceLE, Int.reduceAdd, Int.reduceNeg, Int.reduceNe, Int.reduceToNat, Nat.testBit, Nat.reduceShiftRight, Nat.reduceAnd, Nat.reduceBneDiff, Nat.reduceBEq, gR_some, hpk]
        exact ⟨_, _, _, _, _, _, rfl⟩
    rintro T3 h3 ⟨t2, t3, t10, t11, t12, R, rfl, rfl⟩
    have hw2 : IntKind.i64.wrap (((fst0 n f : Nat) : Int) + (i : Int)) = ((fst0 n f : Nat) : Int) + (i : Int) := wrap_i64 (by omega) (by omega)
    obtain ⟨q, hq⟩ : ∃ q, q = nth0 n f i := ⟨_, rfl⟩
    have hqn : q < n := by rw [hq]; exact nth0_lt hn0 f i
    have hqB : q < B.length := by omega
    have hqV : q < V.length := by omega
    refine sr (fun LL hLL => ?_)
    simp only [ptrTo, pend, pend0, Pd.old, pendU, pendU0, oxA0, oxA1, oxA2, oxA3, oxA4, oxA5, oxA6, oxA7, oxA8, oxA9, oxA10, oxL0, oxL1, oxTy0, oxTy1, ↓reduceIte, Nat.reduceAdd, Nat.reduceLeDiff, Nat.reduceLT, Nat.reduceEqDiff, Nat.reduceMul, Nat.reduceSub, Int.reduceEq, Int.reduceLT, Int.reduceLE, Int.reduceAdd, Int.reduceNeg, Int.reduceNe, Int.reduceToNat, Nat.testBit, Nat.reduceShiftRight, Nat.reduceAnd, Nat.reduceBneDiff, Nat.reduceBEq, gR_some, hw2, e0, nth0_eq hn0, ← hq]
    refine hLL _ _ ?_
    refine fg13 (fun R => ?_)
    have gp := (s2.mv 1).get
    obtain ⟨S, hS, s4⟩ := (s2.mv 2).nest_out
    have hSl := lens hS
    have hqS : q < S.length := by omega
    have eB : B.getD q [] = B[q] := by rw [List.getD_eq_getElem?_getD, List.getElem?_eq_getElem hqB]; rfl
    have eV : V.getD q 0 = V[q] := by rw [List.getD_eq_getElem?_getD, List.getElem?_eq_getElem hqV]; rfl
    obtain ⟨bP, rfl, hcP, s5⟩ := s4.wn_out (.inl (by rintro rfl; simp at hqS))
    have gP := s5.get
    have wP : (S.flatMap Sv.cells)[q * 1]? = some (.slice S[q].a S[q].len S[q].cap) := (flat_get' Sv.len1 S q hqS (by omega)).trans rfl
    rw [lens_at hS q hqS hqB] at wP
    by_cases hne : B[q] = []
    · have e00 : (0 : Int) < (B[q].length : Int) ↔ False := by rw [hne]; simp
      refine sr (fun LL hLL => ?_)
      simp only [ptrTo, pend, pend0, Pd.old, pendU, pendU0, oxA0, oxA1, oxA2, oxA3, oxA4, oxA5, oxA6, oxA7, oxA8, oxA9, oxA10, oxL0, oxL1, oxTy0, oxTy1, ↓reduceIte, Nat.reduceAdd, Nat.reduceLeDiff, Nat.reduceLT, Nat.reduceEqDiff, Nat.reduceMul, Nat.reduceSub, Int.reduceEq, Int.reduceLT, Int.reduceLE, Int.reduceAdd, Int.reduceNeg, Int.reduceNe, Int.reduceToNat, Nat.testBit, Nat.reduceShiftRight, Nat.reduceAnd, Nat.reduceBneDiff, Nat.reduceBEq, gR_some, gp, gP, wP, hn ▸ ixF hqn, gt_iff_lt, e00]
      refine hLL _ _ ?_
      refine wpC_if ?_
      simp only [ptrTo, pend, pend0, Pd.old, pendU, pendU0, oxA0, oxA1, oxA2, oxA3, oxA4, oxA5, oxA6, oxA7, oxA8, oxA9, oxA10, oxL0, oxL1, oxTy0, oxTy1, ↓reduceIte, Nat.reduceAdd, Nat.reduceLeDiff, Nat.reduceLT, Nat.reduceEqDiff, Nat.reduceMul, Nat.reduceSub, Int.reduceEq, Int.reduceLT, Int.reduceLE, Int.reduceAdd, Int.reduceNeg, Int.reduceNe, Int.reduceToNat, Nat.testBit, Nat.reduceShiftRight, Nat.reduceAnd, Nat.reduceBneDiff, Nat.reduceBEq, gR_some]
      refine wpC_skip ?_
      simp only [ptrTo, pend, pend0, Pd.old, pendU, pendU0, oxA0, oxA1, oxA2, oxA3, oxA4, oxA5, oxA6, oxA7, oxA8, oxA9, oxA10, oxL0, oxL1, oxTy0, oxTy1, ↓reduceIte, Nat.reduceAdd, Nat.reduceLeDiff, Nat.reduceLT, Nat.reduceEqDiff, Nat.reduceMul, Nat.reduceSub, Int.reduceEq, Int.reduceLT, Int.reduceLE, Int.reduceAdd, Int.reduceNeg, Int.reduceNe, Int.reduceToNat, Nat.testBit, Nat.reduceShiftRight, Nat.reduceAnd, Nat.reduceBneDiff, Nat.reduceBEq, gR_some]
      refine fg13 (fun R => ?_)
      refine rg (fun LL hLL => ?_)
      simp only [ptrTo, pend, pend0, Pd.old, pendU, pendU0, oxA0, oxA1, oxA2, oxA3, oxA4, oxA5, oxA6, oxA7, oxA8, oxA9, oxA10, oxL0, oxL1, oxTy0, oxTy1, ↓reduceIte, Nat.reduceAdd, Nat.reduceLeDiff, Nat.reduceLT, Nat.reduceEqDiff, Nat.reduceMul, Nat.reduceSub, Int.reduceEq, Int.reduceLT, Int.reduceLE, Int.reduceAdd, Int.reduceNeg, Int.reduceNe, Int.reduceToNat, Nat.testBit, Nat.reduceShiftRight, Nat.reduceAnd, Nat.reduceBneDiff, Nat.reduceBEq, gR_some, wsucc (show i < 9223372036854775807 by omega)]
      refine hLL _ _ ?_
      simp only [ptrTo, pend, pend0, Pd.old, pendU, pendU0, oxA0, oxA1, oxA2, oxA3, oxA4, oxA5, oxA6, oxA7, oxA8, oxA9, oxA10, oxL0, oxL1, oxTy0, oxTy1, ↓reduceIte, Nat.reduceAdd, Nat.reduceLeDiff, Nat.reduceLT, Nat.reduceEqDiff, Nat.reduceMul, Nat.reduceSub, Int.reduceEq, Int.reduceLT, Int.reduceLE, Int.reduceAdd, Int.reduceNeg, Int.reduceNe, Int.reduceToNat, Nat.testBit, Nat.reduceShiftRight, Nat.reduceAnd, Nat.reduceBneDiff, Nat.reduceBEq, gR_some]
      refine ⟨k - 1, by omega, i + 1, _, _, _, _, _, _, _, by omega, fun j hj => ?_, s2, rfl⟩
      by_cases hji : j = i
      · rw [hji, ← hq, eB]; exact hne
      · exact hJ j (by omega)
    · obtain ⟨r, tl, hrt⟩ : ∃ r tl, B[q] = r :: tl := by
        cases hB : B[q] with
        | nil => exact absurd hB hne
        | cons r tl => exact ⟨r, tl, rfl⟩
      have hlen : B[q].length = tl.length + 1 := by rw [hrt]; rfl
      have hbq := hb _ (List.getElem_mem hqB)
      have ixq := hn ▸ ixF hqn
      have h0q : 0 < B[q].length := by omega
      refine sr (fun LL hLL => ?_)
      simp only [ptrTo, pend, pend0, Pd.old, pendU, pendU0, oxA0, oxA1, oxA2, oxA3, oxA4, oxA5, oxA6, oxA7, oxA8, oxA9, oxA10, oxL0, oxL1, oxTy0, oxTy1, ↓reduceIte, Nat.reduceAdd, Nat.reduceLeDiff, Nat.reduceLT, Nat.reduceEqDiff, Nat.reduceMul, Nat.reduceSub, Int.reduceEq, Int.reduceLT, Int.reduceLE, Int.reduceAdd, Int.reduceNeg, Int.reduceNe, Int.reduceToNat, Nat.testBit, Nat.reduceShiftRight, Nat.reduceAnd, Nat.reduceBneDiff, Nat.reduceBEq, gR_some, gp, gP, wP, ixq, gt_iff_lt, eq_true (show (0 : Int) < (B[q].length : Int) by omega)]
      refine hLL _ _ ?_
      refine wpC_if ?_
      simp only [ptrTo, pend, pend0, Pd.old, pendU, pendU0, oxA0, oxA1, oxA2, oxA3, oxA4, oxA5, oxA6, oxA7, oxA8, oxA9, oxA10, oxL0, oxL1, oxTy0, oxTy1, ↓reduceIte, Nat.reduceAdd, Nat.reduceLeDiff, Nat.reduceLT, Nat.reduceEqDiff, Nat.reduceMul, Nat.reduceSub, Int.reduceEq, Int.reduceLT, Int.reduceLE, Int.reduceAdd, Int.reduceNeg, Int.reduceNe, Int.reduceToNat, Nat.testBit, Nat.reduceShiftRight, Nat.reduceAnd, Nat.reduceBneDiff, Nat.reduceBEq, gR_some]
      obtain ⟨b3, o3, ro3, sz3, C3, e3', hSa, p3, g3, r3, q3⟩ := ((s5.mv 1).wns_rs Rc.len q hqS hqB).1.resolve_left hne
      obtain ⟨w3, x3⟩ := Rs.row Rc.len r3 q3 0 h0q
      have hr0 : B[q][0] = r := by simp [hrt]
      rw [hr0] at w3
      have va : (r.cells.all fun y => veq 5 y y) = true := by simp [Rc.cells, veq]
      have hcl : r.cells = [.int .i64 r.key, .int .i64 r.val] := rfl
      rw [hcl] at w3
      simp only [Nat.zero_mul, Nat.add_zero] at w3 x3
      have ix0 := ixF h0q
      refine sr (fun LL hLL => ?_)
      simp only [ptrTo, pend, pend0, Pd.old, pendU, pendU0, oxA0, oxA1, oxA2, oxA3, oxA4, oxA5, oxA6, oxA7, oxA8, oxA9, oxA10, oxL0, oxL1, oxTy0, oxTy1, ↓reduceIte, Nat.reduceAdd, Nat.reduceLeDiff, Nat.reduceLT, Nat.reduceEqDiff, Nat.reduceMul, Nat.reduceSub, Int.reduceEq, Int.reduceLT, Int.reduceLE, Int.reduceAdd, Int.reduceNeg, Int.reduceNe, Int.reduceToNat, Nat.testBit, Nat.reduceShiftRight, Nat.reduceAnd, Nat.reduceBneDiff, Nat.reduceBEq, gR_some, gp, gP, wP, ixq, hSa, g3, w3, eq_true x3, va, eq_true (show (0 : Int) < (B[q].length : Int) by omega), AHeap.get_set, AHeap.get_push, AHeap.get_del, AHeap.next_set, AHeap.next_push, AHeap.next_del]
      refine hLL _ _ ?_
      have s6 := (s5.push (.cells false 0 [.int .i64 0, .int .i64 0] 37)).set (.cells false 0 [.int .i64 r.key, .int .i64 r.val] 37)
      obtain ⟨cR, ecR⟩ : ∃ c, c = h3.next := ⟨_, rfl⟩
      obtain ⟨h4, eh4⟩ : ∃ h4, h4 = (h3.push (.cells false 0 [.int .i64 0, .int .i64 0] 37)).set h3.next (.cells false 0 [.int .i64 r.key, .int .i64 r.val] 37) := ⟨_, rfl⟩
      rw [← eh4, ← ecR] at s6 ⊢
      refine sr (fun LL hLL => ?_)
      simp only [ptrTo, pend, pend0, Pd.old, pendU, pendU0, oxA0, oxA1, oxA2, oxA3, oxA4, oxA5, oxA6, oxA7, oxA8, oxA9, oxA10, oxL0, oxL1, oxTy0, oxTy1, ↓reduceIte, Nat.reduceAdd, Nat.reduceLeDiff, Nat.reduceLT, Nat.reduceEqDiff, Nat.reduceMul, Nat.reduceSub, Int.reduceEq, Int.reduceLT, Int.reduceLE, Int.reduceAdd, Int.reduceNeg, Int.reduceNe, Int.reduceToNat, Nat.testBit, Nat.reduceShiftRight, Nat.reduceAnd, Nat.reduceBneDiff, Nat.reduceBEq, gR_some]
      refine hLL _ _ ?_
      refine fg13 (fun R => ?_)
      refine sm (fun T1 h1 => ∃ (t2 t3 t12 : Value) (aL : Option Addr) (cL : Nat) (R : List Value), St h0 h1 (wn Rc.cells 2 37 aL cL tl :: own cR (.cells false 0 [.int .i64 r.key, .int .i64 r.val] 37) :: own bP (.cells false 1 (S.flatMap Sv.cells) 46) ::
          star (wns Rc.cells 2 37 S B) :: own c4 (.cells false 0 [.int .i64 0, .int .i64 0] 37) :: own p (.cells false 0 [.slice (some ⟨bP, 0, none⟩) B.length cP, .slice aO V.length cO] 54) :: wn icell 1 3 aO cO V :: F) ∧
        T1 = .pointer (some ⟨p, 0, none⟩) :: .int .i64 f :: t2 :: t3 :: .pointer (some ⟨c4, 0, none⟩) :: .int .i64 0 :: .bool false :: .int .i64 n :: .int .i64 i :: .int .i64 q :: .pointer (some ⟨cR, 0, none⟩) :: .slice aL tl.length cL :: t12 :: R) ?_ ?_
      · refine sr (fun LL hLL => ?_)
        simp only [ptrTo, pend, pend0, Pd.old, pendU, pendU0, oxA0, oxA1, oxA2, oxA3, oxA4, oxA5, oxA6, oxA7, oxA8, oxA9, oxA10, oxL0, oxL1, oxTy0, oxTy1, ↓reduceIte, Nat.reduceAdd, Nat.reduceLeDiff, Nat.reduceLT, Nat.reduceEqDiff, Nat.reduceMul, Nat.reduceSub, Int.reduceEq, Int.reduceLT, Int.reduceLE, Int.reduceAdd, Int.reduceNeg, Int.reduceNe, Int.reduceToNat, Nat.testBit, Nat.reduceShiftRight, Nat.reduceAnd, Nat.reduceBneDiff, Nat.reduceBEq, gR_some]
        refine hLL _ _ ?_
        refine fg13 (fun R => ?_)
        refine wpC_block ?_
        refine wpC_loop (fun k T h1 => ∃ (j : Nat) (t2 t3 : Value) (aL : Option Addr) (cL : Nat) (R : List Value), k + j = tl.length ∧ St h0 h1 (wn Rc.cells 2 37 aL cL (tl.take j) :: own cR (.cells false 0 [.int .i64 r.key, .int .i64 r.val] 37) :: own bP (.cells false 1 (S.flatMap Sv.cells) 46) ::
          star (wns Rc.cells 2 37 S B) :: own c4 (.cells false 0 [.int .i64 0, .int .i64 0] 37) :: own p (.cells false 0 [.slice (some ⟨bP, 0, none⟩) B.length cP, .slice aO V.length cO] 54) :: wn icell 1 3 aO cO V :: F) ∧
          T = .pointer (some ⟨p, 0, none⟩) :: .int .i64 f :: t2 :: t3 :: .pointer (some ⟨c4, 0, none⟩) :: .int .i64 0 :: .bool false :: .int .i64 n :: .int .i64 i :: .int .i64 q :: .pointer (some ⟨cR, 0, none⟩) :: .slice aL j cL :: .int .i64 (j + 1 : Nat) :: R) ?_ tl.length _ _ ⟨0, _, _, none, 0, _, by omega, s6.wn_nil, rfl⟩
        rintro k T h1 ⟨j, t2, t3, aL, cL, R, hj, s7, rfl⟩
        have gp := (s7.mv 5).get
        have gP := (s7.mv 2).get
        refine wpC_seq (sr fun LL hLL => ?_)
        simp only [ptrTo, pend, pend0, Pd.old, pendU, pendU0, oxA0, oxA1, oxA2, oxA3, oxA4, oxA5, oxA6, oxA7, oxA8, oxA9, oxA10, oxL0, oxL1, oxTy0, oxTy1, ↓reduceIte, Nat.reduceAdd, Nat.reduceLeDiff, Nat.reduceLT, Nat.reduceEqDiff, Nat.reduceMul, Nat.reduceSub, Int.reduceEq, Int.reduceLT, Int.reduceLE, Int.reduceAdd, Int.reduceNeg, Int.reduceNe, Int.reduceToNat, Nat.testBit, Nat.reduceShiftRight, Nat.reduceAnd, Nat.reduceBneDiff, Nat.reduceBEq, gR_some, gp, gP, wP, ixq]
        refine hLL _ _ ?_
        refine wpC_if ?_
        simp only [ptrTo, pend, pend0, Pd.old, pendU, pendU0, oxA0, oxA1, oxA2, oxA3, oxA4, oxA5, oxA6, oxA7, oxA8, oxA9, oxA10, oxL0, oxL1, oxTy0, oxTy1, ↓reduceIte, Nat.reduceAdd, Nat.reduceLeDiff, Nat.reduceLT, Nat.reduceEqDiff, Nat.reduceMul, Nat.reduceSub, Int.reduceEq, Int.reduceLT, Int.reduceLE, Int.reduceAdd, Int.reduceNeg, Int.reduceNe, Int.reduceToNat, Nat.testBit, Nat.reduceShiftRight, Nat.reduceAnd, Nat.reduceBneDiff, Nat.reduceBEq, gR_some]
        refine gC_of (fun hc => ?_) (fun hc => ?_)
        · refine wpC_skip ?_
          simp only [ptrTo, pend, pend0, Pd.old, pendU, pendU0, oxA0, oxA1, oxA2, oxA3, oxA4, oxA5, oxA6, oxA7, oxA8, oxA9, oxA10, oxL0, oxL1, oxTy0, oxTy1, ↓reduceIte, Nat.reduceAdd, Nat.reduceLeDiff, Nat.reduceLT, Nat.reduceEqDiff, Nat.reduceMul, Nat.reduceSub, Int.reduceEq, Int.reduceLT, Int.reduceLE, Int.reduceAdd, Int.reduceNeg, Int.reduceNe, Int.reduceToNat, Nat.testBit, Nat.reduceShiftRight, Nat.reduceAnd, Nat.reduceBneDiff, Nat.reduceBEq, gR_some]
          refine fg13 (fun R => ?_)
          have hjB : j + 1 < B[q].length := by omega
          have hjt : j < tl.length := by omega
          obtain ⟨b4, o4, ro4, sz4, C4, e4', hSa', p4, g4, r4, q4⟩ := ((s7.mv 3).wns_rs Rc.len q hqS hqB).1.resolve_left hne
          obtain ⟨w4, x4⟩ := Rs.row Rc.len r4 q4 (j + 1) hjB
          have hrj : B[q][j + 1] = tl[j] := by simp [hrt]
          rw [hrj] at w4
          have va : (tl[j].cells.all fun y => veq 5 y y) = true := by simp [Rc.cells, veq]
          have hcl : tl[j].cells = [.int .i64 tl[j].key, .int .i64 tl[j].val] := rfl
          have zz : aZeros [.int .i64 0, .int .i64 0] 1 = [.int .i64 0, .int .i64 0] := rfl
          have hlj : (tl.take j).length = j := by simp; omega
          have htj : tl.take (j + 1) = tl.take j ++ [tl[j]] := List.take_succ_eq_append_getElem hjt
          obtain ⟨aE, cE, h7, y1, y2⟩ := s7.app1 (bytes := 16) tl[j] Rc.len Rc.oc (by omega) (by omega)
          rw [hlj] at y1
          rw [← htj] at y2
          refine wpC_seq (wpC_block ?_)
          refine rg (fun LL hLL => ?_)
          simp only [ptrTo, pend, pend0, Pd.old, pendU, pendU0, oxA0, oxA1, oxA2, oxA3, oxA4, oxA5, oxA6, oxA7, oxA8, oxA9, oxA10, oxL0, oxL1, oxTy0, oxTy1, ↓reduceIte, Nat.reduceAdd, Nat.reduceLeDiff, Nat.reduceLT, Nat.reduceEqDiff, Nat.reduceMul, Nat.reduceSub, Int.reduceEq, Int.reduceLT, Int.reduceLE, Int.reduceAdd, Int.reduceNeg, Int.reduceNe, Int.reduceToNat, Nat.testBit, Nat.reduceShiftRight, Nat.reduceAnd, Nat.reduceBneDiff, Nat.reduceBEq, gR_some, gp, gP, wP, ixq, ixF hjB, hSa', g4, w4, eq_true x4, va, hcl, zz]
          rw [hcl] at y1
          rw [y1]
          simp only [ptrTo, pend, pend0, Pd.old, pendU, pendU0, oxA0, oxA1, oxA2, oxA3, oxA4, oxA5, oxA6, oxA7, oxA8, oxA9, oxA10, oxL0, oxL1, oxTy0, oxTy1, ↓reduceIte, Nat.reduceAdd, Nat.reduceLeDiff, Nat.reduceLT, Nat.reduceEqDiff, Nat.reduceMul, Nat.reduceSub, Int.reduceEq, Int.reduceLT, Int.reduceLE, Int.reduceAdd, Int.reduceNeg, Int.reduceNe, Int.reduceToNat, Nat.testBit, Nat.reduceShiftRight, Nat.reduceAnd, Nat.reduceBneDiff, Nat.reduceBEq, gR_some]
          refine hLL _ _ ?_
          simp only [ptrTo, pend, pend0, Pd.old, pendU, pendU0, oxA0, oxA1, oxA2, oxA3, oxA4, oxA5, oxA6, oxA7, oxA8, oxA9, oxA10, oxL0, oxL1, oxTy0, oxTy1, ↓reduceIte, Nat.reduceAdd, Nat.reduceLeDiff, Nat.reduceLT, Nat.reduceEqDiff, Nat.reduceMul, Nat.reduceSub, Int.reduceEq, Int.reduceLT, Int.reduceLE, Int.reduceAdd, Int.reduceNeg, Int.reduceNe, Int.reduceToNat, Nat.testBit, Nat.reduceShiftRight, Nat.reduceAnd, Nat.reduceBneDiff, Nat.reduceBEq, gR_some]
          refine fg13 (fun R => ?_)
          refine rg (fun LL hLL => ?_)
          simp only [ptrTo, pend, pend0, Pd.old, pendU, pendU0, oxA0, oxA1, oxA2, oxA3, oxA4, oxA5, oxA6, oxA7, oxA8, oxA9, oxA10, oxL0, oxL1, oxTy0, oxTy1, ↓reduceIte, Nat.reduceAdd, Nat.reduceLeDiff, Nat.reduceLT, Nat.reduceEqDiff, Nat.reduceMul, Nat.reduceSub, Int.reduceEq, Int.reduceLT, Int.reduceLE, Int.reduceAdd, Int.reduceNeg, Int.reduceNe, Int.reduceToNat, Nat.testBit, Nat.reduceShiftRight, Nat.reduceAnd, Nat.reduceBneDiff, Nat.reduceBEq, gR_some, wsucc (show j + 1 < 9223372036854775807 by omega)]
          refine hLL _ _ ?_
          simp only [ptrTo, pend, pend0, Pd.old, pendU, pendU0, oxA0, oxA1, oxA2, oxA3, oxA4, oxA5, oxA6, oxA7, oxA8, oxA9, oxA10, oxL0, oxL1, oxTy0, oxTy1, ↓reduceIte, Nat.reduceAdd, Nat.reduceLeDiff, Nat.reduceLT, Nat.reduceEqDiff, Nat.reduceMul, Nat.reduceSub, Int.reduceEq, Int.reduceLT, Int.reduceLE, Int.reduceAdd, Int.reduceNeg, Int.reduceNe, Int.reduceToNat, Nat.testBit, Nat.reduceShiftRight, Nat.reduceAnd, Nat.reduceBneDiff, Nat.reduceBEq, gR_some]
          exact ⟨k - 1, by omega, j + 1, _, _, aE, cE, _, by omega, y2, rfl⟩
        · refine wpC_exit ?_
          simp only [ptrTo, pend, pend0, Pd.old, pendU, pendU0, oxA0, oxA1, oxA2, oxA3, oxA4, oxA5, oxA6, oxA7, oxA8, oxA9, oxA10, oxL0, oxL1, oxTy0, oxTy1, ↓reduceIte, Nat.reduceAdd, Nat.reduceLeDiff, Nat.reduceLT, Nat.reduceEqDiff, Nat.reduceMul, Nat.reduceSub, Int.reduceEq, Int.reduceLT, Int.reduceLE, Int.reduceAdd, Int.reduceNeg, Int.reduceNe, Int.reduceToNat, Nat.testBit, Nat.reduceShiftRight, Nat.reduceAnd, Nat.reduceBneDiff, Nat.reduceBEq, gR_some]
          have hjl : j = tl.length := by omega
          rw [hjl, List.take_length] at s7
          exact ⟨_, _, _, aL, cL, _, s7, by rw [hjl]⟩
      rintro T4 h5 ⟨t2, t3, t12, aL, cL, R, s7, rfl⟩
      have gp := (s7.mv 5).get
      have gP := (s7.mv 2).get
      have hst : splice (S.flatMap Sv.cells) (q * 1) [.slice aL tl.length cL] = (S.set q ⟨aL, tl.length, cL⟩).flatMap Sv.cells := flat_store Sv.len1 S q ⟨aL, tl.length, cL⟩ hqS
      have hle := flat_le Sv.len1 S q hqS
      refine sr (fun LL hLL => ?_)
      simp only [ptrTo, pend, pend0, Pd.old, pendU, pendU0, oxA0, oxA1, oxA2, oxA3, oxA4, oxA5, oxA6, oxA7, oxA8, oxA9, oxA10, oxL0, oxL1, oxTy0, oxTy1, ↓reduceIte, Nat.reduceAdd, Nat.reduceLeDiff, Nat.reduceLT, Nat.reduceEqDiff, Nat.reduceMul, Nat.reduceSub, Int.reduceEq, Int.reduceLT, Int.reduceLE, Int.reduceAdd, Int.reduceNeg, Int.reduceNe, Int.reduceToNat, Nat.testBit, Nat.reduceShiftRight, Nat.reduceAnd, Nat.reduceBneDiff, Nat.reduceBEq, gR_some, gp, gP, ixq, hst, eq_true (show q * 1 + 1 ≤ (S.flatMap Sv.cells).length by omega)]
      refine hLL _ _ ?_
      refine fg13 (fun R => ?_)
      have s8 := (s7.mv 2).set (.cells false 1 ((S.set q ⟨aL, tl.length, cL⟩).flatMap Sv.cells) 46)
      obtain ⟨h6, eh6⟩ : ∃ h6, h6 = h5.set bP (.cells false 1 ((S.set q ⟨aL, tl.length, cL⟩).flatMap Sv.cells) 46) := ⟨_, rfl⟩
      rw [← eh6] at s8 ⊢
      have gp := (s8.mv 5).get
      obtain ⟨bV, rfl, hcV, s9⟩ := (s8.mv 6).wn_out (.inl (by rintro rfl; simp at hqV))
      have gV := s9.get
      have wV : (V.flatMap icell)[q * 1]? = some (.int .i64 V[q]) := (flat_get' icell.len V q hqV (by omega)).trans rfl
      have hpq := hp q
      rw [eV] at hpq
      have hwV : IntKind.i64.wrap (V[q] + 1) = V[q] + 1 := wrap_i64 (by omega) (by omega)
      have hsV : splice (V.flatMap icell) (q * 1) [.int .i64 (V[q] + 1)] = (V.set q (V[q] + 1)).flatMap icell := flat_store icell.len V q _ hqV
      have hlV := flat_le icell.len V q hqV
      have v1 : ∀ (a : Option Addr) (m n : Nat), veq 6 (.slice a m n) (.slice a m n) = true := by intro a m n; simp [veq]
      have ixV := ixF hqV
      refine su [some 86, some 87, some 88, some 89, some 90, some 91, some 92, some 93, some 94, some 95, some 96, some 97, some 98, some 99, none] 15 [0, 1, 3, 7, 0, 0, 32, 96, 224, 0, 992, 2016, 4064, 8191, 16383] (by rfl) (by rfl) (by decide +kernel) (by decide +kernel) (by decide +kernel) (fun LL hLL => ?_)
      simp only [ptrTo, pend, pend0, Pd.old, pendU, pendU0, oxA0, oxA1, oxA2, oxA3, oxA4, oxA5, oxA6, oxA7, oxA8, oxA9, oxA10, oxL0, oxL1, oxTy0, oxTy1, ↓reduceIte, Nat.reduceAdd, Nat.reduceLeDiff, Nat.reduceLT, Nat.reduceEqDiff, Nat.reduceMul, Nat.reduceSub, Int.reduceEq, Int.reduceLT, Int.reduceLE, Int.reduceAdd, Int.reduceNeg, Int.reduceNe, Int.reduceToNat, Nat.testBit, Nat.reduceShiftRight, Nat.reduceAnd, Nat.reduceBneDiff, Nat.reduceBEq, gR_some, gp, gV, ixV, wV, hwV, hsV, v1, eq_true (show q * 1 + 1 ≤ (V.flatMap icell).length by omega)]
      refine hLL _ _ ?_
      refine fg13 (fun R => ?_)
      have s10 := s9.set (.cells false 1 ((V.set q (V[q] + 1)).flatMap icell) 3)
      obtain ⟨h7, eh7⟩ : ∃ h7, h7 = h6.set bV (.cells false 1 ((V.set q (V[q] + 1)).flatMap icell) 3) := ⟨_, rfl⟩
      rw [← eh7] at s10 ⊢
      have gR := (s10.mv 3).get
      have g4 := (s10.mv 5).get
      refine sr (fun LL hLL => ?_)
      simp only [ptrTo, pend, pend0, Pd.old, pendU, pendU0, oxA0, oxA1, oxA2, oxA3, oxA4, oxA5, oxA6, oxA7, oxA8, oxA9, oxA10, oxL0, oxL1, oxTy0, oxTy1, ↓reduceIte, Nat.reduceAdd, Nat.reduceLeDiff, Nat.reduceLT, Nat.reduceEqDiff, Nat.reduceMul, Nat.reduceSub, Int.reduceEq, Int.reduceLT, Int.reduceLE, Int.reduceAdd, Int.reduceNeg, Int.reduceNe, Int.reduceToNat, Nat.testBit, Nat.reduceShiftRight, Nat.reduceAnd, Nat.reduceBneDiff, Nat.reduceBEq, gR_some, gR, g4]
      refine hLL _ _ ?_
      refine wpC_ret (out_ret ?_)
      simp only [ptrTo, pend, pend0, Pd.old, pendU, pendU0, oxA0, oxA1, oxA2, oxA3, oxA4, oxA5, oxA6, oxA7, oxA8, oxA9, oxA10, oxL0, oxL1, oxTy0, oxTy1, ↓reduceIte, Nat.reduceAdd, Nat.reduceLeDiff, Nat.reduceLT, Nat.reduceEqDiff, Nat.reduceMul, Nat.reduceSub, Int.reduceEq, Int.reduceLT, Int.reduceLE, Int.reduceAdd, Int.reduceNeg, Int.reduceNe, Int.reduceToNat, Nat.testBit, Nat.reduceShiftRight, Nat.reduceAnd, Nat.reduceBneDiff, Nat.reduceBEq, gR_some, AHeap.get_set, AHeap.get_push, AHeap.get_del, AHeap.next_set, AHeap.next_push, AHeap.next_del, if_true]
      have s11 := (s10.mv 5).set (.cells false 0 [.int .i64 r.key, .int .i64 r.val] 37)
      have hwl : q < (wns Rc.cells 2 37 S B).length := by rw [wns_len hSl]; exact hqB
      have b1 := (s11).sel 7 [5, 3, 2, 1, 6]
      simp only [List.filterMap_cons, List.filterMap_nil, List.getElem?_cons_succ, List.getElem?_cons_zero, List.drop_succ_cons, List.drop_zero, List.cons_append, List.nil_append] at b1
      have b3 := (b1.pick q hwl).sel 3 [2, 1]
      simp only [List.filterMap_cons, List.filterMap_nil, List.getElem?_cons_succ, List.getElem?_cons_zero, List.drop_succ_cons, List.drop_zero, List.cons_append, List.nil_append] at b3
      have b4 := b3.unpick q hwl
      rw [← wns_set (s := ⟨aL, tl.length, cL⟩)] at b4
      have b5 := (b4.mv 1).wn_in (c := cP) (by simpa using hcP)
      have b6 := St.nest_in (by rw [List.map_set, List.map_set, hS]) b5
      have b7 := (b6.mv 1).wn_in (c := cO) (by simpa using hcV)
      have b8 := b7.sel 3 [2, 1, 0]
      refine hk1 i q r tl _ hi' hq hJ (by rw [eB]; exact hrt) ?_
      rw [eV]
      refine src_in (aP := some ⟨bP, 0, none⟩) (cP := cP) (aO := some ⟨bV, 0, none⟩) (cO := cO) ?_
      rw [List.length_set, List.length_set]
      exact b8
  · have hin : i = n := by omega
    refine wpC_exit ?_
    simp only [ptrTo, pend, pend0, Pd.old, pendU, pendU0, oxA0, oxA1, oxA2, oxA3, oxA4, oxA5, oxA6, oxA7, oxA8, oxA9, oxA10, oxL0, oxL1, oxTy0, oxTy1, ↓reduceIte, Nat.reduceAdd, Nat.reduceLeDiff, Nat.reduceLT, Nat.reduceEqDiff, Nat.reduceMul, Nat.reduceSub, Int.reduceEq, Int.reduceLT, Int.reduceLE, Int.reduceAdd, Int.reduceNeg, Int.reduceNe, Int.reduceToNat, Nat.testBit, Nat.reduceShiftRight, Nat.reduceAnd, Nat.reduceBneDiff, Nat.reduceBEq, gR_some]
    refine fg13 (fun R => ?_)
    have g4 := s2.get
    refine sr (fun LL hLL => ?_)
    simp only [ptrTo, pend, pend0, Pd.old, pendU, pendU0, oxA0, oxA1, oxA2, oxA3, oxA4, oxA5, oxA6, oxA7, oxA8, oxA9, oxA10, oxL0, oxL1, oxTy0, oxTy1, ↓reduceIte, Nat.reduceAdd, Nat.reduceLeDiff, Nat.reduceLT, Nat.reduceEqDiff, Nat.reduceMul, Nat.reduceSub, Int.reduceEq, Int.reduceLT, Int.reduceLE, Int.reduceAdd, Int.reduceNeg, Int.reduceNe, Int.reduceToNat, Nat.testBit, Nat.reduceShiftRight, Nat.reduceAnd, Nat.reduceBneDiff, Nat.reduceBEq, gR_some, g4]
    refine hLL _ _ ?_
    refine wpC_ret (out_ret ?_)
    simp only [ptrTo, pend, pend0, Pd.old, pendU, pendU0, oxA0, oxA1, oxA2, oxA3, oxA4, oxA5, oxA6, oxA7, oxA8, oxA9, oxA10, oxL0, oxL1, oxTy0, oxTy1, ↓reduceIte, Nat.reduceAdd, Nat.reduceLeDiff, Nat.reduceLT, Nat.reduceEqDiff, Nat.reduceMul, Nat.reduceSub, Int.reduceEq, Int.reduceLT, Int.reduceLE, Int.reduceAdd, Int.reduceNeg, Int.reduceNe, Int.reduceToNat, Nat.testBit, Nat.reduceShiftRight, Nat.reduceAnd, Nat.reduceBneDiff, Nat.reduceBEq, gR_some, AHeap.get_set, AHeap.get_push, AHeap.get_del, AHeap.next_set, AHeap.next_push, AHeap.next_del, if_true]
    have s3 := (s2.set (.cells false 0 [.int .i64 0, .int .i64 0] 37)).drop
    exact hk0 _ (fun j hj => hJ j (by omega)) (src_in s3)
end Go.Proofs
