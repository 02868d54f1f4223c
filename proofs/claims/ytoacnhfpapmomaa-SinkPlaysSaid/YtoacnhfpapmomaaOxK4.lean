/-
  The sink: the search among cuts. CONDITIONS: none.
-/
import Derived.Test.YtoacnhfpapmomaaOxK3
set_option linter.unusedSimpArgs false
set_option linter.unusedVariables false
namespace Go.Proofs
open Go Go.Ox
set_option maxRecDepth 100000
set_option maxHeartbeats 2000000
theorem cmp_any (x : Ct) (no : Int) (h : AHeap) (K : Value → AHeap → Prop) (hk : ∀ h', Fr h h' [] → K (.int .i64 (if x.no ≤ no then -1 else 1)) h') : wpF Try.prog (.fn 30) [.agg x.cells.toArray, .int .i64 no] h K := by
  have hx : x.cells = [.int .i64 x.no, .int .i64 x.fin] := rfl
  refine wpF_fun 9 [.tmp 4] Try.func30 rfl rfl rfl rfl ?_
  refine sr (fun LL hLL => ?_)
  simp only [ptrTo, pend, pend0, Pd.old, pendU, pendU0, oxA0, oxA1, oxA2, oxA3, oxA4, oxA5, oxA6, oxA7, oxA8, oxA9, oxA10, oxL0, oxL1, oxTy0, oxTy1, oxTy2, ↓reduceIte, Nat.reduceAdd, Nat.reduceLeDiff, Nat.reduceLT, Nat.reduceEqDiff, Nat.reduceMul, Nat.reduceSub, Int.reduceEq, Int.reduceLT, Int.reduceLE, Int.reduceAdd, Int.reduceNeg, Int.reduceNe, Int.reduceToNat, Nat.testBit, Nat.reduceShiftRight, Nat.reduceAnd, Nat.reduceBneDiff, Nat.reduceBEq, gR_some, hx]
  refine hLL _ _ ?_
  by_cases h0 : x.no ≤ no
  · rw [if_pos h0] at hk
    refine wpC_seq (sr fun LL hLL => ?_)
    simp only [ptrTo, pend, pend0, Pd.old, pendU, pendU0, oxA0, oxA1, oxA2, oxA3, oxA4, oxA5, oxA6, oxA7, oxA8, oxA9, oxA10, oxL0, oxL1, oxTy0, oxTy1, oxTy2, ↓reduceIte, Nat.reduceAdd, Nat.reduceLeDiff, Nat.reduceLT, Nat.reduceEqDiff, Nat.reduceMul, Nat.reduceSub, Int.reduceEq, Int.reduceLT, Int.reduceLE, Int.reduceAdd, Int.reduceNeg, Int.reduceNe, Int.reduceToNat, Nat.testBit, Nat.reduceShiftRight, Nat.reduceAnd, Nat.reduceBneDiff, Nat.reduceBEq, gR_some, AHeap.get_set, AHeap.get_push, AHeap.get_del, AHeap.next_set, AHeap.next_push, AHeap.next_del, eq_true h0]
    refine hLL _ _ ?_
    refine wpC_if ?_
    simp only [ptrTo, pend, pend0, Pd.old, pendU, pendU0, oxA0, oxA1, oxA2, oxA3, oxA4, oxA5, oxA6, oxA7, oxA8, oxA9, oxA10, oxL0, oxL1, oxTy0, oxTy1, oxTy2, ↓reduceIte, Nat.reduceAdd, Nat.reduceLeDiff, Nat.reduceLT, Nat.reduceEqDiff, Nat.reduceMul, Nat.reduceSub, Int.reduceEq, Int.reduceLT, Int.reduceLE, Int.reduceAdd, Int.reduceNeg, Int.reduceNe, Int.reduceToNat, Nat.testBit, Nat.reduceShiftRight, Nat.reduceAnd, Nat.reduceBneDiff, Nat.reduceBEq, gR_some]
    refine sr (fun LL hLL => ?_)
    simp only [ptrTo, pend, pend0, Pd.old, pendU, pendU0, oxA0, oxA1, oxA2, oxA3, oxA4, oxA5, oxA6, oxA7, oxA8, oxA9, oxA10, oxL0, oxL1, oxTy0, oxTy1, oxTy2, ↓reduceIte, Nat.reduceAdd, Nat.reduceLeDiff, Nat.reduceLT, Nat.reduceEqDiff, Nat.reduceMul, Nat.reduceSub, Int.reduceEq, Int.reduceLT, Int.reduceLE, Int.reduceAdd, Int.reduceNeg, Int.reduceNe, Int.reduceToNat, Nat.testBit, Nat.reduceShiftRight, Nat.reduceAnd, Nat.reduceBneDiff, Nat.reduceBEq, gR_some]
    refine hLL _ _ ?_
    refine wpC_ret (out_ret ?_)
    simp only [ptrTo, pend, pend0, Pd.old, pendU, pendU0, oxA0, oxA1, oxA2, oxA3, oxA4, oxA5, oxA6, oxA7, oxA8, oxA9, oxA10, oxL0, oxL1, oxTy0, oxTy1, oxTy2, ↓reduceIte, Nat.reduceAdd, Nat.reduceLeDiff, Nat.reduceLT, Nat.reduceEqDiff, Nat.reduceMul, Nat.reduceSub, Int.reduceEq, Int.reduceLT, Int.reduceLE, Int.reduceAdd, Int.reduceNeg, Int.reduceNe, Int.reduceToNat, Nat.testBit, Nat.reduceShiftRight, Nat.reduceAnd, Nat.reduceBneDiff, Nat.reduceBEq, gR_some]
    exact hk _ (Fr.push h _)
  · rw [if_neg h0] at hk
    refine wpC_seq (sr fun LL hLL => ?_)
    simp only [ptrTo, pend, pend0, Pd.old, pendU, pendU0, oxA0, oxA1, oxA2, oxA3, oxA4, oxA5, oxA6, oxA7, oxA8, oxA9, oxA10, oxL0, oxL1, oxTy0, oxTy1, oxTy2, ↓reduceIte, Nat.reduceAdd, Nat.reduceLeDiff, Nat.reduceLT, Nat.reduceEqDiff, Nat.reduceMul, Nat.reduceSub, Int.reduceEq, Int.reduceLT, Int.reduceLE, Int.reduceAdd, Int.reduceNeg, Int.reduceNe, Int.reduceToNat, Nat.testBit, Nat.reduceShiftRight, Nat.reduceAnd, Nat.reduceBneDiff, Nat.reduceBEq, gR_some, AHeap.get_set, AHeap.get_push, AHeap.get_del, AHeap.next_set, AHeap.next_push, AHeap.next_del, eq_false h0]
    refine hLL _ _ ?_
    refine wpC_if ?_
    simp only [ptrTo, pend, pend0, Pd.old, pendU, pendU0, oxA0, oxA1, oxA2, oxA3, oxA4, oxA5, oxA6, oxA7, oxA8, oxA9, oxA10, oxL0, oxL1, oxTy0, oxTy1, oxTy2, ↓reduceIte, Nat.reduceAdd, Nat.reduceLeDiff, Nat.reduceLT, Nat.reduceEqDiff, Nat.reduceMul, Nat.reduceSub, Int.reduceEq, Int.reduceLT, Int.reduceLE, Int.reduceAdd, Int.reduceNeg, Int.reduceNe, Int.reduceToNat, Nat.testBit, Nat.reduceShiftRight, Nat.reduceAnd, Nat.reduceBneDiff, Nat.reduceBEq, gR_some]
    refine wpC_skip ?_
    simp only [ptrTo, pend, pend0, Pd.old, pendU, pendU0, oxA0, oxA1, oxA2, oxA3, oxA4, oxA5, oxA6, oxA7, oxA8, oxA9, oxA10, oxL0, oxL1, oxTy0, oxTy1, oxTy2, ↓reduceIte, Nat.reduceAdd, Nat.reduceLeDiff, Nat.reduceLT, Nat.reduceEqDiff, Nat.reduceMul, Nat.reduceSub, Int.reduceEq, Int.reduceLT, Int.reduceLE, Int.reduceAdd, Int.reduceNeg, Int.reduceNe, Int.reduceToNat, Nat.testBit, Nat.reduceShiftRight, Nat.reduceAnd, Nat.reduceBneDiff, Nat.reduceBEq, gR_some]
    refine sr (fun LL hLL => ?_)
    simp only [ptrTo, pend, pend0, Pd.old, pendU, pendU0, oxA0, oxA1, oxA2, oxA3, oxA4, oxA5, oxA6, oxA7, oxA8, oxA9, oxA10, oxL0, oxL1, oxTy0, oxTy1, oxTy2, ↓reduceIte, Nat.reduceAdd, Nat.reduceLeDiff, Nat.reduceLT, Nat.reduceEqDiff, Nat.reduceMul, Nat.reduceSub, Int.reduceEq, Int.reduceLT, Int.reduceLE, Int.reduceAdd, Int.reduceNeg, Int.reduceNe, Int.reduceToNat, Nat.testBit, Nat.reduceShiftRight, Nat.reduceAnd, Nat.reduceBneDiff, Nat.reduceBEq, gR_some]
    refine hLL _ _ ?_
    refine wpC_ret (out_ret ?_)
    simp only [ptrTo, pend, pend0, Pd.old, pendU, pendU0, oxA0, oxA1, oxA2, oxA3, oxA4, oxA5, oxA6, oxA7, oxA8, oxA9, oxA10, oxL0, oxL1, oxTy0, oxTy1, oxTy2, ↓reduceIte, Nat.reduceAdd, Nat.reduceLeDiff, Nat.reduceLT, Nat.reduceEqDiff, Nat.reduceMul, Nat.reduceSub, Int.reduceEq, Int.reduceLT, Int.reduceLE, Int.reduceAdd, Int.reduceNeg, Int.reduceNe, Int.reduceToNat, Nat.testBit, Nat.reduceShiftRight, Nat.reduceAnd, Nat.reduceBneDiff, Nat.reduceBEq, gR_some]
    exact hk _ (Fr.push h _)

theorem shr_f (n : Nat) : (n : Int).fdiv (2 ^ (min 1 IntKind.u64.bits)) = ((n / 2 : Nat) : Int) := by
  show (n : Int).fdiv 2 = _
  rw [Int.fdiv_eq_ediv_of_nonneg _ (by omega)]
  omega
theorem cv1 (n : Int) : aConv Try.prog 3 67 (.int .i64 n) = some (.int .u64 (IntKind.u64.wrap n)) := rfl
theorem cv2 (n : Int) : aConv Try.prog 67 3 (.int .u64 n) = some (.int .i64 (IntKind.i64.wrap n)) := rfl

/-- A place that parts the cuts up to a number from the others. -/
def Parts (C : List Ct) (no : Int) (i : Nat) : Prop := i ≤ C.length ∧ (∀ m (hm : m < C.length), m < i → C[m].no ≤ no) ∧ (∀ m (hm : m < C.length), i ≤ m → no < C[m].no)
def Sorted (C : List Ct) : Prop := ∀ i j (hi : i < C.length) (hj : j < C.length), i < j → C[i].no < C[j].no

theorem search_any (a : Option Addr) (c : Nat) (C : List Ct) (no : Int) (h : AHeap) (K : Value → AHeap → Prop) (r : Rs Ct.cells 2 h a C) (hl : C.length < 1000000) (hs : Sorted C)
    (hk : ∀ i b h', Fr h h' [] → Parts C no i → K (.tuple #[.int .i64 (i : Int), .bool b]) h') : wpF Try.prog (.fn 29) [.slice a C.length c, .int .i64 no, .func (.func 30) #[] #[]] h K := by
  refine wpF_fun 49 [.tmp 6, .tmp 7] Try.func29 rfl rfl rfl rfl ?_
  refine sr (fun LL hLL => ?_)
  simp only [ptrTo, pend, pend0, Pd.old, pendU, pendU0, oxA0, oxA1, oxA2, oxA3, oxA4, oxA5, oxA6, oxA7, oxA8, oxA9, oxA10, oxL0, oxL1, oxTy0, oxTy1, oxTy2, ↓reduceIte, Nat.reduceAdd, Nat.reduceLeDiff, Nat.reduceLT, Nat.reduceEqDiff, Nat.reduceMul, Nat.reduceSub, Int.reduceEq, Int.reduceLT, Int.reduceLE, Int.reduceAdd, Int.reduceNeg, Int.reduceNe, Int.reduceToNat, Nat.testBit, Nat.reduceShiftRight, Nat.reduceAnd, Nat.reduceBneDiff, Nat.reduceBEq, gR_some]
  refine hLL _ _ ?_
  refine sr (fun LL hLL => ?_)
  simp only [ptrTo, pend, pend0, Pd.old, pendU, pendU0, oxA0, oxA1, oxA2, oxA3, oxA4, oxA5, oxA6, oxA7, oxA8, oxA9, oxA10, oxL0, oxL1, oxTy0, oxTy1, oxTy2, ↓reduceIte, Nat.reduceAdd, Nat.reduceLeDiff, Nat.reduceLT, Nat.reduceEqDiff, Nat.reduceMul, Nat.reduceSub, Int.reduceEq, Int.reduceLT, Int.reduceLE, Int.reduceAdd, Int.reduceNeg, Int.reduceNe, Int.reduceToNat, Nat.testBit, Nat.reduceShiftRight, Nat.reduceAnd, Nat.reduceBneDiff, Nat.reduceBEq, gR_some]
  refine hLL _ _ ?_
  refine sr (fun LL hLL => ?_)
  simp only [ptrTo, pend, pend0, Pd.old, pendU, pendU0, oxA0, oxA1, oxA2, oxA3, oxA4, oxA5, oxA6, oxA7, oxA8, oxA9, oxA10, oxL0, oxL1, oxTy0, oxTy1, oxTy2, ↓reduceIte, Nat.reduceAdd, Nat.reduceLeDiff, Nat.reduceLT, Nat.reduceEqDiff, Nat.reduceMul, Nat.reduceSub, Int.reduceEq, Int.reduceLT, Int.reduceLE, Int.reduceAdd, Int.reduceNeg, Int.reduceNe, Int.reduceToNat, Nat.testBit, Nat.reduceShiftRight, Nat.reduceAnd, Nat.reduceBneDiff, Nat.reduceBEq, gR_some]
  refine hLL _ _ ?_
  refine wpC_seq ?_
  refine fg11 (fun R => ?_)
  refine wpC_block ?_
  refine wpC_loop (fun k T h' => ∃ (i j : Nat) (R : List Value), k + i = j ∧ j ≤ C.length ∧ Fr h h' [] ∧ (∀ m (hm : m < C.length), m < i → C[m].no ≤ no) ∧ (∀ m (hm : m < C.length), j ≤ m → no < C[m].no) ∧
    T = .slice a C.length c :: .int .i64 no :: .func (.func 30) #[] #[] :: undef :: undef :: undef :: .int .i64 0 :: .bool false :: .int .i64 C.length :: .int .i64 i :: .int .i64 j :: R) ?_ C.length _ _ ⟨0, C.length, R, by omega, by omega, Fr.refl h [], by omega, by omega, rfl⟩
  rintro k T h' ⟨i, j, R, hij, hj, f1, p1, p2, rfl⟩
  refine wpC_seq (sr fun LL hLL => ?_)
  simp only [ptrTo, pend, pend0, Pd.old, pendU, pendU0, oxA0, oxA1, oxA2, oxA3, oxA4, oxA5, oxA6, oxA7, oxA8, oxA9, oxA10, oxL0, oxL1, oxTy0, oxTy1, oxTy2, ↓reduceIte, Nat.reduceAdd, Nat.reduceLeDiff, Nat.reduceLT, Nat.reduceEqDiff, Nat.reduceMul, Nat.reduceSub, Int.reduceEq, Int.reduceLT, Int.reduceLE, Int.reduceAdd, Int.reduceNeg, Int.reduceNe, Int.reduceToNat, Nat.testBit, Nat.reduceShiftRight, Nat.reduceAnd, Nat.reduceBneDiff, Nat.reduceBEq, gR_some]
  refine hLL _ _ ?_
  refine wpC_if ?_
  simp only [ptrTo, pend, pend0, Pd.old, pendU, pendU0, oxA0, oxA1, oxA2, oxA3, oxA4, oxA5, oxA6, oxA7, oxA8, oxA9, oxA10, oxL0, oxL1, oxTy0, oxTy1, oxTy2, ↓reduceIte, Nat.reduceAdd, Nat.reduceLeDiff, Nat.reduceLT, Nat.reduceEqDiff, Nat.reduceMul, Nat.reduceSub, Int.reduceEq, Int.reduceLT, Int.reduceLE, Int.reduceAdd, Int.reduceNeg, Int.reduceNe, Int.reduceToNat, Nat.testBit, Nat.reduceShiftRight, Nat.reduceAnd, Nat.reduceBneDiff, Nat.reduceBEq, gR_some]
  refine gC_of (fun hc => ?_) (fun hc => ?_)
  · refine wpC_skip ?_
    simp only [ptrTo, pend, pend0, Pd.old, pendU, pendU0, oxA0, oxA1, oxA2, oxA3, oxA4, oxA5, oxA6, oxA7, oxA8, oxA9, oxA10, oxL0, oxL1, oxTy0, oxTy1, oxTy2, ↓reduceIte, Nat.reduceAdd, Nat.reduceLeDiff, Nat.reduceLT, Nat.reduceEqDiff, Nat.reduceMul, Nat.reduceSub, Int.reduceEq, Int.reduceLT, Int.reduceLE, Int.reduceAdd, Int.reduceNeg, Int.reduceNe, Int.reduceToNat, Nat.testBit, Nat.reduceShiftRight, Nat.reduceAnd, Nat.reduceBneDiff, Nat.reduceBEq, gR_some]
    refine fg11 (fun R => ?_)
    obtain ⟨m, hm⟩ : ∃ m, m = (i + j) / 2 := ⟨_, rfl⟩
    have hm1 : i ≤ m ∧ m < j := by omega
    have hmC : m < C.length := by omega
    have hne : C ≠ [] := by rintro rfl; simp at hmC
    obtain ⟨b1, o1, ro1, sz1, D, e1, ha, q0, g1, r1, q1⟩ := (r.fr f1).resolve_left hne
    subst ha
    obtain ⟨x1, x2⟩ := Rs.row Ct.len r1 q1 m hmC
    have x1' : (D.drop (o1 + m * 2)).take 2 = [.int .i64 C[m].no, .int .i64 C[m].fin] := x1
    have w1 : IntKind.i64.wrap ((i : Int) + (j : Int)) = ((i + j : Nat) : Int) := by rw [wrap_i64 (by omega) (by omega)]; omega
    have w2 : IntKind.u64.wrap ((i + j : Nat) : Int) = ((i + j : Nat) : Int) := wrap_u64 (by omega) (by omega)
    have w3 : IntKind.i64.wrap (((i + j) / 2 : Nat) : Int) = (m : Int) := by rw [wrap_i64 (by omega) (by omega)]; omega
    have fd : (((i + j : Nat) : Int)).fdiv 2 = (((i + j) / 2 : Nat) : Int) := by
      rw [Int.fdiv_eq_ediv_of_nonneg _ (by omega)]; omega
    refine wpC_block ?_
    refine sr (fun LL hLL => ?_)
    simp only [ptrTo, pend, pend0, Pd.old, pendU, pendU0, oxA0, oxA1, oxA2, oxA3, oxA4, oxA5, oxA6, oxA7, oxA8, oxA9, oxA10, oxL0, oxL1, oxTy0, oxTy1, oxTy2, ↓reduceIte, Nat.reduceAdd, Nat.reduceLeDiff, Nat.reduceLT, Nat.reduceEqDiff, Nat.reduceMul, Nat.reduceSub, Int.reduceEq, Int.reduceLT, Int.reduceLE, Int.reduceAdd, Int.reduceNeg, Int.reduceNe, Int.reduceToNat, Nat.testBit, Nat.reduceShiftRight, Nat.reduceAnd, Nat.reduceBneDiff, Nat.reduceBEq, gR_some, w1, cv1, w2, cv2]
    refine hLL _ _ ?_
    rw [show (((i + j : Nat) : Int)).fdiv (2 ^ min (Int.toNat 1) IntKind.u64.bits) = (((i + j) / 2 : Nat) : Int) from fd, w3]
    refine sr (fun LL hLL => ?_)
    simp only [ptrTo, pend, pend0, Pd.old, pendU, pendU0, oxA0, oxA1, oxA2, oxA3, oxA4, oxA5, oxA6, oxA7, oxA8, oxA9, oxA10, oxL0, oxL1, oxTy0, oxTy1, oxTy2, ↓reduceIte, Nat.reduceAdd, Nat.reduceLeDiff, Nat.reduceLT, Nat.reduceEqDiff, Nat.reduceMul, Nat.reduceSub, Int.reduceEq, Int.reduceLT, Int.reduceLE, Int.reduceAdd, Int.reduceNeg, Int.reduceNe, Int.reduceToNat, Nat.testBit, Nat.reduceShiftRight, Nat.reduceAnd, Nat.reduceBneDiff, Nat.reduceBEq, gR_some, ixF hmC, g1, x1', eq_true x2]
    refine cmp_any C[m] no _ _ fun h2 f2 => ?_
    have f3 : Fr h h2 [] := f1.trans f2 (fun _ k => k) (fun _ _ k => k)
    by_cases h0 : C[m].no ≤ no
    · rw [if_pos h0]
      simp only [ptrTo, pend, pend0, Pd.old, pendU, pendU0, oxA0, oxA1, oxA2, oxA3, oxA4, oxA5, oxA6, oxA7, oxA8, oxA9, oxA10, oxL0, oxL1, oxTy0, oxTy1, oxTy2, ↓reduceIte, Nat.reduceAdd, Nat.reduceLeDiff, Nat.reduceLT, Nat.reduceEqDiff, Nat.reduceMul, Nat.reduceSub, Int.reduceEq, Int.reduceLT, Int.reduceLE, Int.reduceAdd, Int.reduceNeg, Int.reduceNe, Int.reduceToNat, Nat.testBit, Nat.reduceShiftRight, Nat.reduceAnd, Nat.reduceBneDiff, Nat.reduceBEq, gR_some]
      refine hLL _ _ ?_
      refine wpC_if ?_
      simp only [ptrTo, pend, pend0, Pd.old, pendU, pendU0, oxA0, oxA1, oxA2, oxA3, oxA4, oxA5, oxA6, oxA7, oxA8, oxA9, oxA10, oxL0, oxL1, oxTy0, oxTy1, oxTy2, ↓reduceIte, Nat.reduceAdd, Nat.reduceLeDiff, Nat.reduceLT, Nat.reduceEqDiff, Nat.reduceMul, Nat.reduceSub, Int.reduceEq, Int.reduceLT, Int.reduceLE, Int.reduceAdd, Int.reduceNeg, Int.reduceNe, Int.reduceToNat, Nat.testBit, Nat.reduceShiftRight, Nat.reduceAnd, Nat.reduceBneDiff, Nat.reduceBEq, gR_some]
      have hw : IntKind.i64.wrap ((m : Int) + 1) = ((m + 1 : Nat) : Int) := by rw [wrap_i64 (by omega) (by omega)]; omega
      refine rg (fun LL hLL => ?_)
      simp only [ptrTo, pend, pend0, Pd.old, pendU, pendU0, oxA0, oxA1, oxA2, oxA3, oxA4, oxA5, oxA6, oxA7, oxA8, oxA9, oxA10, oxL0, oxL1, oxTy0, oxTy1, oxTy2, ↓reduceIte, Nat.reduceAdd, Nat.reduceLeDiff, Nat.reduceLT, Nat.reduceEqDiff, Nat.reduceMul, Nat.reduceSub, Int.reduceEq, Int.reduceLT, Int.reduceLE, Int.reduceAdd, Int.reduceNeg, Int.reduceNe, Int.reduceToNat, Nat.testBit, Nat.reduceShiftRight, Nat.reduceAnd, Nat.reduceBneDiff, Nat.reduceBEq, gR_some, hw]
      refine hLL _ _ ?_
      simp only [ptrTo, pend, pend0, Pd.old, pendU, pendU0, oxA0, oxA1, oxA2, oxA3, oxA4, oxA5, oxA6, oxA7, oxA8, oxA9, oxA10, oxL0, oxL1, oxTy0, oxTy1, oxTy2, ↓reduceIte, Nat.reduceAdd, Nat.reduceLeDiff, Nat.reduceLT, Nat.reduceEqDiff, Nat.reduceMul, Nat.reduceSub, Int.reduceEq, Int.reduceLT, Int.reduceLE, Int.reduceAdd, Int.reduceNeg, Int.reduceNe, Int.reduceToNat, Nat.testBit, Nat.reduceShiftRight, Nat.reduceAnd, Nat.reduceBneDiff, Nat.reduceBEq, gR_some]
      refine ⟨j - (m + 1), by omega, m + 1, j, _, by omega, hj, f3, ?_, p2, rfl⟩
      intro q hq hqm
      by_cases hqe : q = m
      · subst hqe; exact h0
      · have := hs q m hq hmC (by omega); omega
    · rw [if_neg h0]
      simp only [ptrTo, pend, pend0, Pd.old, pendU, pendU0, oxA0, oxA1, oxA2, oxA3, oxA4, oxA5, oxA6, oxA7, oxA8, oxA9, oxA10, oxL0, oxL1, oxTy0, oxTy1, oxTy2, ↓reduceIte, Nat.reduceAdd, Nat.reduceLeDiff, Nat.reduceLT, Nat.reduceEqDiff, Nat.reduceMul, Nat.reduceSub, Int.reduceEq, Int.reduceLT, Int.reduceLE, Int.reduceAdd, Int.reduceNeg, Int.reduceNe, Int.reduceToNat, Nat.testBit, Nat.reduceShiftRight, Nat.reduceAnd, Nat.reduceBneDiff, Nat.reduceBEq, gR_some]
      refine hLL _ _ ?_
      refine wpC_if ?_
      simp only [ptrTo, pend, pend0, Pd.old, pendU, pendU0, oxA0, oxA1, oxA2, oxA3, oxA4, oxA5, oxA6, oxA7, oxA8, oxA9, oxA10, oxL0, oxL1, oxTy0, oxTy1, oxTy2, ↓reduceIte, Nat.reduceAdd, Nat.reduceLeDiff, Nat.reduceLT, Nat.reduceEqDiff, Nat.reduceMul, Nat.reduceSub, Int.reduceEq, Int.reduceLT, Int.reduceLE, Int.reduceAdd, Int.reduceNeg, Int.reduceNe, Int.reduceToNat, Nat.testBit, Nat.reduceShiftRight, Nat.reduceAnd, Nat.reduceBneDiff, Nat.reduceBEq, gR_some]
      refine rg (fun LL hLL => ?_)
      simp only [ptrTo, pend, pend0, Pd.old, pendU, pendU0, oxA0, oxA1, oxA2, oxA3, oxA4, oxA5, oxA6, oxA7, oxA8, oxA9, oxA10, oxL0, oxL1, oxTy0, oxTy1, oxTy2, ↓reduceIte, Nat.reduceAdd, Nat.reduceLeDiff, Nat.reduceLT, Nat.reduceEqDiff, Nat.reduceMul, Nat.reduceSub, Int.reduceEq, Int.reduceLT, Int.reduceLE, Int.reduceAdd, Int.reduceNeg, Int.reduceNe, Int.reduceToNat, Nat.testBit, Nat.reduceShiftRight, Nat.reduceAnd, Nat.reduceBneDiff, Nat.reduceBEq, gR_some]
      refine hLL _ _ ?_
      simp only [ptrTo, pend, pend0, Pd.old, pendU, pendU0, oxA0, oxA1, oxA2, oxA3, oxA4, oxA5, oxA6, oxA7, oxA8, oxA9, oxA10, oxL0, oxL1, oxTy0, oxTy1, oxTy2, ↓reduceIte, Nat.reduceAdd, Nat.reduceLeDiff, Nat.reduceLT, Nat.reduceEqDiff, Nat.reduceMul, Nat.reduceSub, Int.reduceEq, Int.reduceLT, Int.reduceLE, Int.reduceAdd, Int.reduceNeg, Int.reduceNe, Int.reduceToNat, Nat.testBit, Nat.reduceShiftRight, Nat.reduceAnd, Nat.reduceBneDiff, Nat.reduceBEq, gR_some]
      refine ⟨m - i, by omega, i, m, _, by omega, by omega, f3, p1, ?_, rfl⟩
      intro q hq hqm
      by_cases hqe : q = m
      · subst hqe; omega
      · have := hs m q hmC hq (by omega); omega
  · have hij' : i = j := by omega
    subst hij'
    have hP : Parts C no i := ⟨hj, p1, p2⟩
    refine wpC_exit ?_
    simp only [ptrTo, pend, pend0, Pd.old, pendU, pendU0, oxA0, oxA1, oxA2, oxA3, oxA4, oxA5, oxA6, oxA7, oxA8, oxA9, oxA10, oxL0, oxL1, oxTy0, oxTy1, oxTy2, ↓reduceIte, Nat.reduceAdd, Nat.reduceLeDiff, Nat.reduceLT, Nat.reduceEqDiff, Nat.reduceMul, Nat.reduceSub, Int.reduceEq, Int.reduceLT, Int.reduceLE, Int.reduceAdd, Int.reduceNeg, Int.reduceNe, Int.reduceToNat, Nat.testBit, Nat.reduceShiftRight, Nat.reduceAnd, Nat.reduceBneDiff, Nat.reduceBEq, gR_some]
    refine fg11 (fun R => ?_)
    by_cases hi : i < C.length
    · have hne : C ≠ [] := by rintro rfl; simp at hi
      obtain ⟨b1, o1, ro1, sz1, D, e1, ha, q0, g1, r1, q1⟩ := (r.fr f1).resolve_left hne
      subst ha
      obtain ⟨x1, x2⟩ := Rs.row Ct.len r1 q1 i hi
      have x1' : (D.drop (o1 + i * 2)).take 2 = [.int .i64 C[i].no, .int .i64 C[i].fin] := x1
      have e1 : ((i : Int) < (C.length : Int)) = True := by simp; omega
      refine sr (fun LL hLL => ?_)
      simp only [ptrTo, pend, pend0, Pd.old, pendU, pendU0, oxA0, oxA1, oxA2, oxA3, oxA4, oxA5, oxA6, oxA7, oxA8, oxA9, oxA10, oxL0, oxL1, oxTy0, oxTy1, oxTy2, ↓reduceIte, Nat.reduceAdd, Nat.reduceLeDiff, Nat.reduceLT, Nat.reduceEqDiff, Nat.reduceMul, Nat.reduceSub, Int.reduceEq, Int.reduceLT, Int.reduceLE, Int.reduceAdd, Int.reduceNeg, Int.reduceNe, Int.reduceToNat, Nat.testBit, Nat.reduceShiftRight, Nat.reduceAnd, Nat.reduceBneDiff, Nat.reduceBEq, gR_some, e1, ixF hi, g1, x1', eq_true x2]
      refine cmp_any C[i] no _ _ fun h2 f2 => ?_
      simp only [ptrTo, pend, pend0, Pd.old, pendU, pendU0, oxA0, oxA1, oxA2, oxA3, oxA4, oxA5, oxA6, oxA7, oxA8, oxA9, oxA10, oxL0, oxL1, oxTy0, oxTy1, oxTy2, ↓reduceIte, Nat.reduceAdd, Nat.reduceLeDiff, Nat.reduceLT, Nat.reduceEqDiff, Nat.reduceMul, Nat.reduceSub, Int.reduceEq, Int.reduceLT, Int.reduceLE, Int.reduceAdd, Int.reduceNeg, Int.reduceNe, Int.reduceToNat, Nat.testBit, Nat.reduceShiftRight, Nat.reduceAnd, Nat.reduceBneDiff, Nat.reduceBEq, gR_some]
      refine hLL _ _ ?_
      refine wpC_ret (out_ret ?_)
      simp only [ptrTo, pend, pend0, Pd.old, pendU, pendU0, oxA0, oxA1, oxA2, oxA3, oxA4, oxA5, oxA6, oxA7, oxA8, oxA9, oxA10, oxL0, oxL1, oxTy0, oxTy1, oxTy2, ↓reduceIte, Nat.reduceAdd, Nat.reduceLeDiff, Nat.reduceLT, Nat.reduceEqDiff, Nat.reduceMul, Nat.reduceSub, Int.reduceEq, Int.reduceLT, Int.reduceLE, Int.reduceAdd, Int.reduceNeg, Int.reduceNe, Int.reduceToNat, Nat.testBit, Nat.reduceShiftRight, Nat.reduceAnd, Nat.reduceBneDiff, Nat.reduceBEq, gR_some]
      exact hk i _ h2 (f1.trans f2 (fun _ k => k) (fun _ _ k => k)) hP
    · have e1 : ((i : Int) < (C.length : Int)) = False := by simp; omega
      refine sr (fun LL hLL => ?_)
      simp only [ptrTo, pend, pend0, Pd.old, pendU, pendU0, oxA0, oxA1, oxA2, oxA3, oxA4, oxA5, oxA6, oxA7, oxA8, oxA9, oxA10, oxL0, oxL1, oxTy0, oxTy1, oxTy2, ↓reduceIte, Nat.reduceAdd, Nat.reduceLeDiff, Nat.reduceLT, Nat.reduceEqDiff, Nat.reduceMul, Nat.reduceSub, Int.reduceEq, Int.reduceLT, Int.reduceLE, Int.reduceAdd, Int.reduceNeg, Int.reduceNe, Int.reduceToNat, Nat.testBit, Nat.reduceShiftRight, Nat.reduceAnd, Nat.reduceBneDiff, Nat.reduceBEq, gR_some, e1]
      refine hLL _ _ ?_
      refine wpC_ret (out_ret ?_)
      simp only [ptrTo, pend, pend0, Pd.old, pendU, pendU0, oxA0, oxA1, oxA2, oxA3, oxA4, oxA5, oxA6, oxA7, oxA8, oxA9, oxA10, oxL0, oxL1, oxTy0, oxTy1, oxTy2, ↓reduceIte, Nat.reduceAdd, Nat.reduceLeDiff, Nat.reduceLT, Nat.reduceEqDiff, Nat.reduceMul, Nat.reduceSub, Int.reduceEq, Int.reduceLT, Int.reduceLE, Int.reduceAdd, Int.reduceNeg, Int.reduceNe, Int.reduceToNat, Nat.testBit, Nat.reduceShiftRight, Nat.reduceAnd, Nat.reduceBneDiff, Nat.reduceBEq, gR_some]
      exact hk i _ h' f1 hP
end Go.Proofs
