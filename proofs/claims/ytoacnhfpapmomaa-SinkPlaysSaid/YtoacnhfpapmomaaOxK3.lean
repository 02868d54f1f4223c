/-
  The sink: note, Cuts. CONDITIONS: none.
-/
import Derived.Test.YtoacnhfpapmomaaOxK2
set_option linter.unusedSimpArgs false
set_option linter.unusedVariables false
namespace Go.Proofs
open Go Go.Ox
set_option maxRecDepth 100000
set_option maxHeartbeats 2000000
def above (last : Option Int) (no : Int) : Prop := ∀ m, last = some m → m < no
theorem note_any (p : Nat) (O : List Nat) (R : List Rc) (C : List Ct) (last : Option Int) (no : Int) (h : AHeap) (K : Value → AHeap → Prop) (s : Sk h p O R C last)
    (hk1 : ¬ above last no → ∀ h', Fr h h' [] → Sk h' p O R C last → K (.bool false) h')
    (hk2 : above last no → ∀ O' h', Fr h h' O → (∀ β ∈ O', β ∈ O ∨ h.next ≤ β) → Sk h' p O' R C (some no) → K (.bool true) h') : wpF Try.prog (.fn 26) [.pointer (some ⟨p, 0, none⟩), .int .i64 no] h K := by
  have s0 := s
  obtain ⟨a1, a2, c1, c2, v3, B1, B2, B3, s, rfl⟩ := s
  have lp := s.lp
  have gp := s.get
  have n1 := ne_of_lt' lp
  have lt1 := s.w1.lt
  have lt2 := s.w2.lt
  have lt3 := s.w3.lt
  refine wpF_fun 23 [.tmp 4] Try.func26 rfl rfl rfl rfl ?_
  refine sr (fun LL hLL => ?_)
  simp only [ptrTo, pend, pend0, Pd.old, pendU, pendU0, oxA0, oxA1, oxA2, oxA3, oxA4, oxA5, oxA6, oxA7, oxA8, oxA9, oxA10, oxL0, oxL1, oxTy0, oxTy1, oxTy2, ↓reduceIte, Nat.reduceAdd, Nat.reduceLeDiff, Nat.reduceLT, Nat.reduceEqDiff, Nat.reduceMul, Nat.reduceSub, Int.reduceEq, Int.reduceLT, Int.reduceLE, Int.reduceAdd, Int.reduceNeg, Int.reduceNe, Int.reduceToNat, Nat.testBit, Nat.reduceShiftRight, Nat.reduceAnd, Nat.reduceBneDiff, Nat.reduceBEq, gR_some]
  refine hLL _ _ ?_
  have f1 := Fr.push h (.cells false 0 [.int .i64 no] 3)
  have s1 := s.to f1 (fun _ _ k => by cases k)
  have fin : above last no → ∀ h2, h2 = (h.push (.cells false 0 [.int .i64 no] 3)).set p (.cells false 0 [.slice a1 R.length c1, .slice a2 C.length c2, .pointer (some ⟨h.next, 0, none⟩)] 50) → K (.bool true) h2 := by
    intro hab h2 e2
    subst e2
    have fs := Fr.set (h.push (.cells false 0 [.int .i64 no] 3)) p (.cells false 0 [.slice a1 R.length c1, .slice a2 C.length c2, .pointer (some ⟨h.next, 0, none⟩)] 50)
    have z1 : (h.next = p) = False := by simp; omega
    refine hk2 hab (p :: (B1 ++ B2 ++ [h.next])) _ ((f1.weaken (by simp)).to_set _ (.inr (by simp))) ?_ ⟨a1, a2, c1, c2, _, B1, B2, [h.next], ⟨by simp only [AHeap.get_set, AHeap.get_push, AHeap.get_del, AHeap.next_set, AHeap.next_push, AHeap.next_del]; omega, by simp only [AHeap.get_set, AHeap.get_push, AHeap.get_del, AHeap.next_set, AHeap.next_push, AHeap.next_del, if_true], s1.w1.to fs (fun b hb k => by simp at k; subst k; exact s.n1 hb), s1.w2.to fs (fun b hb k => by simp at k; subst k; exact s.n2 hb), .inr ⟨h.next, no, rfl, rfl, rfl, by simp only [AHeap.get_set, AHeap.get_push, AHeap.get_del, AHeap.next_set, AHeap.next_push, AHeap.next_del]; omega, by simp only [AHeap.get_set, AHeap.get_push, AHeap.get_del, AHeap.next_set, AHeap.next_push, AHeap.next_del, z1, if_true, if_false]⟩, s.n1, s.n2, by simp; omega, s.d12, ?_, ?_⟩, rfl⟩
    · intro β hβ
      simp only [List.mem_cons, List.mem_append, List.not_mem_nil, or_false] at hβ ⊢
      rcases hβ with rfl | (hβ | hβ) | rfl
      · simp
      · simp [hβ]
      · simp [hβ]
      · exact .inr (Nat.le_refl _)
    · intro β hβ k
      simp at k; have := lt1 β hβ; omega
    · intro β hβ k
      simp at k; have := lt2 β hβ; omega
  rcases s.w3 with ⟨rfl, rfl, rfl⟩ | ⟨q, m, rfl, rfl, rfl, w4, w5⟩
  · have hab : above none no := fun _ k => by cases k
    refine wpC_seq ?_
    refine su [some 5, some 6, some 7, some 8, some 9, some 10, some 11, some 12, some 13, some 14, some 15, some 16, some 17, some 18, some 19] 15 [0, 1, 3, 7, 15, 31, 63, 63, 191, 447, 959, 1983, 4031, 8191, 16383] (by rfl) (by rfl) (by decide +kernel) (by decide +kernel) (by decide +kernel) (fun LL hLL => ?_)
    simp only [ptrTo, pend, pend0, Pd.old, pendU, pendU0, oxA0, oxA1, oxA2, oxA3, oxA4, oxA5, oxA6, oxA7, oxA8, oxA9, oxA10, oxL0, oxL1, oxTy0, oxTy1, oxTy2, ↓reduceIte, Nat.reduceAdd, Nat.reduceLeDiff, Nat.reduceLT, Nat.reduceEqDiff, Nat.reduceMul, Nat.reduceSub, Int.reduceEq, Int.reduceLT, Int.reduceLE, Int.reduceAdd, Int.reduceNeg, Int.reduceNe, Int.reduceToNat, Nat.testBit, Nat.reduceShiftRight, Nat.reduceAnd, Nat.reduceBneDiff, Nat.reduceBEq, gR_some, AHeap.get_set, AHeap.get_push, AHeap.get_del, AHeap.next_set, AHeap.next_push, AHeap.next_del, n1, gp]
    refine hLL _ _ ?_
    refine wpC_if ?_
    simp only [ptrTo, pend, pend0, Pd.old, pendU, pendU0, oxA0, oxA1, oxA2, oxA3, oxA4, oxA5, oxA6, oxA7, oxA8, oxA9, oxA10, oxL0, oxL1, oxTy0, oxTy1, oxTy2, ↓reduceIte, Nat.reduceAdd, Nat.reduceLeDiff, Nat.reduceLT, Nat.reduceEqDiff, Nat.reduceMul, Nat.reduceSub, Int.reduceEq, Int.reduceLT, Int.reduceLE, Int.reduceAdd, Int.reduceNeg, Int.reduceNe, Int.reduceToNat, Nat.testBit, Nat.reduceShiftRight, Nat.reduceAnd, Nat.reduceBneDiff, Nat.reduceBEq, gR_some]
    refine wpC_skip ?_
    simp only [ptrTo, pend, pend0, Pd.old, pendU, pendU0, oxA0, oxA1, oxA2, oxA3, oxA4, oxA5, oxA6, oxA7, oxA8, oxA9, oxA10, oxL0, oxL1, oxTy0, oxTy1, oxTy2, ↓reduceIte, Nat.reduceAdd, Nat.reduceLeDiff, Nat.reduceLT, Nat.reduceEqDiff, Nat.reduceMul, Nat.reduceSub, Int.reduceEq, Int.reduceLT, Int.reduceLE, Int.reduceAdd, Int.reduceNeg, Int.reduceNe, Int.reduceToNat, Nat.testBit, Nat.reduceShiftRight, Nat.reduceAnd, Nat.reduceBneDiff, Nat.reduceBEq, gR_some]
    refine sr (fun LL hLL => ?_)
    simp only [ptrTo, pend, pend0, Pd.old, pendU, pendU0, oxA0, oxA1, oxA2, oxA3, oxA4, oxA5, oxA6, oxA7, oxA8, oxA9, oxA10, oxL0, oxL1, oxTy0, oxTy1, oxTy2, ↓reduceIte, Nat.reduceAdd, Nat.reduceLeDiff, Nat.reduceLT, Nat.reduceEqDiff, Nat.reduceMul, Nat.reduceSub, Int.reduceEq, Int.reduceLT, Int.reduceLE, Int.reduceAdd, Int.reduceNeg, Int.reduceNe, Int.reduceToNat, Nat.testBit, Nat.reduceShiftRight, Nat.reduceAnd, Nat.reduceBneDiff, Nat.reduceBEq, gR_some, AHeap.get_set, AHeap.get_push, AHeap.get_del, AHeap.next_set, AHeap.next_push, AHeap.next_del, n1, gp]
    refine hLL _ _ ?_
    refine sr (fun LL hLL => ?_)
    simp only [ptrTo, pend, pend0, Pd.old, pendU, pendU0, oxA0, oxA1, oxA2, oxA3, oxA4, oxA5, oxA6, oxA7, oxA8, oxA9, oxA10, oxL0, oxL1, oxTy0, oxTy1, oxTy2, ↓reduceIte, Nat.reduceAdd, Nat.reduceLeDiff, Nat.reduceLT, Nat.reduceEqDiff, Nat.reduceMul, Nat.reduceSub, Int.reduceEq, Int.reduceLT, Int.reduceLE, Int.reduceAdd, Int.reduceNeg, Int.reduceNe, Int.reduceToNat, Nat.testBit, Nat.reduceShiftRight, Nat.reduceAnd, Nat.reduceBneDiff, Nat.reduceBEq, gR_some]
    refine hLL _ _ ?_
    refine wpC_ret (out_ret ?_)
    simp only [ptrTo, pend, pend0, Pd.old, pendU, pendU0, oxA0, oxA1, oxA2, oxA3, oxA4, oxA5, oxA6, oxA7, oxA8, oxA9, oxA10, oxL0, oxL1, oxTy0, oxTy1, oxTy2, ↓reduceIte, Nat.reduceAdd, Nat.reduceLeDiff, Nat.reduceLT, Nat.reduceEqDiff, Nat.reduceMul, Nat.reduceSub, Int.reduceEq, Int.reduceLT, Int.reduceLE, Int.reduceAdd, Int.reduceNeg, Int.reduceNe, Int.reduceToNat, Nat.testBit, Nat.reduceShiftRight, Nat.reduceAnd, Nat.reduceBneDiff, Nat.reduceBEq, gR_some]
    exact fin hab _ rfl
  · have nq : (q = h.next) = False := by simp; omega
    by_cases hm : no ≤ m
    · refine wpC_seq ?_
      refine su [some 5, some 6, some 7, some 8, some 9, some 10, some 11, some 12, some 13, some 14, some 15, some 16, some 17, some 18, some 19] 15 [0, 1, 3, 7, 15, 31, 63, 63, 191, 447, 959, 1983, 4031, 8191, 16383] (by rfl) (by rfl) (by decide +kernel) (by decide +kernel) (by decide +kernel) (fun LL hLL => ?_)
      simp only [ptrTo, pend, pend0, Pd.old, pendU, pendU0, oxA0, oxA1, oxA2, oxA3, oxA4, oxA5, oxA6, oxA7, oxA8, oxA9, oxA10, oxL0, oxL1, oxTy0, oxTy1, oxTy2, ↓reduceIte, Nat.reduceAdd, Nat.reduceLeDiff, Nat.reduceLT, Nat.reduceEqDiff, Nat.reduceMul, Nat.reduceSub, Int.reduceEq, Int.reduceLT, Int.reduceLE, Int.reduceAdd, Int.reduceNeg, Int.reduceNe, Int.reduceToNat, Nat.testBit, Nat.reduceShiftRight, Nat.reduceAnd, Nat.reduceBneDiff, Nat.reduceBEq, gR_some, AHeap.get_set, AHeap.get_push, AHeap.get_del, AHeap.next_set, AHeap.next_push, AHeap.next_del, n1, gp, nq, w5, eq_true hm]
      refine hLL _ _ ?_
      refine wpC_if ?_
      simp only [ptrTo, pend, pend0, Pd.old, pendU, pendU0, oxA0, oxA1, oxA2, oxA3, oxA4, oxA5, oxA6, oxA7, oxA8, oxA9, oxA10, oxL0, oxL1, oxTy0, oxTy1, oxTy2, ↓reduceIte, Nat.reduceAdd, Nat.reduceLeDiff, Nat.reduceLT, Nat.reduceEqDiff, Nat.reduceMul, Nat.reduceSub, Int.reduceEq, Int.reduceLT, Int.reduceLE, Int.reduceAdd, Int.reduceNeg, Int.reduceNe, Int.reduceToNat, Nat.testBit, Nat.reduceShiftRight, Nat.reduceAnd, Nat.reduceBneDiff, Nat.reduceBEq, gR_some]
      refine sr (fun LL hLL => ?_)
      simp only [ptrTo, pend, pend0, Pd.old, pendU, pendU0, oxA0, oxA1, oxA2, oxA3, oxA4, oxA5, oxA6, oxA7, oxA8, oxA9, oxA10, oxL0, oxL1, oxTy0, oxTy1, oxTy2, ↓reduceIte, Nat.reduceAdd, Nat.reduceLeDiff, Nat.reduceLT, Nat.reduceEqDiff, Nat.reduceMul, Nat.reduceSub, Int.reduceEq, Int.reduceLT, Int.reduceLE, Int.reduceAdd, Int.reduceNeg, Int.reduceNe, Int.reduceToNat, Nat.testBit, Nat.reduceShiftRight, Nat.reduceAnd, Nat.reduceBneDiff, Nat.reduceBEq, gR_some]
      refine hLL _ _ ?_
      refine wpC_ret (out_ret ?_)
      simp only [ptrTo, pend, pend0, Pd.old, pendU, pendU0, oxA0, oxA1, oxA2, oxA3, oxA4, oxA5, oxA6, oxA7, oxA8, oxA9, oxA10, oxL0, oxL1, oxTy0, oxTy1, oxTy2, ↓reduceIte, Nat.reduceAdd, Nat.reduceLeDiff, Nat.reduceLT, Nat.reduceEqDiff, Nat.reduceMul, Nat.reduceSub, Int.reduceEq, Int.reduceLT, Int.reduceLE, Int.reduceAdd, Int.reduceNeg, Int.reduceNe, Int.reduceToNat, Nat.testBit, Nat.reduceShiftRight, Nat.reduceAnd, Nat.reduceBneDiff, Nat.reduceBEq, gR_some]
      exact hk1 (fun k => by have := k m rfl; omega) _ f1 (s0.fr f1)
    · refine wpC_seq ?_
      refine su [some 5, some 6, some 7, some 8, some 9, some 10, some 11, some 12, some 13, some 14, some 15, some 16, some 17, some 18, some 19] 15 [0, 1, 3, 7, 15, 31, 63, 63, 191, 447, 959, 1983, 4031, 8191, 16383] (by rfl) (by rfl) (by decide +kernel) (by decide +kernel) (by decide +kernel) (fun LL hLL => ?_)
      simp only [ptrTo, pend, pend0, Pd.old, pendU, pendU0, oxA0, oxA1, oxA2, oxA3, oxA4, oxA5, oxA6, oxA7, oxA8, oxA9, oxA10, oxL0, oxL1, oxTy0, oxTy1, oxTy2, ↓reduceIte, Nat.reduceAdd, Nat.reduceLeDiff, Nat.reduceLT, Nat.reduceEqDiff, Nat.reduceMul, Nat.reduceSub, Int.reduceEq, Int.reduceLT, Int.reduceLE, Int.reduceAdd, Int.reduceNeg, Int.reduceNe, Int.reduceToNat, Nat.testBit, Nat.reduceShiftRight, Nat.reduceAnd, Nat.reduceBneDiff, Nat.reduceBEq, gR_some, AHeap.get_set, AHeap.get_push, AHeap.get_del, AHeap.next_set, AHeap.next_push, AHeap.next_del, n1, gp, nq, w5, eq_false hm]
      refine hLL _ _ ?_
      refine wpC_if ?_
      simp only [ptrTo, pend, pend0, Pd.old, pendU, pendU0, oxA0, oxA1, oxA2, oxA3, oxA4, oxA5, oxA6, oxA7, oxA8, oxA9, oxA10, oxL0, oxL1, oxTy0, oxTy1, oxTy2, ↓reduceIte, Nat.reduceAdd, Nat.reduceLeDiff, Nat.reduceLT, Nat.reduceEqDiff, Nat.reduceMul, Nat.reduceSub, Int.reduceEq, Int.reduceLT, Int.reduceLE, Int.reduceAdd, Int.reduceNeg, Int.reduceNe, Int.reduceToNat, Nat.testBit, Nat.reduceShiftRight, Nat.reduceAnd, Nat.reduceBneDiff, Nat.reduceBEq, gR_some]
      refine wpC_skip ?_
      simp only [ptrTo, pend, pend0, Pd.old, pendU, pendU0, oxA0, oxA1, oxA2, oxA3, oxA4, oxA5, oxA6, oxA7, oxA8, oxA9, oxA10, oxL0, oxL1, oxTy0, oxTy1, oxTy2, ↓reduceIte, Nat.reduceAdd, Nat.reduceLeDiff, Nat.reduceLT, Nat.reduceEqDiff, Nat.reduceMul, Nat.reduceSub, Int.reduceEq, Int.reduceLT, Int.reduceLE, Int.reduceAdd, Int.reduceNeg, Int.reduceNe, Int.reduceToNat, Nat.testBit, Nat.reduceShiftRight, Nat.reduceAnd, Nat.reduceBneDiff, Nat.reduceBEq, gR_some]
      refine sr (fun LL hLL => ?_)
      simp only [ptrTo, pend, pend0, Pd.old, pendU, pendU0, oxA0, oxA1, oxA2, oxA3, oxA4, oxA5, oxA6, oxA7, oxA8, oxA9, oxA10, oxL0, oxL1, oxTy0, oxTy1, oxTy2, ↓reduceIte, Nat.reduceAdd, Nat.reduceLeDiff, Nat.reduceLT, Nat.reduceEqDiff, Nat.reduceMul, Nat.reduceSub, Int.reduceEq, Int.reduceLT, Int.reduceLE, Int.reduceAdd, Int.reduceNeg, Int.reduceNe, Int.reduceToNat, Nat.testBit, Nat.reduceShiftRight, Nat.reduceAnd, Nat.reduceBneDiff, Nat.reduceBEq, gR_some, AHeap.get_set, AHeap.get_push, AHeap.get_del, AHeap.next_set, AHeap.next_push, AHeap.next_del, n1, gp]
      refine hLL _ _ ?_
      refine sr (fun LL hLL => ?_)
      simp only [ptrTo, pend, pend0, Pd.old, pendU, pendU0, oxA0, oxA1, oxA2, oxA3, oxA4, oxA5, oxA6, oxA7, oxA8, oxA9, oxA10, oxL0, oxL1, oxTy0, oxTy1, oxTy2, ↓reduceIte, Nat.reduceAdd, Nat.reduceLeDiff, Nat.reduceLT, Nat.reduceEqDiff, Nat.reduceMul, Nat.reduceSub, Int.reduceEq, Int.reduceLT, Int.reduceLE, Int.reduceAdd, Int.reduceNeg, Int.reduceNe, Int.reduceToNat, Nat.testBit, Nat.reduceShiftRight, Nat.reduceAnd, Nat.reduceBneDiff, Nat.reduceBEq, gR_some]
      refine hLL _ _ ?_
      refine wpC_ret (out_ret ?_)
      simp only [ptrTo, pend, pend0, Pd.old, pendU, pendU0, oxA0, oxA1, oxA2, oxA3, oxA4, oxA5, oxA6, oxA7, oxA8, oxA9, oxA10, oxL0, oxL1, oxTy0, oxTy1, oxTy2, ↓reduceIte, Nat.reduceAdd, Nat.reduceLeDiff, Nat.reduceLT, Nat.reduceEqDiff, Nat.reduceMul, Nat.reduceSub, Int.reduceEq, Int.reduceLT, Int.reduceLE, Int.reduceAdd, Int.reduceNeg, Int.reduceNe, Int.reduceToNat, Nat.testBit, Nat.reduceShiftRight, Nat.reduceAnd, Nat.reduceBneDiff, Nat.reduceBEq, gR_some]
      exact fin (fun k hk => by cases hk; omega) _ rfl

/-- The numbers of cuts. -/
theorem Cuts_any (p : Nat) (O : List Nat) (R : List Rc) (C : List Ct) (last : Option Int) (h : AHeap) (K : Value → AHeap → Prop) (s : Sk h p O R C last) (hc : C.length < 1000000)
    (hk : ∀ a c B h', Fr h h' [] → Wn icell 1 3 h' a c (C.map (·.no)) B → (∀ β ∈ B, h.next ≤ β) → K (.slice a (C.map (·.no)).length c) h') : wpF Try.prog (.fn 19) [.pointer (some ⟨p, 0, none⟩)] h K := by
  obtain ⟨a1, a2, c1, c2, v3, B1, B2, B3, s, rfl⟩ := s
  have gp := s.get
  have rs := s.w2.rs Ct.len
  refine wpF_fun 22 [.tmp 2] Try.func19 rfl rfl rfl rfl ?_
  refine sr (fun LL hLL => ?_)
  simp only [ptrTo, pend, pend0, Pd.old, pendU, pendU0, oxA0, oxA1, oxA2, oxA3, oxA4, oxA5, oxA6, oxA7, oxA8, oxA9, oxA10, oxL0, oxL1, oxTy0, oxTy1, oxTy2, ↓reduceIte, Nat.reduceAdd, Nat.reduceLeDiff, Nat.reduceLT, Nat.reduceEqDiff, Nat.reduceMul, Nat.reduceSub, Int.reduceEq, Int.reduceLT, Int.reduceLE, Int.reduceAdd, Int.reduceNeg, Int.reduceNe, Int.reduceToNat, Nat.testBit, Nat.reduceShiftRight, Nat.reduceAnd, Nat.reduceBneDiff, Nat.reduceBEq, gR_some]
  refine hLL _ _ ?_
  refine sr (fun LL hLL => ?_)
  simp only [ptrTo, pend, pend0, Pd.old, pendU, pendU0, oxA0, oxA1, oxA2, oxA3, oxA4, oxA5, oxA6, oxA7, oxA8, oxA9, oxA10, oxL0, oxL1, oxTy0, oxTy1, oxTy2, ↓reduceIte, Nat.reduceAdd, Nat.reduceLeDiff, Nat.reduceLT, Nat.reduceEqDiff, Nat.reduceMul, Nat.reduceSub, Int.reduceEq, Int.reduceLT, Int.reduceLE, Int.reduceAdd, Int.reduceNeg, Int.reduceNe, Int.reduceToNat, Nat.testBit, Nat.reduceShiftRight, Nat.reduceAnd, Nat.reduceBneDiff, Nat.reduceBEq, gR_some]
  refine hLL _ _ ?_
  refine wpC_seq ?_
  refine sr (fun LL hLL => ?_)
  simp only [ptrTo, pend, pend0, Pd.old, pendU, pendU0, oxA0, oxA1, oxA2, oxA3, oxA4, oxA5, oxA6, oxA7, oxA8, oxA9, oxA10, oxL0, oxL1, oxTy0, oxTy1, oxTy2, ↓reduceIte, Nat.reduceAdd, Nat.reduceLeDiff, Nat.reduceLT, Nat.reduceEqDiff, Nat.reduceMul, Nat.reduceSub, Int.reduceEq, Int.reduceLT, Int.reduceLE, Int.reduceAdd, Int.reduceNeg, Int.reduceNe, Int.reduceToNat, Nat.testBit, Nat.reduceShiftRight, Nat.reduceAnd, Nat.reduceBneDiff, Nat.reduceBEq, gR_some, gp]
  refine hLL _ _ ?_
  refine fg12 (fun R => ?_)
  refine wpC_block ?_
  refine wpC_loop (fun k T h' => ∃ (i : Nat) (a : Option Addr) (c : Nat) (B : List Nat) (t4 t5 t6 t7 t8 : Value) (R : List Value), k + i = C.length ∧ Fr h h' [] ∧ Wn icell 1 3 h' a c ((C.take i).map (·.no)) B ∧ (∀ β ∈ B, h.next ≤ β) ∧
    T = .pointer (some ⟨p, 0, none⟩) :: undef :: .slice none 0 0 :: .slice a ((C.take i).map (·.no)).length c :: t4 :: t5 :: t6 :: t7 :: t8 :: .slice a2 C.length c2 :: .int .i64 C.length :: .int .i64 i :: R) ?_ C.length _ _ ⟨0, none, 0, [], _, _, _, _, _, R, by omega, Fr.refl h [], .inl ⟨rfl, rfl, rfl, rfl⟩, by simp, rfl⟩
  rintro k T h' ⟨i, a, c, B, t4, t5, t6, t7, t8, R, hi, f1, w, hB, rfl⟩
  have lB := w.lt
  have nx1 := f1.next
  refine sr (fun LL hLL => ?_)
  simp only [ptrTo, pend, pend0, Pd.old, pendU, pendU0, oxA0, oxA1, oxA2, oxA3, oxA4, oxA5, oxA6, oxA7, oxA8, oxA9, oxA10, oxL0, oxL1, oxTy0, oxTy1, oxTy2, ↓reduceIte, Nat.reduceAdd, Nat.reduceLeDiff, Nat.reduceLT, Nat.reduceEqDiff, Nat.reduceMul, Nat.reduceSub, Int.reduceEq, Int.reduceLT, Int.reduceLE, Int.reduceAdd, Int.reduceNeg, Int.reduceNe, Int.reduceToNat, Nat.testBit, Nat.reduceShiftRight, Nat.reduceAnd, Nat.reduceBneDiff, Nat.reduceBEq, gR_some]
  refine hLL _ _ ?_
  refine wpC_seq ?_
  refine wpC_if ?_
  simp only [ptrTo, pend, pend0, Pd.old, pendU, pendU0, oxA0, oxA1, oxA2, oxA3, oxA4, oxA5, oxA6, oxA7, oxA8, oxA9, oxA10, oxL0, oxL1, oxTy0, oxTy1, oxTy2, ↓reduceIte, Nat.reduceAdd, Nat.reduceLeDiff, Nat.reduceLT, Nat.reduceEqDiff, Nat.reduceMul, Nat.reduceSub, Int.reduceEq, Int.reduceLT, Int.reduceLE, Int.reduceAdd, Int.reduceNeg, Int.reduceNe, Int.reduceToNat, Nat.testBit, Nat.reduceShiftRight, Nat.reduceAnd, Nat.reduceBneDiff, Nat.reduceBEq, gR_some]
  refine gC_of (fun hc => ?_) (fun hc => ?_)
  · refine wpC_skip ?_
    simp only [ptrTo, pend, pend0, Pd.old, pendU, pendU0, oxA0, oxA1, oxA2, oxA3, oxA4, oxA5, oxA6, oxA7, oxA8, oxA9, oxA10, oxL0, oxL1, oxTy0, oxTy1, oxTy2, ↓reduceIte, Nat.reduceAdd, Nat.reduceLeDiff, Nat.reduceLT, Nat.reduceEqDiff, Nat.reduceMul, Nat.reduceSub, Int.reduceEq, Int.reduceLT, Int.reduceLE, Int.reduceAdd, Int.reduceNeg, Int.reduceNe, Int.reduceToNat, Nat.testBit, Nat.reduceShiftRight, Nat.reduceAnd, Nat.reduceBneDiff, Nat.reduceBEq, gR_some]
    refine fg12 (fun R => ?_)
    have hi' : i < C.length := by omega
    have hne : C ≠ [] := by rintro rfl; simp at hi'
    obtain ⟨b1, o1, ro1, sz1, D, e1, rfl, p1, g1, r1, q1⟩ := rs.resolve_left hne
    obtain ⟨x1, x2⟩ := Rs.row Ct.len r1 q1 i hi'
    have x1' : (D.drop (o1 + i * 2)).take 2 = [.int .i64 C[i].no, .int .i64 C[i].fin] := x1
    have g1' := f1.at g1 p1 (by simp)
    have nb : (b1 = h'.next) = False := by simp; omega
    refine wpC_seq (wpC_block ?_)
    refine sr (fun LL hLL => ?_)
    simp only [ptrTo, pend, pend0, Pd.old, pendU, pendU0, oxA0, oxA1, oxA2, oxA3, oxA4, oxA5, oxA6, oxA7, oxA8, oxA9, oxA10, oxL0, oxL1, oxTy0, oxTy1, oxTy2, ↓reduceIte, Nat.reduceAdd, Nat.reduceLeDiff, Nat.reduceLT, Nat.reduceEqDiff, Nat.reduceMul, Nat.reduceSub, Int.reduceEq, Int.reduceLT, Int.reduceLE, Int.reduceAdd, Int.reduceNeg, Int.reduceNe, Int.reduceToNat, Nat.testBit, Nat.reduceShiftRight, Nat.reduceAnd, Nat.reduceBneDiff, Nat.reduceBEq, gR_some, AHeap.get_set, AHeap.get_push, AHeap.get_del, AHeap.next_set, AHeap.next_push, AHeap.next_del, ixF hi', g1', x1', eq_true x2]
    refine hLL _ _ ?_
    have zz : aZeros [.int .i64 0] 1 = [.int .i64 0] := rfl
    have z1 : (h'.next = h'.next + 1) = False := by simp
    refine rg (fun LL hLL => ?_)
    simp only [ptrTo, pend, pend0, Pd.old, pendU, pendU0, oxA0, oxA1, oxA2, oxA3, oxA4, oxA5, oxA6, oxA7, oxA8, oxA9, oxA10, oxL0, oxL1, oxTy0, oxTy1, oxTy2, ↓reduceIte, Nat.reduceAdd, Nat.reduceLeDiff, Nat.reduceLT, Nat.reduceEqDiff, Nat.reduceMul, Nat.reduceSub, Int.reduceEq, Int.reduceLT, Int.reduceLE, Int.reduceAdd, Int.reduceNeg, Int.reduceNe, Int.reduceToNat, Nat.testBit, Nat.reduceShiftRight, Nat.reduceAnd, Nat.reduceBneDiff, Nat.reduceBEq, gR_some, AHeap.get_set, AHeap.get_push, AHeap.get_del, AHeap.next_set, AHeap.next_push, AHeap.next_del, z1, zz]
    obtain ⟨h1, eh⟩ : ∃ h1, h1 = ((h'.push (.cells false 0 [.int .i64 0, .int .i64 0] 56)).set h'.next (.cells false 0 [.int .i64 C[i].no, .int .i64 C[i].fin] 56)).push (.cells false 1 [.int .i64 C[i].no] 3) := ⟨_, rfl⟩
    have fh : Fr h' h1 [] := by rw [eh]; exact ((Fr.push h' _).to_set _ (.inl (by omega))).to_push _
    have gh : h1.get (h'.next + 1) = some (.cells false 1 [.int .i64 C[i].no] 3) := by rw [eh]; simp only [AHeap.get_set, AHeap.get_push, AHeap.get_del, AHeap.next_set, AHeap.next_push, AHeap.next_del, if_true]
    have w1 := w.to fh (fun _ _ k => by cases k)
    obtain ⟨a', c', h2, B', y1, y2, y3, y4⟩ := Wn.app (M := [C[i].no]) (bytes := 8) (d := 1) (s := some ⟨h'.next + 1, 0, none⟩) icell.len icell.oc w1 (fst_all gh rfl) (by simp; omega) (by simp; omega)
    rw [show ([C[i].no] : List Int).length = 1 from rfl] at y1
    rw [← eh, y1]
    simp only [ptrTo, pend, pend0, Pd.old, pendU, pendU0, oxA0, oxA1, oxA2, oxA3, oxA4, oxA5, oxA6, oxA7, oxA8, oxA9, oxA10, oxL0, oxL1, oxTy0, oxTy1, oxTy2, ↓reduceIte, Nat.reduceAdd, Nat.reduceLeDiff, Nat.reduceLT, Nat.reduceEqDiff, Nat.reduceMul, Nat.reduceSub, Int.reduceEq, Int.reduceLT, Int.reduceLE, Int.reduceAdd, Int.reduceNeg, Int.reduceNe, Int.reduceToNat, Nat.testBit, Nat.reduceShiftRight, Nat.reduceAnd, Nat.reduceBneDiff, Nat.reduceBEq, gR_some]
    refine hLL _ _ ?_
    simp only [ptrTo, pend, pend0, Pd.old, pendU, pendU0, oxA0, oxA1, oxA2, oxA3, oxA4, oxA5, oxA6, oxA7, oxA8, oxA9, oxA10, oxL0, oxL1, oxTy0, oxTy1, oxTy2, ↓reduceIte, Nat.reduceAdd, Nat.reduceLeDiff, Nat.reduceLT, Nat.reduceEqDiff, Nat.reduceMul, Nat.reduceSub, Int.reduceEq, Int.reduceLT, Int.reduceLE, Int.reduceAdd, Int.reduceNeg, Int.reduceNe, Int.reduceToNat, Nat.testBit, Nat.reduceShiftRight, Nat.reduceAnd, Nat.reduceBneDiff, Nat.reduceBEq, gR_some]
    refine fg12 (fun R => ?_)
    have hw : IntKind.i64.wrap ((i : Int) + 1) = ((i + 1 : Nat) : Int) := by rw [wrap_i64 (by omega) (by omega)]; omega
    refine rg (fun LL hLL => ?_)
    simp only [ptrTo, pend, pend0, Pd.old, pendU, pendU0, oxA0, oxA1, oxA2, oxA3, oxA4, oxA5, oxA6, oxA7, oxA8, oxA9, oxA10, oxL0, oxL1, oxTy0, oxTy1, oxTy2, ↓reduceIte, Nat.reduceAdd, Nat.reduceLeDiff, Nat.reduceLT, Nat.reduceEqDiff, Nat.reduceMul, Nat.reduceSub, Int.reduceEq, Int.reduceLT, Int.reduceLE, Int.reduceAdd, Int.reduceNeg, Int.reduceNe, Int.reduceToNat, Nat.testBit, Nat.reduceShiftRight, Nat.reduceAnd, Nat.reduceBneDiff, Nat.reduceBEq, gR_some, hw]
    refine hLL _ _ ?_
    simp only [ptrTo, pend, pend0, Pd.old, pendU, pendU0, oxA0, oxA1, oxA2, oxA3, oxA4, oxA5, oxA6, oxA7, oxA8, oxA9, oxA10, oxL0, oxL1, oxTy0, oxTy1, oxTy2, ↓reduceIte, Nat.reduceAdd, Nat.reduceLeDiff, Nat.reduceLT, Nat.reduceEqDiff, Nat.reduceMul, Nat.reduceSub, Int.reduceEq, Int.reduceLT, Int.reduceLE, Int.reduceAdd, Int.reduceNeg, Int.reduceNe, Int.reduceToNat, Nat.testBit, Nat.reduceShiftRight, Nat.reduceAnd, Nat.reduceBneDiff, Nat.reduceBEq, gR_some]
    have ht : (C.take (i + 1)).map (·.no) = (C.take i).map (·.no) ++ [C[i].no] := by rw [List.take_succ_eq_append_getElem hi', List.map_append]; rfl
    refine ⟨k - 1, by omega, i + 1, a', c', B', _, _, _, _, _, _, by omega, ?_, by rw [ht]; exact y2, ?_, by rw [ht]⟩
    · exact (f1.trans fh (fun _ k => k) (fun _ _ k => k)).trans y3 (fun _ k => k) (fun β k1 k2 => by have := hB β k2; omega)
    · intro β hβ
      have := fh.next
      rcases y4 β hβ with k | k
      · exact hB β k
      · omega
  · have hin : i = C.length := by omega
    subst hin
    rw [List.take_length] at w
    refine wpC_exit ?_
    simp only [ptrTo, pend, pend0, Pd.old, pendU, pendU0, oxA0, oxA1, oxA2, oxA3, oxA4, oxA5, oxA6, oxA7, oxA8, oxA9, oxA10, oxL0, oxL1, oxTy0, oxTy1, oxTy2, ↓reduceIte, Nat.reduceAdd, Nat.reduceLeDiff, Nat.reduceLT, Nat.reduceEqDiff, Nat.reduceMul, Nat.reduceSub, Int.reduceEq, Int.reduceLT, Int.reduceLE, Int.reduceAdd, Int.reduceNeg, Int.reduceNe, Int.reduceToNat, Nat.testBit, Nat.reduceShiftRight, Nat.reduceAnd, Nat.reduceBneDiff, Nat.reduceBEq, gR_some]
    refine fg4 (fun R => ?_)
    refine sr (fun LL hLL => ?_)
    simp only [ptrTo, pend, pend0, Pd.old, pendU, pendU0, oxA0, oxA1, oxA2, oxA3, oxA4, oxA5, oxA6, oxA7, oxA8, oxA9, oxA10, oxL0, oxL1, oxTy0, oxTy1, oxTy2, ↓reduceIte, Nat.reduceAdd, Nat.reduceLeDiff, Nat.reduceLT, Nat.reduceEqDiff, Nat.reduceMul, Nat.reduceSub, Int.reduceEq, Int.reduceLT, Int.reduceLE, Int.reduceAdd, Int.reduceNeg, Int.reduceNe, Int.reduceToNat, Nat.testBit, Nat.reduceShiftRight, Nat.reduceAnd, Nat.reduceBneDiff, Nat.reduceBEq, gR_some]
    refine hLL _ _ ?_
    refine wpC_ret (out_ret ?_)
    simp only [ptrTo, pend, pend0, Pd.old, pendU, pendU0, oxA0, oxA1, oxA2, oxA3, oxA4, oxA5, oxA6, oxA7, oxA8, oxA9, oxA10, oxL0, oxL1, oxTy0, oxTy1, oxTy2, ↓reduceIte, Nat.reduceAdd, Nat.reduceLeDiff, Nat.reduceLT, Nat.reduceEqDiff, Nat.reduceMul, Nat.reduceSub, Int.reduceEq, Int.reduceLT, Int.reduceLE, Int.reduceAdd, Int.reduceNeg, Int.reduceNe, Int.reduceToNat, Nat.testBit, Nat.reduceShiftRight, Nat.reduceAnd, Nat.reduceBneDiff, Nat.reduceBEq, gR_some]
    rw [List.take_length]
    exact hk a c B h' f1 w hB
end Go.Proofs
