/-
  The sink: Cut. CONDITIONS: none.
-/
import Derived.Test.YtoacnhfpapmomaaOxK4
set_option linter.unusedSimpArgs false
set_option linter.unusedVariables false
namespace Go.Proofs
open Go Go.Ox
set_option maxRecDepth 100000
set_option maxHeartbeats 4000000
theorem Cut_any (p : Nat) (O : List Nat) (R : List Rc) (C : List Ct) (last : Option Int) (no : Int) (h : AHeap) (K : Value → AHeap → Prop) (s : Sk h p O R C last) (hl : R.length < 1000000) (hc : C.length < 1000000)
    (hk1 : ¬ above last no → ∀ h', Fr h h' [] → Sk h' p O R C last → K (.slice none 0 0) h')
    (hk2 : above last no → ∀ O' a c B h', Fr h h' O → (∀ β ∈ O', β ∈ O ∨ h.next ≤ β) → Sk h' p O' R (C ++ [⟨no, R.length⟩]) (some no) → Wn Rc.cells 2 29 h' a c R B → (∀ β ∈ B, h.next ≤ β) → Dj B O' → K (.slice a R.length c) h') :
    wpF Try.prog (.fn 11) [.pointer (some ⟨p, 0, none⟩), .int .i64 no] h K := by
  refine wpF_fun 42 [.tmp 4] Try.func11 rfl rfl rfl rfl ?_
  refine sr (fun LL hLL => ?_)
  simp only [ptrTo, pend, pend0, Pd.old, pendU, pendU0, oxA0, oxA1, oxA2, oxA3, oxA4, oxA5, oxA6, oxA7, oxA8, oxA9, oxA10, oxL0, oxL1, oxTy0, oxTy1, oxTy2, ↓reduceIte, Nat.reduceAdd, Nat.reduceLeDiff, Nat.reduceLT, Nat.reduceEqDiff, Nat.reduceMul, Nat.reduceSub, Int.reduceEq, Int.reduceLT, Int.reduceLE, Int.reduceAdd, Int.reduceNeg, Int.reduceNe, Int.reduceToNat, Nat.testBit, Nat.reduceShiftRight, Nat.reduceAnd, Nat.reduceBneDiff, Nat.reduceBEq, gR_some]
  refine hLL _ _ ?_
  refine wpC_seq (sr fun LL hLL => ?_)
  simp only [ptrTo, pend, pend0, Pd.old, pendU, pendU0, oxA0, oxA1, oxA2, oxA3, oxA4, oxA5, oxA6, oxA7, oxA8, oxA9, oxA10, oxL0, oxL1, oxTy0, oxTy1, oxTy2, ↓reduceIte, Nat.reduceAdd, Nat.reduceLeDiff, Nat.reduceLT, Nat.reduceEqDiff, Nat.reduceMul, Nat.reduceSub, Int.reduceEq, Int.reduceLT, Int.reduceLE, Int.reduceAdd, Int.reduceNeg, Int.reduceNe, Int.reduceToNat, Nat.testBit, Nat.reduceShiftRight, Nat.reduceAnd, Nat.reduceBneDiff, Nat.reduceBEq, gR_some]
  refine note_any p O R C last no h _ s (fun hab h1 f1 s1 => ?_) (fun hab O1 h1 f1 hO s1 => ?_)
  · simp only [ptrTo, pend, pend0, Pd.old, pendU, pendU0, oxA0, oxA1, oxA2, oxA3, oxA4, oxA5, oxA6, oxA7, oxA8, oxA9, oxA10, oxL0, oxL1, oxTy0, oxTy1, oxTy2, ↓reduceIte, Nat.reduceAdd, Nat.reduceLeDiff, Nat.reduceLT, Nat.reduceEqDiff, Nat.reduceMul, Nat.reduceSub, Int.reduceEq, Int.reduceLT, Int.reduceLE, Int.reduceAdd, Int.reduceNeg, Int.reduceNe, Int.reduceToNat, Nat.testBit, Nat.reduceShiftRight, Nat.reduceAnd, Nat.reduceBneDiff, Nat.reduceBEq, gR_some]
    refine hLL _ _ ?_
    refine wpC_if ?_
    simp only [ptrTo, pend, pend0, Pd.old, pendU, pendU0, oxA0, oxA1, oxA2, oxA3, oxA4, oxA5, oxA6, oxA7, oxA8, oxA9, oxA10, oxL0, oxL1, oxTy0, oxTy1, oxTy2, ↓reduceIte, Nat.reduceAdd, Nat.reduceLeDiff, Nat.reduceLT, Nat.reduceEqDiff, Nat.reduceMul, Nat.reduceSub, Int.reduceEq, Int.reduceLT, Int.reduceLE, Int.reduceAdd, Int.reduceNeg, Int.reduceNe, Int.reduceToNat, Nat.testBit, Nat.reduceShiftRight, Nat.reduceAnd, Nat.reduceBneDiff, Nat.reduceBEq, gR_some]
    refine sr (fun LL hLL => ?_)
    simp only [ptrTo, pend, pend0, Pd.old, pendU, pendU0, oxA0, oxA1, oxA2, oxA3, oxA4, oxA5, oxA6, oxA7, oxA8, oxA9, oxA10, oxL0, oxL1, oxTy0, oxTy1, oxTy2, ↓reduceIte, Nat.reduceAdd, Nat.reduceLeDiff, Nat.reduceLT, Nat.reduceEqDiff, Nat.reduceMul, Nat.reduceSub, Int.reduceEq, Int.reduceLT, Int.reduceLE, Int.reduceAdd, Int.reduceNeg, Int.reduceNe, Int.reduceToNat, Nat.testBit, Nat.reduceShiftRight, Nat.reduceAnd, Nat.reduceBneDiff, Nat.reduceBEq, gR_some]
    refine hLL _ _ ?_
    refine wpC_ret (out_ret ?_)
    simp only [ptrTo, pend, pend0, Pd.old, pendU, pendU0, oxA0, oxA1, oxA2, oxA3, oxA4, oxA5, oxA6, oxA7, oxA8, oxA9, oxA10, oxL0, oxL1, oxTy0, oxTy1, oxTy2, ↓reduceIte, Nat.reduceAdd, Nat.reduceLeDiff, Nat.reduceLT, Nat.reduceEqDiff, Nat.reduceMul, Nat.reduceSub, Int.reduceEq, Int.reduceLT, Int.reduceLE, Int.reduceAdd, Int.reduceNeg, Int.reduceNe, Int.reduceToNat, Nat.testBit, Nat.reduceShiftRight, Nat.reduceAnd, Nat.reduceBneDiff, Nat.reduceBEq, gR_some]
    exact hk1 hab h1 f1 s1
  · simp only [ptrTo, pend, pend0, Pd.old, pendU, pendU0, oxA0, oxA1, oxA2, oxA3, oxA4, oxA5, oxA6, oxA7, oxA8, oxA9, oxA10, oxL0, oxL1, oxTy0, oxTy1, oxTy2, ↓reduceIte, Nat.reduceAdd, Nat.reduceLeDiff, Nat.reduceLT, Nat.reduceEqDiff, Nat.reduceMul, Nat.reduceSub, Int.reduceEq, Int.reduceLT, Int.reduceLE, Int.reduceAdd, Int.reduceNeg, Int.reduceNe, Int.reduceToNat, Nat.testBit, Nat.reduceShiftRight, Nat.reduceAnd, Nat.reduceBneDiff, Nat.reduceBEq, gR_some]
    refine hLL _ _ ?_
    refine wpC_if ?_
    simp only [ptrTo, pend, pend0, Pd.old, pendU, pendU0, oxA0, oxA1, oxA2, oxA3, oxA4, oxA5, oxA6, oxA7, oxA8, oxA9, oxA10, oxL0, oxL1, oxTy0, oxTy1, oxTy2, ↓reduceIte, Nat.reduceAdd, Nat.reduceLeDiff, Nat.reduceLT, Nat.reduceEqDiff, Nat.reduceMul, Nat.reduceSub, Int.reduceEq, Int.reduceLT, Int.reduceLE, Int.reduceAdd, Int.reduceNeg, Int.reduceNe, Int.reduceToNat, Nat.testBit, Nat.reduceShiftRight, Nat.reduceAnd, Nat.reduceBneDiff, Nat.reduceBEq, gR_some]
    refine wpC_skip ?_
    simp only [ptrTo, pend, pend0, Pd.old, pendU, pendU0, oxA0, oxA1, oxA2, oxA3, oxA4, oxA5, oxA6, oxA7, oxA8, oxA9, oxA10, oxL0, oxL1, oxTy0, oxTy1, oxTy2, ↓reduceIte, Nat.reduceAdd, Nat.reduceLeDiff, Nat.reduceLT, Nat.reduceEqDiff, Nat.reduceMul, Nat.reduceSub, Int.reduceEq, Int.reduceLT, Int.reduceLE, Int.reduceAdd, Int.reduceNeg, Int.reduceNe, Int.reduceToNat, Nat.testBit, Nat.reduceShiftRight, Nat.reduceAnd, Nat.reduceBneDiff, Nat.reduceBEq, gR_some]
    obtain ⟨a1, a2, c1, c2, v3, B1, B2, B3, s1, rfl⟩ := s1
    have gp := s1.get
    have lp := s1.lp
    have lt1 := s1.w1.lt
    have lt2 := s1.w2.lt
    have lt3 := s1.w3.lt
    have n0 := f1.next
    refine sr (fun LL hLL => ?_)
    simp only [ptrTo, pend, pend0, Pd.old, pendU, pendU0, oxA0, oxA1, oxA2, oxA3, oxA4, oxA5, oxA6, oxA7, oxA8, oxA9, oxA10, oxL0, oxL1, oxTy0, oxTy1, oxTy2, ↓reduceIte, Nat.reduceAdd, Nat.reduceLeDiff, Nat.reduceLT, Nat.reduceEqDiff, Nat.reduceMul, Nat.reduceSub, Int.reduceEq, Int.reduceLT, Int.reduceLE, Int.reduceAdd, Int.reduceNeg, Int.reduceNe, Int.reduceToNat, Nat.testBit, Nat.reduceShiftRight, Nat.reduceAnd, Nat.reduceBneDiff, Nat.reduceBEq, gR_some, gp]
    refine hLL _ _ ?_
    have zz : aZeros [.int .i64 0, .int .i64 0] 1 = [.int .i64 0, .int .i64 0] := rfl
    have np1 := ne_of_lt' lp
    refine sr (fun LL hLL => ?_)
    simp only [ptrTo, pend, pend0, Pd.old, pendU, pendU0, oxA0, oxA1, oxA2, oxA3, oxA4, oxA5, oxA6, oxA7, oxA8, oxA9, oxA10, oxL0, oxL1, oxTy0, oxTy1, oxTy2, ↓reduceIte, Nat.reduceAdd, Nat.reduceLeDiff, Nat.reduceLT, Nat.reduceEqDiff, Nat.reduceMul, Nat.reduceSub, Int.reduceEq, Int.reduceLT, Int.reduceLE, Int.reduceAdd, Int.reduceNeg, Int.reduceNe, Int.reduceToNat, Nat.testBit, Nat.reduceShiftRight, Nat.reduceAnd, Nat.reduceBneDiff, Nat.reduceBEq, gR_some, AHeap.get_set, AHeap.get_push, AHeap.get_del, AHeap.next_set, AHeap.next_push, AHeap.next_del, gp, zz]
    obtain ⟨h2, e2⟩ : ∃ h2, h2 = h1.push (.cells false 2 [.int .i64 no, .int .i64 R.length] 56) := ⟨_, rfl⟩
    have f2 : Fr h1 h2 [] := by rw [e2]; exact Fr.push h1 _
    have g2 : h2.get h1.next = some (.cells false 2 [.int .i64 no, .int .i64 R.length] 56) := by rw [e2]; simp only [AHeap.get_set, AHeap.get_push, AHeap.get_del, AHeap.next_set, AHeap.next_push, AHeap.next_del, if_true]
    have nx2 : h2.next = h1.next + 1 := by rw [e2]; rfl
    have s2 := s1.to f2 (fun _ _ k => by cases k)
    rw [← e2]
    obtain ⟨a', c', h3, B', q1, q2, q3, q4⟩ := Wn.app (M := [(⟨no, R.length⟩ : Ct)]) (bytes := 16) (d := 1) (s := some ⟨h1.next, 0, none⟩) Ct.len Ct.oc s2.w2 (fst_all g2 rfl) (by simp; omega) (by simp; omega)
    rw [show ([(⟨no, R.length⟩ : Ct)]).length = 1 from rfl] at q1
    rw [q1]
    have w13 := s2.w1.to q3 (fun b hb k => s1.d12 b hb k)
    have w33 := s2.w3.to q3 (fun b hb k => s1.d23 b k hb)
    have gp3 := q3.at s2.get s2.lp s1.n2
    have lp3 : p < h3.next := Nat.lt_of_lt_of_le s2.lp q3.next
    have nx3 := q3.next
    simp only [ptrTo, pend, pend0, Pd.old, pendU, pendU0, oxA0, oxA1, oxA2, oxA3, oxA4, oxA5, oxA6, oxA7, oxA8, oxA9, oxA10, oxL0, oxL1, oxTy0, oxTy1, oxTy2, ↓reduceIte, Nat.reduceAdd, Nat.reduceLeDiff, Nat.reduceLT, Nat.reduceEqDiff, Nat.reduceMul, Nat.reduceSub, Int.reduceEq, Int.reduceLT, Int.reduceLE, Int.reduceAdd, Int.reduceNeg, Int.reduceNe, Int.reduceToNat, Nat.testBit, Nat.reduceShiftRight, Nat.reduceAnd, Nat.reduceBneDiff, Nat.reduceBEq, gR_some, gp3]
    refine hLL _ _ ?_
    -- the records' capacity
    have fs := Fr.set h3 p (.cells false 0 [.slice a1 R.length c1, .slice a' (C ++ [(⟨no, R.length⟩ : Ct)]).length c', v3] 50)
    have hB' : ∀ β ∈ B', β ∈ B2 ∨ h.next ≤ β := fun β hβ => (q4 β hβ).imp id (fun k => by omega)
    have npB : ¬ p ∈ B' := fun k => by
      rcases q4 p k with k | k
      · exact s1.n2 k
      · omega
    have w14 := w13.to fs (fun b hb k => by simp at k; subst k; exact s1.n1 hb)
    have w24 := q2.to fs (fun b hb k => by simp at k; subst k; exact npB hb)
    have w34 := w33.to fs (fun b hb k => by simp at k; subst k; exact s1.n3 hb)
    have sl := w14.sl3 (P := Try.prog) (t := 32) (by rfl) (by rfl) (by omega)
    refine sr (fun LL hLL => ?_)
    simp only [ptrTo, pend, pend0, Pd.old, pendU, pendU0, oxA0, oxA1, oxA2, oxA3, oxA4, oxA5, oxA6, oxA7, oxA8, oxA9, oxA10, oxL0, oxL1, oxTy0, oxTy1, oxTy2, ↓reduceIte, Nat.reduceAdd, Nat.reduceLeDiff, Nat.reduceLT, Nat.reduceEqDiff, Nat.reduceMul, Nat.reduceSub, Int.reduceEq, Int.reduceLT, Int.reduceLE, Int.reduceAdd, Int.reduceNeg, Int.reduceNe, Int.reduceToNat, Nat.testBit, Nat.reduceShiftRight, Nat.reduceAnd, Nat.reduceBneDiff, Nat.reduceBEq, gR_some, AHeap.get_set, AHeap.get_push, AHeap.get_del, AHeap.next_set, AHeap.next_push, AHeap.next_del, sl]
    refine hLL _ _ ?_
    obtain ⟨h4, e4⟩ : ∃ h4, h4 = (h3.set p (.cells false 0 [.slice a1 R.length c1, .slice a' (C ++ [(⟨no, R.length⟩ : Ct)]).length c', v3] 50)).set p (.cells false 0 [.slice a1 R.length R.length, .slice a' (C ++ [(⟨no, R.length⟩ : Ct)]).length c', v3] 50) := ⟨_, rfl⟩
    have ft := Fr.set (h3.set p (.cells false 0 [.slice a1 R.length c1, .slice a' (C ++ [(⟨no, R.length⟩ : Ct)]).length c', v3] 50)) p (.cells false 0 [.slice a1 R.length R.length, .slice a' (C ++ [(⟨no, R.length⟩ : Ct)]).length c', v3] 50)
    rw [← e4] at ft ⊢
    have s4 : Sk' h4 p R (C ++ [⟨no, R.length⟩]) (some no) a1 a' R.length c' v3 B1 B' B3 :=
      ⟨by rw [e4]; simp only [AHeap.get_set, AHeap.get_push, AHeap.get_del, AHeap.next_set, AHeap.next_push, AHeap.next_del]; exact lp3, by rw [e4]; simp only [AHeap.get_set, AHeap.get_push, AHeap.get_del, AHeap.next_set, AHeap.next_push, AHeap.next_del, if_true], (w14.to ft (fun b hb k => by simp at k; subst k; exact s1.n1 hb)).cap, w24.to ft (fun b hb k => by simp at k; subst k; exact npB hb), w34.to ft (fun b hb k => by simp at k; subst k; exact s1.n3 hb), s1.n1, npB, s1.n3,
        (s1.d12.symm.new (fun β hβ => (q4 β hβ).imp id (fun k => (by omega : h1.next ≤ β))) lt1).symm, s1.d13, s1.d23.new (fun β hβ => (q4 β hβ).imp id (fun k => (by omega : h1.next ≤ β))) lt3⟩
    have hO' : ∀ β ∈ p :: (B1 ++ B' ++ B3), β ∈ p :: (B1 ++ B2 ++ B3) ∨ h.next ≤ β := by
      intro β hβ
      simp only [List.mem_cons, List.mem_append] at hβ ⊢
      rcases hβ with rfl | (hβ | hβ) | hβ
      · simp
      · simp [hβ]
      · rcases hB' β hβ with k | k
        · simp [k]
        · exact .inr k
      · simp [hβ]
    have hO2 : ∀ β ∈ p :: (B1 ++ B' ++ B3), β ∈ O ∨ h.next ≤ β := fun β hβ => by
      rcases hO' β hβ with k | k
      · exact hO β k
      · exact .inr k
    have nx4 : h4.next = h3.next := by rw [e4]; rfl
    have f4 : Fr h h4 O := by
      have x1 : Fr h1 h4 (p :: (B1 ++ B2 ++ B3)) := ((f2.trans q3 (e1 := []) (ex := p :: (B1 ++ B2 ++ B3)) (by simp) (fun β _ k => by simp [k])).trans fs (fun _ k => k) (fun β _ k => by simp at k; simp [k])).trans ft (fun _ k => k) (fun β _ k => by simp at k; simp [k])
      refine f1.trans x1 (fun _ k => k) (fun β k1 k2 => ?_)
      rcases hO β k2 with k | k
      · exact k
      · omega
    refine sr (fun LL hLL => ?_)
    simp only [ptrTo, pend, pend0, Pd.old, pendU, pendU0, oxA0, oxA1, oxA2, oxA3, oxA4, oxA5, oxA6, oxA7, oxA8, oxA9, oxA10, oxL0, oxL1, oxTy0, oxTy1, oxTy2, ↓reduceIte, Nat.reduceAdd, Nat.reduceLeDiff, Nat.reduceLT, Nat.reduceEqDiff, Nat.reduceMul, Nat.reduceSub, Int.reduceEq, Int.reduceLT, Int.reduceLE, Int.reduceAdd, Int.reduceNeg, Int.reduceNe, Int.reduceToNat, Nat.testBit, Nat.reduceShiftRight, Nat.reduceAnd, Nat.reduceBneDiff, Nat.reduceBEq, gR_some, s4.get]
    refine cloneR_any a1 R.length R h4 _ (s4.w1.rs Rc.len) (fun k => ⟨s4.w1.none_nil k, by rw [s4.w1.none_nil k]; rfl⟩) hl fun a5 c5 B5 h5 f5 w5 hB5 => ?_
    refine hLL _ _ ?_
    refine wpC_ret (out_ret ?_)
    simp only [ptrTo, pend, pend0, Pd.old, pendU, pendU0, oxA0, oxA1, oxA2, oxA3, oxA4, oxA5, oxA6, oxA7, oxA8, oxA9, oxA10, oxL0, oxL1, oxTy0, oxTy1, oxTy2, ↓reduceIte, Nat.reduceAdd, Nat.reduceLeDiff, Nat.reduceLT, Nat.reduceEqDiff, Nat.reduceMul, Nat.reduceSub, Int.reduceEq, Int.reduceLT, Int.reduceLE, Int.reduceAdd, Int.reduceNeg, Int.reduceNe, Int.reduceToNat, Nat.testBit, Nat.reduceShiftRight, Nat.reduceAnd, Nat.reduceBneDiff, Nat.reduceBEq, gR_some]
    have lt4 := s4.w1.lt
    have lt5 := s4.w2.lt
    have lt6 := s4.w3.lt
    have lt7 := s4.lp
    have sk4 : Sk h4 p (p :: (B1 ++ B' ++ B3)) R (C ++ [⟨no, R.length⟩]) (some no) := ⟨a1, a', R.length, c', v3, B1, B', B3, s4, rfl⟩
    refine hk2 hab (p :: (B1 ++ B' ++ B3)) a5 c5 B5 h5 (f4.trans f5 (fun _ k => k) (fun _ _ k => by cases k)) hO2 (sk4.fr f5) w5 (fun β hβ => ?_) (fun β hβ k => ?_)
    · have := hB5 β hβ; omega
    · have h1 := hB5 β hβ
      have h2 := sk4.lt β k
      omega
end Go.Proofs
