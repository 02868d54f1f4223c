/-
  Lists of lists: copied, the same, written over; too long ones. CONDITIONS: none.
-/
import Derived.Test.YtcgpbamkkhjoiaaOxO2
set_option linter.unusedSimpArgs false
set_option linter.unusedVariables false
namespace Go.Proofs
open Go Go.Ox
set_option maxRecDepth 100000
set_option maxHeartbeats 1000000
theorem copyRR {h0 : AHeap} {F : List Asn} (a : Option Addr) (c : Nat) (A : List (List Rc)) (h : AHeap) (K : Value → AHeap → Prop) (s : St h0 h F) (r : RdN h0 F Rc.cells 2 a A) (hl : A.length < 1000000) (hb : ∀ L ∈ A, L.length < 1000000)
    (hk : ∀ a' c' h', St h0 h' (nest Rc.cells 2 37 46 a' c' A :: F) → K (.slice a' A.length c') h') : wpF Try.prog (.fn 10) [.slice a A.length c] h K := by
  obtain ⟨S, hS, rS, rI⟩ := r
  have hSl := lens hS
  refine wpF_fun 20 [.tmp 2] Try.func10 rfl rfl rfl rfl ?_
  refine sr (fun LL hLL => ?_)
  simp only [ptrTo, pend, pend0, Pd.old, pendU, pendU0, oxA0, oxA1, oxA2, oxA3, oxA4, oxA5, oxA6, oxA7, oxA8, oxA9, oxA10, oxL0, oxL1, oxTy0, oxTy1, ↓reduceIte, Nat.reduceAdd, Nat.reduceLeDiff, Nat.reduceLT, Nat.reduceEqDiff, Nat.reduceMul, Nat.reduceSub, Int.reduceEq, Int.reduceLT, Int.reduceLE, Int.reduceAdd, Int.reduceNeg, Int.reduceNe, Int.reduceToNat, Nat.testBit, Nat.reduceShiftRight, Nat.reduceAnd, Nat.reduceBneDiff, Nat.reduceBEq, gR_some]
  refine hLL _ _ ?_
  refine sr (fun LL hLL => ?_)
  simp only [ptrTo, pend, pend0, Pd.old, pendU, pendU0, oxA0, oxA1, oxA2, oxA3, oxA4, oxA5, oxA6, oxA7, oxA8, oxA9, oxA10, oxL0, oxL1, oxTy0, oxTy1, ↓reduceIte, Nat.reduceAdd, Nat.reduceLeDiff, Nat.reduceLT, Nat.reduceEqDiff, Nat.reduceMul, Nat.reduceSub, Int.reduceEq, Int.reduceLT, Int.reduceLE, Int.reduceAdd, Int.reduceNeg, Int.reduceNe, Int.reduceToNat, Nat.testBit, Nat.reduceShiftRight, Nat.reduceAnd, Nat.reduceBneDiff, Nat.reduceBEq, gR_some]
  refine hLL _ _ ?_
  refine wpC_seq ?_
  refine sr (fun LL hLL => ?_)
  simp only [ptrTo, pend, pend0, Pd.old, pendU, pendU0, oxA0, oxA1, oxA2, oxA3, oxA4, oxA5, oxA6, oxA7, oxA8, oxA9, oxA10, oxL0, oxL1, oxTy0, oxTy1, ↓reduceIte, Nat.reduceAdd, Nat.reduceLeDiff, Nat.reduceLT, Nat.reduceEqDiff, Nat.reduceMul, Nat.reduceSub, Int.reduceEq, Int.reduceLT, Int.reduceLE, Int.reduceAdd, Int.reduceNeg, Int.reduceNe, Int.reduceToNat, Nat.testBit, Nat.reduceShiftRight, Nat.reduceAnd, Nat.reduceBneDiff, Nat.reduceBEq, gR_some]
  refine hLL _ _ ?_
  refine fg5 (fun R => ?_)
  refine wpC_block ?_
  refine wpC_loop (fun k T h' => ∃ (i : Nat) (b : Option Addr) (d : Nat) (t1 t2 : Value) (R : List Value), k + i = A.length ∧ St h0 h' (nest Rc.cells 2 37 46 b d (A.take i) :: F) ∧ T = .slice a A.length c :: t1 :: t2 :: .slice b i d :: .int .i64 i :: R) ?_ A.length _ _ ⟨0, _, _, _, _, R, by omega, s.nest_nil, rfl⟩
  rintro k T h' ⟨i, b, d, t1, t2, R, hi, s1, rfl⟩
  refine wpC_seq (sr fun LL hLL => ?_)
  simp only [ptrTo, pend, pend0, Pd.old, pendU, pendU0, oxA0, oxA1, oxA2, oxA3, oxA4, oxA5, oxA6, oxA7, oxA8, oxA9, oxA10, oxL0, oxL1, oxTy0, oxTy1, ↓reduceIte, Nat.reduceAdd, Nat.reduceLeDiff, Nat.reduceLT, Nat.reduceEqDiff, Nat.reduceMul, Nat.reduceSub, Int.reduceEq, Int.reduceLT, Int.reduceLE, Int.reduceAdd, Int.reduceNeg, Int.reduceNe, Int.reduceToNat, Nat.testBit, Nat.reduceShiftRight, Nat.reduceAnd, Nat.reduceBneDiff, Nat.reduceBEq, gR_some]
  refine hLL _ _ ?_
  refine wpC_if ?_
  simp only [ptrTo, pend, pend0, Pd.old, pendU, pendU0, oxA0, oxA1, oxA2, oxA3, oxA4, oxA5, oxA6, oxA7, oxA8, oxA9, oxA10, oxL0, oxL1, oxTy0, oxTy1, ↓reduceIte, Nat.reduceAdd, Nat.reduceLeDiff, Nat.reduceLT, Nat.reduceEqDiff, Nat.reduceMul, Nat.reduceSub, Int.reduceEq, Int.reduceLT, Int.reduceLE, Int.reduceAdd, Int.reduceNeg, Int.reduceNe, Int.reduceToNat, Nat.testBit, Nat.reduceShiftRight, Nat.reduceAnd, Nat.reduceBneDiff, Nat.reduceBEq, gR_some]
  refine gC_of (fun hc => ?_) (fun hc => ?_)
  · refine wpC_skip ?_
    simp only [ptrTo, pend, pend0, Pd.old, pendU, pendU0, oxA0, oxA1, oxA2, oxA3, oxA4, oxA5, oxA6, oxA7, oxA8, oxA9, oxA10, oxL0, oxL1, oxTy0, oxTy1, ↓reduceIte, Nat.reduceAdd, Nat.reduceLeDiff, Nat.reduceLT, Nat.reduceEqDiff, Nat.reduceMul, Nat.reduceSub, Int.reduceEq, Int.reduceLT, Int.reduceLE, Int.reduceAdd, Int.reduceNeg, Int.reduceNe, Int.reduceToNat, Nat.testBit, Nat.reduceShiftRight, Nat.reduceAnd, Nat.reduceBneDiff, Nat.reduceBEq, gR_some]
    refine fg5 (fun R => ?_)
    have hi' : i < A.length := by omega
    have hiS : i < S.length := by omega
    have hne : S ≠ [] := by rintro rfl; simp at hiS
    obtain ⟨b1, o1, ro1, sz1, C1, e1, rfl, p1, g1, r1, q1⟩ := (rS _ s1.drop).resolve_left hne
    have w1 : C1[o1 + i * 1]? = some (.slice S[i].a S[i].len S[i].cap) := Rs.cell Sv.len1 r1 q1 i hiS 0 (by omega)
    rw [lens_at hS i hiS hi'] at w1
    have zz : aZeros [.slice none 0 0] 1 = [.slice none 0 0] := rfl
    refine wpC_seq (wpC_block ?_)
    refine rg (fun LL hLL => ?_)
    simp only [ptrTo, pend, pend0, Pd.old, pendU, pendU0, oxA0, oxA1, oxA2, oxA3, oxA4, oxA5, oxA6, oxA7, oxA8, oxA9, oxA10, oxL0, oxL1, oxTy0, oxTy1, ↓reduceIte, Nat.reduceAdd, Nat.reduceLeDiff, Nat.reduceLT, Nat.reduceEqDiff, Nat.reduceMul, Nat.reduceSub, Int.reduceEq, Int.reduceLT, Int.reduceLE, Int.reduceAdd, Int.reduceNeg, Int.reduceNe, Int.reduceToNat, Nat.testBit, Nat.reduceShiftRight, Nat.reduceAnd, Nat.reduceBneDiff, Nat.reduceBEq, gR_some, ixF hi', g1, w1]
    refine copyR _ _ A[i] _ _ s1 ((rI i hiS hi').1.up) (hb _ (List.getElem_mem hi')) fun a2 c2 h2 s2 => ?_
    obtain ⟨M, hM, s3⟩ := (s2.mv 1).nest_out
    have hMl := lens hM
    simp only [ptrTo, pend, pend0, Pd.old, pendU, pendU0, oxA0, oxA1, oxA2, oxA3, oxA4, oxA5, oxA6, oxA7, oxA8, oxA9, oxA10, oxL0, oxL1, oxTy0, oxTy1, ↓reduceIte, Nat.reduceAdd, Nat.reduceLeDiff, Nat.reduceLT, Nat.reduceEqDiff, Nat.reduceMul, Nat.reduceSub, Int.reduceEq, Int.reduceLT, Int.reduceLE, Int.reduceAdd, Int.reduceNeg, Int.reduceNe, Int.reduceToNat, Nat.testBit, Nat.reduceShiftRight, Nat.reduceAnd, Nat.reduceBneDiff, Nat.reduceBEq, gR_some, zz]
    obtain ⟨h6, e6⟩ : ∃ h6, h6 = h2.push (.cells false 1 [.slice a2 A[i].length c2] 46) := ⟨_, rfl⟩
    have s6 := s3.push (.cells false 1 [.slice a2 A[i].length c2] 46)
    rw [← e6] at s6
    have ht : A.take (i + 1) = A.take i ++ [A[i]] := List.take_succ_eq_append_getElem hi'
    have hli : (A.take i).length = i := by simp; omega
    have hMi : M.length = i := by rw [hMl, hli]
    obtain ⟨aE, cE, h7, y1, y2⟩ := (s6.mv 1).app (M := [⟨a2, A[i].length, c2⟩]) (bytes := 24) (d := 1) (s' := some ⟨h2.next, 0, none⟩) Sv.len1 Sv.oc (fst_all s6.get rfl) (by simp; omega) (by simp; omega)
    rw [hMi] at y1
    rw [show ([⟨a2, A[i].length, c2⟩] : List Sv).length = 1 from rfl] at y1
    rw [← e6, y1]
    simp only [ptrTo, pend, pend0, Pd.old, pendU, pendU0, oxA0, oxA1, oxA2, oxA3, oxA4, oxA5, oxA6, oxA7, oxA8, oxA9, oxA10, oxL0, oxL1, oxTy0, oxTy1, ↓reduceIte, Nat.reduceAdd, Nat.reduceLeDiff, Nat.reduceLT, Nat.reduceEqDiff, Nat.reduceMul, Nat.reduceSub, Int.reduceEq, Int.reduceLT, Int.reduceLE, Int.reduceAdd, Int.reduceNeg, Int.reduceNe, Int.reduceToNat, Nat.testBit, Nat.reduceShiftRight, Nat.reduceAnd, Nat.reduceBneDiff, Nat.reduceBEq, gR_some]
    refine hLL _ _ ?_
    simp only [ptrTo, pend, pend0, Pd.old, pendU, pendU0, oxA0, oxA1, oxA2, oxA3, oxA4, oxA5, oxA6, oxA7, oxA8, oxA9, oxA10, oxL0, oxL1, oxTy0, oxTy1, ↓reduceIte, Nat.reduceAdd, Nat.reduceLeDiff, Nat.reduceLT, Nat.reduceEqDiff, Nat.reduceMul, Nat.reduceSub, Int.reduceEq, Int.reduceLT, Int.reduceLE, Int.reduceAdd, Int.reduceNeg, Int.reduceNe, Int.reduceToNat, Nat.testBit, Nat.reduceShiftRight, Nat.reduceAnd, Nat.reduceBneDiff, Nat.reduceBEq, gR_some]
    refine fg5 (fun R => ?_)
    refine rg (fun LL hLL => ?_)
    simp only [ptrTo, pend, pend0, Pd.old, pendU, pendU0, oxA0, oxA1, oxA2, oxA3, oxA4, oxA5, oxA6, oxA7, oxA8, oxA9, oxA10, oxL0, oxL1, oxTy0, oxTy1, ↓reduceIte, Nat.reduceAdd, Nat.reduceLeDiff, Nat.reduceLT, Nat.reduceEqDiff, Nat.reduceMul, Nat.reduceSub, Int.reduceEq, Int.reduceLT, Int.reduceLE, Int.reduceAdd, Int.reduceNeg, Int.reduceNe, Int.reduceToNat, Nat.testBit, Nat.reduceShiftRight, Nat.reduceAnd, Nat.reduceBneDiff, Nat.reduceBEq, gR_some, wsucc (show i < 9223372036854775807 by omega)]
    refine hLL _ _ ?_
    simp only [ptrTo, pend, pend0, Pd.old, pendU, pendU0, oxA0, oxA1, oxA2, oxA3, oxA4, oxA5, oxA6, oxA7, oxA8, oxA9, oxA10, oxL0, oxL1, oxTy0, oxTy1, ↓reduceIte, Nat.reduceAdd, Nat.reduceLeDiff, Nat.reduceLT, Nat.reduceEqDiff, Nat.reduceMul, Nat.reduceSub, Int.reduceEq, Int.reduceLT, Int.reduceLE, Int.reduceAdd, Int.reduceNeg, Int.reduceNe, Int.reduceToNat, Nat.testBit, Nat.reduceShiftRight, Nat.reduceAnd, Nat.reduceBneDiff, Nat.reduceBEq, gR_some]
    have y3 := ((y2.mv 1).drop.mv 1).perm ((List.Perm.swap _ _ _).cons _)
    have y4 := St.star_snoc y3
    have ew := wns_snoc (f := Rc.cells) (k := 2) (e := 37) (S := M) (s := ⟨a2, A[i].length, c2⟩) (LL := A.take i) (L := A[i]) (by rw [hMi, hli])
    rw [← ew, ← ht] at y4
    have hl2 : (M ++ [(⟨a2, A[i].length, c2⟩ : Sv)]).length = i + 1 := by simp [hMi]
    refine ⟨k - 1, by omega, i + 1, aE, cE, _, _, _, by omega, St.nest_in ?_ (y4.mv 1), by rw [hl2]⟩
    rw [List.map_append, hM, ht, List.map_append]; rfl
  · have hil : i = A.length := by omega
    subst hil
    refine wpC_exit ?_
    simp only [ptrTo, pend, pend0, Pd.old, pendU, pendU0, oxA0, oxA1, oxA2, oxA3, oxA4, oxA5, oxA6, oxA7, oxA8, oxA9, oxA10, oxL0, oxL1, oxTy0, oxTy1, ↓reduceIte, Nat.reduceAdd, Nat.reduceLeDiff, Nat.reduceLT, Nat.reduceEqDiff, Nat.reduceMul, Nat.reduceSub, Int.reduceEq, Int.reduceLT, Int.reduceLE, Int.reduceAdd, Int.reduceNeg, Int.reduceNe, Int.reduceToNat, Nat.testBit, Nat.reduceShiftRight, Nat.reduceAnd, Nat.reduceBneDiff, Nat.reduceBEq, gR_some]
    refine fg5 (fun R => ?_)
    refine sr (fun LL hLL => ?_)
    simp only [ptrTo, pend, pend0, Pd.old, pendU, pendU0, oxA0, oxA1, oxA2, oxA3, oxA4, oxA5, oxA6, oxA7, oxA8, oxA9, oxA10, oxL0, oxL1, oxTy0, oxTy1, ↓reduceIte, Nat.reduceAdd, Nat.reduceLeDiff, Nat.reduceLT, Nat.reduceEqDiff, Nat.reduceMul, Nat.reduceSub, Int.reduceEq, Int.reduceLT, Int.reduceLE, Int.reduceAdd, Int.reduceNeg, Int.reduceNe, Int.reduceToNat, Nat.testBit, Nat.reduceShiftRight, Nat.reduceAnd, Nat.reduceBneDiff, Nat.reduceBEq, gR_some]
    refine hLL _ _ ?_
    refine wpC_ret (out_ret ?_)
    simp only [ptrTo, pend, pend0, Pd.old, pendU, pendU0, oxA0, oxA1, oxA2, oxA3, oxA4, oxA5, oxA6, oxA7, oxA8, oxA9, oxA10, oxL0, oxL1, oxTy0, oxTy1, ↓reduceIte, Nat.reduceAdd, Nat.reduceLeDiff, Nat.reduceLT, Nat.reduceEqDiff, Nat.reduceMul, Nat.reduceSub, Int.reduceEq, Int.reduceLT, Int.reduceLE, Int.reduceAdd, Int.reduceNeg, Int.reduceNe, Int.reduceToNat, Nat.testBit, Nat.reduceShiftRight, Nat.reduceAnd, Nat.reduceBneDiff, Nat.reduceBEq, gR_some]
    rw [List.take_length] at s1
    exact hk _ _ _ s1
/-- Two lists of the same lists. -/
theorem SameRR_any (A : List (List Rc)) (a b : Option Addr) (c d : Nat) (h : AHeap) (K : Value → AHeap → Prop) (ra : RsN Rc.cells 2 h a A) (rb : RsN Rc.cells 2 h b A) (hl : A.length < 1000000) (hb : ∀ L ∈ A, L.length < 1000000) (hk : K (.bool true) h) : wpF Try.prog (.fn 14) [.slice a A.length c, .slice b A.length d] h K := by
  obtain ⟨S, hS, rS, rI⟩ := ra
  obtain ⟨Q, hQ, rQ, rJ⟩ := rb
  have hSl := lens hS
  have hQl := lens hQ
  refine wpF_fun 27 [.tmp 4] Try.func14 rfl rfl rfl rfl ?_
  refine sr (fun LL hLL => ?_)
  simp only [ptrTo, pend, pend0, Pd.old, pendU, pendU0, oxA0, oxA1, oxA2, oxA3, oxA4, oxA5, oxA6, oxA7, oxA8, oxA9, oxA10, oxL0, oxL1, oxTy0, oxTy1, ↓reduceIte, Nat.reduceAdd, Nat.reduceLeDiff, Nat.reduceLT, Nat.reduceEqDiff, Nat.reduceMul, Nat.reduceSub, Int.reduceEq, Int.reduceLT, Int.reduceLE, Int.reduceAdd, Int.reduceNeg, Int.reduceNe, Int.reduceToNat, Nat.testBit, Nat.reduceShiftRight, Nat.reduceAnd, Nat.reduceBneDiff, Nat.reduceBEq, gR_some]
  refine hLL _ _ ?_
  refine wpC_seq (sr fun LL hLL => ?_)
  simp only [ptrTo, pend, pend0, Pd.old, pendU, pendU0, oxA0, oxA1, oxA2, oxA3, oxA4, oxA5, oxA6, oxA7, oxA8, oxA9, oxA10, oxL0, oxL1, oxTy0, oxTy1, ↓reduceIte, Nat.reduceAdd, Nat.reduceLeDiff, Nat.reduceLT, Nat.reduceEqDiff, Nat.reduceMul, Nat.reduceSub, Int.reduceEq, Int.reduceLT, Int.reduceLE, Int.reduceAdd, Int.reduceNeg, Int.reduceNe, Int.reduceToNat, Nat.testBit, Nat.reduceShiftRight, Nat.reduceAnd, Nat.reduceBneDiff, Nat.reduceBEq, gR_some, not_true_eq_false]
  refine hLL _ _ ?_
  refine wpC_if ?_
  simp only [ptrTo, pend, pend0, Pd.old, pendU, pendU0, oxA0, oxA1, oxA2, oxA3, oxA4, oxA5, oxA6, oxA7, oxA8, oxA9, oxA10, oxL0, oxL1, oxTy0, oxTy1, ↓reduceIte, Nat.reduceAdd, Nat.reduceLeDiff, Nat.reduceLT, Nat.reduceEqDiff, Nat.reduceMul, Nat.reduceSub, Int.reduceEq, Int.reduceLT, Int.reduceLE, Int.reduceAdd, Int.reduceNeg, Int.reduceNe, Int.reduceToNat, Nat.testBit, Nat.reduceShiftRight, Nat.reduceAnd, Nat.reduceBneDiff, Nat.reduceBEq, gR_some, not_true_eq_false]
  refine wpC_skip ?_
  simp only [ptrTo, pend, pend0, Pd.old, pendU, pendU0, oxA0, oxA1, oxA2, oxA3, oxA4, oxA5, oxA6, oxA7, oxA8, oxA9, oxA10, oxL0, oxL1, oxTy0, oxTy1, ↓reduceIte, Nat.reduceAdd, Nat.reduceLeDiff, Nat.reduceLT, Nat.reduceEqDiff, Nat.reduceMul, Nat.reduceSub, Int.reduceEq, Int.reduceLT, Int.reduceLE, Int.reduceAdd, Int.reduceNeg, Int.reduceNe, Int.reduceToNat, Nat.testBit, Nat.reduceShiftRight, Nat.reduceAnd, Nat.reduceBneDiff, Nat.reduceBEq, gR_some]
  refine wpC_seq ?_
  refine sr (fun LL hLL => ?_)
  simp only [ptrTo, pend, pend0, Pd.old, pendU, pendU0, oxA0, oxA1, oxA2, oxA3, oxA4, oxA5, oxA6, oxA7, oxA8, oxA9, oxA10, oxL0, oxL1, oxTy0, oxTy1, ↓reduceIte, Nat.reduceAdd, Nat.reduceLeDiff, Nat.reduceLT, Nat.reduceEqDiff, Nat.reduceMul, Nat.reduceSub, Int.reduceEq, Int.reduceLT, Int.reduceLE, Int.reduceAdd, Int.reduceNeg, Int.reduceNe, Int.reduceToNat, Nat.testBit, Nat.reduceShiftRight, Nat.reduceAnd, Nat.reduceBneDiff, Nat.reduceBEq, gR_some]
  refine hLL _ _ ?_
  refine fg6 (fun R => ?_)
  refine wpC_block ?_
  refine wpC_loop (fun k T h' => ∃ (i : Nat) (t2 t3 : Value) (R : List Value), k + i = A.length ∧ h' = h ∧ T = .slice a A.length c :: .slice b A.length d :: t2 :: t3 :: .bool false :: .int .i64 i :: R) ?_ A.length _ _ ⟨0, _, _, R, by omega, rfl, rfl⟩
  rintro k T h' ⟨i, t2, t3, R, hi, rfl, rfl⟩
  refine wpC_seq (sr fun LL hLL => ?_)
  simp only [ptrTo, pend, pend0, Pd.old, pendU, pendU0, oxA0, oxA1, oxA2, oxA3, oxA4, oxA5, oxA6, oxA7, oxA8, oxA9, oxA10, oxL0, oxL1, oxTy0, oxTy1, ↓reduceIte, Nat.reduceAdd, Nat.reduceLeDiff, Nat.reduceLT, Nat.reduceEqDiff, Nat.reduceMul, Nat.reduceSub, Int.reduceEq, Int.reduceLT, Int.reduceLE, Int.reduceAdd, Int.reduceNeg, Int.reduceNe, Int.reduceToNat, Nat.testBit, Nat.reduceShiftRight, Nat.reduceAnd, Nat.reduceBneDiff, Nat.reduceBEq, gR_some]
  refine hLL _ _ ?_
  refine wpC_if ?_
  simp only [ptrTo, pend, pend0, Pd.old, pendU, pendU0, oxA0, oxA1, oxA2, oxA3, oxA4, oxA5, oxA6, oxA7, oxA8, oxA9, oxA10, oxL0, oxL1, oxTy0, oxTy1, ↓reduceIte, Nat.reduceAdd, Nat.reduceLeDiff, Nat.reduceLT, Nat.reduceEqDiff, Nat.reduceMul, Nat.reduceSub, Int.reduceEq, Int.reduceLT, Int.reduceLE, Int.reduceAdd, Int.reduceNeg, Int.reduceNe, Int.reduceToNat, Nat.testBit, Nat.reduceShiftRight, Nat.reduceAnd, Nat.reduceBneDiff, Nat.reduceBEq, gR_some]
  refine gC_of (fun hc => ?_) (fun hc => ?_)
  · refine wpC_skip ?_
    simp only [ptrTo, pend, pend0, Pd.old, pendU, pendU0, oxA0, oxA1, oxA2, oxA3, oxA4, oxA5, oxA6, oxA7, oxA8, oxA9, oxA10, oxL0, oxL1, oxTy0, oxTy1, ↓reduceIte, Nat.reduceAdd, Nat.reduceLeDiff, Nat.reduceLT, Nat.reduceEqDiff, Nat.reduceMul, Nat.reduceSub, Int.reduceEq, Int.reduceLT, Int.reduceLE, Int.reduceAdd, Int.reduceNeg, Int.reduceNe, Int.reduceToNat, Nat.testBit, Nat.reduceShiftRight, Nat.reduceAnd, Nat.reduceBneDiff, Nat.reduceBEq, gR_some]
    refine fg6 (fun R => ?_)
    have hi' : i < A.length := by omega
    have hiS : i < S.length := by omega
    have hiQ : i < Q.length := by omega
    obtain ⟨b1, o1, ro1, sz1, C1, e1, rfl, p1, g1, r1, q1⟩ := rS.resolve_left (by rintro rfl; simp at hiS)
    obtain ⟨b2, o2, ro2, sz2, C2, e2, rfl, p2, g2, r2, q2⟩ := rQ.resolve_left (by rintro rfl; simp at hiQ)
    have w1 : C1[o1 + i * 1]? = some (.slice S[i].a S[i].len S[i].cap) := Rs.cell Sv.len1 r1 q1 i hiS 0 (by omega)
    have w2 : C2[o2 + i * 1]? = some (.slice Q[i].a Q[i].len Q[i].cap) := Rs.cell Sv.len1 r2 q2 i hiQ 0 (by omega)
    rw [lens_at hS i hiS hi'] at w1
    rw [lens_at hQ i hiQ hi'] at w2
    have v1 : ∀ (a : Option Addr) (m n : Nat), veq 6 (.slice a m n) (.slice a m n) = true := by intro a m n; simp [veq]
    refine wpC_seq (wpC_block ?_)
    refine su [some 17, some 18, some 19, some 20, some 21, some 22, some 23, some 24, some 25, some 26] 10 [0, 0, 3, 7, 0, 0, 48, 112, 255, 511] (by rfl) (by rfl) (by decide +kernel) (by decide +kernel) (by decide +kernel) (fun LL hLL => ?_)
    simp only [ptrTo, pend, pend0, Pd.old, pendU, pendU0, oxA0, oxA1, oxA2, oxA3, oxA4, oxA5, oxA6, oxA7, oxA8, oxA9, oxA10, oxL0, oxL1, oxTy0, oxTy1, ↓reduceIte, Nat.reduceAdd, Nat.reduceLeDiff, Nat.reduceLT, Nat.reduceEqDiff, Nat.reduceMul, Nat.reduceSub, Int.reduceEq, Int.reduceLT, Int.reduceLE, Int.reduceAdd, Int.reduceNeg, Int.reduceNe, Int.reduceToNat, Nat.testBit, Nat.reduceShiftRight, Nat.reduceAnd, Nat.reduceBneDiff, Nat.reduceBEq, gR_some, ixF hi', g1, g2, w1, w2, v1]
    refine SameR_any A[i] _ _ _ _ _ _ (rI i hiS hi').1 (rJ i hiQ hi').1 (hb _ (List.getElem_mem hi')) ?_
    simp only [ptrTo, pend, pend0, Pd.old, pendU, pendU0, oxA0, oxA1, oxA2, oxA3, oxA4, oxA5, oxA6, oxA7, oxA8, oxA9, oxA10, oxL0, oxL1, oxTy0, oxTy1, ↓reduceIte, Nat.reduceAdd, Nat.reduceLeDiff, Nat.reduceLT, Nat.reduceEqDiff, Nat.reduceMul, Nat.reduceSub, Int.reduceEq, Int.reduceLT, Int.reduceLE, Int.reduceAdd, Int.reduceNeg, Int.reduceNe, Int.reduceToNat, Nat.testBit, Nat.reduceShiftRight, Nat.reduceAnd, Nat.reduceBneDiff, Nat.reduceBEq, gR_some, ixF hi', g1, g2, w1, w2, v1]
    refine hLL _ _ ?_
    refine wpC_if ?_
    simp only [ptrTo, pend, pend0, Pd.old, pendU, pendU0, oxA0, oxA1, oxA2, oxA3, oxA4, oxA5, oxA6, oxA7, oxA8, oxA9, oxA10, oxL0, oxL1, oxTy0, oxTy1, ↓reduceIte, Nat.reduceAdd, Nat.reduceLeDiff, Nat.reduceLT, Nat.reduceEqDiff, Nat.reduceMul, Nat.reduceSub, Int.reduceEq, Int.reduceLT, Int.reduceLE, Int.reduceAdd, Int.reduceNeg, Int.reduceNe, Int.reduceToNat, Nat.testBit, Nat.reduceShiftRight, Nat.reduceAnd, Nat.reduceBneDiff, Nat.reduceBEq, gR_some]
    refine wpC_skip ?_
    simp only [ptrTo, pend, pend0, Pd.old, pendU, pendU0, oxA0, oxA1, oxA2, oxA3, oxA4, oxA5, oxA6, oxA7, oxA8, oxA9, oxA10, oxL0, oxL1, oxTy0, oxTy1, ↓reduceIte, Nat.reduceAdd, Nat.reduceLeDiff, Nat.reduceLT, Nat.reduceEqDiff, Nat.reduceMul, Nat.reduceSub, Int.reduceEq, Int.reduceLT, Int.reduceLE, Int.reduceAdd, Int.reduceNeg, Int.reduceNe, Int.reduceToNat, Nat.testBit, Nat.reduceShiftRight, Nat.reduceAnd, Nat.reduceBneDiff, Nat.reduceBEq, gR_some]
    refine fg6 (fun R => ?_)
    refine rg (fun LL hLL => ?_)
    simp only [ptrTo, pend, pend0, Pd.old, pendU, pendU0, oxA0, oxA1, oxA2, oxA3, oxA4, oxA5, oxA6, oxA7, oxA8, oxA9, oxA10, oxL0, oxL1, oxTy0, oxTy1, ↓reduceIte, Nat.reduceAdd, Nat.reduceLeDiff, Nat.reduceLT, Nat.reduceEqDiff, Nat.reduceMul, Nat.reduceSub, Int.reduceEq, Int.reduceLT, Int.reduceLE, Int.reduceAdd, Int.reduceNeg, Int.reduceNe, Int.reduceToNat, Nat.testBit, Nat.reduceShiftRight, Nat.reduceAnd, Nat.reduceBneDiff, Nat.reduceBEq, gR_some, wsucc (show i < 9223372036854775807 by omega)]
    refine hLL _ _ ?_
    simp only [ptrTo, pend, pend0, Pd.old, pendU, pendU0, oxA0, oxA1, oxA2, oxA3, oxA4, oxA5, oxA6, oxA7, oxA8, oxA9, oxA10, oxL0, oxL1, oxTy0, oxTy1, ↓reduceIte, Nat.reduceAdd, Nat.reduceLeDiff, Nat.reduceLT, Nat.reduceEqDiff, Nat.reduceMul, Nat.reduceSub, Int.reduceEq, Int.reduceLT, Int.reduceLE, Int.reduceAdd, Int.reduceNeg, Int.reduceNe, Int.reduceToNat, Nat.testBit, Nat.reduceShiftRight, Nat.reduceAnd, Nat.reduceBneDiff, Nat.reduceBEq, gR_some]
    exact ⟨k - 1, by omega, i + 1, _, _, _, by omega, rfl⟩
  · refine wpC_exit ?_
    simp only [ptrTo, pend, pend0, Pd.old, pendU, pendU0, oxA0, oxA1, oxA2, oxA3, oxA4, oxA5, oxA6, oxA7, oxA8, oxA9, oxA10, oxL0, oxL1, oxTy0, oxTy1, ↓reduceIte, Nat.reduceAdd, Nat.reduceLeDiff, Nat.reduceLT, Nat.reduceEqDiff, Nat.reduceMul, Nat.reduceSub, Int.reduceEq, Int.reduceLT, Int.reduceLE, Int.reduceAdd, Int.reduceNeg, Int.reduceNe, Int.reduceToNat, Nat.testBit, Nat.reduceShiftRight, Nat.reduceAnd, Nat.reduceBneDiff, Nat.reduceBEq, gR_some]
    refine fg6 (fun R => ?_)
    refine sr (fun LL hLL => ?_)
    simp only [ptrTo, pend, pend0, Pd.old, pendU, pendU0, oxA0, oxA1, oxA2, oxA3, oxA4, oxA5, oxA6, oxA7, oxA8, oxA9, oxA10, oxL0, oxL1, oxTy0, oxTy1, ↓reduceIte, Nat.reduceAdd, Nat.reduceLeDiff, Nat.reduceLT, Nat.reduceEqDiff, Nat.reduceMul, Nat.reduceSub, Int.reduceEq, Int.reduceLT, Int.reduceLE, Int.reduceAdd, Int.reduceNeg, Int.reduceNe, Int.reduceToNat, Nat.testBit, Nat.reduceShiftRight, Nat.reduceAnd, Nat.reduceBneDiff, Nat.reduceBEq, gR_some]
    refine hLL _ _ ?_
    refine wpC_ret (out_ret ?_)
    simp only [ptrTo, pend, pend0, Pd.old, pendU, pendU0, oxA0, oxA1, oxA2, oxA3, oxA4, oxA5, oxA6, oxA7, oxA8, oxA9, oxA10, oxL0, oxL1, oxTy0, oxTy1, ↓reduceIte, Nat.reduceAdd, Nat.reduceLeDiff, Nat.reduceLT, Nat.reduceEqDiff, Nat.reduceMul, Nat.reduceSub, Int.reduceEq, Int.reduceLT, Int.reduceLE, Int.reduceAdd, Int.reduceNeg, Int.reduceNe, Int.reduceToNat, Nat.testBit, Nat.reduceShiftRight, Nat.reduceAnd, Nat.reduceBneDiff, Nat.reduceBEq, gR_some]
    exact hk
theorem SpoilRR_any {h0 : AHeap} {F : List Asn} (a : Option Addr) (c : Nat) (A : List (List Rc)) (h : AHeap) (K : Value → AHeap → Prop) (s : St h0 h (nest Rc.cells 2 37 46 a c A :: F)) (hl : A.length < 1000000) (hb : ∀ L ∈ A, L.length < 1000000)
    (hk : ∀ h', St h0 h' F → K (.tuple #[]) h') : wpF Try.prog (.fn 16) [.slice a A.length c] h K := by
  obtain ⟨S, hS, s0⟩ := s.nest_out
  have hSl := lens hS
  refine wpF_fun 14 [] Try.func16 rfl rfl rfl rfl ?_
  refine sr (fun LL hLL => ?_)
  simp only [ptrTo, pend, pend0, Pd.old, pendU, pendU0, oxA0, oxA1, oxA2, oxA3, oxA4, oxA5, oxA6, oxA7, oxA8, oxA9, oxA10, oxL0, oxL1, oxTy0, oxTy1, ↓reduceIte, Nat.reduceAdd, Nat.reduceLeDiff, Nat.reduceLT, Nat.reduceEqDiff, Nat.reduceMul, Nat.reduceSub, Int.reduceEq, Int.reduceLT, Int.reduceLE, Int.reduceAdd, Int.reduceNeg, Int.reduceNe, Int.reduceToNat, Nat.testBit, Nat.reduceShiftRight, Nat.reduceAnd, Nat.reduceBneDiff, Nat.reduceBEq, gR_some]
  refine hLL _ _ ?_
  refine fg3 (fun R => ?_)
  refine wpC_block ?_
  refine wpC_loop (fun k T h' => ∃ (i : Nat) (M : List (List Rc)) (t1 : Value) (R : List Value), k + i = A.length ∧ M.map List.length = A.map List.length ∧ St h0 h' (star (wns Rc.cells 2 37 S M) :: wn Sv.cells 1 46 a c S :: F) ∧
    T = .slice a A.length c :: t1 :: .int .i64 i :: R) ?_ A.length _ _ ⟨0, A, _, _, by omega, rfl, s0.mv 1, rfl⟩
  rintro k T h' ⟨i, M, t1, R, hi, hM, s1, rfl⟩
  have hMl : M.length = A.length := by simpa using congrArg List.length hM
  refine wpC_seq (sr fun LL hLL => ?_)
  simp only [ptrTo, pend, pend0, Pd.old, pendU, pendU0, oxA0, oxA1, oxA2, oxA3, oxA4, oxA5, oxA6, oxA7, oxA8, oxA9, oxA10, oxL0, oxL1, oxTy0, oxTy1, ↓reduceIte, Nat.reduceAdd, Nat.reduceLeDiff, Nat.reduceLT, Nat.reduceEqDiff, Nat.reduceMul, Nat.reduceSub, Int.reduceEq, Int.reduceLT, Int.reduceLE, Int.reduceAdd, Int.reduceNeg, Int.reduceNe, Int.reduceToNat, Nat.testBit, Nat.reduceShiftRight, Nat.reduceAnd, Nat.reduceBneDiff, Nat.reduceBEq, gR_some]
  refine hLL _ _ ?_
  refine wpC_if ?_
  simp only [ptrTo, pend, pend0, Pd.old, pendU, pendU0, oxA0, oxA1, oxA2, oxA3, oxA4, oxA5, oxA6, oxA7, oxA8, oxA9, oxA10, oxL0, oxL1, oxTy0, oxTy1, ↓reduceIte, Nat.reduceAdd, Nat.reduceLeDiff, Nat.reduceLT, Nat.reduceEqDiff, Nat.reduceMul, Nat.reduceSub, Int.reduceEq, Int.reduceLT, Int.reduceLE, Int.reduceAdd, Int.reduceNeg, Int.reduceNe, Int.reduceToNat, Nat.testBit, Nat.reduceShiftRight, Nat.reduceAnd, Nat.reduceBneDiff, Nat.reduceBEq, gR_some]
  refine gC_of (fun hc => ?_) (fun hc => ?_)
  · refine wpC_skip ?_
    simp only [ptrTo, pend, pend0, Pd.old, pendU, pendU0, oxA0, oxA1, oxA2, oxA3, oxA4, oxA5, oxA6, oxA7, oxA8, oxA9, oxA10, oxL0, oxL1, oxTy0, oxTy1, ↓reduceIte, Nat.reduceAdd, Nat.reduceLeDiff, Nat.reduceLT, Nat.reduceEqDiff, Nat.reduceMul, Nat.reduceSub, Int.reduceEq, Int.reduceLT, Int.reduceLE, Int.reduceAdd, Int.reduceNeg, Int.reduceNe, Int.reduceToNat, Nat.testBit, Nat.reduceShiftRight, Nat.reduceAnd, Nat.reduceBneDiff, Nat.reduceBEq, gR_some]
    refine fg3 (fun R => ?_)
    have hi' : i < A.length := by omega
    have hiM : i < M.length := by omega
    have hiS : i < S.length := by omega
    have hSM : S.map Sv.len = M.map List.length := hS.trans hM.symm
    obtain ⟨b1, o1, ro1, sz1, C1, e1, rfl, p1, g1, r1, q1⟩ := ((s1.mv 1).rs Sv.len1).resolve_left (by rintro rfl; simp at hiS)
    have w1 : C1[o1 + i * 1]? = some (.slice S[i].a S[i].len S[i].cap) := Rs.cell Sv.len1 r1 q1 i hiS 0 (by omega)
    rw [lens_at hSM i hiS hiM] at w1
    have hwl : i < (wns Rc.cells 2 37 S M).length := by rw [wns_len (by omega)]; exact hiM
    have s2 := s1.pick i hwl
    rw [wns_at i hiS hiM hwl] at s2
    have hbi : M[i].length = A[i].length := by
      have : (M.map List.length)[i]? = (A.map List.length)[i]? := by rw [hM]
      simpa [List.getElem?_map, List.getElem?_eq_getElem hiM, List.getElem?_eq_getElem hi'] using this
    refine wpC_seq (wpC_block ?_)
    refine rg (fun LL hLL => ?_)
    simp only [ptrTo, pend, pend0, Pd.old, pendU, pendU0, oxA0, oxA1, oxA2, oxA3, oxA4, oxA5, oxA6, oxA7, oxA8, oxA9, oxA10, oxL0, oxL1, oxTy0, oxTy1, ↓reduceIte, Nat.reduceAdd, Nat.reduceLeDiff, Nat.reduceLT, Nat.reduceEqDiff, Nat.reduceMul, Nat.reduceSub, Int.reduceEq, Int.reduceLT, Int.reduceLE, Int.reduceAdd, Int.reduceNeg, Int.reduceNe, Int.reduceToNat, Nat.testBit, Nat.reduceShiftRight, Nat.reduceAnd, Nat.reduceBneDiff, Nat.reduceBEq, gR_some, ixF hi', g1, w1]
    refine SpoilR_any _ _ M[i] _ _ s2 (by rw [hbi]; exact hb _ (List.getElem_mem hi')) fun L' h2 hL' s3 => ?_
    refine hLL _ _ ?_
    simp only [ptrTo, pend, pend0, Pd.old, pendU, pendU0, oxA0, oxA1, oxA2, oxA3, oxA4, oxA5, oxA6, oxA7, oxA8, oxA9, oxA10, oxL0, oxL1, oxTy0, oxTy1, ↓reduceIte, Nat.reduceAdd, Nat.reduceLeDiff, Nat.reduceLT, Nat.reduceEqDiff, Nat.reduceMul, Nat.reduceSub, Int.reduceEq, Int.reduceLT, Int.reduceLE, Int.reduceAdd, Int.reduceNeg, Int.reduceNe, Int.reduceToNat, Nat.testBit, Nat.reduceShiftRight, Nat.reduceAnd, Nat.reduceBneDiff, Nat.reduceBEq, gR_some]
    refine fg3 (fun R => ?_)
    refine rg (fun LL hLL => ?_)
    simp only [ptrTo, pend, pend0, Pd.old, pendU, pendU0, oxA0, oxA1, oxA2, oxA3, oxA4, oxA5, oxA6, oxA7, oxA8, oxA9, oxA10, oxL0, oxL1, oxTy0, oxTy1, ↓reduceIte, Nat.reduceAdd, Nat.reduceLeDiff, Nat.reduceLT, Nat.reduceEqDiff, Nat.reduceMul, Nat.reduceSub, Int.reduceEq, Int.reduceLT, Int.reduceLE, Int.reduceAdd, Int.reduceNeg, Int.reduceNe, Int.reduceToNat, Nat.testBit, Nat.reduceShiftRight, Nat.reduceAnd, Nat.reduceBneDiff, Nat.reduceBEq, gR_some, wsucc (show i < 9223372036854775807 by omega)]
    refine hLL _ _ ?_
    simp only [ptrTo, pend, pend0, Pd.old, pendU, pendU0, oxA0, oxA1, oxA2, oxA3, oxA4, oxA5, oxA6, oxA7, oxA8, oxA9, oxA10, oxL0, oxL1, oxTy0, oxTy1, ↓reduceIte, Nat.reduceAdd, Nat.reduceLeDiff, Nat.reduceLT, Nat.reduceEqDiff, Nat.reduceMul, Nat.reduceSub, Int.reduceEq, Int.reduceLT, Int.reduceLE, Int.reduceAdd, Int.reduceNeg, Int.reduceNe, Int.reduceToNat, Nat.testBit, Nat.reduceShiftRight, Nat.reduceAnd, Nat.reduceBneDiff, Nat.reduceBEq, gR_some]
    have s4 := s3.unpick i hwl
    have ew := wns_set (f := Rc.cells) (k := 2) (e := 37) (s := S[i]) (L := L') S M i
    rw [List.set_getElem_self] at ew
    rw [← ew] at s4
    refine ⟨k - 1, by omega, i + 1, M.set i L', _, _, by omega, ?_, s4, rfl⟩
    rw [← hM, List.map_set, hL', ← List.getElem_map List.length (h := by simpa using hiM), List.set_getElem_self]
  · refine wpC_exit ?_
    simp only [ptrTo, pend, pend0, Pd.old, pendU, pendU0, oxA0, oxA1, oxA2, oxA3, oxA4, oxA5, oxA6, oxA7, oxA8, oxA9, oxA10, oxL0, oxL1, oxTy0, oxTy1, ↓reduceIte, Nat.reduceAdd, Nat.reduceLeDiff, Nat.reduceLT, Nat.reduceEqDiff, Nat.reduceMul, Nat.reduceSub, Int.reduceEq, Int.reduceLT, Int.reduceLE, Int.reduceAdd, Int.reduceNeg, Int.reduceNe, Int.reduceToNat, Nat.testBit, Nat.reduceShiftRight, Nat.reduceAnd, Nat.reduceBneDiff, Nat.reduceBEq, gR_some]
    refine out_normal ?_
    simp only [ptrTo, pend, pend0, Pd.old, pendU, pendU0, oxA0, oxA1, oxA2, oxA3, oxA4, oxA5, oxA6, oxA7, oxA8, oxA9, oxA10, oxL0, oxL1, oxTy0, oxTy1, ↓reduceIte, Nat.reduceAdd, Nat.reduceLeDiff, Nat.reduceLT, Nat.reduceEqDiff, Nat.reduceMul, Nat.reduceSub, Int.reduceEq, Int.reduceLT, Int.reduceLE, Int.reduceAdd, Int.reduceNeg, Int.reduceNe, Int.reduceToNat, Nat.testBit, Nat.reduceShiftRight, Nat.reduceAnd, Nat.reduceBneDiff, Nat.reduceBEq, gR_some]
    exact hk _ s1.drop.drop

/-- How many there are in all. -/
def total (A : List (List Rc)) : Nat := (A.map List.length).sum
theorem total_take (A : List (List Rc)) (i : Nat) (hi : i < A.length) : total (A.take (i + 1)) = total (A.take i) + A[i].length := by
  unfold total
  rw [List.take_succ_eq_append_getElem hi, List.map_append, List.sum_append]; simp
theorem total_le (A : List (List Rc)) (m : Nat) (hb : ∀ L ∈ A, L.length < m) (i : Nat) : total (A.take i) ≤ i * m := by
  induction i with
  | zero => simp [total]
  | succ i ih =>
    by_cases hi : i < A.length
    · rw [total_take A i hi, Nat.succ_mul]
      have := hb _ (List.getElem_mem hi)
      omega
    · rw [List.take_of_length_le (by omega)] at ih ⊢
      rw [Nat.succ_mul]; omega
theorem Long_any (a : Option Addr) (c : Nat) (A : List (List Rc)) (h : AHeap) (K : Value → AHeap → Prop) (r : RsN Rc.cells 2 h a A) (hl : A.length < 9223372036854775808) (hb : ∀ L ∈ A, L.length < 8796093022208)
    (hk : ∀ b : Bool, (b = false → A.length ≤ 30 ∧ total A ≤ 600) → K (.bool b) h) : wpF Try.prog (.fn 8) [.slice a A.length c] h K := by
  obtain ⟨S, hS, rS, rI⟩ := r
  have hSl := lens hS
  refine wpF_fun 29 [.tmp 2] Try.func8 rfl rfl rfl rfl ?_
  refine sr (fun LL hLL => ?_)
  simp only [ptrTo, pend, pend0, Pd.old, pendU, pendU0, oxA0, oxA1, oxA2, oxA3, oxA4, oxA5, oxA6, oxA7, oxA8, oxA9, oxA10, oxL0, oxL1, oxTy0, oxTy1, ↓reduceIte, Nat.reduceAdd, Nat.reduceLeDiff, Nat.reduceLT, Nat.reduceEqDiff, Nat.reduceMul, Nat.reduceSub, Int.reduceEq, Int.reduceLT, Int.reduceLE, Int.reduceAdd, Int.reduceNeg, Int.reduceNe, Int.reduceToNat, Nat.testBit, Nat.reduceShiftRight, Nat.reduceAnd, Nat.reduceBneDiff, Nat.reduceBEq, gR_some]
  refine hLL _ _ ?_
  refine sr (fun LL hLL => ?_)
  simp only [ptrTo, pend, pend0, Pd.old, pendU, pendU0, oxA0, oxA1, oxA2, oxA3, oxA4, oxA5, oxA6, oxA7, oxA8, oxA9, oxA10, oxL0, oxL1, oxTy0, oxTy1, ↓reduceIte, Nat.reduceAdd, Nat.reduceLeDiff, Nat.reduceLT, Nat.reduceEqDiff, Nat.reduceMul, Nat.reduceSub, Int.reduceEq, Int.reduceLT, Int.reduceLE, Int.reduceAdd, Int.reduceNeg, Int.reduceNe, Int.reduceToNat, Nat.testBit, Nat.reduceShiftRight, Nat.reduceAnd, Nat.reduceBneDiff, Nat.reduceBEq, gR_some]
  refine hLL _ _ ?_
  refine wpC_seq ?_
  refine sr (fun LL hLL => ?_)
  simp only [ptrTo, pend, pend0, Pd.old, pendU, pendU0, oxA0, oxA1, oxA2, oxA3, oxA4, oxA5, oxA6, oxA7, oxA8, oxA9, oxA10, oxL0, oxL1, oxTy0, oxTy1, ↓reduceIte, Nat.reduceAdd, Nat.reduceLeDiff, Nat.reduceLT, Nat.reduceEqDiff, Nat.reduceMul, Nat.reduceSub, Int.reduceEq, Int.reduceLT, Int.reduceLE, Int.reduceAdd, Int.reduceNeg, Int.reduceNe, Int.reduceToNat, Nat.testBit, Nat.reduceShiftRight, Nat.reduceAnd, Nat.reduceBneDiff, Nat.reduceBEq, gR_some]
  refine hLL _ _ ?_
  refine fg5 (fun R => ?_)
  refine wpC_block ?_
  refine wpC_loop (fun k T h' => ∃ (i : Nat) (t1 t2 : Value) (R : List Value), k + i = min A.length 100 ∧ h' = h ∧ T = .slice a A.length c :: t1 :: t2 :: .int .i64 (total (A.take i) : Nat) :: .int .i64 i :: R) ?_ (min A.length 100) _ _ ⟨0, _, _, R, by omega, rfl, rfl⟩
  rintro k T h' ⟨i, t1, t2, R, hi, rfl, rfl⟩
  have hti := total_le A _ hb i
  have hx : IntKind.i64.wrap 0 = 0 := rfl
  by_cases hlt : i < A.length ∧ i < 100
  · obtain ⟨hi', hi2⟩ := hlt
    refine wpC_seq (sr fun LL hLL => ?_)
    simp only [ptrTo, pend, pend0, Pd.old, pendU, pendU0, oxA0, oxA1, oxA2, oxA3, oxA4, oxA5, oxA6, oxA7, oxA8, oxA9, oxA10, oxL0, oxL1, oxTy0, oxTy1, ↓reduceIte, Nat.reduceAdd, Nat.reduceLeDiff, Nat.reduceLT, Nat.reduceEqDiff, Nat.reduceMul, Nat.reduceSub, Int.reduceEq, Int.reduceLT, Int.reduceLE, Int.reduceAdd, Int.reduceNeg, Int.reduceNe, Int.reduceToNat, Nat.testBit, Nat.reduceShiftRight, Nat.reduceAnd, Nat.reduceBneDiff, Nat.reduceBEq, gR_some, ixF hi', eq_true (show (i : Int) < 100 by omega)]
    refine hLL _ _ ?_
    refine wpC_if ?_
    simp only [ptrTo, pend, pend0, Pd.old, pendU, pendU0, oxA0, oxA1, oxA2, oxA3, oxA4, oxA5, oxA6, oxA7, oxA8, oxA9, oxA10, oxL0, oxL1, oxTy0, oxTy1, ↓reduceIte, Nat.reduceAdd, Nat.reduceLeDiff, Nat.reduceLT, Nat.reduceEqDiff, Nat.reduceMul, Nat.reduceSub, Int.reduceEq, Int.reduceLT, Int.reduceLE, Int.reduceAdd, Int.reduceNeg, Int.reduceNe, Int.reduceToNat, Nat.testBit, Nat.reduceShiftRight, Nat.reduceAnd, Nat.reduceBneDiff, Nat.reduceBEq, gR_some]
    refine wpC_skip ?_
    simp only [ptrTo, pend, pend0, Pd.old, pendU, pendU0, oxA0, oxA1, oxA2, oxA3, oxA4, oxA5, oxA6, oxA7, oxA8, oxA9, oxA10, oxL0, oxL1, oxTy0, oxTy1, ↓reduceIte, Nat.reduceAdd, Nat.reduceLeDiff, Nat.reduceLT, Nat.reduceEqDiff, Nat.reduceMul, Nat.reduceSub, Int.reduceEq, Int.reduceLT, Int.reduceLE, Int.reduceAdd, Int.reduceNeg, Int.reduceNe, Int.reduceToNat, Nat.testBit, Nat.reduceShiftRight, Nat.reduceAnd, Nat.reduceBneDiff, Nat.reduceBEq, gR_some]
    refine fg5 (fun R => ?_)
    have hiS : i < S.length := by omega
    obtain ⟨b1, o1, ro1, sz1, C1, e1, rfl, p1, g1, r1, q1⟩ := rS.resolve_left (by rintro rfl; simp at hiS)
    have w1 : C1[o1 + i * 1]? = some (.slice S[i].a S[i].len S[i].cap) := Rs.cell Sv.len1 r1 q1 i hiS 0 (by omega)
    rw [lens_at hS i hiS hi'] at w1
    have hbi := hb _ (List.getElem_mem hi')
    have hw : IntKind.i64.wrap (((total (A.take i) : Nat) : Int) + (A[i].length : Int)) = ((total (A.take (i + 1)) : Nat) : Int) := by
      rw [total_take A i hi', wrap_i64 (by omega) (by omega)]; omega
    refine wpC_seq (wpC_block ?_)
    refine rg (fun LL hLL => ?_)
    simp only [ptrTo, pend, pend0, Pd.old, pendU, pendU0, oxA0, oxA1, oxA2, oxA3, oxA4, oxA5, oxA6, oxA7, oxA8, oxA9, oxA10, oxL0, oxL1, oxTy0, oxTy1, ↓reduceIte, Nat.reduceAdd, Nat.reduceLeDiff, Nat.reduceLT, Nat.reduceEqDiff, Nat.reduceMul, Nat.reduceSub, Int.reduceEq, Int.reduceLT, Int.reduceLE, Int.reduceAdd, Int.reduceNeg, Int.reduceNe, Int.reduceToNat, Nat.testBit, Nat.reduceShiftRight, Nat.reduceAnd, Nat.reduceBneDiff, Nat.reduceBEq, gR_some, ixF hi', g1, w1, hw]
    refine hLL _ _ ?_
    simp only [ptrTo, pend, pend0, Pd.old, pendU, pendU0, oxA0, oxA1, oxA2, oxA3, oxA4, oxA5, oxA6, oxA7, oxA8, oxA9, oxA10, oxL0, oxL1, oxTy0, oxTy1, ↓reduceIte, Nat.reduceAdd, Nat.reduceLeDiff, Nat.reduceLT, Nat.reduceEqDiff, Nat.reduceMul, Nat.reduceSub, Int.reduceEq, Int.reduceLT, Int.reduceLE, Int.reduceAdd, Int.reduceNeg, Int.reduceNe, Int.reduceToNat, Nat.testBit, Nat.reduceShiftRight, Nat.reduceAnd, Nat.reduceBneDiff, Nat.reduceBEq, gR_some]
    refine fg5 (fun R => ?_)
    refine rg (fun LL hLL => ?_)
    simp only [ptrTo, pend, pend0, Pd.old, pendU, pendU0, oxA0, oxA1, oxA2, oxA3, oxA4, oxA5, oxA6, oxA7, oxA8, oxA9, oxA10, oxL0, oxL1, oxTy0, oxTy1, ↓reduceIte, Nat.reduceAdd, Nat.reduceLeDiff, Nat.reduceLT, Nat.reduceEqDiff, Nat.reduceMul, Nat.reduceSub, Int.reduceEq, Int.reduceLT, Int.reduceLE, Int.reduceAdd, Int.reduceNeg, Int.reduceNe, Int.reduceToNat, Nat.testBit, Nat.reduceShiftRight, Nat.reduceAnd, Nat.reduceBneDiff, Nat.reduceBEq, gR_some, wsucc (show i < 9223372036854775807 by omega)]
    refine hLL _ _ ?_
    simp only [ptrTo, pend, pend0, Pd.old, pendU, pendU0, oxA0, oxA1, oxA2, oxA3, oxA4, oxA5, oxA6, oxA7, oxA8, oxA9, oxA10, oxL0, oxL1, oxTy0, oxTy1, ↓reduceIte, Nat.reduceAdd, Nat.reduceLeDiff, Nat.reduceLT, Nat.reduceEqDiff, Nat.reduceMul, Nat.reduceSub, Int.reduceEq, Int.reduceLT, Int.reduceLE, Int.reduceAdd, Int.reduceNeg, Int.reduceNe, Int.reduceToNat, Nat.testBit, Nat.reduceShiftRight, Nat.reduceAnd, Nat.reduceBneDiff, Nat.reduceBEq, gR_some]
    exact ⟨k - 1, by omega, i + 1, _, _, _, by omega, rfl⟩
  · have fin : (30 < (A.length : Int) → K (.bool true) h') ∧ (¬ 30 < (A.length : Int) → ¬ 600 < ((total (A.take i) : Nat) : Int) → K (.bool false) h') ∧ (¬ 30 < (A.length : Int) → 600 < ((total (A.take i) : Nat) : Int) → K (.bool true) h') := by
      refine ⟨fun _ => hk true (fun k => by cases k), fun h1 h2 => hk false fun _ => ?_, fun _ _ => hk true (fun k => by cases k)⟩
      have hil : i = A.length := by omega
      rw [hil, List.take_length] at h2
      omega
    by_cases hi' : i < A.length
    · refine wpC_seq (sr fun LL hLL => ?_)
      simp only [ptrTo, pend, pend0, Pd.old, pendU, pendU0, oxA0, oxA1, oxA2, oxA3, oxA4, oxA5, oxA6, oxA7, oxA8, oxA9, oxA10, oxL0, oxL1, oxTy0, oxTy1, ↓reduceIte, Nat.reduceAdd, Nat.reduceLeDiff, Nat.reduceLT, Nat.reduceEqDiff, Nat.reduceMul, Nat.reduceSub, Int.reduceEq, Int.reduceLT, Int.reduceLE, Int.reduceAdd, Int.reduceNeg, Int.reduceNe, Int.reduceToNat, Nat.testBit, Nat.reduceShiftRight, Nat.reduceAnd, Nat.reduceBneDiff, Nat.reduceBEq, gR_some, ixF hi', eq_false (show ¬ (i : Int) < 100 by omega)]
      refine hLL _ _ ?_
      refine wpC_if ?_
      simp only [ptrTo, pend, pend0, Pd.old, pendU, pendU0, oxA0, oxA1, oxA2, oxA3, oxA4, oxA5, oxA6, oxA7, oxA8, oxA9, oxA10, oxL0, oxL1, oxTy0, oxTy1, ↓reduceIte, Nat.reduceAdd, Nat.reduceLeDiff, Nat.reduceLT, Nat.reduceEqDiff, Nat.reduceMul, Nat.reduceSub, Int.reduceEq, Int.reduceLT, Int.reduceLE, Int.reduceAdd, Int.reduceNeg, Int.reduceNe, Int.reduceToNat, Nat.testBit, Nat.reduceShiftRight, Nat.reduceAnd, Nat.reduceBneDiff, Nat.reduceBEq, gR_some]
      refine wpC_exit ?_
      simp only [ptrTo, pend, pend0, Pd.old, pendU, pendU0, oxA0, oxA1, oxA2, oxA3, oxA4, oxA5, oxA6, oxA7, oxA8, oxA9, oxA10, oxL0, oxL1, oxTy0, oxTy1, ↓reduceIte, Nat.reduceAdd, Nat.reduceLeDiff, Nat.reduceLT, Nat.reduceEqDiff, Nat.reduceMul, Nat.reduceSub, Int.reduceEq, Int.reduceLT, Int.reduceLE, Int.reduceAdd, Int.reduceNeg, Int.reduceNe, Int.reduceToNat, Nat.testBit, Nat.reduceShiftRight, Nat.reduceAnd, Nat.reduceBneDiff, Nat.reduceBEq, gR_some]
      refine fg5 (fun R => ?_)
      refine sr (fun LL hLL => ?_)
      simp only [ptrTo, pend, pend0, Pd.old, pendU, pendU0, oxA0, oxA1, oxA2, oxA3, oxA4, oxA5, oxA6, oxA7, oxA8, oxA9, oxA10, oxL0, oxL1, oxTy0, oxTy1, ↓reduceIte, Nat.reduceAdd, Nat.reduceLeDiff, Nat.reduceLT, Nat.reduceEqDiff, Nat.reduceMul, Nat.reduceSub, Int.reduceEq, Int.reduceLT, Int.reduceLE, Int.reduceAdd, Int.reduceNeg, Int.reduceNe, Int.reduceToNat, Nat.testBit, Nat.reduceShiftRight, Nat.reduceAnd, Nat.reduceBneDiff, Nat.reduceBEq, gR_some, eq_true (show 30 < (A.length : Int) by omega)]
      refine hLL _ _ ?_
      refine wpC_ret (out_ret ?_)
      simp only [ptrTo, pend, pend0, Pd.old, pendU, pendU0, oxA0, oxA1, oxA2, oxA3, oxA4, oxA5, oxA6, oxA7, oxA8, oxA9, oxA10, oxL0, oxL1, oxTy0, oxTy1, ↓reduceIte, Nat.reduceAdd, Nat.reduceLeDiff, Nat.reduceLT, Nat.reduceEqDiff, Nat.reduceMul, Nat.reduceSub, Int.reduceEq, Int.reduceLT, Int.reduceLE, Int.reduceAdd, Int.reduceNeg, Int.reduceNe, Int.reduceToNat, Nat.testBit, Nat.reduceShiftRight, Nat.reduceAnd, Nat.reduceBneDiff, Nat.reduceBEq, gR_some]
      exact fin.1 (by omega)
    · refine wpC_seq (sr fun LL hLL => ?_)
      simp only [ptrTo, pend, pend0, Pd.old, pendU, pendU0, oxA0, oxA1, oxA2, oxA3, oxA4, oxA5, oxA6, oxA7, oxA8, oxA9, oxA10, oxL0, oxL1, oxTy0, oxTy1, ↓reduceIte, Nat.reduceAdd, Nat.reduceLeDiff, Nat.reduceLT, Nat.reduceEqDiff, Nat.reduceMul, Nat.reduceSub, Int.reduceEq, Int.reduceLT, Int.reduceLE, Int.reduceAdd, Int.reduceNeg, Int.reduceNe, Int.reduceToNat, Nat.testBit, Nat.reduceShiftRight, Nat.reduceAnd, Nat.reduceBneDiff, Nat.reduceBEq, gR_some, eq_false (show ¬ (i : Int) < (A.length : Int) by omega)]
      refine hLL _ _ ?_
      refine wpC_if ?_
      simp only [ptrTo, pend, pend0, Pd.old, pendU, pendU0, oxA0, oxA1, oxA2, oxA3, oxA4, oxA5, oxA6, oxA7, oxA8, oxA9, oxA10, oxL0, oxL1, oxTy0, oxTy1, ↓reduceIte, Nat.reduceAdd, Nat.reduceLeDiff, Nat.reduceLT, Nat.reduceEqDiff, Nat.reduceMul, Nat.reduceSub, Int.reduceEq, Int.reduceLT, Int.reduceLE, Int.reduceAdd, Int.reduceNeg, Int.reduceNe, Int.reduceToNat, Nat.testBit, Nat.reduceShiftRight, Nat.reduceAnd, Nat.reduceBneDiff, Nat.reduceBEq, gR_some]
      refine wpC_exit ?_
      simp only [ptrTo, pend, pend0, Pd.old, pendU, pendU0, oxA0, oxA1, oxA2, oxA3, oxA4, oxA5, oxA6, oxA7, oxA8, oxA9, oxA10, oxL0, oxL1, oxTy0, oxTy1, ↓reduceIte, Nat.reduceAdd, Nat.reduceLeDiff, Nat.reduceLT, Nat.reduceEqDiff, Nat.reduceMul, Nat.reduceSub, Int.reduceEq, Int.reduceLT, Int.reduceLE, Int.reduceAdd, Int.reduceNeg, Int.reduceNe, Int.reduceToNat, Nat.testBit, Nat.reduceShiftRight, Nat.reduceAnd, Nat.reduceBneDiff, Nat.reduceBEq, gR_some]
      refine fg5 (fun R => ?_)
      by_cases h30 : 30 < (A.length : Int)
      · refine sr (fun LL hLL => ?_)
        simp only [ptrTo, pend, pend0, Pd.old, pendU, pendU0, oxA0, oxA1, oxA2, oxA3, oxA4, oxA5, oxA6, oxA7, oxA8, oxA9, oxA10, oxL0, oxL1, oxTy0, oxTy1, ↓reduceIte, Nat.reduceAdd, Nat.reduceLeDiff, Nat.reduceLT, Nat.reduceEqDiff, Nat.reduceMul, Nat.reduceSub, Int.reduceEq, Int.reduceLT, Int.reduceLE, Int.reduceAdd, Int.reduceNeg, Int.reduceNe, Int.reduceToNat, Nat.testBit, Nat.reduceShiftRight, Nat.reduceAnd, Nat.reduceBneDiff, Nat.reduceBEq, gR_some, eq_true h30]
        refine hLL _ _ ?_
        refine wpC_ret (out_ret ?_)
        simp only [ptrTo, pend, pend0, Pd.old, pendU, pendU0, oxA0, oxA1, oxA2, oxA3, oxA4, oxA5, oxA6, oxA7, oxA8, oxA9, oxA10, oxL0, oxL1, oxTy0, oxTy1, ↓reduceIte, Nat.reduceAdd, Nat.reduceLeDiff, Nat.reduceLT, Nat.reduceEqDiff, Nat.reduceMul, Nat.reduceSub, Int.reduceEq, Int.reduceLT, Int.reduceLE, Int.reduceAdd, Int.reduceNeg, Int.reduceNe, Int.reduceToNat, Nat.testBit, Nat.reduceShiftRight, Nat.reduceAnd, Nat.reduceBneDiff, Nat.reduceBEq, gR_some]
        exact fin.1 h30
      · by_cases h6 : 600 < ((total (A.take i) : Nat) : Int)
        · refine sr (fun LL hLL => ?_)
          simp only [ptrTo, pend, pend0, Pd.old, pendU, pendU0, oxA0, oxA1, oxA2, oxA3, oxA4, oxA5, oxA6, oxA7, oxA8, oxA9, oxA10, oxL0, oxL1, oxTy0, oxTy1, ↓reduceIte, Nat.reduceAdd, Nat.reduceLeDiff, Nat.reduceLT, Nat.reduceEqDiff, Nat.reduceMul, Nat.reduceSub, Int.reduceEq, Int.reduceLT, Int.reduceLE, Int.reduceAdd, Int.reduceNeg, Int.reduceNe, Int.reduceToNat, Nat.testBit, Nat.reduceShiftRight, Nat.reduceAnd, Nat.reduceBneDiff, Nat.reduceBEq, gR_some, eq_false h30, eq_true h6]
          refine hLL _ _ ?_
          refine wpC_ret (out_ret ?_)
          simp only [ptrTo, pend, pend0, Pd.old, pendU, pendU0, oxA0, oxA1, oxA2, oxA3, oxA4, oxA5, oxA6, oxA7, oxA8, oxA9, oxA10, oxL0, oxL1, oxTy0, oxTy1, ↓reduceIte, Nat.reduceAdd, Nat.reduceLeDiff, Nat.reduceLT, Nat.reduceEqDiff, Nat.reduceMul, Nat.reduceSub, Int.reduceEq, Int.reduceLT, Int.reduceLE, Int.reduceAdd, Int.reduceNeg, Int.reduceNe, Int.reduceToNat, Nat.testBit, Nat.reduceShiftRight, Nat.reduceAnd, Nat.reduceBneDiff, Nat.reduceBEq, gR_some]
          exact fin.2.2 h30 h6
        · refine sr (fun LL hLL => ?_)
          simp only [ptrTo, pend, pend0, Pd.old, pendU, pendU0, oxA0, oxA1, oxA2, oxA3, oxA4, oxA5, oxA6, oxA7, oxA8, oxA9, oxA10, oxL0, oxL1, oxTy0, oxTy1, ↓reduceIte, Nat.reduceAdd, Nat.reduceLeDiff, Nat.reduceLT, Nat.reduceEqDiff, Nat.reduceMul, Nat.reduceSub, Int.reduceEq, Int.reduceLT, Int.reduceLE, Int.reduceAdd, Int.reduceNeg, Int.reduceNe, Int.reduceToNat, Nat.testBit, Nat.reduceShiftRight, Nat.reduceAnd, Nat.reduceBneDiff, Nat.reduceBEq, gR_some, eq_false h30, eq_false h6]
          refine hLL _ _ ?_
          refine wpC_ret (out_ret ?_)
          simp only [ptrTo, pend, pend0, Pd.old, pendU, pendU0, oxA0, oxA1, oxA2, oxA3, oxA4, oxA5, oxA6, oxA7, oxA8, oxA9, oxA10, oxL0, oxL1, oxTy0, oxTy1, ↓reduceIte, Nat.reduceAdd, Nat.reduceLeDiff, Nat.reduceLT, Nat.reduceEqDiff, Nat.reduceMul, Nat.reduceSub, Int.reduceEq, Int.reduceLT, Int.reduceLE, Int.reduceAdd, Int.reduceNeg, Int.reduceNe, Int.reduceToNat, Nat.testBit, Nat.reduceShiftRight, Nat.reduceAnd, Nat.reduceBneDiff, Nat.reduceBEq, gR_some]
          exact fin.2.1 h30 h6
end Go.Proofs
