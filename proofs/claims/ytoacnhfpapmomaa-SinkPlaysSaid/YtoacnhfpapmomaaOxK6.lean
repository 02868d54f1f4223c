/-
  The sink: Commit. CONDITIONS: none.
-/
import Derived.Test.YtoacnhfpapmomaaOxK5
set_option linter.unusedSimpArgs false
set_option linter.unusedVariables false
namespace Go.Proofs
open Go Go.Ox
set_option maxRecDepth 100000
set_option maxHeartbeats 4000000
def newLast (last : Option Int) (no : Int) : Option Int := match last with
  | some m => if m < no then some no else some m
  | none => some no
theorem newLast_above {last : Option Int} {no : Int} (h : above last no) : newLast last no = some no := by
  cases last with
  | none => rfl
  | some m => have := h m rfl; simp [newLast, this]
theorem newLast_not {last : Option Int} {no : Int} (h : ¬ above last no) : newLast last no = last := by
  cases last with
  | none => exact (h (fun _ k => by cases k)).elim
  | some m =>
    have : ¬ m < no := fun k => h (fun q hq => by cases hq; exact k)
    simp [newLast, this]
theorem done_len (a : Option Addr) (c : Nat) (C : List Ct) (m : Nat) (hm : C.length = m) (h : AHeap) (K : Value → AHeap → Prop) (r : Rs Ct.cells 2 h a C) (hl : C.length < 1000000) (hk : K (.int .i64 (doneC C)) h) : wpF Try.prog (.fn 31) [.slice a m c] h K := by
  subst hm; exact done_any a c C h K r hl hk
def dec (g : Nat) (c : Ct) : Ct := ⟨c.no, c.fin - g⟩
theorem ctF (C : List Ct) (i : Nat) (hi : i < C.length) : (C.flatMap Ct.cells)[i * 2]? = some (.int .i64 C[i].no) ∧ (C.flatMap Ct.cells)[i * 2 + 1]? = some (.int .i64 C[i].fin) ∧ (i * 2 + 1 + 1 ≤ (C.flatMap Ct.cells).length) = True := by
  have := flat_le Ct.len C i hi
  exact ⟨flat_get' Ct.len C i hi (by omega), flat_get Ct.len C i 1 hi (by omega), eq_true (by omega)⟩

theorem Commit_any (p : Nat) (O : List Nat) (R : List Rc) (C : List Ct) (last : Option Int) (no : Int) (h : AHeap) (K : Value → AHeap → Prop) (s : Sk h p O R C last) (hl : R.length < 1000000) (hc : C.length < 1000000) (hs : Sorted C)
    (hf : ∀ i (hi : i < C.length), C[i].fin ≤ R.length) (hm : ∀ i j (hi : i < C.length) (hj : j < C.length), i < j → C[i].fin ≤ C[j].fin)
    (hk : ∀ n O' h', Parts C no n → Fr h h' O → (∀ β ∈ O', β ∈ O ∨ h.next ≤ β) → Sk h' p O' (R.drop (doneC (C.take n))) ((C.drop n).map (dec (doneC (C.take n)))) (newLast last no) → K (.tuple #[]) h') :
    wpF Try.prog (.fn 15) [.pointer (some ⟨p, 0, none⟩), .int .i64 no] h K := by
  refine wpF_fun 68 [] Try.func15 rfl rfl rfl rfl ?_
  refine sm (fun T1 h1 => ∃ (O1 : List Nat) (b : Bool), Fr h h1 O ∧ (∀ β ∈ O1, β ∈ O ∨ h.next ≤ β) ∧ Sk h1 p O1 R C (newLast last no) ∧ T1 = [.pointer (some ⟨p, 0, none⟩), .int .i64 no, undef, undef, undef, undef, undef, undef, .pointer (some ⟨p, 0, none⟩), .int .i64 no, .bool b]) ?_ ?_
  · refine rg (fun LL hLL => ?_)
    simp only [ptrTo, pend, pend0, Pd.old, pendU, pendU0, oxA0, oxA1, oxA2, oxA3, oxA4, oxA5, oxA6, oxA7, oxA8, oxA9, oxA10, oxL0, oxL1, oxTy0, oxTy1, oxTy2, ↓reduceIte, Nat.reduceAdd, Nat.reduceLeDiff, Nat.reduceLT, Nat.reduceEqDiff, Nat.reduceMul, Nat.reduceSub, Int.reduceEq, Int.reduceLT, Int.reduceLE, Int.reduceAdd, Int.reduceNeg, Int.reduceNe, Int.reduceToNat, Nat.testBit, Nat.reduceShiftRight, Nat.reduceAnd, Nat.reduceBneDiff, Nat.reduceBEq, gR_some]
    refine note_any p O R C last no h _ s (fun hab h1 f1 s1 => ?_) (fun hab O1 h1 f1 hO s1 => ?_)
    · refine hLL _ _ ?_
      simp only [ptrTo, pend, pend0, Pd.old, pendU, pendU0, oxA0, oxA1, oxA2, oxA3, oxA4, oxA5, oxA6, oxA7, oxA8, oxA9, oxA10, oxL0, oxL1, oxTy0, oxTy1, oxTy2, ↓reduceIte, Nat.reduceAdd, Nat.reduceLeDiff, Nat.reduceLT, Nat.reduceEqDiff, Nat.reduceMul, Nat.reduceSub, Int.reduceEq, Int.reduceLT, Int.reduceLE, Int.reduceAdd, Int.reduceNeg, Int.reduceNe, Int.reduceToNat, Nat.testBit, Nat.reduceShiftRight, Nat.reduceAnd, Nat.reduceBneDiff, Nat.reduceBEq, gR_some]
      exact ⟨O, false, f1.weaken (fun _ k => by cases k), fun β k => .inl k, by rw [newLast_not hab]; exact s1, rfl⟩
    · refine hLL _ _ ?_
      simp only [ptrTo, pend, pend0, Pd.old, pendU, pendU0, oxA0, oxA1, oxA2, oxA3, oxA4, oxA5, oxA6, oxA7, oxA8, oxA9, oxA10, oxL0, oxL1, oxTy0, oxTy1, oxTy2, ↓reduceIte, Nat.reduceAdd, Nat.reduceLeDiff, Nat.reduceLT, Nat.reduceEqDiff, Nat.reduceMul, Nat.reduceSub, Int.reduceEq, Int.reduceLT, Int.reduceLE, Int.reduceAdd, Int.reduceNeg, Int.reduceNe, Int.reduceToNat, Nat.testBit, Nat.reduceShiftRight, Nat.reduceAnd, Nat.reduceBneDiff, Nat.reduceBEq, gR_some]
      exact ⟨O1, true, f1, hO, by rw [newLast_above hab]; exact s1, rfl⟩
  rintro T1 h1 ⟨O1, b, f1, hO1, s1, rfl⟩
  obtain ⟨a1, a2, c1, c2, v3, B1, B2, B3, s1, rfl⟩ := s1
  have lt1 := s1.w1.lt
  have lt2 := s1.w2.lt
  have lt3 := s1.w3.lt
  have n0 := f1.next
  refine sr (fun LL hLL => ?_)
  simp only [ptrTo, pend, pend0, Pd.old, pendU, pendU0, oxA0, oxA1, oxA2, oxA3, oxA4, oxA5, oxA6, oxA7, oxA8, oxA9, oxA10, oxL0, oxL1, oxTy0, oxTy1, oxTy2, ↓reduceIte, Nat.reduceAdd, Nat.reduceLeDiff, Nat.reduceLT, Nat.reduceEqDiff, Nat.reduceMul, Nat.reduceSub, Int.reduceEq, Int.reduceLT, Int.reduceLE, Int.reduceAdd, Int.reduceNeg, Int.reduceNe, Int.reduceToNat, Nat.testBit, Nat.reduceShiftRight, Nat.reduceAnd, Nat.reduceBneDiff, Nat.reduceBEq, gR_some, s1.get]
  refine search_any a2 c2 C no _ _ (s1.w2.rs Ct.len) hc hs fun n bb h2 f2 hP => ?_
  have xt2 : xt h2 0 (.tuple #[.int .i64 (n : Int), .bool bb]) = some (.int .i64 (n : Int), h2) := rfl
  have xt3 : xt h2 1 (.tuple #[.int .i64 (n : Int), .bool bb]) = some (.bool bb, h2) := rfl
  simp only [ptrTo, pend, pend0, Pd.old, pendU, pendU0, oxA0, oxA1, oxA2, oxA3, oxA4, oxA5, oxA6, oxA7, oxA8, oxA9, oxA10, oxL0, oxL1, oxTy0, oxTy1, oxTy2, ↓reduceIte, Nat.reduceAdd, Nat.reduceLeDiff, Nat.reduceLT, Nat.reduceEqDiff, Nat.reduceMul, Nat.reduceSub, Int.reduceEq, Int.reduceLT, Int.reduceLE, Int.reduceAdd, Int.reduceNeg, Int.reduceNe, Int.reduceToNat, Nat.testBit, Nat.reduceShiftRight, Nat.reduceAnd, Nat.reduceBneDiff, Nat.reduceBEq, gR_some, xt2, xt3]
  refine hLL _ _ ?_
  have s2 := s1.to f2 (fun _ _ k => by cases k)
  have hn : n ≤ C.length := hP.1
  have ln : (C.take n).length = n := by simp; omega
  have sl2 := s2.w2.slTo (P := Try.prog) (t := 47) (by rfl) (by rfl) (by omega) hn
  refine sr (fun LL hLL => ?_)
  simp only [ptrTo, pend, pend0, Pd.old, pendU, pendU0, oxA0, oxA1, oxA2, oxA3, oxA4, oxA5, oxA6, oxA7, oxA8, oxA9, oxA10, oxL0, oxL1, oxTy0, oxTy1, oxTy2, ↓reduceIte, Nat.reduceAdd, Nat.reduceLeDiff, Nat.reduceLT, Nat.reduceEqDiff, Nat.reduceMul, Nat.reduceSub, Int.reduceEq, Int.reduceLT, Int.reduceLE, Int.reduceAdd, Int.reduceNeg, Int.reduceNe, Int.reduceToNat, Nat.testBit, Nat.reduceShiftRight, Nat.reduceAnd, Nat.reduceBneDiff, Nat.reduceBEq, gR_some, s2.get, sl2]
  refine done_len a2 c2 (C.take n) n ln _ _ ((s2.w2.rs Ct.len).take Ct.len n) (by omega) ?_
  refine hLL _ _ ?_
  obtain ⟨g, hg⟩ : ∃ g, g = doneC (C.take n) := ⟨_, rfl⟩
  have hgR : g ≤ R.length := by
    rw [hg]; unfold doneC
    split
    · rename_i c hc'
      have hmem : c ∈ C := List.mem_of_mem_take (List.mem_of_getLast? hc')
      obtain ⟨i, hi, rfl⟩ := List.mem_iff_getElem.1 hmem
      exact hf i hi
    · omega
  rw [← hg]
  have hk' := hk n
  rw [← hg] at hk'
  have nx2 := f2.next
  -- the records
  obtain ⟨a4, sl4, r4, hn4⟩ := s2.w1.slFrom (P := Try.prog) (t := 32) Rc.len (by rfl) (by rfl) (by rfl) (by omega) hgR
  refine sr (fun LL hLL => ?_)
  simp only [ptrTo, pend, pend0, Pd.old, pendU, pendU0, oxA0, oxA1, oxA2, oxA3, oxA4, oxA5, oxA6, oxA7, oxA8, oxA9, oxA10, oxL0, oxL1, oxTy0, oxTy1, oxTy2, ↓reduceIte, Nat.reduceAdd, Nat.reduceLeDiff, Nat.reduceLT, Nat.reduceEqDiff, Nat.reduceMul, Nat.reduceSub, Int.reduceEq, Int.reduceLT, Int.reduceLE, Int.reduceAdd, Int.reduceNeg, Int.reduceNe, Int.reduceToNat, Nat.testBit, Nat.reduceShiftRight, Nat.reduceAnd, Nat.reduceBneDiff, Nat.reduceBEq, gR_some, s2.get, sl4]
  refine cloneR_any a4 (c1 - g) (R.drop g) h2 _ r4 hn4 (by simp; omega) fun a5 c5 B5 h3 f3 w5 hB5 => ?_
  have s3 := s2.to f3 (fun _ _ k => by cases k)
  have nx3 := f3.next
  simp only [ptrTo, pend, pend0, Pd.old, pendU, pendU0, oxA0, oxA1, oxA2, oxA3, oxA4, oxA5, oxA6, oxA7, oxA8, oxA9, oxA10, oxL0, oxL1, oxTy0, oxTy1, oxTy2, ↓reduceIte, Nat.reduceAdd, Nat.reduceLeDiff, Nat.reduceLT, Nat.reduceEqDiff, Nat.reduceMul, Nat.reduceSub, Int.reduceEq, Int.reduceLT, Int.reduceLE, Int.reduceAdd, Int.reduceNeg, Int.reduceNe, Int.reduceToNat, Nat.testBit, Nat.reduceShiftRight, Nat.reduceAnd, Nat.reduceBneDiff, Nat.reduceBEq, gR_some, s3.get]
  refine hLL _ _ ?_
  have np5 : ¬ p ∈ B5 := fun k => by have := hB5 p k; have := s2.lp; omega
  have fs3 := Fr.set h3 p (.cells false 0 [.slice a5 (R.drop g).length c5, .slice a2 C.length c2, v3] 50)
  obtain ⟨h4, e4⟩ : ∃ h4, h4 = h3.set p (.cells false 0 [.slice a5 (R.drop g).length c5, .slice a2 C.length c2, v3] 50) := ⟨_, rfl⟩
  rw [← e4] at fs3 ⊢
  have s4 : Sk' h4 p (R.drop g) C (newLast last no) a5 a2 c5 c2 v3 B5 B2 B3 :=
    ⟨by rw [e4]; exact s3.lp, by rw [e4]; simp only [AHeap.get_set, AHeap.get_push, AHeap.get_del, AHeap.next_set, AHeap.next_push, AHeap.next_del, if_true], w5.to fs3 (fun b hb k => by simp at k; subst k; exact np5 hb), s3.w2.to fs3 (fun b hb k => by simp at k; subst k; exact s1.n2 hb), s3.w3.to fs3 (fun b hb k => by simp at k; subst k; exact s1.n3 hb), np5, s1.n2, s1.n3,
      fun β h1 k => by have := hB5 β h1; have := lt2 β k; omega, fun β h1 k => by have := hB5 β h1; have := lt3 β k; omega, s1.d23⟩
  have f4 : Fr h1 h4 [p] := (f2.trans f3 (e1 := []) (ex := [p]) (by simp) (by simp)).trans fs3 (fun _ k => k) (fun _ _ k => k)
  -- the cuts
  obtain ⟨a6, sl6, r6, hn6⟩ := s4.w2.slFrom (P := Try.prog) (t := 47) Ct.len (by rfl) (by rfl) (by rfl) (by omega) hn
  refine sr (fun LL hLL => ?_)
  simp only [ptrTo, pend, pend0, Pd.old, pendU, pendU0, oxA0, oxA1, oxA2, oxA3, oxA4, oxA5, oxA6, oxA7, oxA8, oxA9, oxA10, oxL0, oxL1, oxTy0, oxTy1, oxTy2, ↓reduceIte, Nat.reduceAdd, Nat.reduceLeDiff, Nat.reduceLT, Nat.reduceEqDiff, Nat.reduceMul, Nat.reduceSub, Int.reduceEq, Int.reduceLT, Int.reduceLE, Int.reduceAdd, Int.reduceNeg, Int.reduceNe, Int.reduceToNat, Nat.testBit, Nat.reduceShiftRight, Nat.reduceAnd, Nat.reduceBneDiff, Nat.reduceBEq, gR_some, s4.get, sl6]
  refine cloneC_any a6 (c2 - n) (C.drop n) h4 _ r6 hn6 (by simp; omega) fun a7 c7 B7 h5 f5 w7 hB7 => ?_
  have s5 := s4.to f5 (fun _ _ k => by cases k)
  have nx5 := f5.next
  have nx4 := f4.next
  simp only [ptrTo, pend, pend0, Pd.old, pendU, pendU0, oxA0, oxA1, oxA2, oxA3, oxA4, oxA5, oxA6, oxA7, oxA8, oxA9, oxA10, oxL0, oxL1, oxTy0, oxTy1, oxTy2, ↓reduceIte, Nat.reduceAdd, Nat.reduceLeDiff, Nat.reduceLT, Nat.reduceEqDiff, Nat.reduceMul, Nat.reduceSub, Int.reduceEq, Int.reduceLT, Int.reduceLE, Int.reduceAdd, Int.reduceNeg, Int.reduceNe, Int.reduceToNat, Nat.testBit, Nat.reduceShiftRight, Nat.reduceAnd, Nat.reduceBneDiff, Nat.reduceBEq, gR_some, s5.get]
  refine hLL _ _ ?_
  have np7 : ¬ p ∈ B7 := fun k => by have := hB7 p k; have := s4.lp; omega
  have fs5 := Fr.set h5 p (.cells false 0 [.slice a5 (R.drop g).length c5, .slice a7 (C.drop n).length c7, v3] 50)
  obtain ⟨h6, e6⟩ : ∃ h6, h6 = h5.set p (.cells false 0 [.slice a5 (R.drop g).length c5, .slice a7 (C.drop n).length c7, v3] 50) := ⟨_, rfl⟩
  rw [← e6] at fs5 ⊢
  have lt5 := s4.w1.lt
  have s6 : Sk' h6 p (R.drop g) (C.drop n) (newLast last no) a5 a7 c5 c7 v3 B5 B7 B3 :=
    ⟨by rw [e6]; exact s5.lp, by rw [e6]; simp only [AHeap.get_set, AHeap.get_push, AHeap.get_del, AHeap.next_set, AHeap.next_push, AHeap.next_del, if_true], s5.w1.to fs5 (fun b hb k => by simp at k; subst k; exact np5 hb), w7.to fs5 (fun b hb k => by simp at k; subst k; exact np7 hb), s5.w3.to fs5 (fun b hb k => by simp at k; subst k; exact s1.n3 hb), np5, np7, s1.n3,
      fun β h1 k => by have := hB7 β k; have := lt5 β h1; omega, s4.d13, fun β h1 k => by have := hB7 β h1; have := s4.w3.lt β k; omega⟩
  have f6 : Fr h1 h6 [p] := (f4.trans f5 (fun _ k => k) (by simp)).trans fs5 (fun _ k => k) (fun _ _ k => k)
  have hO6 : ∀ β ∈ p :: (B5 ++ B7 ++ B3), β ∈ O ∨ h.next ≤ β := by
    intro β hβ
    simp only [List.mem_cons, List.mem_append] at hβ
    rcases hβ with rfl | (hβ | hβ) | hβ
    · exact hO1 _ (by simp)
    · have := hB5 β hβ; exact .inr (by omega)
    · have := hB7 β hβ; exact .inr (by omega)
    · exact hO1 _ (by simp [hβ])
  have fO : Fr h h6 O := f1.trans f6 (fun _ k => k) (fun β k1 k2 => by
    simp at k2; subst k2
    rcases hO1 β (by simp) with k | k
    · exact k
    · omega)
  have hgf : ∀ m (hm' : m < (C.drop n).length), g ≤ ((C.drop n)[m]).fin := by
    intro m hm'
    have hmC : n + m < C.length := by simp at hm'; omega
    rw [List.getElem_drop, hg]
    unfold doneC
    split
    · rename_i c hc'
      obtain ⟨i, hi, hci⟩ := List.mem_iff_getElem.1 (List.mem_of_getLast? hc')
      rw [← hci, List.getElem_take]
      exact hm i (n + m) (by simp at hi; omega) hmC (by simp at hi; omega)
    · omega
  have hff : ∀ m (hm' : m < (C.drop n).length), ((C.drop n)[m]).fin < 1000000 := by
    intro m hm'
    have hmC : n + m < C.length := by simp at hm'; omega
    rw [List.getElem_drop]
    have := hf (n + m) hmC
    omega
  generalize hC2 : C.drop n = C2 at *
  generalize hR2 : R.drop g = R2 at *
  refine fg7 (fun R => ?_)
  refine sr (fun LL hLL => ?_)
  simp only [ptrTo, pend, pend0, Pd.old, pendU, pendU0, oxA0, oxA1, oxA2, oxA3, oxA4, oxA5, oxA6, oxA7, oxA8, oxA9, oxA10, oxL0, oxL1, oxTy0, oxTy1, oxTy2, ↓reduceIte, Nat.reduceAdd, Nat.reduceLeDiff, Nat.reduceLT, Nat.reduceEqDiff, Nat.reduceMul, Nat.reduceSub, Int.reduceEq, Int.reduceLT, Int.reduceLE, Int.reduceAdd, Int.reduceNeg, Int.reduceNe, Int.reduceToNat, Nat.testBit, Nat.reduceShiftRight, Nat.reduceAnd, Nat.reduceBneDiff, Nat.reduceBEq, gR_some, s6.get]
  refine hLL _ _ ?_
  have hC2l : C2.length ≤ C.length := by rw [← hC2]; simp
  refine wpC_block ?_
  refine wpC_loop (fun k T h' => ∃ (i : Nat) (L : List Ct) (S : List Value), k + i = C2.length ∧ L.length = C2.length ∧ (Fr h6 h' B7 ∧ Sk' h' p R2 L (newLast last no) a5 a7 c5 c7 v3 B5 B7 B3 ∧ (∀ m (hm' : m < C2.length), L[m]? = some (if m < i then dec g C2[m] else C2[m])) ∧
    tget S 44 = .int .i64 C2.length ∧ tget S 45 = .int .i64 i ∧ T = .pointer (some ⟨p, 0, none⟩) :: .int .i64 no :: undef :: undef :: .int .i64 n :: .bool bb :: .int .i64 g :: S)) ?_ C2.length _ _ ⟨0, C2, _, by omega, rfl, Fr.refl h6 B7, s6, fun m hm' => by simp [hm'], by simp only [tget_tput, Nat.reduceEqDiff, if_true, if_false], by simp only [tget_tput, if_true]; rfl, rfl⟩
  rintro k T h' ⟨i, L, S, hi, hLl, g1, t1, t2, t3, t4, rfl⟩
  refine sr (fun LL hLL => ?_)
  simp only [ptrTo, pend, pend0, Pd.old, pendU, pendU0, oxA0, oxA1, oxA2, oxA3, oxA4, oxA5, oxA6, oxA7, oxA8, oxA9, oxA10, oxL0, oxL1, oxTy0, oxTy1, oxTy2, ↓reduceIte, Nat.reduceAdd, Nat.reduceLeDiff, Nat.reduceLT, Nat.reduceEqDiff, Nat.reduceMul, Nat.reduceSub, Int.reduceEq, Int.reduceLT, Int.reduceLE, Int.reduceAdd, Int.reduceNeg, Int.reduceNe, Int.reduceToNat, Nat.testBit, Nat.reduceShiftRight, Nat.reduceAnd, Nat.reduceBneDiff, Nat.reduceBEq, gR_some, t3, t4]
  refine hLL _ _ ?_
  refine wpC_seq ?_
  refine wpC_if ?_
  simp only [ptrTo, pend, pend0, Pd.old, pendU, pendU0, oxA0, oxA1, oxA2, oxA3, oxA4, oxA5, oxA6, oxA7, oxA8, oxA9, oxA10, oxL0, oxL1, oxTy0, oxTy1, oxTy2, ↓reduceIte, Nat.reduceAdd, Nat.reduceLeDiff, Nat.reduceLT, Nat.reduceEqDiff, Nat.reduceMul, Nat.reduceSub, Int.reduceEq, Int.reduceLT, Int.reduceLE, Int.reduceAdd, Int.reduceNeg, Int.reduceNe, Int.reduceToNat, Nat.testBit, Nat.reduceShiftRight, Nat.reduceAnd, Nat.reduceBneDiff, Nat.reduceBEq, gR_some]
  refine gC_of (fun hc => ?_) (fun hc => ?_)
  · refine wpC_skip ?_
    simp only [ptrTo, pend, pend0, Pd.old, pendU, pendU0, oxA0, oxA1, oxA2, oxA3, oxA4, oxA5, oxA6, oxA7, oxA8, oxA9, oxA10, oxL0, oxL1, oxTy0, oxTy1, oxTy2, ↓reduceIte, Nat.reduceAdd, Nat.reduceLeDiff, Nat.reduceLT, Nat.reduceEqDiff, Nat.reduceMul, Nat.reduceSub, Int.reduceEq, Int.reduceLT, Int.reduceLE, Int.reduceAdd, Int.reduceNeg, Int.reduceNe, Int.reduceToNat, Nat.testBit, Nat.reduceShiftRight, Nat.reduceAnd, Nat.reduceBneDiff, Nat.reduceBEq, gR_some]
    have hi' : i < C2.length := by omega
    have hiL : i < L.length := by omega
    refine wpC_seq (wpC_block ?_)
    refine sr (fun LL hLL => ?_)
    simp only [ptrTo, pend, pend0, Pd.old, pendU, pendU0, oxA0, oxA1, oxA2, oxA3, oxA4, oxA5, oxA6, oxA7, oxA8, oxA9, oxA10, oxL0, oxL1, oxTy0, oxTy1, oxTy2, ↓reduceIte, Nat.reduceAdd, Nat.reduceLeDiff, Nat.reduceLT, Nat.reduceEqDiff, Nat.reduceMul, Nat.reduceSub, Int.reduceEq, Int.reduceLT, Int.reduceLE, Int.reduceAdd, Int.reduceNeg, Int.reduceNe, Int.reduceToNat, Nat.testBit, Nat.reduceShiftRight, Nat.reduceAnd, Nat.reduceBneDiff, Nat.reduceBEq, gR_some, t4]
    refine hLL _ _ ?_
    have hLi : L[i] = C2[i] := by
      have := t2 i hi'
      rw [List.getElem?_eq_getElem hiL] at this
      simpa using this
    have hw8 : IntKind.i64.wrap ((C2[i].fin : Int) - (g : Int)) = ((C2[i].fin - g : Nat) : Int) := by
      have := hgf i hi'
      have := hff i hi'
      rw [wrap_i64 (by omega) (by omega)]; omega
    rcases t1.w2 with ⟨w1, _⟩ | ⟨b7, rfl, rfl, w3, w4, w5⟩
    · rw [w1] at hiL; simp at hiL
    · have npb : (p = b7) = False := by
        have := t1.n2
        simp at this; simp [this]
      have hput : splice (L.flatMap Ct.cells) (i * 2 + 1) [.int .i64 ((C2[i].fin - g : Nat) : Int)] = (L.set i (dec g L[i])).flatMap Ct.cells := flat_put Ct.len L i 1 _ (dec g L[i]) hiL (by omega) (by rw [hLi]; rfl)
      have hcf := ctF L i hiL
      rw [hLi] at hcf
      refine rg (fun LL hLL => ?_)
      simp only [ptrTo, pend, pend0, Pd.old, pendU, pendU0, oxA0, oxA1, oxA2, oxA3, oxA4, oxA5, oxA6, oxA7, oxA8, oxA9, oxA10, oxL0, oxL1, oxTy0, oxTy1, oxTy2, ↓reduceIte, Nat.reduceAdd, Nat.reduceLeDiff, Nat.reduceLT, Nat.reduceEqDiff, Nat.reduceMul, Nat.reduceSub, Int.reduceEq, Int.reduceLT, Int.reduceLE, Int.reduceAdd, Int.reduceNeg, Int.reduceNe, Int.reduceToNat, Nat.testBit, Nat.reduceShiftRight, Nat.reduceAnd, Nat.reduceBneDiff, Nat.reduceBEq, gR_some, t1.get, ixF hiL, w4, hcf, hw8, hput]
      refine hLL _ _ ?_
      simp only [ptrTo, pend, pend0, Pd.old, pendU, pendU0, oxA0, oxA1, oxA2, oxA3, oxA4, oxA5, oxA6, oxA7, oxA8, oxA9, oxA10, oxL0, oxL1, oxTy0, oxTy1, oxTy2, ↓reduceIte, Nat.reduceAdd, Nat.reduceLeDiff, Nat.reduceLT, Nat.reduceEqDiff, Nat.reduceMul, Nat.reduceSub, Int.reduceEq, Int.reduceLT, Int.reduceLE, Int.reduceAdd, Int.reduceNeg, Int.reduceNe, Int.reduceToNat, Nat.testBit, Nat.reduceShiftRight, Nat.reduceAnd, Nat.reduceBneDiff, Nat.reduceBEq, gR_some]
      have hw : IntKind.i64.wrap ((i : Int) + 1) = ((i + 1 : Nat) : Int) := by rw [wrap_i64 (by omega) (by omega)]; omega
      have fs7 := Fr.set h' b7 (.cells false 2 ((L.set i (dec g L[i])).flatMap Ct.cells) 56)
      refine rg (fun LL hLL => ?_)
      simp only [ptrTo, pend, pend0, Pd.old, pendU, pendU0, oxA0, oxA1, oxA2, oxA3, oxA4, oxA5, oxA6, oxA7, oxA8, oxA9, oxA10, oxL0, oxL1, oxTy0, oxTy1, oxTy2, ↓reduceIte, Nat.reduceAdd, Nat.reduceLeDiff, Nat.reduceLT, Nat.reduceEqDiff, Nat.reduceMul, Nat.reduceSub, Int.reduceEq, Int.reduceLT, Int.reduceLE, Int.reduceAdd, Int.reduceNeg, Int.reduceNe, Int.reduceToNat, Nat.testBit, Nat.reduceShiftRight, Nat.reduceAnd, Nat.reduceBneDiff, Nat.reduceBEq, gR_some, t4, hw]
      refine hLL _ _ ?_
      simp only [ptrTo, pend, pend0, Pd.old, pendU, pendU0, oxA0, oxA1, oxA2, oxA3, oxA4, oxA5, oxA6, oxA7, oxA8, oxA9, oxA10, oxL0, oxL1, oxTy0, oxTy1, oxTy2, ↓reduceIte, Nat.reduceAdd, Nat.reduceLeDiff, Nat.reduceLT, Nat.reduceEqDiff, Nat.reduceMul, Nat.reduceSub, Int.reduceEq, Int.reduceLT, Int.reduceLE, Int.reduceAdd, Int.reduceNeg, Int.reduceNe, Int.reduceToNat, Nat.testBit, Nat.reduceShiftRight, Nat.reduceAnd, Nat.reduceBneDiff, Nat.reduceBEq, gR_some]
      refine ⟨k - 1, by omega, i + 1, L.set i (dec g L[i]), _, by omega, by simpa using hLl, (g1.to_set _ (.inr (by simp))), ⟨?_, ?_, ?_, ?_, ?_, t1.n1, t1.n2, t1.n3, t1.d12, t1.d13, t1.d23⟩, ?_, by simp only [tget_tput, Nat.reduceEqDiff, if_true, if_false, t3], by simp only [tget_tput, if_true], rfl⟩
      · simp only [AHeap.get_set, AHeap.get_push, AHeap.get_del, AHeap.next_set, AHeap.next_push, AHeap.next_del]; exact t1.lp
      · simp only [AHeap.get_set, AHeap.get_push, AHeap.get_del, AHeap.next_set, AHeap.next_push, AHeap.next_del, npb, if_false, List.length_set]; exact t1.get
      · exact t1.w1.to fs7 (fun b hb k => by simp at k; subst k; exact t1.d12 b hb (by simp))
      · exact .inr ⟨b7, rfl, rfl, by simp only [AHeap.get_set, AHeap.get_push, AHeap.get_del, AHeap.next_set, AHeap.next_push, AHeap.next_del]; exact w3, by simp only [AHeap.get_set, AHeap.get_push, AHeap.get_del, AHeap.next_set, AHeap.next_push, AHeap.next_del, if_true], by simpa using w5⟩
      · exact t1.w3.to fs7 (fun b hb k => by simp at k; subst k; exact t1.d23 b (by simp) hb)
      · intro m hm'
        have hmL : m < L.length := by omega
        by_cases hmi : m = i
        · subst hmi
          rw [List.getElem?_set_self hmL, if_pos (by omega), hLi]
        · rw [List.getElem?_set_ne (by omega), t2 m hm']
          by_cases h9 : m < i
          · rw [if_pos h9, if_pos (by omega)]
          · rw [if_neg h9, if_neg (by omega)]
  · have hin : i = C2.length := by omega
    subst hin
    have hL2 : L = C2.map (dec g) := by
      apply List.ext_getElem?
      intro m
      by_cases hm' : m < C2.length
      · rw [t2 m hm', if_pos hm', List.getElem?_map, List.getElem?_eq_getElem hm']; rfl
      · rw [List.getElem?_eq_none (by omega), List.getElem?_eq_none (by simpa using hm')]
    subst hL2
    refine wpC_exit ?_
    simp only [ptrTo, pend, pend0, Pd.old, pendU, pendU0, oxA0, oxA1, oxA2, oxA3, oxA4, oxA5, oxA6, oxA7, oxA8, oxA9, oxA10, oxL0, oxL1, oxTy0, oxTy1, oxTy2, ↓reduceIte, Nat.reduceAdd, Nat.reduceLeDiff, Nat.reduceLT, Nat.reduceEqDiff, Nat.reduceMul, Nat.reduceSub, Int.reduceEq, Int.reduceLT, Int.reduceLE, Int.reduceAdd, Int.reduceNeg, Int.reduceNe, Int.reduceToNat, Nat.testBit, Nat.reduceShiftRight, Nat.reduceAnd, Nat.reduceBneDiff, Nat.reduceBEq, gR_some]
    refine out_normal ?_
    simp only [ptrTo, pend, pend0, Pd.old, pendU, pendU0, oxA0, oxA1, oxA2, oxA3, oxA4, oxA5, oxA6, oxA7, oxA8, oxA9, oxA10, oxL0, oxL1, oxTy0, oxTy1, oxTy2, ↓reduceIte, Nat.reduceAdd, Nat.reduceLeDiff, Nat.reduceLT, Nat.reduceEqDiff, Nat.reduceMul, Nat.reduceSub, Int.reduceEq, Int.reduceLT, Int.reduceLE, Int.reduceAdd, Int.reduceNeg, Int.reduceNe, Int.reduceToNat, Nat.testBit, Nat.reduceShiftRight, Nat.reduceAnd, Nat.reduceBneDiff, Nat.reduceBEq, gR_some]
    refine hk' (p :: (B5 ++ B7 ++ B3)) h' hP ?_ hO6 ⟨a5, a7, c5, c7, v3, B5, B7, B3, t1, rfl⟩
    exact fO.trans g1 (fun _ k => k) (fun β k1 k2 => by have := hB7 β k2; omega)
end Go.Proofs
