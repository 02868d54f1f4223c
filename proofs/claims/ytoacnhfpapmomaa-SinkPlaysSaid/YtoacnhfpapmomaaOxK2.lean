/-
  The sink: what it holds; New, note, Take, done, Open. CONDITIONS: none.
-/
import Derived.Test.YtoacnhfpapmomaaOxK1
set_option linter.unusedSimpArgs false
set_option linter.unusedVariables false
namespace Go.Proofs
open Go Go.Ox
set_option maxRecDepth 100000
set_option maxHeartbeats 2000000
def Dj (X Y : List Nat) : Prop := ∀ β ∈ X, ¬ β ∈ Y
theorem Dj.symm {X Y : List Nat} (d : Dj X Y) : Dj Y X := fun β h k => d β k h
theorem Dj.new {X X' Y : List Nat} {n : Nat} (d : Dj X Y) (hx : ∀ β ∈ X', β ∈ X ∨ n ≤ β) (hy : ∀ β ∈ Y, β < n) : Dj X' Y := fun β h k => by
  rcases hx β h with q | q
  · exact d β q k
  · exact absurd (hy β k) (by omega)
def Lst (h : AHeap) (v : Value) (last : Option Int) (B : List Nat) : Prop :=
  (v = .pointer none ∧ last = none ∧ B = []) ∨ ∃ q n, v = .pointer (some ⟨q, 0, none⟩) ∧ last = some n ∧ B = [q] ∧ q < h.next ∧ h.get q = some (.cells false 0 [.int .i64 n] 3)
theorem Lst.to {h h' : AHeap} {v : Value} {l : Option Int} {B : List Nat} (w : Lst h v l B) {ex : List Nat} (hf : Fr h h' ex) (hn : ∀ b ∈ B, ¬ b ∈ ex) : Lst h' v l B := by
  rcases w with w | ⟨q, n, h1, h2, h3, h4, h5⟩
  · exact .inl w
  · exact .inr ⟨q, n, h1, h2, h3, Nat.lt_of_lt_of_le h4 hf.next, hf.at h5 h4 (hn q (by rw [h3]; simp))⟩
theorem Lst.lt {h : AHeap} {v : Value} {l : Option Int} {B : List Nat} (w : Lst h v l B) : ∀ b ∈ B, b < h.next := by
  rcases w with ⟨_, _, rfl⟩ | ⟨q, n, _, _, rfl, h4, _⟩
  · simp
  · simpa using h4

/-- A sink at p, whose own blocks are O. -/
structure Sk' (h : AHeap) (p : Nat) (R : List Rc) (C : List Ct) (last : Option Int) (a1 a2 : Option Addr) (c1 c2 : Nat) (v3 : Value) (B1 B2 B3 : List Nat) : Prop where
  lp : p < h.next
  get : h.get p = some (.cells false 0 [.slice a1 R.length c1, .slice a2 C.length c2, v3] 50)
  w1 : Wn Rc.cells 2 29 h a1 c1 R B1
  w2 : Wn Ct.cells 2 56 h a2 c2 C B2
  w3 : Lst h v3 last B3
  n1 : ¬ p ∈ B1
  n2 : ¬ p ∈ B2
  n3 : ¬ p ∈ B3
  d12 : Dj B1 B2
  d13 : Dj B1 B3
  d23 : Dj B2 B3
def Sk (h : AHeap) (p : Nat) (O : List Nat) (R : List Rc) (C : List Ct) (last : Option Int) : Prop :=
  ∃ a1 a2 c1 c2 v3 B1 B2 B3, Sk' h p R C last a1 a2 c1 c2 v3 B1 B2 B3 ∧ O = p :: (B1 ++ B2 ++ B3)
theorem Sk'.to {h h' : AHeap} {p : Nat} {R : List Rc} {C : List Ct} {last : Option Int} {a1 a2 : Option Addr} {c1 c2 : Nat} {v3 : Value} {B1 B2 B3 : List Nat} (s : Sk' h p R C last a1 a2 c1 c2 v3 B1 B2 B3) {ex : List Nat} (hf : Fr h h' ex) (hn : ∀ β ∈ p :: (B1 ++ B2 ++ B3), ¬ β ∈ ex) : Sk' h' p R C last a1 a2 c1 c2 v3 B1 B2 B3 :=
  ⟨Nat.lt_of_lt_of_le s.lp hf.next, hf.at s.get s.lp (hn p (by simp)), s.w1.to hf (fun b hb => hn b (by simp [hb])), s.w2.to hf (fun b hb => hn b (by simp [hb])), s.w3.to hf (fun b hb => hn b (by simp [hb])), s.n1, s.n2, s.n3, s.d12, s.d13, s.d23⟩
theorem Sk.to {h h' : AHeap} {p : Nat} {O : List Nat} {R : List Rc} {C : List Ct} {last : Option Int} (s : Sk h p O R C last) {ex : List Nat} (hf : Fr h h' ex) (hn : ∀ β ∈ O, ¬ β ∈ ex) : Sk h' p O R C last := by
  obtain ⟨a1, a2, c1, c2, v3, B1, B2, B3, s, rfl⟩ := s
  exact ⟨a1, a2, c1, c2, v3, B1, B2, B3, s.to hf hn, rfl⟩
theorem Sk.fr {h h' : AHeap} {p : Nat} {O : List Nat} {R : List Rc} {C : List Ct} {last : Option Int} (s : Sk h p O R C last) (hf : Fr h h' []) : Sk h' p O R C last := s.to hf fun _ _ k => by cases k
theorem Sk.lt {h : AHeap} {p : Nat} {O : List Nat} {R : List Rc} {C : List Ct} {last : Option Int} (s : Sk h p O R C last) : ∀ β ∈ O, β < h.next := by
  obtain ⟨a1, a2, c1, c2, v3, B1, B2, B3, s, rfl⟩ := s
  intro β hβ
  simp only [List.mem_cons, List.mem_append] at hβ
  rcases hβ with rfl | (hβ | hβ) | hβ
  · exact s.lp
  · exact s.w1.lt β hβ
  · exact s.w2.lt β hβ
  · exact s.w3.lt β hβ

theorem new_any (h : AHeap) (K : Value → AHeap → Prop) (hk : ∀ p O h', Fr h h' [] → (∀ β ∈ O, h.next ≤ β) → Sk h' p O [] [] none → K (.pointer (some ⟨p, 0, none⟩)) h') : wpF Try.prog (.fn 8) [] h K := by
  refine wpF_fun 3 [.tmp 0] Try.func8 rfl rfl rfl rfl ?_
  refine sr (fun LL hLL => ?_)
  simp only [ptrTo, pend, pend0, Pd.old, pendU, pendU0, oxA0, oxA1, oxA2, oxA3, oxA4, oxA5, oxA6, oxA7, oxA8, oxA9, oxA10, oxL0, oxL1, oxTy0, oxTy1, oxTy2, ↓reduceIte, Nat.reduceAdd, Nat.reduceLeDiff, Nat.reduceLT, Nat.reduceEqDiff, Nat.reduceMul, Nat.reduceSub, Int.reduceEq, Int.reduceLT, Int.reduceLE, Int.reduceAdd, Int.reduceNeg, Int.reduceNe, Int.reduceToNat, Nat.testBit, Nat.reduceShiftRight, Nat.reduceAnd, Nat.reduceBneDiff, Nat.reduceBEq, gR_some]
  refine hLL _ _ ?_
  refine sr (fun LL hLL => ?_)
  simp only [ptrTo, pend, pend0, Pd.old, pendU, pendU0, oxA0, oxA1, oxA2, oxA3, oxA4, oxA5, oxA6, oxA7, oxA8, oxA9, oxA10, oxL0, oxL1, oxTy0, oxTy1, oxTy2, ↓reduceIte, Nat.reduceAdd, Nat.reduceLeDiff, Nat.reduceLT, Nat.reduceEqDiff, Nat.reduceMul, Nat.reduceSub, Int.reduceEq, Int.reduceLT, Int.reduceLE, Int.reduceAdd, Int.reduceNeg, Int.reduceNe, Int.reduceToNat, Nat.testBit, Nat.reduceShiftRight, Nat.reduceAnd, Nat.reduceBneDiff, Nat.reduceBEq, gR_some]
  refine hLL _ _ ?_
  refine wpC_ret (out_ret ?_)
  simp only [ptrTo, pend, pend0, Pd.old, pendU, pendU0, oxA0, oxA1, oxA2, oxA3, oxA4, oxA5, oxA6, oxA7, oxA8, oxA9, oxA10, oxL0, oxL1, oxTy0, oxTy1, oxTy2, ↓reduceIte, Nat.reduceAdd, Nat.reduceLeDiff, Nat.reduceLT, Nat.reduceEqDiff, Nat.reduceMul, Nat.reduceSub, Int.reduceEq, Int.reduceLT, Int.reduceLE, Int.reduceAdd, Int.reduceNeg, Int.reduceNe, Int.reduceToNat, Nat.testBit, Nat.reduceShiftRight, Nat.reduceAnd, Nat.reduceBneDiff, Nat.reduceBEq, gR_some]
  refine hk h.next [h.next] _ (Fr.push h _) (by simp) ⟨none, none, 0, 0, .pointer none, [], [], [], ⟨by simp, by simp only [AHeap.get_set, AHeap.get_push, AHeap.get_del, AHeap.next_set, AHeap.next_push, AHeap.next_del, if_true]; rfl, .inl ⟨rfl, rfl, rfl, rfl⟩, .inl ⟨rfl, rfl, rfl, rfl⟩, .inl ⟨rfl, rfl, rfl⟩, by simp, by simp, by simp, by simp [Dj], by simp [Dj], by simp [Dj]⟩, rfl⟩

theorem Take_any (p : Nat) (O : List Nat) (R : List Rc) (C : List Ct) (last : Option Int) (x : Rc) (h : AHeap) (K : Value → AHeap → Prop) (s : Sk h p O R C last) (hl : R.length < 1000000)
    (hk : ∀ O' h', Fr h h' O → (∀ β ∈ O', β ∈ O ∨ h.next ≤ β) → Sk h' p O' (R ++ [x]) C last → K (.tuple #[]) h') : wpF Try.prog (.fn 17) [.pointer (some ⟨p, 0, none⟩), .agg x.cells.toArray] h K := by
  obtain ⟨a1, a2, c1, c2, v3, B1, B2, B3, s, rfl⟩ := s
  have lp := s.lp
  have gp := s.get
  have n1 := ne_of_lt' lp
  have n2 : (p = h.next + 1) = False := by simp; omega
  have z1 : (h.next = h.next + 1) = False := by simp
  have hx : x.cells = [.int .i64 x.key, .int .i64 x.val] := rfl
  refine wpF_fun 14 [] Try.func17 rfl rfl rfl rfl ?_
  refine sr (fun LL hLL => ?_)
  simp only [ptrTo, pend, pend0, Pd.old, pendU, pendU0, oxA0, oxA1, oxA2, oxA3, oxA4, oxA5, oxA6, oxA7, oxA8, oxA9, oxA10, oxL0, oxL1, oxTy0, oxTy1, oxTy2, ↓reduceIte, Nat.reduceAdd, Nat.reduceLeDiff, Nat.reduceLT, Nat.reduceEqDiff, Nat.reduceMul, Nat.reduceSub, Int.reduceEq, Int.reduceLT, Int.reduceLE, Int.reduceAdd, Int.reduceNeg, Int.reduceNe, Int.reduceToNat, Nat.testBit, Nat.reduceShiftRight, Nat.reduceAnd, Nat.reduceBneDiff, Nat.reduceBEq, gR_some]
  refine hLL _ _ ?_
  have zz : aZeros [.int .i64 0, .int .i64 0] 1 = [.int .i64 0, .int .i64 0] := rfl
  refine du [some 4, some 5, some 6, some 7, some 8, some 9, some 10, some 11, some 12, some 13, none] 11 [0, 0, 2, 6, 14, 0, 32, 126, 255, 511, 1023] (by rfl) (by rfl) (by decide +kernel) (by decide +kernel) (by decide +kernel) (fun LL hLL => ?_)
  simp only [ptrTo, pend, pend0, Pd.old, pendU, pendU0, oxA0, oxA1, oxA2, oxA3, oxA4, oxA5, oxA6, oxA7, oxA8, oxA9, oxA10, oxL0, oxL1, oxTy0, oxTy1, oxTy2, ↓reduceIte, Nat.reduceAdd, Nat.reduceLeDiff, Nat.reduceLT, Nat.reduceEqDiff, Nat.reduceMul, Nat.reduceSub, Int.reduceEq, Int.reduceLT, Int.reduceLE, Int.reduceAdd, Int.reduceNeg, Int.reduceNe, Int.reduceToNat, Nat.testBit, Nat.reduceShiftRight, Nat.reduceAnd, Nat.reduceBneDiff, Nat.reduceBEq, gR_some, AHeap.get_set, AHeap.get_push, AHeap.get_del, AHeap.next_set, AHeap.next_push, AHeap.next_del, n1, n2, z1, gp, hx, zz]
  obtain ⟨h1, e1⟩ : ∃ h1, h1 = (h.push (.cells false 0 [.int .i64 x.key, .int .i64 x.val] 29)).push (.cells false 2 [.int .i64 x.key, .int .i64 x.val] 29) := ⟨_, rfl⟩
  have f1 : Fr h h1 [] := by rw [e1]; exact (Fr.push h _).to_push _
  have nx : h1.next = h.next + 2 := by rw [e1]; simp
  have g1 : h1.get (h.next + 1) = some (.cells false 2 [.int .i64 x.key, .int .i64 x.val] 29) := by rw [e1]; simp only [AHeap.get_set, AHeap.get_push, AHeap.get_del, AHeap.next_set, AHeap.next_push, AHeap.next_del, if_true]
  have s1 := s.to f1 (fun _ _ k => by cases k)
  rw [← e1]
  obtain ⟨a', c', h2, B', q1, q2, q3, q4⟩ := Wn.app (M := [x]) (bytes := 16) (d := 1) (s := some ⟨h.next + 1, 0, none⟩) Rc.len Rc.oc s1.w1 (fst_all g1 rfl) (by simp; omega) (by simp; omega)
  rw [show ([x] : List Rc).length = 1 from rfl] at q1
  rw [q1]
  have s2 := s1.w2.to q3 (fun b hb k => s.d12 b k hb)
  have s3 := s1.w3.to q3 (fun b hb k => s.d13 b k hb)
  have gp2 := q3.at s1.get s1.lp s.n1
  have nx2 := q3.next
  have lt1 := s.w1.lt
  have lt2 := s.w2.lt
  have lt3 := s.w3.lt
  have gb2 := q3.get
  have hq : h2.get h.next = some (.cells false 0 [.int .i64 x.key, .int .i64 x.val] 29) := q3.at (by rw [e1]; simp only [AHeap.get_set, AHeap.get_push, AHeap.get_del, AHeap.next_set, AHeap.next_push, AHeap.next_del, z1, if_true, if_false]) (by omega) (fun k => by have := lt1 _ k; omega)
  simp only [ptrTo, pend, pend0, Pd.old, pendU, pendU0, oxA0, oxA1, oxA2, oxA3, oxA4, oxA5, oxA6, oxA7, oxA8, oxA9, oxA10, oxL0, oxL1, oxTy0, oxTy1, oxTy2, ↓reduceIte, Nat.reduceAdd, Nat.reduceLeDiff, Nat.reduceLT, Nat.reduceEqDiff, Nat.reduceMul, Nat.reduceSub, Int.reduceEq, Int.reduceLT, Int.reduceLE, Int.reduceAdd, Int.reduceNeg, Int.reduceNe, Int.reduceToNat, Nat.testBit, Nat.reduceShiftRight, Nat.reduceAnd, Nat.reduceBneDiff, Nat.reduceBEq, gR_some, gp2, hq]
  refine hLL _ _ ?_
  refine out_normal ?_
  simp only [ptrTo, pend, pend0, Pd.old, pendU, pendU0, oxA0, oxA1, oxA2, oxA3, oxA4, oxA5, oxA6, oxA7, oxA8, oxA9, oxA10, oxL0, oxL1, oxTy0, oxTy1, oxTy2, ↓reduceIte, Nat.reduceAdd, Nat.reduceLeDiff, Nat.reduceLT, Nat.reduceEqDiff, Nat.reduceMul, Nat.reduceSub, Int.reduceEq, Int.reduceLT, Int.reduceLE, Int.reduceAdd, Int.reduceNeg, Int.reduceNe, Int.reduceToNat, Nat.testBit, Nat.reduceShiftRight, Nat.reduceAnd, Nat.reduceBneDiff, Nat.reduceBEq, gR_some]
  have hB : ∀ β ∈ B', β ∈ B1 ∨ h.next ≤ β := fun β hβ => (q4 β hβ).imp id (fun k => by omega)
  have np : ¬ p ∈ B' := fun k => by
    rcases hB p k with k | k
    · exact s.n1 k
    · omega
  refine hk (p :: (B' ++ B2 ++ B3)) (h2.set p (.cells false 0 [.slice a' (R ++ [x]).length c', .slice a2 C.length c2, v3] 50)) ?_ ?_ ⟨a', a2, c', c2, v3, B', B2, B3, ?_, rfl⟩
  · exact ((f1.trans q3 (e1 := []) (ex := p :: (B1 ++ B2 ++ B3)) (by simp) (fun β _ k => by simp [k])).to_set _ (.inr (by simp)))
  · intro β hβ
    simp only [List.mem_cons, List.mem_append] at hβ ⊢
    rcases hβ with rfl | (hβ | hβ) | hβ
    · simp
    · rcases hB β hβ with k | k
      · simp [k]
      · exact .inr k
    · simp [hβ]
    · simp [hβ]
  · have fs := Fr.set h2 p (.cells false 0 [.slice a' (R ++ [x]).length c', .slice a2 C.length c2, v3] 50)
    exact ⟨by simp only [AHeap.get_set, AHeap.get_push, AHeap.get_del, AHeap.next_set, AHeap.next_push, AHeap.next_del]; omega, by simp only [AHeap.get_set, AHeap.get_push, AHeap.get_del, AHeap.next_set, AHeap.next_push, AHeap.next_del, if_true], q2.to fs (fun b hb k => by simp at k; subst k; exact np hb), s2.to fs (fun b hb k => by simp at k; subst k; exact s.n2 hb), s3.to fs (fun b hb k => by simp at k; subst k; exact s.n3 hb), np, s.n2, s.n3, s.d12.new hB lt2, s.d13.new hB lt3, s.d23⟩

/-- Up to where the records of cuts stand. -/
def doneC (C : List Ct) : Nat := match C.getLast? with
  | some c => c.fin
  | none => 0
theorem done_any (a : Option Addr) (c : Nat) (C : List Ct) (h : AHeap) (K : Value → AHeap → Prop) (r : Rs Ct.cells 2 h a C) (hl : C.length < 1000000) (hk : K (.int .i64 (doneC C)) h) : wpF Try.prog (.fn 31) [.slice a C.length c] h K := by
  refine wpF_fun 13 [.tmp 2] Try.func31 rfl rfl rfl rfl ?_
  refine sr (fun LL hLL => ?_)
  simp only [ptrTo, pend, pend0, Pd.old, pendU, pendU0, oxA0, oxA1, oxA2, oxA3, oxA4, oxA5, oxA6, oxA7, oxA8, oxA9, oxA10, oxL0, oxL1, oxTy0, oxTy1, oxTy2, ↓reduceIte, Nat.reduceAdd, Nat.reduceLeDiff, Nat.reduceLT, Nat.reduceEqDiff, Nat.reduceMul, Nat.reduceSub, Int.reduceEq, Int.reduceLT, Int.reduceLE, Int.reduceAdd, Int.reduceNeg, Int.reduceNe, Int.reduceToNat, Nat.testBit, Nat.reduceShiftRight, Nat.reduceAnd, Nat.reduceBneDiff, Nat.reduceBEq, gR_some]
  refine hLL _ _ ?_
  by_cases h0 : C.length = 0
  · obtain rfl := List.eq_nil_of_length_eq_zero h0
    refine wpC_seq (sr fun LL hLL => ?_)
    simp only [ptrTo, pend, pend0, Pd.old, pendU, pendU0, oxA0, oxA1, oxA2, oxA3, oxA4, oxA5, oxA6, oxA7, oxA8, oxA9, oxA10, oxL0, oxL1, oxTy0, oxTy1, oxTy2, ↓reduceIte, Nat.reduceAdd, Nat.reduceLeDiff, Nat.reduceLT, Nat.reduceEqDiff, Nat.reduceMul, Nat.reduceSub, Int.reduceEq, Int.reduceLT, Int.reduceLE, Int.reduceAdd, Int.reduceNeg, Int.reduceNe, Int.reduceToNat, Nat.testBit, Nat.reduceShiftRight, Nat.reduceAnd, Nat.reduceBneDiff, Nat.reduceBEq, gR_some, show (((([] : List Ct).length : Nat) : Int) = 0) = True by simp]
    refine hLL _ _ ?_
    refine wpC_if ?_
    simp only [ptrTo, pend, pend0, Pd.old, pendU, pendU0, oxA0, oxA1, oxA2, oxA3, oxA4, oxA5, oxA6, oxA7, oxA8, oxA9, oxA10, oxL0, oxL1, oxTy0, oxTy1, oxTy2, ↓reduceIte, Nat.reduceAdd, Nat.reduceLeDiff, Nat.reduceLT, Nat.reduceEqDiff, Nat.reduceMul, Nat.reduceSub, Int.reduceEq, Int.reduceLT, Int.reduceLE, Int.reduceAdd, Int.reduceNeg, Int.reduceNe, Int.reduceToNat, Nat.testBit, Nat.reduceShiftRight, Nat.reduceAnd, Nat.reduceBneDiff, Nat.reduceBEq, gR_some]
    refine sr (fun LL hLL => ?_)
    simp only [ptrTo, pend, pend0, Pd.old, pendU, pendU0, oxA0, oxA1, oxA2, oxA3, oxA4, oxA5, oxA6, oxA7, oxA8, oxA9, oxA10, oxL0, oxL1, oxTy0, oxTy1, oxTy2, ↓reduceIte, Nat.reduceAdd, Nat.reduceLeDiff, Nat.reduceLT, Nat.reduceEqDiff, Nat.reduceMul, Nat.reduceSub, Int.reduceEq, Int.reduceLT, Int.reduceLE, Int.reduceAdd, Int.reduceNeg, Int.reduceNe, Int.reduceToNat, Nat.testBit, Nat.reduceShiftRight, Nat.reduceAnd, Nat.reduceBneDiff, Nat.reduceBEq, gR_some]
    refine hLL _ _ ?_
    refine wpC_ret (out_ret ?_)
    simp only [ptrTo, pend, pend0, Pd.old, pendU, pendU0, oxA0, oxA1, oxA2, oxA3, oxA4, oxA5, oxA6, oxA7, oxA8, oxA9, oxA10, oxL0, oxL1, oxTy0, oxTy1, oxTy2, ↓reduceIte, Nat.reduceAdd, Nat.reduceLeDiff, Nat.reduceLT, Nat.reduceEqDiff, Nat.reduceMul, Nat.reduceSub, Int.reduceEq, Int.reduceLT, Int.reduceLE, Int.reduceAdd, Int.reduceNeg, Int.reduceNe, Int.reduceToNat, Nat.testBit, Nat.reduceShiftRight, Nat.reduceAnd, Nat.reduceBneDiff, Nat.reduceBEq, gR_some]
    exact hk
  · have e0 : ((C.length : Int) = 0) = False := eq_false (by omega)
    have hne : C ≠ [] := by rintro rfl; simp at h0
    obtain ⟨b, o, ro, sz, D, e, rfl, p1, g1, r1, q1⟩ := r.resolve_left hne
    obtain ⟨n, hn⟩ : ∃ n, n = C.length - 1 := ⟨_, rfl⟩
    have hnC : n < C.length := by omega
    have w1 : IntKind.i64.wrap ((C.length : Int) - 1) = (n : Int) := by rw [wrap_i64 (by omega) (by omega)]; omega
    have t1 : D[o + n * 2 + 1]? = some (.int .i64 C[n].fin) := Rs.cell Ct.len r1 q1 n hnC 1 (by omega)
    have hd : doneC C = C[n].fin := by
      unfold doneC
      rw [List.getLast?_eq_getElem?, ← hn, List.getElem?_eq_getElem hnC]
    rw [hd] at hk
    refine wpC_seq (sr fun LL hLL => ?_)
    simp only [ptrTo, pend, pend0, Pd.old, pendU, pendU0, oxA0, oxA1, oxA2, oxA3, oxA4, oxA5, oxA6, oxA7, oxA8, oxA9, oxA10, oxL0, oxL1, oxTy0, oxTy1, oxTy2, ↓reduceIte, Nat.reduceAdd, Nat.reduceLeDiff, Nat.reduceLT, Nat.reduceEqDiff, Nat.reduceMul, Nat.reduceSub, Int.reduceEq, Int.reduceLT, Int.reduceLE, Int.reduceAdd, Int.reduceNeg, Int.reduceNe, Int.reduceToNat, Nat.testBit, Nat.reduceShiftRight, Nat.reduceAnd, Nat.reduceBneDiff, Nat.reduceBEq, gR_some, e0]
    refine hLL _ _ ?_
    refine wpC_if ?_
    simp only [ptrTo, pend, pend0, Pd.old, pendU, pendU0, oxA0, oxA1, oxA2, oxA3, oxA4, oxA5, oxA6, oxA7, oxA8, oxA9, oxA10, oxL0, oxL1, oxTy0, oxTy1, oxTy2, ↓reduceIte, Nat.reduceAdd, Nat.reduceLeDiff, Nat.reduceLT, Nat.reduceEqDiff, Nat.reduceMul, Nat.reduceSub, Int.reduceEq, Int.reduceLT, Int.reduceLE, Int.reduceAdd, Int.reduceNeg, Int.reduceNe, Int.reduceToNat, Nat.testBit, Nat.reduceShiftRight, Nat.reduceAnd, Nat.reduceBneDiff, Nat.reduceBEq, gR_some]
    refine wpC_skip ?_
    simp only [ptrTo, pend, pend0, Pd.old, pendU, pendU0, oxA0, oxA1, oxA2, oxA3, oxA4, oxA5, oxA6, oxA7, oxA8, oxA9, oxA10, oxL0, oxL1, oxTy0, oxTy1, oxTy2, ↓reduceIte, Nat.reduceAdd, Nat.reduceLeDiff, Nat.reduceLT, Nat.reduceEqDiff, Nat.reduceMul, Nat.reduceSub, Int.reduceEq, Int.reduceLT, Int.reduceLE, Int.reduceAdd, Int.reduceNeg, Int.reduceNe, Int.reduceToNat, Nat.testBit, Nat.reduceShiftRight, Nat.reduceAnd, Nat.reduceBneDiff, Nat.reduceBEq, gR_some]
    refine fg3 (fun R => ?_)
    refine sr (fun LL hLL => ?_)
    simp only [ptrTo, pend, pend0, Pd.old, pendU, pendU0, oxA0, oxA1, oxA2, oxA3, oxA4, oxA5, oxA6, oxA7, oxA8, oxA9, oxA10, oxL0, oxL1, oxTy0, oxTy1, oxTy2, ↓reduceIte, Nat.reduceAdd, Nat.reduceLeDiff, Nat.reduceLT, Nat.reduceEqDiff, Nat.reduceMul, Nat.reduceSub, Int.reduceEq, Int.reduceLT, Int.reduceLE, Int.reduceAdd, Int.reduceNeg, Int.reduceNe, Int.reduceToNat, Nat.testBit, Nat.reduceShiftRight, Nat.reduceAnd, Nat.reduceBneDiff, Nat.reduceBEq, gR_some, w1, ixF hnC, g1, t1]
    refine hLL _ _ ?_
    refine wpC_ret (out_ret ?_)
    simp only [ptrTo, pend, pend0, Pd.old, pendU, pendU0, oxA0, oxA1, oxA2, oxA3, oxA4, oxA5, oxA6, oxA7, oxA8, oxA9, oxA10, oxL0, oxL1, oxTy0, oxTy1, oxTy2, ↓reduceIte, Nat.reduceAdd, Nat.reduceLeDiff, Nat.reduceLT, Nat.reduceEqDiff, Nat.reduceMul, Nat.reduceSub, Int.reduceEq, Int.reduceLT, Int.reduceLE, Int.reduceAdd, Int.reduceNeg, Int.reduceNe, Int.reduceToNat, Nat.testBit, Nat.reduceShiftRight, Nat.reduceAnd, Nat.reduceBneDiff, Nat.reduceBEq, gR_some]
    exact hk

theorem Open_any (p : Nat) (O : List Nat) (R : List Rc) (C : List Ct) (last : Option Int) (h : AHeap) (K : Value → AHeap → Prop) (s : Sk h p O R C last) (hl : R.length < 1000000) (hc : C.length < 1000000) (hd : doneC C ≤ R.length)
    (hk : K (.int .i64 ((R.length - doneC C : Nat) : Int)) h) : wpF Try.prog (.fn 20) [.pointer (some ⟨p, 0, none⟩)] h K := by
  obtain ⟨a1, a2, c1, c2, v3, B1, B2, B3, s, rfl⟩ := s
  have gp := s.get
  have w1 : IntKind.i64.wrap ((R.length : Int) - (doneC C : Int)) = ((R.length - doneC C : Nat) : Int) := by rw [wrap_i64 (by omega) (by omega)]; omega
  refine wpF_fun 14 [.tmp 2] Try.func20 rfl rfl rfl rfl ?_
  refine sr (fun LL hLL => ?_)
  simp only [ptrTo, pend, pend0, Pd.old, pendU, pendU0, oxA0, oxA1, oxA2, oxA3, oxA4, oxA5, oxA6, oxA7, oxA8, oxA9, oxA10, oxL0, oxL1, oxTy0, oxTy1, oxTy2, ↓reduceIte, Nat.reduceAdd, Nat.reduceLeDiff, Nat.reduceLT, Nat.reduceEqDiff, Nat.reduceMul, Nat.reduceSub, Int.reduceEq, Int.reduceLT, Int.reduceLE, Int.reduceAdd, Int.reduceNeg, Int.reduceNe, Int.reduceToNat, Nat.testBit, Nat.reduceShiftRight, Nat.reduceAnd, Nat.reduceBneDiff, Nat.reduceBEq, gR_some]
  refine hLL _ _ ?_
  refine su [some 3, some 4, some 5, some 6, some 7, some 8, some 9, some 10, some 11, some 12, some 13, some 2] 12 [0, 1, 3, 7, 15, 0, 32, 96, 224, 480, 1023, 2047] (by rfl) (by rfl) (by decide +kernel) (by decide +kernel) (by decide +kernel) (fun LL hLL => ?_)
  simp only [ptrTo, pend, pend0, Pd.old, pendU, pendU0, oxA0, oxA1, oxA2, oxA3, oxA4, oxA5, oxA6, oxA7, oxA8, oxA9, oxA10, oxL0, oxL1, oxTy0, oxTy1, oxTy2, ↓reduceIte, Nat.reduceAdd, Nat.reduceLeDiff, Nat.reduceLT, Nat.reduceEqDiff, Nat.reduceMul, Nat.reduceSub, Int.reduceEq, Int.reduceLT, Int.reduceLE, Int.reduceAdd, Int.reduceNeg, Int.reduceNe, Int.reduceToNat, Nat.testBit, Nat.reduceShiftRight, Nat.reduceAnd, Nat.reduceBneDiff, Nat.reduceBEq, gR_some, gp]
  refine done_any a2 c2 C _ _ (s.w2.rs Ct.len) hc ?_
  simp only [ptrTo, pend, pend0, Pd.old, pendU, pendU0, oxA0, oxA1, oxA2, oxA3, oxA4, oxA5, oxA6, oxA7, oxA8, oxA9, oxA10, oxL0, oxL1, oxTy0, oxTy1, oxTy2, ↓reduceIte, Nat.reduceAdd, Nat.reduceLeDiff, Nat.reduceLT, Nat.reduceEqDiff, Nat.reduceMul, Nat.reduceSub, Int.reduceEq, Int.reduceLT, Int.reduceLE, Int.reduceAdd, Int.reduceNeg, Int.reduceNe, Int.reduceToNat, Nat.testBit, Nat.reduceShiftRight, Nat.reduceAnd, Nat.reduceBneDiff, Nat.reduceBEq, gR_some, gp, w1]
  refine hLL _ _ ?_
  refine wpC_ret (out_ret ?_)
  simp only [ptrTo, pend, pend0, Pd.old, pendU, pendU0, oxA0, oxA1, oxA2, oxA3, oxA4, oxA5, oxA6, oxA7, oxA8, oxA9, oxA10, oxL0, oxL1, oxTy0, oxTy1, oxTy2, ↓reduceIte, Nat.reduceAdd, Nat.reduceLeDiff, Nat.reduceLT, Nat.reduceEqDiff, Nat.reduceMul, Nat.reduceSub, Int.reduceEq, Int.reduceLT, Int.reduceLE, Int.reduceAdd, Int.reduceNeg, Int.reduceNe, Int.reduceToNat, Nat.testBit, Nat.reduceShiftRight, Nat.reduceAnd, Nat.reduceBneDiff, Nat.reduceBEq, gR_some]
  exact hk
end Go.Proofs
