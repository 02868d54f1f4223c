/-
  The sink as a piece that is held. CONDITIONS: none.
-/
import Derived.Test.YtoacnhfpapmomaaOxK7
import Derived.Test.YtoacnhfpapmomaaOxNs
set_option linter.unusedSimpArgs false
set_option linter.unusedVariables false
namespace Go.Proofs
open Go Go.Ox
set_option maxRecDepth 100000
set_option maxHeartbeats 4000000
theorem Wn_re {α : Type} {f : α → List Value} {k : Nat} {e : TypeId} {g g' : Nat → Option ABlk} {nx nx' : Nat} {a : Option Addr} {c : Nat} {L : List α} {B : List Nat} (w : Wn f k e ⟨g, nx⟩ a c L B) (hg : ∀ b ∈ B, g' b = g b) (hb : ∀ b ∈ B, b < nx') : Wn f k e ⟨g', nx'⟩ a c L B := by
  rcases w with w | ⟨b, h1, h2, h3, h4, h5⟩
  · exact .inl w
  · exact .inr ⟨b, h1, h2, hb b (by rw [h2]; simp), (hg b (by rw [h2]; simp)).trans h4, h5⟩
theorem Lst_re {g g' : Nat → Option ABlk} {nx nx' : Nat} {v : Value} {l : Option Int} {B : List Nat} (w : Lst ⟨g, nx⟩ v l B) (hg : ∀ b ∈ B, g' b = g b) (hb : ∀ b ∈ B, b < nx') : Lst ⟨g', nx'⟩ v l B := by
  rcases w with w | ⟨q, n, h1, h2, h3, h4, h5⟩
  · exact .inl w
  · exact .inr ⟨q, n, h1, h2, h3, hb q (by rw [h3]; simp), (hg q (by rw [h3]; simp)).trans h5⟩
theorem Sk_re {g g' : Nat → Option ABlk} {nx nx' : Nat} {p : Nat} {O : List Nat} {R : List Rc} {C : List Ct} {last : Option Int} (s : Sk ⟨g, nx⟩ p O R C last) (hg : ∀ b ∈ O, g' b = g b) (hb : ∀ b ∈ O, b < nx') : Sk ⟨g', nx'⟩ p O R C last := by
  obtain ⟨a1, a2, c1, c2, v3, B1, B2, B3, s, rfl⟩ := s
  exact ⟨a1, a2, c1, c2, v3, B1, B2, B3, ⟨hb p (by simp), (hg p (by simp)).trans s.get, Wn_re s.w1 (fun b k => hg b (by simp [k])) (fun b k => hb b (by simp [k])),
    Wn_re s.w2 (fun b k => hg b (by simp [k])) (fun b k => hb b (by simp [k])), Lst_re s.w3 (fun b k => hg b (by simp [k])) (fun b k => hb b (by simp [k])), s.n1, s.n2, s.n3, s.d12, s.d13, s.d23⟩, rfl⟩
/-- The sink at p. -/
def skA (p : Nat) (R : List Rc) (C : List Ct) (last : Option Int) : Asn :=
  ⟨fun g B => ∃ nx, Sk ⟨g, nx⟩ p B R C last, fun ⟨nx, s⟩ hk => ⟨nx, Sk_re s hk s.lt⟩⟩
section
variable {h0 h : AHeap} {F : List Asn} {p : Nat} {R : List Rc} {C : List Ct} {last : Option Int}
theorem skA_out (s : St h0 h (skA p R C last :: F)) : ∃ O, Sk h p O R C last ∧ ∀ (h' : AHeap) (A' : Asn) (O' : List Nat), Fr h h' O → A'.p h'.get O' → (∀ β ∈ O', β ∈ O ∨ h.next ≤ β) → (∀ β ∈ O', β < h'.next) → St h0 h' (A' :: F) := by
  obtain ⟨U, ⟨B, V, rfl, ⟨nx, k2⟩, k3, k4⟩, hb⟩ := s.use
  refine ⟨B, Sk_re k2 (fun _ _ => rfl) (fun b k => (hb b (by simp [k])).2), fun h' A' O' f a n l => ?_⟩
  have hn := s.base.next
  refine ⟨s.base.trans f (ex := []) (fun _ k => k) (fun β k1 k2 => absurd (hb β (by simp [k2])).1 (by omega)), O' ++ V, ⟨O', V, rfl, a, fun b k1 k2' => ?_, k4.loc fun b k => ?_⟩, fun b k => ?_⟩
  · rcases n b k1 with k | k
    · exact k3 b k k2'
    · exact absurd (hb b (by simp [k2'])).2 (by omega)
  · exact f.get b (hb b (by simp [k])).2 fun hB => k3 b hB k
  · rcases List.mem_append.1 k with k | k
    · refine ⟨?_, l b k⟩
      rcases n b k with k | k
      · exact (hb b (by simp [k])).1
      · omega
    · have := hb b (by simp [k])
      have := f.next
      omega
theorem skA_p {h' : AHeap} {O : List Nat} (s : Sk h' p O R C last) : (skA p R C last).p h'.get O := ⟨h'.next, s⟩
theorem wn_p {α : Type} {f : α → List Value} {k : Nat} {e : TypeId} {a : Option Addr} {c : Nat} {L : List α} {B : List Nat} (w : Wn f k e h a c L B) : (wn f k e a c L).p h.get B := by
  rcases w with w | ⟨b, h1, h2, h3, h4, h5⟩
  · exact .inl w
  · exact .inr ⟨b, h1, h2, h4, h5⟩
/-- A piece that was made. -/
theorem St_make {A : Asn} {B : List Nat} {h' : AHeap} (s : St h0 h F) (f : Fr h h' []) (a : A.p h'.get B) (n : ∀ β ∈ B, h.next ≤ β) (l : ∀ β ∈ B, β < h'.next) : St h0 h' (A :: F) := by
  obtain ⟨U, h1, hb⟩ := (s.fr f).use
  obtain ⟨U0, k1, kb⟩ := s.use
  have hn := s.base.next
  refine ⟨(s.fr f).base, B ++ U0, ⟨B, U0, rfl, a, fun b k1 k2 => ?_, k1.loc fun b k => f.get b (kb b k).2 (by simp)⟩, fun b k => ?_⟩
  · have := n b k1; have := (kb b k2).2; omega
  · rcases List.mem_append.1 k with k | k
    · exact ⟨by have := n b k; omega, l b k⟩
    · exact ⟨(kb b k).1, Nat.lt_of_lt_of_le (kb b k).2 f.next⟩
theorem sNew (h : AHeap) (K : Value → AHeap → Prop) (s : St h0 h F) (hk : ∀ p h', St h0 h' (skA p [] [] none :: F) → K (.pointer (some ⟨p, 0, none⟩)) h') : wpF Try.prog (.fn 8) [] h K :=
  new_any h K fun p _ h' f n sk => hk p h' (St_make s f (skA_p sk) n sk.lt)
theorem sTake (x : Rc) (h : AHeap) (K : Value → AHeap → Prop) (s : St h0 h (skA p R C last :: F)) (hl : R.length < 1000000) (hk : ∀ h', St h0 h' (skA p (R ++ [x]) C last :: F) → K (.tuple #[]) h') : wpF Try.prog (.fn 17) [.pointer (some ⟨p, 0, none⟩), .agg x.cells.toArray] h K := by
  obtain ⟨O, sk, put⟩ := skA_out s
  exact Take_any p O R C last x h K sk hl fun O' h' f n sk' => hk h' (put h' _ O' f (skA_p sk') n sk'.lt)
theorem sOpen (h : AHeap) (K : Value → AHeap → Prop) (s : St h0 h (skA p R C last :: F)) (hl : R.length < 1000000) (hc : C.length < 1000000) (hd : doneC C ≤ R.length) (hk : K (.int .i64 ((R.length - doneC C : Nat) : Int)) h) : wpF Try.prog (.fn 20) [.pointer (some ⟨p, 0, none⟩)] h K := by
  obtain ⟨O, sk, _⟩ := skA_out s
  exact Open_any p O R C last h K sk hl hc hd hk
theorem sCuts (h : AHeap) (K : Value → AHeap → Prop) (s : St h0 h (skA p R C last :: F)) (hc : C.length < 1000000) (hk : ∀ a c h', St h0 h' (wn icell 1 3 a c (C.map (·.no)) :: skA p R C last :: F) → K (.slice a (C.map (·.no)).length c) h') : wpF Try.prog (.fn 19) [.pointer (some ⟨p, 0, none⟩)] h K := by
  obtain ⟨O, sk, _⟩ := skA_out s
  exact Cuts_any p O R C last h K sk hc fun a c B h' f w n => hk a c h' (St_make s f (wn_p w) n w.lt)
theorem sCommit (no : Int) (h : AHeap) (K : Value → AHeap → Prop) (s : St h0 h (skA p R C last :: F)) (hl : R.length < 1000000) (hc : C.length < 1000000) (hs : Sorted C)
    (hf : ∀ i (hi : i < C.length), C[i].fin ≤ R.length) (hm : ∀ i j (hi : i < C.length) (hj : j < C.length), i < j → C[i].fin ≤ C[j].fin)
    (hk : ∀ n h', Parts C no n → St h0 h' (skA p (R.drop (doneC (C.take n))) ((C.drop n).map (dec (doneC (C.take n)))) (newLast last no) :: F) → K (.tuple #[]) h') : wpF Try.prog (.fn 15) [.pointer (some ⟨p, 0, none⟩), .int .i64 no] h K := by
  obtain ⟨O, sk, put⟩ := skA_out s
  exact Commit_any p O R C last no h K sk hl hc hs hf hm fun n O' h' hP f n' sk' => hk n h' hP (put h' _ O' f (skA_p sk') n' sk'.lt)
theorem sCut (no : Int) (h : AHeap) (K : Value → AHeap → Prop) (s : St h0 h (skA p R C last :: F)) (hl : R.length < 1000000) (hc : C.length < 1000000)
    (hk1 : ¬ above last no → ∀ h', St h0 h' (skA p R C last :: F) → K (.slice none 0 0) h')
    (hk2 : above last no → ∀ a c h', St h0 h' (wn Rc.cells 2 29 a c R :: skA p R (C ++ [⟨no, R.length⟩]) (some no) :: F) → K (.slice a R.length c) h') : wpF Try.prog (.fn 11) [.pointer (some ⟨p, 0, none⟩), .int .i64 no] h K := by
  obtain ⟨O, sk, put⟩ := skA_out s
  refine Cut_any p O R C last no h K sk hl hc (fun ha h' f _ => hk1 ha h' (s.fr f)) fun ha O' a c B h' f n sk' w nB d => ?_
  refine hk2 ha a c h' ?_
  have := put h' (star [wn Rc.cells 2 29 a c R, skA p R (C ++ [⟨no, R.length⟩]) (some no)]) (B ++ O') f ⟨B, O', rfl, wn_p w, d, O', [], by simp, skA_p sk', by simp, rfl⟩
    (fun β hβ => (List.mem_append.1 hβ).elim (fun k => .inr (nB β k)) (fun k => n β k)) (fun β hβ => (List.mem_append.1 hβ).elim (fun k => w.lt β k) (fun k => sk'.lt β k))
  exact this.star_out
end
end Go.Proofs
