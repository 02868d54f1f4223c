/-
 REASONING ABOUT THE ABSTRACT RUN: what is held: pieces of the heap that stand apart.
-/
import Derived.Test.YtfcajloeknedeaaGreatOxT
set_option linter.unusedSimpArgs false
set_option linter.unusedVariables false
namespace Go.Ox

/-- An assertion on some blocks of the heap: those that it holds. -/
structure Asn where
 p : (Nat → Option ABlk) → List Nat → Prop
 loc : ∀ {g g' : Nat → Option ABlk} {B : List Nat}, p g B → (∀ b ∈ B, g' b = g b) → p g' B

def StG (g : Nat → Option ABlk) : List Asn → List Nat → Prop
 | [], U => U = []
 | A :: l, U => ∃ B V, U = B ++ V ∧ A.p g B ∧ (∀ b ∈ B, ¬ b ∈ V) ∧ StG g l V

theorem StG.loc {g g' : Nat → Option ABlk} : ∀ {l : List Asn} {U : List Nat}, StG g l U → (∀ b ∈ U, g' b = g b) → StG g' l U
 | [], _, h, _ => h
 | A :: l, U, ⟨B, V, h1, h2, h3, h4⟩, hk => ⟨B, V, h1, A.loc h2 fun b hb => hk b (by rw [h1]; simp [hb]), h3, StG.loc h4 fun b hb => hk b (by rw [h1]; simp [hb])⟩

theorem StG.append {g : Nat → Option ABlk} : ∀ {l m : List Asn} {U : List Nat}, StG g (l ++ m) U ↔ ∃ B V, U = B ++ V ∧ StG g l B ∧ (∀ b ∈ B, ¬ b ∈ V) ∧ StG g m V
 | [], m, U => ⟨fun h => ⟨[], U, rfl, rfl, by simp, h⟩, fun ⟨B, V, h1, h2, _, h4⟩ => by
   have h2' : B = [] := h2
   subst h2' h1; exact h4⟩
 | A :: l, m, U => by
  constructor
  ·rintro ⟨B, V, h1, h2, h3, h4⟩
   obtain ⟨C, D, k1, k2, k3, k4⟩ := StG.append.1 h4
   refine ⟨B ++ C, D, by rw [h1, k1, List.append_assoc], ⟨B, C, rfl, h2, fun b hb hc => h3 b hb (by rw [k1]; simp [hc]), k2⟩, fun b hb hd => ?_, k4⟩
   rcases List.mem_append.1 hb with hb | hb
   ·exact h3 b hb (by rw [k1]; simp [hd])
   ·exact k3 b hb hd
  ·rintro ⟨E, D, h1, ⟨B, C, k1, k2, k3, k4⟩, h3, h4⟩
   refine ⟨B, C ++ D, by rw [h1, k1, List.append_assoc], k2, fun b hb hc => ?_, StG.append.2 ⟨C, D, rfl, k4, fun b hb => h3 b (by rw [k1]; simp [hb]), h4⟩⟩
   rcases List.mem_append.1 hc with hc | hc
   ·exact k3 b hb hc
   ·exact h3 b (by rw [k1]; simp [hb]) hc

theorem StG.perm {g : Nat → Option ABlk} {l m : List Asn} (hp : l.Perm m) : ∀ {U : List Nat}, StG g l U → ∃ V, (∀ b, b ∈ V → b ∈ U) ∧ StG g m V := by
 suffices h : ∀ {U : List Nat}, StG g l U → ∃ V, (∀ b, b ∈ V ↔ b ∈ U) ∧ StG g m V by
  intro U hU
  obtain ⟨V, h1, h2⟩ := h hU
  exact ⟨V, fun b hb => (h1 b).1 hb, h2⟩
 induction hp with
 | nil => intro U h; exact ⟨U, fun _ => Iff.rfl, h⟩
 | cons A _ ih =>
  rintro U ⟨B, V, h1, h2, h3, h4⟩
  obtain ⟨V', k1, k2⟩ := ih h4
  exact ⟨B ++ V', fun b => by rw [h1]; simp [k1], B, V', rfl, h2, fun b hb hc => h3 b hb ((k1 b).1 hc), k2⟩
 | swap A B l =>
  rintro U ⟨X, V, h1, h2, h3, Y, Z, k1, k2, k3, k4⟩
  subst k1 h1
  refine ⟨Y ++ (X ++ Z), fun b => by simp only [List.mem_append]; exact or_left_comm, Y, X ++ Z, rfl, k2, fun b hb hc => ?_, X, Z, rfl, h2, fun b hb hc => h3 b hb (by simp [hc]), k4⟩
  rcases List.mem_append.1 hc with hc | hc
  ·exact h3 b hc (by simp [hb])
  ·exact k3 b hb hc
 | trans _ _ ih1 ih2 =>
  intro U h
  obtain ⟨V, k1, k2⟩ := ih1 h
  obtain ⟨W, q1, q2⟩ := ih2 k2
  exact ⟨W, fun b => (q1 b).trans (k1 b), q2⟩

/-- What is held: pieces that stand apart, all of them made behind 'h0', which is as it was. -/
structure St (h0 h : AHeap) (l : List Asn) : Prop where
 base : Fr h0 h []
 use : ∃ U, StG h.get l U ∧ ∀ b ∈ U, h0.next ≤ b ∧ b < h.next

theorem St.perm {h0 h : AHeap} {l m : List Asn} (s : St h0 h l) (hp : l.Perm m) : St h0 h m := by
 obtain ⟨U, h1, h2⟩ := s.use
 obtain ⟨V, k1, k2⟩ := h1.perm hp
 exact ⟨s.base, V, k2, fun b hb => h2 b (k1 b hb)⟩
theorem St.init (h : AHeap) : St h h [] := ⟨Fr.refl h [], [], rfl, by simp⟩

/-- The n-th piece ahead of the others. -/
def mv : Nat → List Asn → List Asn
 | 0, l => l
 | n + 1, [] => []
 | n + 1, A :: l => match mv n l with
  | [] => [A]
  | B :: m => B :: A :: m
theorem mv_perm : ∀ (n : Nat) (l : List Asn), l.Perm (mv n l)
 | 0, _ => .refl _
 | _ + 1, [] => .refl _
 | n + 1, A :: l => by
  have ih := mv_perm n l
  show (A :: l).Perm (match mv n l with | [] => [A] | B :: m => B :: A :: m)
  split
  ·rename_i h; rw [h] at ih; rw [ih.eq_nil]
  ·rename_i B m h; rw [h] at ih; exact (ih.cons A).trans (.swap B A m)
theorem St.mv {h0 h : AHeap} {l : List Asn} (s : St h0 h l) (n : Nat) : St h0 h (mv n l) := s.perm (mv_perm n l)

theorem St.drop {h0 h : AHeap} {A : Asn} {F : List Asn} (s : St h0 h (A :: F)) : St h0 h F := by
 obtain ⟨U, ⟨B, V, rfl, h2, h3, h4⟩, hb⟩ := s.use
 exact ⟨s.base, V, h4, fun b k => hb b (by simp [k])⟩
theorem St.next {h0 h : AHeap} {F : List Asn} (s : St h0 h F) : h0.next ≤ h.next := s.base.next

/-- Where the heap grows, and what is held stays. -/
theorem St.fr {h0 h h' : AHeap} {F : List Asn} (s : St h0 h F) (hf : Fr h h' []) : St h0 h' F := by
 obtain ⟨U, h1, h2⟩ := s.use
 exact ⟨s.base.trans hf (fun _ k => k) (fun _ _ k => k), U, h1.loc fun b hb => hf.get b (h2 b hb).2 (by simp), fun b hb => ⟨(h2 b hb).1, Nat.lt_of_lt_of_le (h2 b hb).2 hf.next⟩⟩

/-- One block. -/
def own (b : Nat) (X : ABlk) : Asn := ⟨fun g B => B = [b] ∧ g b = some X, fun ⟨h1, h2⟩ hk => ⟨h1, by rw [hk b (by rw [h1]; simp)]; exact h2⟩⟩
/-- A fact. -/
def fact (φ : Prop) : Asn := ⟨fun _ B => B = [] ∧ φ, fun h _ => h⟩
/-- Pieces as one. -/
def star (l : List Asn) : Asn := ⟨fun g B => StG g l B, fun h hk => h.loc hk⟩
def exs {α : Type} (A : α → Asn) : Asn := ⟨fun g B => ∃ x, (A x).p g B, fun ⟨x, h⟩ hk => ⟨x, (A x).loc h hk⟩⟩

section
variable {h0 h : AHeap} {F : List Asn}
theorem St.get {b : Nat} {X : ABlk} (s : St h0 h (own b X :: F)) : h.get b = some X := by
 obtain ⟨U, ⟨B, V, rfl, ⟨h1, h2⟩, h3, h4⟩, hb⟩ := s.use
 exact h2
theorem St.lt {b : Nat} {X : ABlk} (s : St h0 h (own b X :: F)) : h0.next ≤ b ∧ b < h.next := by
 obtain ⟨U, ⟨B, V, rfl, ⟨h1, h2⟩, h3, h4⟩, hb⟩ := s.use
 exact hb b (by rw [h1]; simp)
theorem St.ne {b c : Nat} {X Y : ABlk} (s : St h0 h (own b X :: own c Y :: F)) : b ≠ c := by
 obtain ⟨U, ⟨B, V, rfl, ⟨rfl, _⟩, h3, C, V', rfl, ⟨rfl, _⟩, _, _⟩, hb⟩ := s.use
 have := h3 b (by simp)
 simp at this
 exact this.1
theorem St.star_in {l : List Asn} (s : St h0 h (l ++ F)) : St h0 h (star l :: F) := by
 obtain ⟨U, h1, hb⟩ := s.use
 obtain ⟨B, V, k1, k2, k3, k4⟩ := StG.append.1 h1
 exact ⟨s.base, U, ⟨B, V, k1, k2, k3, k4⟩, hb⟩
theorem St.star_out {l : List Asn} (s : St h0 h (star l :: F)) : St h0 h (l ++ F) := by
 obtain ⟨U, ⟨B, V, k1, k2, k3, k4⟩, hb⟩ := s.use
 exact ⟨s.base, U, StG.append.2 ⟨B, V, k1, k2, k3, k4⟩, hb⟩
theorem St.ex_in {α : Type} {A : α → Asn} (x : α) (s : St h0 h (A x :: F)) : St h0 h (exs A :: F) := by
 obtain ⟨U, ⟨B, V, k1, k2, k3, k4⟩, hb⟩ := s.use
 exact ⟨s.base, U, ⟨B, V, k1, ⟨x, k2⟩, k3, k4⟩, hb⟩
theorem St.ex_out {α : Type} {A : α → Asn} (s : St h0 h (exs A :: F)) : ∃ x, St h0 h (A x :: F) := by
 obtain ⟨U, ⟨B, V, k1, ⟨x, k2⟩, k3, k4⟩, hb⟩ := s.use
 exact ⟨x, s.base, U, ⟨B, V, k1, k2, k3, k4⟩, hb⟩
theorem St.fact_in {φ : Prop} (hp : φ) (s : St h0 h F) : St h0 h (fact φ :: F) := by
 obtain ⟨U, h1, hb⟩ := s.use
 exact ⟨s.base, U, ⟨[], U, rfl, ⟨rfl, hp⟩, by simp, h1⟩, hb⟩
theorem St.fact_out {φ : Prop} (s : St h0 h (fact φ :: F)) : φ ∧ St h0 h F := by
 obtain ⟨U, ⟨B, V, rfl, ⟨rfl, k2⟩, k3, k4⟩, hb⟩ := s.use
 exact ⟨k2, s.base, V, k4, by simpa using hb⟩
/-- A piece read otherwise. -/
theorem St.imp {A A' : Asn} (s : St h0 h (A :: F)) (hi : ∀ g B, A.p g B → A'.p g B) : St h0 h (A' :: F) := by
 obtain ⟨U, ⟨B, V, k1, k2, k3, k4⟩, hb⟩ := s.use
 exact ⟨s.base, U, ⟨B, V, k1, hi _ _ k2, k3, k4⟩, hb⟩
theorem St.know {A : Asn} {φ : Prop} (s : St h0 h (A :: F)) (hi : ∀ B, A.p h.get B → (∀ b ∈ B, h0.next ≤ b ∧ b < h.next) → φ) : φ := by
 obtain ⟨U, ⟨B, V, rfl, k2, k3, k4⟩, hb⟩ := s.use
 exact hi B k2 fun b k => hb b (by simp [k])

theorem St.set {b : Nat} {X : ABlk} (s : St h0 h (own b X :: F)) (Y : ABlk) : St h0 (h.set b Y) (own b Y :: F) := by
 obtain ⟨U, ⟨B, V, rfl, ⟨rfl, h2⟩, h3, h4⟩, hb⟩ := s.use
 have hlt := hb b (by simp)
 refine ⟨s.base.to_set Y (.inl hlt.1), [b] ++ V, ⟨[b], V, rfl, ⟨rfl, by simp [AHeap.get_set]⟩, h3, h4.loc fun c hc => ?_⟩, by simpa using hb⟩
 rw [AHeap.get_set, if_neg]
 rintro rfl
 exact h3 c (by simp) hc
theorem St.push (s : St h0 h F) (X : ABlk) : St h0 (h.push X) (own h.next X :: F) := by
 obtain ⟨U, h1, hb⟩ := s.use
 refine ⟨s.base.to_push X, [h.next] ++ U, ⟨[h.next], U, rfl, ⟨rfl, by simp [AHeap.get_push]⟩, fun b k1 k2 => ?_, h1.loc fun b k => ?_⟩, fun b k => ?_⟩
 ·obtain rfl : b = h.next := by simpa using k1
  exact absurd (hb _ k2).2 (by omega)
 ·rw [AHeap.get_push, if_neg]
  have := (hb b k).2
  omega
 ·have := s.base.next
  rcases List.mem_append.1 k with k | k
  ·obtain rfl : b = h.next := by simpa using k
   simp; omega
  ·have := hb b k
   simp; omega
/-- A piece that a run has changed, which left all others alone. -/
theorem St.upd {A A' : Asn} {h' : AHeap} (s : St h0 h (A :: F)) (hu : ∀ B, A.p h.get B → (∀ b ∈ B, h0.next ≤ b ∧ b < h.next) → ∃ B', A'.p h'.get B' ∧ (∀ β ∈ B', β ∈ B ∨ h.next ≤ β) ∧ (∀ β ∈ B', β < h'.next) ∧ Fr h h' B) : St h0 h' (A' :: F) := by
 obtain ⟨U, ⟨B, V, rfl, k2, k3, k4⟩, hb⟩ := s.use
 obtain ⟨B', q1, q2, q3, q4⟩ := hu B k2 fun b k => hb b (by simp [k])
 have hn := s.base.next
 refine ⟨s.base.trans q4 (ex := []) (fun _ k => k) (fun β k1 k2 => absurd (hb β (by simp [k2])).1 (by omega)), B' ++ V, ⟨B', V, rfl, q1, fun b k1 k2' => ?_, k4.loc fun b k => ?_⟩, fun b k => ?_⟩
 ·rcases q2 b k1 with k | k
  ·exact k3 b k k2'
  ·exact absurd (hb b (by simp [k2'])).2 (by omega)
 ·exact q4.get b (hb b (by simp [k])).2 fun hB => k3 b hB k
 ·rcases List.mem_append.1 k with k | k
  ·refine ⟨?_, q3 b k⟩
   rcases q2 b k with k | k
   ·exact (hb b (by simp [k])).1
   ·omega
  ·have := hb b (by simp [k])
   have := q4.next
   omega
end

/-! ### slices of one's own -/
section
variable {α : Type} (f : α → List Value) (k : Nat)
def wn (e : TypeId) (a : Option Addr) (c : Nat) (L : List α) : Asn :=
 ⟨fun g B => (L = [] ∧ a = none ∧ c = 0 ∧ B = []) ∨ ∃ b, a = some ⟨b, 0, none⟩ ∧ B = [b] ∧ g b = some (.cells false k (L.flatMap f) e) ∧ (c = L.length ∨ c = big + L.length), fun h hk => by
  rcases h with h | ⟨b, h1, h2, h3, h4⟩
  ·exact .inl h
  ·exact .inr ⟨b, h1, h2, by rw [hk b (by rw [h2]; simp)]; exact h3, h4⟩⟩
end
section
variable {α : Type} {f : α → List Value} {k : Nat} {h0 h : AHeap} {F : List Asn} {e : TypeId} {a : Option Addr} {c : Nat} {L : List α}
theorem St.wnB (s : St h0 h (wn f k e a c L :: F)) : ∃ B, Wn f k e h a c L B := s.know fun B hB hb => ⟨B, by
 rcases hB with hB | ⟨b, h1, h2, h3, h4⟩
 ·exact .inl hB
 ·exact .inr ⟨b, h1, h2, (hb b (by rw [h2]; simp)).2, h3, h4⟩⟩
theorem St.rs (hf : ∀ x, (f x).length = k) (s : St h0 h (Go.Ox.wn f k e a c L :: F)) : Rs f k h a L := let ⟨_, w⟩ := s.wnB; w.rs hf
theorem St.wn_nil (s : St h0 h F) : St h0 h (Go.Ox.wn f k e none 0 ([] : List α) :: F) := by
 obtain ⟨U, h1, hb⟩ := s.use
 exact ⟨s.base, U, ⟨[], U, rfl, .inl ⟨rfl, rfl, rfl, rfl⟩, by simp, h1⟩, hb⟩
theorem St.wn_own {b : Nat} {C : List Value} (s : St h0 h (own b (.cells false k C e) :: F)) (L : List α) (hC : C = L.flatMap f) : St h0 h (Go.Ox.wn f k e (some ⟨b, 0, none⟩) L.length L :: F) :=
 s.imp fun g B ⟨h1, h2⟩ => .inr ⟨b, rfl, h1, by rw [← hC]; exact h2, .inl rfl⟩
theorem St.wn_out (hne : L ≠ [] ∨ a ≠ none) (s : St h0 h (Go.Ox.wn f k e a c L :: F)) : ∃ b, a = some ⟨b, 0, none⟩ ∧ (c = L.length ∨ c = big + L.length) ∧ St h0 h (own b (.cells false k (L.flatMap f) e) :: F) := by
 obtain ⟨B, w⟩ := s.wnB
 rcases w with ⟨rfl, rfl, rfl, rfl⟩ | ⟨b, rfl, rfl, w3, w4, w5⟩
 ·simp at hne
 ·refine ⟨b, rfl, w5, s.imp fun g B hB => ?_⟩
  rcases hB with ⟨_, h, _⟩ | ⟨b', h1, h2, h3, _⟩
  ·cases h
  ·simp only [Option.some.injEq, Addr.mk.injEq, and_true] at h1
   subst h1; exact ⟨h2, h3⟩
theorem St.wn_in {b : Nat} (s : St h0 h (own b (.cells false k (L.flatMap f) e) :: F)) (hc : c = L.length ∨ c = big + L.length) : St h0 h (Go.Ox.wn f k e (some ⟨b, 0, none⟩) c L :: F) :=
 s.imp fun g B ⟨h1, h2⟩ => .inr ⟨b, rfl, h1, h2, hc⟩
/-- To append. -/
theorem St.app {bytes : Nat} {s' : Option Addr} {d : Nat} {M : List α} (hf : ∀ x, (f x).length = k) (hoc : ∀ x : α, (f x).all Value.oneCell' = true) (s : St h0 h (Go.Ox.wn f k e a c L :: F))
  (hs : Go.Ox.fst h k M.length s' = some (M.flatMap f)) (h1 : (L.length + M.length) * bytes ≤ 140737488355328) (h2 : L.length + M.length < 4611686018427387904) :
  ∃ a' c' h2, apF h k bytes e a L.length c s' M.length d = some (.slice a' (L ++ M).length c', h2) ∧ St h0 h2 (Go.Ox.wn f k e a' c' (L ++ M) :: F) := by
 obtain ⟨U, ⟨B, V, rfl, k2, k3, k4⟩, hb⟩ := s.use
 have w : Wn f k e h a c L B := by
  rcases k2 with hB | ⟨b, h1, h2, h3, h4⟩
  ·exact .inl hB
  ·exact .inr ⟨b, h1, h2, (hb b (by rw [h2]; simp)).2, h3, h4⟩
 obtain ⟨a', c', h2, B', y1, y2, y3, y4⟩ := w.app hf hoc hs h1 h2 (d := d)
 refine ⟨a', c', h2, y1, s.upd fun B0 hB0 _ => ⟨B', ?_, ?_, y2.lt, ?_⟩⟩
 ·rcases y2 with y2 | ⟨b, q1, q2, q3, q4, q5⟩
  ·exact .inl y2
  ·exact .inr ⟨b, q1, q2, q4, q5⟩
 ·have : B0 = B := by
   rcases hB0 with ⟨_, h1, _, h2⟩ | ⟨b, h1, h2, _⟩ <;> rcases k2 with ⟨_, h3, _, h4⟩ | ⟨b', h3, h4, _⟩
   ·rw [h2, h4]
   ·rw [h1] at h3; cases h3
   ·rw [h1] at h3; cases h3
   ·rw [h1] at h3
    simp only [Option.some.injEq, Addr.mk.injEq, and_true] at h3
    rw [h2, h4, h3]
  subst this; exact y4
 ·have : B0 = B := by
   rcases hB0 with ⟨_, h1, _, h2⟩ | ⟨b, h1, h2, _⟩ <;> rcases k2 with ⟨_, h3, _, h4⟩ | ⟨b', h3, h4, _⟩
   ·rw [h2, h4]
   ·rw [h1] at h3; cases h3
   ·rw [h1] at h3; cases h3
   ·rw [h1] at h3
    simp only [Option.some.injEq, Addr.mk.injEq, and_true] at h3
    rw [h2, h4, h3]
  subst this; exact y3
end
end Go.Ox
