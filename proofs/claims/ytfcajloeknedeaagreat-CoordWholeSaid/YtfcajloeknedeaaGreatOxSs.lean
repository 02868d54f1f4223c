/-
  STABLE SORTS, plainly: what stays in order, and what a merge of two sorted lists is.
-/
set_option linter.unusedSimpArgs false
set_option linter.unusedVariables false
namespace Go.Ox
section
variable {α κ : Type} [DecidableEq κ]
/-- An order, and the key that it goes by: equals have one key. -/
structure KOrd (lt : α → α → Bool) (ke : α → κ) : Prop where
  nt : ∀ a b c, lt b a = false → lt c b = false → lt c a = false
  asy : ∀ a b, lt a b = true → lt b a = false
  eq : ∀ a b, lt a b = false → lt b a = false → ke a = ke b
  ne : ∀ a b, lt a b = true → ke a ≠ ke b
/-- Of each key the same, in the same order. -/
def Sim (ke : α → κ) (L M : List α) : Prop := ∀ k, L.filter (fun x => decide (ke x = k)) = M.filter (fun x => decide (ke x = k))
abbrev SrtL (lt : α → α → Bool) (L : List α) : Prop := L.Pairwise fun x y => lt y x = false
variable {lt : α → α → Bool} {ke : α → κ}
theorem Sim.refl (L : List α) : Sim ke L L := fun _ => rfl
theorem Sim.symm {L M : List α} (h : Sim ke L M) : Sim ke M L := fun k => (h k).symm
theorem Sim.trans {L M N : List α} (h : Sim ke L M) (h2 : Sim ke M N) : Sim ke L N := fun k => (h k).trans (h2 k)
theorem Sim.append {L L' M M' : List α} (h : Sim ke L L') (h2 : Sim ke M M') : Sim ke (L ++ M) (L' ++ M') := fun k => by
  rw [List.filter_append, List.filter_append, h k, h2 k]
theorem Sim.mem {L M : List α} (h : Sim ke L M) (x : α) : x ∈ L ↔ x ∈ M := by
  have e := h (ke x)
  have h1 : x ∈ L.filter (fun y => decide (ke y = ke x)) ↔ x ∈ L := by simp
  have h2 : x ∈ M.filter (fun y => decide (ke y = ke x)) ↔ x ∈ M := by simp
  rw [← h1, ← h2, e]
theorem Sim.len {L M : List α} (h : Sim ke L M) : L.length = M.length := by
  induction L generalizing M with
  | nil =>
    cases M with
    | nil => rfl
    | cons y M => have := (Sim.mem h y).2 (List.mem_cons_self ..); cases this
  | cons x L ih =>
    have hx := (Sim.mem h x).1 (List.mem_cons_self ..)
    -- the first of x's key in M is x
    have e := h (ke x)
    rw [List.filter_cons_of_pos (by simp)] at e
    obtain ⟨A, y, B, rfl, hA, hy⟩ : ∃ A y B, M = A ++ y :: B ∧ (∀ z ∈ A, ke z ≠ ke x) ∧ ke y = ke x := by
      clear e h ih
      induction M with
      | nil => cases hx
      | cons z M ihm =>
        by_cases hz : ke z = ke x
        · exact ⟨[], z, M, rfl, by simp, hz⟩
        · rcases List.mem_cons.1 hx with rfl | hx
          · exact absurd rfl hz
          · obtain ⟨A, y, B, rfl, hA, hy⟩ := ihm hx
            exact ⟨z :: A, y, B, rfl, fun w hw => by
              rcases List.mem_cons.1 hw with rfl | hw
              · exact hz
              · exact hA w hw, hy⟩
    have hf : (A.filter fun z => decide (ke z = ke x)) = [] := List.filter_eq_nil_iff.2 fun z hz => by simpa using hA z hz
    rw [List.filter_append, hf, List.nil_append, List.filter_cons_of_pos (by simpa using hy)] at e
    obtain ⟨rfl, e2⟩ := List.cons.inj e
    have h2 : Sim ke L (A ++ B) := fun k => by
      have := h k
      rw [List.filter_append, List.filter_cons] at this
      rw [List.filter_append]
      by_cases hk : ke x = k
      · subst hk
        rw [hf, List.nil_append]
        exact e2
      · have : (L.filter fun z => decide (ke z = k)) = (A.filter fun z => decide (ke z = k)) ++ ((x :: B).filter fun z => decide (ke z = k)) := by simpa [hk] using this
        rw [this, List.filter_cons_of_neg (by simpa using hk)]
    have := ih h2
    simp only [List.length_cons, List.length_append] at this ⊢
    omega
/-- Two lists of which no key is in both, in whichever order. -/
theorem Sim.swap {A B : List α} (h : ∀ a ∈ A, ∀ b ∈ B, ke a ≠ ke b) : Sim ke (A ++ B) (B ++ A) := fun k => by
  rw [List.filter_append, List.filter_append]
  by_cases hA : (A.filter fun z => decide (ke z = k)) = []
  · rw [hA]; simp
  · have hB : (B.filter fun z => decide (ke z = k)) = [] := by
      obtain ⟨a, ha⟩ := List.exists_mem_of_ne_nil _ hA
      obtain ⟨ha1, ha2⟩ := List.mem_filter.1 ha
      refine List.filter_eq_nil_iff.2 fun b hb e => ?_
      exact h a ha1 b hb ((of_decide_eq_true ha2).trans (of_decide_eq_true e).symm)
    rw [hB]; simp
end
section
variable {α κ : Type}
variable {lt : α → α → Bool} {ke : α → κ}
theorem KOrd.lt_le {a b c : α} (o : KOrd lt ke) (h1 : lt a b = true) (h2 : lt c b = false) : lt a c = true := by
  by_cases h : lt a c = true
  · exact h
  · have h' : lt a c = false := by simpa using h
    have := o.nt b c a h2 h'
    rw [h1] at this; cases this
end
section
variable {α κ : Type} [DecidableEq κ]
variable {lt : α → α → Bool} {ke : α → κ}
end
section
variable {α κ : Type}
variable {lt : α → α → Bool} {ke : α → κ}
theorem KOrd.le_lt {a b c : α} (o : KOrd lt ke) (h1 : lt b a = false) (h2 : lt b c = true) : lt a c = true := by
  by_cases h : lt a c = true
  · exact h
  · have h' : lt a c = false := by simpa using h
    have := o.nt c a b h' h1
    rw [h2] at this; cases this
end
section
variable {α κ : Type} [DecidableEq κ]
variable {lt : α → α → Bool} {ke : α → κ}
end
section
variable {α κ : Type}
variable {lt : α → α → Bool} {ke : α → κ}
theorem KOrd.irr (o : KOrd lt ke) (a : α) : lt a a = false := by
  by_cases h : lt a a = true
  · exact o.asy a a h
  · simpa using h
end
section
variable {α κ : Type} [DecidableEq κ]
variable {lt : α → α → Bool} {ke : α → κ}
/-- Insertion: where it stops. -/
theorem ins_stop (o : KOrd lt ke) {S1 S2 : List α} {x : α} (hs : SrtL lt (S1 ++ S2)) (h2 : ∀ z ∈ S2, lt x z = true) (h1 : S1 = [] ∨ ∃ S y, S1 = S ++ [y] ∧ lt x y = false) : SrtL lt (S1 ++ x :: S2) ∧ Sim ke (S1 ++ S2 ++ [x]) (S1 ++ x :: S2) := by
  obtain ⟨a1, a2, a3⟩ := List.pairwise_append.1 hs
  have hle : ∀ z ∈ S1, lt x z = false := fun z hz => by
    rcases h1 with rfl | ⟨S, y, rfl, hy⟩
    · cases hz
    · rcases List.mem_append.1 hz with hz | hz
      · exact o.nt z y x ((List.pairwise_append.1 a1).2.2 z hz y (by simp)) hy
      · obtain rfl : z = y := by simpa using hz
        exact hy
  refine ⟨List.pairwise_append.2 ⟨a1, List.pairwise_cons.2 ⟨fun z hz => o.asy x z (h2 z hz), a2⟩, fun z hz w hw => ?_⟩, ?_⟩
  · rcases List.mem_cons.1 hw with rfl | hw
    · exact hle z hz
    · exact a3 z hz w hw
  · rw [List.append_assoc]
    exact (Sim.refl S1).append (Sim.swap fun a ha b hb => by
      obtain rfl : b = x := by simpa using hb
      exact fun e => o.ne b a (h2 a ha) e.symm)
/-- Two halves of a merge. -/
theorem merge_halves (o : KOrd lt ke) {A1 A2 B1 B2 X Y : List α} (hA : SrtL lt (A1 ++ A2)) (hB : SrtL lt (B1 ++ B2)) (h1 : ∀ a ∈ A1, ∀ b ∈ B2, lt b a = false) (h2 : ∀ b ∈ B1, ∀ a ∈ A2, lt b a = true)
    (hX : SrtL lt X) (sX : Sim ke (A1 ++ B1) X) (hY : SrtL lt Y) (sY : Sim ke (A2 ++ B2) Y) : SrtL lt (X ++ Y) ∧ Sim ke ((A1 ++ A2) ++ (B1 ++ B2)) (X ++ Y) := by
  refine ⟨List.pairwise_append.2 ⟨hX, hY, fun x hx y hy => ?_⟩, ?_⟩
  · have hx' := (sX.mem x).2 hx
    have hy' := (sY.mem y).2 hy
    rcases List.mem_append.1 hx' with ha | hb
    · rcases List.mem_append.1 hy' with hc | hd
      · exact (List.pairwise_append.1 hA).2.2 x ha y hc
      · exact h1 x ha y hd
    · rcases List.mem_append.1 hy' with hc | hd
      · exact o.asy x y (h2 x hb y hc)
      · exact (List.pairwise_append.1 hB).2.2 x hb y hd
  · refine Sim.trans ?_ (sX.append sY)
    rw [show (A1 ++ A2) ++ (B1 ++ B2) = A1 ++ ((A2 ++ B1) ++ B2) by simp, show (A1 ++ B1) ++ (A2 ++ B2) = A1 ++ ((B1 ++ A2) ++ B2) by simp]
    exact (Sim.refl A1).append ((Sim.swap fun a ha b hb e => o.ne b a (h2 b hb a ha) e.symm).append (Sim.refl B2))
end
section
variable {α κ : Type}
variable {lt : α → α → Bool} {ke : α → κ}
/-- What lies below a place where a search by halves goes right, and above one where it goes left. -/
theorem srt_below (o : KOrd lt ke) {B : List α} (hB : SrtL lt B) {x : α} {i j : Nat} (hj : j < B.length) (hij : i ≤ j) (h : lt B[j] x = true) : lt (B[i]'(by omega)) x = true := by
  by_cases e : i = j
  · subst e; exact h
  · have := List.pairwise_iff_getElem.1 hB i j (by omega) hj (by omega)
    exact o.le_lt this h
end
section
variable {α κ : Type} [DecidableEq κ]
variable {lt : α → α → Bool} {ke : α → κ}
end
section
variable {α κ : Type}
variable {lt : α → α → Bool} {ke : α → κ}
theorem srt_above (o : KOrd lt ke) {B : List α} (hB : SrtL lt B) {x : α} {i j : Nat} (hj : j < B.length) (hij : i ≤ j) (h : lt (B[i]'(by omega)) x = false) : lt B[j] x = false := by
  by_cases e : i = j
  · subst e; exact h
  · have := List.pairwise_iff_getElem.1 hB i j (by omega) hj (by omega)
    exact o.nt x B[i] B[j] h this
end
section
variable {α κ : Type} [DecidableEq κ]
variable {lt : α → α → Bool} {ke : α → κ}
end
end Go.Ox
