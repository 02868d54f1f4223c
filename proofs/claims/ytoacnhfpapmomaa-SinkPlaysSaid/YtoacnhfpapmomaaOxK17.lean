/-
  Both sinks side by side. CONDITIONS: none.
-/
import Derived.Test.YtoacnhfpapmomaaOxK16
set_option linter.unusedSimpArgs false
set_option linter.unusedVariables false
namespace Go.Proofs
open Go Go.Ox
set_option maxRecDepth 100000
set_option maxHeartbeats 4000000
theorem flat_len_take (PP : PL) (i j : Nat) (h : i ≤ j) : (flat (PP.take i)).length ≤ (flat (PP.take j)).length := by
  have : PP.take i = (PP.take j).take i := by rw [List.take_take, Nat.min_eq_left h]
  rw [this]; exact flat_le' _ _
theorem flat_app (P Q : PL) : flat (P ++ Q) = flat P ++ flat Q := by unfold flat; rw [List.map_append, List.flatten_append]
/-- The cuts that pieces are. -/
def ctOf (PP : PL) : List Ct := (List.range PP.length).map fun i => ⟨(PP.getD i (0, [])).1, (flat (PP.take (i + 1))).length⟩
theorem ctOf_len (PP : PL) : (ctOf PP).length = PP.length := by simp [ctOf]
theorem ctOf_at (PP : PL) (i : Nat) (hi : i < PP.length) (hj : i < (ctOf PP).length) : (ctOf PP)[i] = ⟨PP[i].1, (flat (PP.take (i + 1))).length⟩ := by
  simp [ctOf, List.getD_eq_getElem?_getD, List.getElem?_eq_getElem hi]
theorem ctOf_app (PP : PL) (no : Int) (L : List Rc) : ctOf (PP ++ [(no, L)]) = ctOf PP ++ [⟨no, (flat PP ++ L).length⟩] := by
  refine List.ext_getElem (by simp [ctOf_len]) fun i h1 h2 => ?_
  have hi : i < PP.length + 1 := by simpa [ctOf_len] using h1
  rw [ctOf_at _ i (by simpa using hi) h1]
  by_cases h : i < PP.length
  · have e : (ctOf PP ++ [(⟨no, (flat PP ++ L).length⟩ : Ct)])[i] = (ctOf PP)[i]'(by rw [ctOf_len]; exact h) := List.getElem_append_left _
    rw [e, ctOf_at PP i h, List.getElem_append_left h, List.take_append_of_le_length (by omega)]
  · obtain rfl : i = PP.length := by omega
    have e : (ctOf PP ++ [(⟨no, (flat PP ++ L).length⟩ : Ct)])[PP.length] = ⟨no, (flat PP ++ L).length⟩ := by
      rw [List.getElem_append_right (by rw [ctOf_len]; exact Nat.le_refl _)]; simp
    rw [e, List.take_of_length_le (by simp), flat_app]
    simp [flat]
theorem ctOf_take (PP : PL) (n : Nat) : (ctOf PP).take n = ctOf (PP.take n) := by
  refine List.ext_getElem (by simp [ctOf_len]) fun i h1 h2 => ?_
  have hi : i < n ∧ i < PP.length := by rw [List.length_take, ctOf_len] at h1; omega
  rw [List.getElem_take, ctOf_at PP i hi.2, ctOf_at _ i (by rw [List.length_take]; omega), List.getElem_take, List.take_take, show min (i + 1) n = i + 1 by omega]
theorem ctOf_done (PP : PL) : doneC (ctOf PP) = (flat PP).length := by
  rcases List.eq_nil_or_concat PP with rfl | ⟨Q, x, rfl⟩
  · simp [ctOf, doneC, flat]
  · obtain ⟨no, L⟩ := x
    rw [List.concat_eq_append, ctOf_app, doneC_app, flat_app]
    simp [flat]
theorem ctOf_drop (PP : PL) (n : Nat) : ((ctOf PP).drop n).map (dec (flat (PP.take n)).length) = ctOf (PP.drop n) := by
  refine List.ext_getElem (by simp [ctOf_len]) fun i h1 h2 => ?_
  have hi : n + i < PP.length := by simp [ctOf_len] at h1; omega
  rw [List.getElem_map, List.getElem_drop, ctOf_at PP (n + i) hi, ctOf_at _ i (by rw [List.length_drop]; omega), List.getElem_drop]
  simp only [dec, Ct.mk.injEq, true_and]
  rw [Nat.add_assoc, List.take_add, flat_app, List.length_append]
  omega
theorem ctOf_no (PP : PL) : (ctOf PP).map (·.no) = PP.map (·.1) := by
  refine List.ext_getElem (by simp [ctOf_len]) fun i h1 h2 => ?_
  rw [List.getElem_map, List.getElem_map, ctOf_at PP i (by simpa using h2)]

structure PI (PP : PL) (L : List Rc) (last : Option Int) (lst : Int) (any : Bool) (i : Nat) : Prop where
  la : last = if any = true then some lst else none
  so : ∀ a b (ha : a < PP.length) (hb : b < PP.length), a < b → PP[a].1 < PP[b].1
  le : ∀ a (ha : a < PP.length), any = true ∧ PP[a].1 ≤ lst
  s1 : (flat PP).length + L.length ≤ i
  s2 : PP.length ≤ i
section
variable {PP : PL} {L : List Rc} {last : Option Int} {lst : Int} {any : Bool} {i : Nat}
theorem PI.above (m : PI PP L last lst any i) (no : Int) : above last no ↔ ¬ (any = true ∧ no ≤ lst) := by
  rw [m.la]
  by_cases ha : any = true
  · rw [if_pos ha]
    exact ⟨fun h k => by have := h lst rfl; omega, fun h q hq => by cases hq; have : ¬ no ≤ lst := fun k => h ⟨ha, k⟩; omega⟩
  · rw [if_neg ha]
    exact ⟨fun _ k => ha k.1, fun _ q hq => by cases hq⟩
theorem PI.sorted (m : PI PP L last lst any i) : Sorted (ctOf PP) := fun a b ha hb hab => by
  rw [ctOf_len] at ha hb
  rw [ctOf_at PP a ha, ctOf_at PP b hb]
  exact m.so a b ha hb hab
theorem PI.fin (_ : PI PP L last lst any i) : ∀ a (ha : a < (ctOf PP).length), (ctOf PP)[a].fin ≤ (flat PP ++ L).length := fun a ha => by
  have ha' : a < PP.length := by rw [ctOf_len] at ha; exact ha
  rw [ctOf_at PP a ha', List.length_append]
  have := flat_le' PP (a + 1)
  show (flat (PP.take (a + 1))).length ≤ _
  omega
theorem PI.mono (_ : PI PP L last lst any i) : ∀ a b (ha : a < (ctOf PP).length) (hb : b < (ctOf PP).length), a < b → (ctOf PP)[a].fin ≤ (ctOf PP)[b].fin := fun a b ha hb hab => by
  rw [ctOf_len] at ha hb
  rw [ctOf_at PP a ha, ctOf_at PP b hb]
  exact flat_len_take PP (a + 1) (b + 1) (by omega)
theorem PI.up (m : PI PP L last lst any i) : PI PP L last lst any (i + 1) := ⟨m.la, m.so, m.le, by have := m.s1; omega, by have := m.s2; omega⟩
theorem PI.take (m : PI PP L last lst any i) (x : Rc) : PI PP (L ++ [x]) last lst any (i + 1) := ⟨m.la, m.so, m.le, by have := m.s1; simp; omega, by have := m.s2; omega⟩
theorem PI.cut (m : PI PP L last lst any i) {no : Int} (ha : ¬ (any = true ∧ no ≤ lst)) : PI (PP ++ [(no, L)]) [] (some no) no true (i + 1) := by
  have key : ∀ a (h : a < PP.length), PP[a].1 < no := fun a h => by
    obtain ⟨k1, k2⟩ := m.le a h
    have : ¬ no ≤ lst := fun k => ha ⟨k1, k⟩
    omega
  refine ⟨rfl, fun a b h1 h2 hab => ?_, fun a h1 => ⟨rfl, ?_⟩, ?_, ?_⟩
  · simp only [List.length_append, List.length_cons, List.length_nil] at h1 h2
    rw [List.getElem_append_left (by omega)]
    by_cases hb : b < PP.length
    · rw [List.getElem_append_left hb]; exact m.so a b (by omega) hb hab
    · rw [List.getElem_append_right (by omega)]
      simp only [List.getElem_singleton]
      exact key a (by omega)
  · simp only [List.length_append, List.length_cons, List.length_nil] at h1
    by_cases hb : a < PP.length
    · rw [List.getElem_append_left hb]; have := key a hb; omega
    · rw [List.getElem_append_right (by omega)]; simp
  · have := m.s1
    rw [flat_app]
    simp [flat] at this ⊢
    omega
  · have := m.s2
    simp; omega
theorem PI.parts (m : PI PP L last lst any i) {no : Int} {n : Nat} (h : Parts (ctOf PP) no n) : PP.filter (fun x => decide (no < x.1)) = PP.drop n := by
  obtain ⟨h1, h2, h3⟩ := h
  rw [ctOf_len] at h1
  have e : PP = PP.take n ++ PP.drop n := (List.take_append_drop n PP).symm
  conv => lhs; rw [e]
  rw [List.filter_append, List.filter_eq_nil_iff.2, List.filter_eq_self.2, List.nil_append]
  · intro x hx
    obtain ⟨j, hj, rfl⟩ := List.mem_iff_getElem.1 hx
    rw [List.length_drop] at hj
    have := h3 (n + j) (by rw [ctOf_len]; omega) (by omega)
    rw [ctOf_at PP (n + j) (by omega)] at this
    rw [List.getElem_drop]
    simpa using this
  · intro x hx
    obtain ⟨j, hj, rfl⟩ := List.mem_iff_getElem.1 hx
    rw [List.length_take] at hj
    have := h2 j (by rw [ctOf_len]; omega) (by omega)
    rw [ctOf_at PP j (by omega)] at this
    rw [List.getElem_take]
    simpa using this
theorem PI.commit (m : PI PP L last lst any i) {no : Int} {n : Nat} (_ : Parts (ctOf PP) no n) : PI (PP.drop n) L (newLast last no) (if any = true ∧ no ≤ lst then lst else no) true (i + 1) := by
  refine ⟨?_, fun a b h1 h2 hab => ?_, fun a h1 => ?_, ?_, ?_⟩
  · rw [m.la, if_pos rfl]
    by_cases ha : any = true
    · rw [if_pos ha]
      simp only [newLast]
      by_cases hn : lst < no
      · rw [if_pos hn, if_neg (by omega)]
      · rw [if_neg hn, if_pos ⟨ha, by omega⟩]
    · rw [if_neg ha, if_neg (fun k => ha k.1)]
      rfl
  · rw [List.length_drop] at h1 h2
    rw [List.getElem_drop, List.getElem_drop]
    exact m.so _ _ _ _ (by omega)
  · rw [List.length_drop] at h1
    rw [List.getElem_drop]
    obtain ⟨k1, k2⟩ := m.le (n + a) (by omega)
    refine ⟨rfl, ?_⟩
    split
    · exact k2
    · rename_i hn
      have : ¬ no ≤ lst := fun k => hn ⟨k1, k⟩
      omega
  · have e : flat PP = flat (PP.take n) ++ flat (PP.drop n) := by rw [← flat_app, List.take_append_drop]
    have := m.s1
    rw [e, List.length_append] at this
    omega
  · have := m.s2
    rw [List.length_drop]; omega
theorem PI.drop (_ : PI PP L last lst any i) (n : Nat) : (flat PP ++ L).drop (flat (PP.take n)).length = flat (PP.drop n) ++ L := by
  have e : flat PP = flat (PP.take n) ++ flat (PP.drop n) := by rw [← flat_app, List.take_append_drop]
  rw [e, List.append_assoc, List.drop_left]
end
end Go.Proofs
