/-
  ARGUMENTS THAT ARE READ, as lists.
-/
import Derived.Test.YtfcajloeknedeaaGreatOxYw
import Derived.Test.YtfcajloeknedeaaGreatOxNs
set_option linter.unusedSimpArgs false
set_option linter.unusedVariables false
namespace Go.Ox
section
variable {P : Program} {α : Type} {f : α → List Value} {k : Nat} {e E : TypeId} {h : AHeap} {x : Value} {R : AHeap → List Value → α → Prop}
theorem rows_flat {A : List α} {rows : List (List Value)} (hl : rows.length = A.length) (hr : ∀ (i : Nat) r x, rows[i]? = some r → A[i]? = some x → r = f x) : rows.flatten = A.flatMap f := by
  have : rows = A.map f := by
    apply List.ext_getElem (by simpa using hl)
    intro i h1 h2
    have := hr i _ _ (List.getElem?_eq_getElem h1) (List.getElem?_eq_getElem (by simpa using h2))
    simpa using this
  rw [this, List.flatMap_def]
theorem all_rs {b : Nat} {ro : Bool} {sz : Nat} {C : List Value} {T : TypeId} {L : List α} (hf : ∀ x, (f x).length = k) (hb : b < h.next) (hg : h.get b = some (.cells ro sz C T)) (hC : C = L.flatMap f) : Rs f k h (some ⟨b, 0, none⟩) L := by
  subst hC
  refine .inr ⟨b, 0, ro, sz, _, T, rfl, hb, hg, ?_, ?_⟩
  · rw [List.drop_zero, ← flat_length hf L, List.take_length]
  · rw [flat_length hf]; omega
theorem sl_rs (hf : ∀ x, (f x).length = k) (hR : ∀ h xs z, R h xs z → xs = f z) {A : List α} (hA : SlR R e h [x] A) :
    ∃ a c, x = .slice a A.length c ∧ Rs f k h a A ∧ (a = none → A = [] ∧ c = 0) ∧ A.length ≤ c ∧ c < 9223372036854775808 ∧ (∀ y, a = some y → ∃ b, y = ⟨b, 0, none⟩) := by
  obtain ⟨a, cap, h1, q1, q2, h2, q3, q4⟩ := hA
  simp only [List.cons.injEq, and_true] at h1
  refine ⟨a, cap, h1, ?_, fun k => ?_, q1, q2, q4⟩
  · rcases h2 with h2 | ⟨b, rows, h3, h4, h5, h6, h7⟩
    · exact .inl h2
    · subst h3
      exact all_rs hf h4 h5 (rows_flat h6 fun i r x p q => hR _ _ _ (h7 i r x p q))
  · have hc := q3 k
    exact ⟨List.eq_nil_of_length_eq_zero (by omega), hc⟩
def svOf : List Value → Sv
  | [.slice a l c] => ⟨a, l, c⟩
  | _ => ⟨none, 0, 0⟩
theorem sl_rsn (hf : ∀ x, (f x).length = k) (hR : ∀ h xs z, R h xs z → xs = f z) {A : List (List α)} (hA : SlR (SlRb P R e) E h [x] A) :
    ∃ a c, x = .slice a A.length c ∧ RsN f k h a A ∧ (a = none → A = [] ∧ c = 0) ∧ A.length ≤ c ∧ c < 9223372036854775808 ∧ (∀ L ∈ A, L.length * P.bytesOf e ≤ reachBytes) := by
  obtain ⟨a, cap, h1, q1, q2, h2, q3, q4⟩ := hA
  simp only [List.cons.injEq, and_true] at h1
  have hnil : a = none → A = [] ∧ cap = 0 := fun k => by
    have hc := q3 k
    exact ⟨List.eq_nil_of_length_eq_zero (by omega), hc⟩
  rcases h2 with rfl | ⟨b, rows, rfl, h4, h5, h6, h7⟩
  · exact ⟨a, cap, h1, ⟨[], rfl, .inl rfl, fun i hi => by simp at hi⟩, hnil, q1, q2, by simp⟩
  · have key : ∀ i (hi : i < A.length) (hr : i < rows.length), ∃ a' c', rows[i] = [.slice a' A[i].length c'] ∧ Rs f k h a' A[i] ∧ (a' = none → A[i] = [] ∧ c' = 0) ∧ A[i].length * P.bytesOf e ≤ reachBytes := fun i hi hr => by
      obtain ⟨hs, hb⟩ := h7 i _ _ (List.getElem?_eq_getElem hr) (List.getElem?_eq_getElem hi)
      obtain ⟨a', c', e1, e2⟩ := hs
      have hs' : SlR R e h [.slice a' A[i].length c'] A[i] := ⟨a', c', rfl, e2⟩
      obtain ⟨a2, c2, k1, k2, k3, _⟩ := sl_rs hf hR hs'
      simp only [Value.slice.injEq, true_and] at k1
      obtain ⟨rfl, rfl⟩ := k1
      exact ⟨a', c', e1, k2, k3, hb⟩
    refine ⟨_, cap, h1, ⟨rows.map svOf, ?_, ?_, fun i hi hj => ?_⟩, hnil, q1, q2, fun L hL => ?_⟩
    · apply List.ext_getElem (by simp [h6])
      intro i k1 k2
      simp only [List.length_map] at k1 k2
      obtain ⟨a', c', e1, _⟩ := key i k2 k1
      simp [e1, svOf]
    · refine all_rs Sv.len1 h4 h5 ?_
      rw [List.flatMap_map]
      have : rows.flatten = rows.flatMap fun r => r := by rw [List.flatMap_def, List.map_id']
      rw [this, List.flatMap_def, List.flatMap_def]
      congr 1
      apply List.map_congr_left
      intro r hr
      obtain ⟨i, hi, rfl⟩ := List.mem_iff_getElem.1 hr
      obtain ⟨a', c', e1, _⟩ := key i (by omega) hi
      rw [e1]; rfl
    · simp only [List.length_map] at hi
      obtain ⟨a', c', e1, e2, e3, _⟩ := key i hj hi
      simp only [List.getElem_map, e1, svOf]
      exact ⟨e2, e3⟩
    · obtain ⟨i, hi, rfl⟩ := List.mem_iff_getElem.1 hL
      obtain ⟨_, _, _, _, _, e4⟩ := key i hi (by omega)
      exact e4
theorem int_rs {h : AHeap} {xs : List Value} {z : Int} (hz : IntR .i64 h xs z) : xs = [.int .i64 z] := hz.1
end
end Go.Ox
