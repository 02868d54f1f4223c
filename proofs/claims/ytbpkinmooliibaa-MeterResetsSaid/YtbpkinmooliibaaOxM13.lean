/-
  What is measured ahead of a reset and behind it: sums of measures. CONDITIONS: none.
-/
import Derived.Test.YtbpkinmooliibaaOxM9
set_option linter.unusedSimpArgs false
set_option linter.unusedVariables false
namespace Go.Proofs
open Go Go.Ox
set_option maxRecDepth 100000
set_option maxHeartbeats 1000000
def sumM (x f : Ms) : Ms := ⟨w64 (x.a + f.a), w64 (x.b + f.b), w64 (x.c + f.c), w64 (x.d + f.d)⟩
def Ms.ok (x : Ms) : Prop := w64 x.a = x.a ∧ w64 x.b = x.b ∧ w64 x.c = x.c ∧ w64 x.d = x.d
theorem w64_add (a b c : Int) : w64 (w64 (a + b) + c) = w64 (w64 (a + c) + b) := by
  simp only [w64, IntKind.wrap, IntKind.bits, IntKind.signed, Bool.true_and, decide_eq_true_eq]
  split <;> split <;> split <;> split <;> omega
theorem w64_range (n : Int) : -9223372036854775808 ≤ w64 n ∧ w64 n < 9223372036854775808 := by
  have e : w64 n = if n % 18446744073709551616 ≥ 9223372036854775808 then n % 18446744073709551616 - 18446744073709551616 else n % 18446744073709551616 := by
    simp [w64, IntKind.wrap, IntKind.bits, IntKind.signed]
  rw [e]
  split <;> omega
theorem w64_w (a : Int) : w64 (w64 a) = w64 a := wrap_i64 (w64_range a).1 (w64_range a).2
theorem zM_ok : zM.ok := ⟨by decide, by decide, by decide, by decide⟩
theorem addM_ok (k o u : Int) (x : Ms) (h : x.ok) : (addM k o u x).ok := by
  unfold addM
  split
  · exact ⟨h.1, h.2.1, h.2.2.1, w64_w _⟩
  · split
    · exact ⟨w64_w _, w64_w _, w64_w _, h.2.2.2⟩
    · exact h
theorem sum_zero (x : Ms) (h : x.ok) : sumM zM x = x := by
  obtain ⟨a, b, c, d⟩ := x
  simp only [sumM, zM, Int.zero_add]
  obtain ⟨h1, h2, h3, h4⟩ := h
  simp only at h1 h2 h3 h4
  rw [h1, h2, h3, h4]
theorem addM_sum (k o u : Int) (x f : Ms) : addM k o u (sumM x f) = sumM (addM k o u x) f := by
  unfold addM
  split
  · simp only [waitM, sumM, w64_add]
  · split
    · simp only [recM, sumM, w64_add]
    · rfl
theorem addA_length (L : List Ms) (x : Ac) : (addA L x).length = L.length := addL_length ..
theorem addA_sum (L F : List Ms) (x : Ac) (h : F.length = L.length) : addA (List.zipWith sumM L F) x = List.zipWith sumM (addA L x) F := by
  by_cases hx : 0 ≤ x.op ∧ x.op < L.length
  · obtain ⟨i, hi⟩ : ∃ i : Nat, x.op = i := ⟨x.op.toNat, by omega⟩
    unfold addA
    rw [hi, addL_in L i (by omega), addL_in _ i (by rw [List.length_zipWith]; omega)]
    apply List.ext_getElem
    · simp
    · intro j h1 h2
      simp only [List.getElem_zipWith, List.getElem_set]
      split
      · rename_i hij; subst hij; rw [addM_sum]
      · rfl
  · unfold addA
    rw [addL_out L _ _ _ _ hx, addL_out _ _ _ _ _ (by rw [List.length_zipWith]; omega)]
theorem addA_ok (L : List Ms) (x : Ac) (h : ∀ y ∈ L, y.ok) : ∀ y ∈ addA L x, y.ok := by
  unfold addA addL
  split
  · split
    · rename_i z hz
      intro y hy
      rcases List.mem_or_eq_of_mem_set hy with hy | rfl
      · exact h y hy
      · exact addM_ok _ _ _ _ (h z (List.mem_of_getElem? hz))
    · exact h
  · exact h
theorem zip_zero (F : List Ms) (h : ∀ y ∈ F, y.ok) : List.zipWith sumM (List.replicate F.length zM) F = F := by
  apply List.ext_getElem
  · simp
  · intro j h1 h2
    simp only [List.getElem_zipWith, List.getElem_replicate]
    exact sum_zero _ (h _ (List.getElem_mem _))

/-- Two meters, in the midst of it. -/
def RInv (h2 h' : AHeap) (pa ba pb bb : Nat) (past : Prop) (v8 : Value) : Prop :=
  ∃ L M : List Ms, L.length = 12 ∧ M.length = 12 ∧ (∀ x ∈ M, x.ok) ∧ Fr h2 h' [ba, bb] ∧ Mt h' pa ba L ∧ Mt h' pb bb M ∧ ((¬ past ∧ L = M) ∨ (past ∧ ∃ (F : List Ms) (bf c : Nat), F.length = 12 ∧ v8 = .slice (some ⟨bf, 0, none⟩) 12 c ∧ h2.next ≤ bf ∧ bf < h'.next ∧ h'.get bf = some (.cells false 4 (F.flatMap Ms.cells) 37) ∧ M = List.zipWith sumM L F))
end Go.Proofs
