/-
  Sink: lists that are handed in. CONDITIONS: none.
-/
import Derived.Test.YtoacnhfpapmomaaOxK7
set_option linter.unusedSimpArgs false
set_option linter.unusedVariables false
namespace Go.Proofs
open Go Go.Ox
set_option maxRecDepth 100000
def AkR (_ : AHeap) (xs : List Value) (a : Ak) : Prop := xs = a.cells
def RcR (_ : AHeap) (xs : List Value) (a : Rc) : Prop := xs = a.cells
section
variable {H : Type} {enc : TypeId × Value → H} {W : World}
theorem impAk : IsImp enc Try.prog W 31 AkR := by
  refine IsImp.conv (IsImp.flat (n := 9) (s := [true, true, true, true]) (by decide +kernel)) ?_ (fun _ _ _ _ h _ => h)
  rintro h xs ns ⟨rfl, hl, _⟩
  match ns, hl with
  | [a, b, c, d], _ => exact ⟨⟨a, b, ⟨c, d⟩⟩, rfl⟩
theorem impAks : IsImp enc Try.prog W 22 (SlR AkR 31) := IsImp.slice (k := 3) (by rfl) (by rfl) impAk
theorem impRc : IsImp enc Try.prog W 29 RcR := by
  refine IsImp.conv (IsImp.flat (n := 9) (s := [true, true]) (by decide +kernel)) ?_ (fun _ _ _ _ h _ => h)
  rintro h xs ns ⟨rfl, hl, _⟩
  match ns, hl with
  | [a, b], _ => exact ⟨⟨a, b⟩, rfl⟩
theorem impRcs : IsImp enc Try.prog W 32 (SlR RcR 29) := IsImp.slice (k := 1) (by rfl) (by rfl) impRc
theorem impI : IsImp enc Try.prog W 3 (IntR .i64) := IsImp.int (by rfl)
end
theorem rows_flat {α : Type} {f : α → List Value} {A : List α} {rows : List (List Value)} (hl : rows.length = A.length) (hr : ∀ (i : Nat) r x, rows[i]? = some r → A[i]? = some x → r = f x) : rows.flatten = A.flatMap f := by
  have : rows = A.map f := by
    apply List.ext_getElem (by simpa using hl)
    intro i h1 h2
    have := hr i _ _ (List.getElem?_eq_getElem h1) (List.getElem?_eq_getElem (by simpa using h2))
    simpa using this
  rw [this, List.flatMap_def]
theorem acts_arg {h : AHeap} {x : Value} {A : List Ak} (hA : SlR AkR 31 h [x] A) : ∃ a c, x = .slice a A.length c ∧ Arg A a h := by
  obtain ⟨a, cap, h1, _, _, h2⟩ := hA
  simp only [List.cons.injEq, and_true] at h1
  refine ⟨a, cap, h1, h2.imp id ?_⟩
  rintro ⟨b, rows, h3, h4, h5, h6, h7⟩
  exact ⟨b, h3, h4, by rw [h5, rows_flat (f := Ak.cells) h6 h7]⟩
/-- Records that are handed in. -/
theorem recs_arg {h : AHeap} {x : Value} {A : List Rc} (hA : SlR RcR 29 h [x] A) : ∃ a c, x = .slice a A.length c ∧ A.length ≤ c ∧ c < 9223372036854775808 ∧ (A = [] ∨ ∃ b, a = some ⟨b, 0, none⟩ ∧ b < h.next ∧ h.get b = some (.cells true 0 (A.flatMap Rc.cells) 29)) := by
  obtain ⟨a, cap, h1, q1, q2, h2⟩ := hA
  simp only [List.cons.injEq, and_true] at h1
  refine ⟨a, cap, h1, q1, q2, h2.imp id ?_⟩
  rintro ⟨b, rows, h3, h4, h5, h6, h7⟩
  exact ⟨b, h3, h4, by rw [h5, rows_flat (f := Rc.cells) h6 h7]⟩
end Go.Proofs
