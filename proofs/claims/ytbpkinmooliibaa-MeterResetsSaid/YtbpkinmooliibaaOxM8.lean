/-
  A part of the proof of MeterResets: what this program's functions do on an abstract heap. CONDITIONS: none.
-/
import Derived.Test.YtbpkinmooliibaaOxM6
import Derived.Test.YtbpkinmooliibaaOxY
set_option linter.unusedSimpArgs false
set_option linter.unusedVariables false
namespace Go.Proofs
open Go Go.Ox
set_option maxRecDepth 100000
/-- A list handed in. -/
def Arg (A : List Ac) (a : Option Addr) (h : AHeap) : Prop := A = [] ∨ ∃ b, a = some ⟨b, 0, none⟩ ∧ b < h.next ∧ h.get b = some (.cells true 0 (A.flatMap Ac.cells) 35)

def AcR (_ : AHeap) (xs : List Value) (a : Ac) : Prop := xs = a.cells
section
variable {H : Type} {enc : TypeId × Value → H} {W : World}
theorem impAc : IsImp enc Try.prog W 35 AcR := by
  refine IsImp.conv (IsImp.flat (n := 9) (s := [true, true, true, true, true, false, false, false, false, false, false]) (by decide +kernel)) ?_ (fun _ _ _ _ h _ => h)
  rintro h xs ns ⟨rfl, hl, _⟩
  match ns, hl with
  | [a, b, c, d, e], _ => exact ⟨⟨a, b, c, d, e⟩, rfl⟩
theorem impActs : IsImp enc Try.prog W 22 (SlR AcR 35) := IsImp.slice (k := 10) (by rfl) (by rfl) impAc
end
theorem impI {H : Type} {enc : TypeId × Value → H} {W : World} : IsImp enc Try.prog W 3 (IntR .i64) := IsImp.int (by rfl)
theorem rows_flat {A : List Ac} {rows : List (List Value)} {h : AHeap} (hl : rows.length = A.length) (hr : ∀ (i : Nat) r x, rows[i]? = some r → A[i]? = some x → AcR h r x) : rows.flatten = A.flatMap Ac.cells := by
  have : rows = A.map Ac.cells := by
    apply List.ext_getElem (by simpa using hl)
    intro i h1 h2
    have := hr i _ _ (List.getElem?_eq_getElem h1) (List.getElem?_eq_getElem (by simpa using h2))
    simpa [AcR] using this
  rw [this, List.flatMap_def]
theorem acts_arg {h : AHeap} {x : Value} {A : List Ac} (hA : SlR AcR 35 h [x] A) : ∃ a c, x = .slice a A.length c ∧ Arg A a h := by
  obtain ⟨a, cap, h1, _, _, h2⟩ := hA
  simp only [List.cons.injEq, and_true] at h1
  refine ⟨a, cap, h1, h2.imp id ?_⟩
  rintro ⟨b, rows, h3, h4, h5, h6, h7⟩
  exact ⟨b, h3, h4, by rw [h5, rows_flat h6 h7]⟩
end Go.Proofs
