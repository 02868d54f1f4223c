/-
  Source: lists that are handed in. CONDITIONS: none.
-/
import Derived.Test.YtcgpbamkkhjoiaaOxO11
import Derived.Test.YtcgpbamkkhjoiaaOxAr
set_option linter.unusedSimpArgs false
set_option linter.unusedVariables false
namespace Go.Proofs
open Go Go.Ox
set_option maxRecDepth 100000
def RcR (_ : AHeap) (xs : List Value) (a : Rc) : Prop := xs = a.cells
section
variable {H : Type} {enc : TypeId × Value → H} {W : World}
theorem impRc : IsImp enc Try.prog W 37 RcR := by
  refine IsImp.conv (IsImp.flat (n := 9) (s := [true, true]) (by decide +kernel)) ?_ (fun _ _ _ _ h _ => h)
  rintro h xs ns ⟨rfl, hl, _⟩
  match ns, hl with
  | [a, b], _ => exact ⟨⟨a, b⟩, rfl⟩
theorem impRcs : IsImpW enc Try.prog W 46 (SlRb Try.prog RcR 37) := IsImpW.slice (k := 1) (by rfl) (by rfl) impRc.toW
theorem impRcss : IsImpW enc Try.prog W 22 (SlRb Try.prog (SlRb Try.prog RcR 37) 46) := IsImpW.slice (k := 0) (by rfl) (by rfl) impRcs
theorem impI : IsImpW enc Try.prog W 3 (IntR .i64) := (IsImp.int (by rfl)).toW
theorem impIs : IsImpW enc Try.prog W 23 (SlRb Try.prog (IntR .i64) 3) := IsImpW.slice (k := 0) (by rfl) (by rfl) impI
end
theorem bytesInt : Try.prog.bytesOf 3 = 8 := by decide +kernel
theorem bytesRec : Try.prog.bytesOf 37 = 16 := by decide +kernel
theorem bytesRecs : Try.prog.bytesOf 46 = 24 := by decide +kernel
theorem ints_arg {h : AHeap} {x : Value} {A : List Int} (hA : SlRb Try.prog (IntR .i64) 3 h [x] A) : ∃ a c, x = .slice a A.length c ∧ Rs icell 1 h a A ∧ (a = none → A = [] ∧ c = 0) ∧ A.length < 17592186044000 := by
  obtain ⟨h1, h2⟩ := hA
  rw [bytesInt] at h2
  simp only [reachBytes] at h2
  obtain ⟨a, c, k1, k2, k3, _⟩ := sl_rs (f := icell) icell.len (fun _ _ _ k => k.1) h1
  exact ⟨a, c, k1, k2, k3, by omega⟩
theorem parts_arg {h : AHeap} {x : Value} {A : List (List Rc)} (hA : SlRb Try.prog (SlRb Try.prog RcR 37) 46 h [x] A) : ∃ a c, x = .slice a A.length c ∧ RsN Rc.cells 2 h a A ∧ (a = none → A = [] ∧ c = 0) ∧ A.length < 9223372036854775808 ∧ ∀ L ∈ A, L.length < 8796093022208 := by
  obtain ⟨h1, h2⟩ := hA
  rw [bytesRecs] at h2
  simp only [reachBytes] at h2
  obtain ⟨a, c, k1, k2, k3, _, _, k4⟩ := sl_rsn (f := Rc.cells) Rc.len (fun _ _ _ k => k) h1
  refine ⟨a, c, k1, k2, k3, by omega, fun L hL => ?_⟩
  have := k4 L hL
  rw [bytesRec] at this
  simp only [reachBytes] at this
  omega
end Go.Proofs
