/-
  CoordWaits: the law on the abstract heap, its arguments.
-/
import Derived.Test.YtfcajloeknedeaaOxC3x
import Derived.Test.YtfcajloeknedeaaOxAr
set_option linter.unusedSimpArgs false
set_option linter.unusedVariables false
namespace Go.Proofs
open Go Go.Ox
set_option maxRecDepth 100000
section
variable {H : Type} {enc : TypeId × Value → H} {W : World}
theorem impI : IsImpW enc Try.prog W 3 (IntR .i64) := (IsImp.int (by rfl)).toW
theorem impIs : IsImpW enc Try.prog W 22 (SlRb Try.prog (IntR .i64) 3) := IsImpW.slice (k := 0) (by rfl) (by rfl) impI
end
theorem bytesInt : Try.prog.bytesOf 3 = 8 := by decide +kernel
theorem ints_arg {h : AHeap} {x : Value} {A : List Int} (hA : SlRb Try.prog (IntR .i64) 3 h [x] A) : ∃ a c, x = .slice a A.length c ∧ Rs icell 1 h a A ∧ (a = none → A = [] ∧ c = 0) ∧ A.length < 17592186044000 := by
  obtain ⟨h1, h2⟩ := hA
  rw [bytesInt] at h2
  simp only [reachBytes] at h2
  obtain ⟨a, c, k1, k2, k3, _⟩ := sl_rs (f := icell) icell.len (fun _ _ _ k => k.1) h1
  exact ⟨a, c, k1, k2, k3, by omega⟩
theorem oxLaw3 (n : Int) (x : Value) (A : List Int) (y : Value) (h : AHeap) (hn : IntR .i64 h [x] n) (hA : SlRb Try.prog (IntR .i64) 3 h [y] A) : wpF Try.prog (.fn 3) [x, y] h fun v _ => v = .bool true := by
  obtain ⟨a, c, rfl, p1, _, p3⟩ := ints_arg hA
  have e0 := hn.1
  simp only [List.cons.injEq, and_true] at e0
  subst e0
  exact waits_body n a A c h p1 p3 _ fun _ => rfl
end Go.Proofs
