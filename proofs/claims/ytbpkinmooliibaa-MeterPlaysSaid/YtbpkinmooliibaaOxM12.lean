/-
  MeterPlays, from the arguments that are handed in. CONDITIONS: none.
-/
import Derived.Test.YtbpkinmooliibaaOxM11
set_option linter.unusedSimpArgs false
set_option linter.unusedVariables false
namespace Go.Proofs
open Go Go.Ox
set_option maxRecDepth 100000
theorem impI {H : Type} {enc : TypeId × Value → H} {W : World} : IsImp enc Try.prog W 3 (IntR .i64) := IsImp.int (by rfl)
theorem oxLaw4 (n : Int) (x : Value) (A : List Ac) (y : Value) (h : AHeap) (hn : IntR .i64 h [x] n) (hA : SlR AcR 35 h [y] A) : wpF Try.prog (.fn 4) [x, y] h fun v _ => v = .bool true := by
  obtain ⟨a, c, rfl, hg⟩ := acts_arg hA
  obtain ⟨h1, _⟩ := hn
  simp only [List.cons.injEq, and_true] at h1
  subst h1
  exact plays_body n A c h _ a hg fun _ => rfl
end Go.Proofs
