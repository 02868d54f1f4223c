/-
  SinkPlays, from the arguments that are handed in. CONDITIONS: none.
-/
import Derived.Test.YtoacnhfpapmomaaOxK19
import Derived.Test.YtoacnhfpapmomaaOxK9
set_option linter.unusedSimpArgs false
set_option linter.unusedVariables false
namespace Go.Proofs
open Go Go.Ox
theorem oxLaw3 (A : List Ak) (x : Value) (h : AHeap) (hA : SlR AkR 31 h [x] A) : wpF Try.prog (.fn 3) [x] h fun v _ => v = .bool true := by
  obtain ⟨a, c, rfl, hg⟩ := acts_arg hA
  exact plays_body A c h _ a hg fun _ => rfl
end Go.Proofs
