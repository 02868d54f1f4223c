/-
  SourceAll. CONDITIONS: none.
-/
import Derived.Test.YtcgpbamkkhjoiaaOxO20
import Derived.Test.YtcgpbamkkhjoiaaOxO13
set_option linter.unusedSimpArgs false
set_option linter.unusedVariables false
namespace Go.Proofs
open Go Go.Ox
set_option maxRecDepth 100000
theorem oxLaw6 (A : List (List Rc)) (x : Value) (Q : List Int) (y : Value) (h : AHeap) (hA : SlRb Try.prog (SlRb Try.prog RcR 37) 46 h [x] A) (hQ : SlRb Try.prog (IntR .i64) 3 h [y] Q) :
    wpF Try.prog (.fn 6) [x, y] h fun v _ => v = .bool true := by
  obtain ⟨a, c, rfl, p1, _, p3, p4⟩ := parts_arg hA
  obtain ⟨b, d, rfl, q1, _, q3⟩ := ints_arg hQ
  exact all_body A Q a b c d h _ p1 q1 p3 p4 (by omega) fun _ => rfl
end Go.Proofs
