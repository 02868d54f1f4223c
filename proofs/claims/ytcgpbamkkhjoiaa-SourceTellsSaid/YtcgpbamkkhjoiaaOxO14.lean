/-
  SourceTells. CONDITIONS: none.
-/
import Derived.Test.YtcgpbamkkhjoiaaOxO12
import Derived.Test.YtcgpbamkkhjoiaaOxO13
set_option linter.unusedSimpArgs false
set_option linter.unusedVariables false
namespace Go.Proofs
open Go Go.Ox
set_option maxRecDepth 100000
theorem oxLaw3 (A : List (List Rc)) (x : Value) (O : List Int) (y : Value) (Q : List Int) (z : Value) (h : AHeap) (hA : SlRb Try.prog (SlRb Try.prog RcR 37) 46 h [x] A) (hO : SlRb Try.prog (IntR .i64) 3 h [y] O) (hQ : SlRb Try.prog (IntR .i64) 3 h [z] Q) :
    wpF Try.prog (.fn 3) [x, y, z] h fun v _ => v = .bool true := by
  obtain ⟨a, c, rfl, p1, _, p3, p4⟩ := parts_arg hA
  obtain ⟨b, d, rfl, q1, _, q3⟩ := ints_arg hO
  obtain ⟨e, g, rfl, r1, _, r3⟩ := ints_arg hQ
  exact tells_body A O Q a b e c d g h _ p1 q1 r1 p3 p4 q3 (by omega) fun _ => rfl
end Go.Proofs
