/-
  SourceFairly. CONDITIONS: none.
-/
import Derived.Test.YtcgpbamkkhjoiaaOxO18
import Derived.Test.YtcgpbamkkhjoiaaOxO13
set_option linter.unusedSimpArgs false
set_option linter.unusedVariables false
namespace Go.Proofs
open Go Go.Ox
set_option maxRecDepth 100000
theorem oxLaw5 (A : List (List Rc)) (x : Value) (Q : List Int) (y : Value) (i : Int) (z : Value) (j : Int) (w : Value) (h : AHeap) (hA : SlRb Try.prog (SlRb Try.prog RcR 37) 46 h [x] A) (hQ : SlRb Try.prog (IntR .i64) 3 h [y] Q) (hi : IntR .i64 h [z] i) (hj : IntR .i64 h [w] j) :
    wpF Try.prog (.fn 5) [x, y, z, w] h fun v _ => v = .bool true := by
  obtain ⟨a, c, rfl, p1, _, p3, p4⟩ := parts_arg hA
  obtain ⟨b, d, rfl, q1, _, q3⟩ := ints_arg hQ
  have e0 := hi.1
  have e1 := hj.1
  simp only [List.cons.injEq, and_true] at e0 e1
  subst e0
  subst e1
  exact fairly_body A Q i j a b c d h _ p1 q1 p3 p4 (by omega) fun _ => rfl
end Go.Proofs
