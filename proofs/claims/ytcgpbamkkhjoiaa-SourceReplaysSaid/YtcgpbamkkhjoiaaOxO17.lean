/-
  SourceReplays. CONDITIONS: none.
-/
import Derived.Test.YtcgpbamkkhjoiaaOxO16
import Derived.Test.YtcgpbamkkhjoiaaOxO13
set_option linter.unusedSimpArgs false
set_option linter.unusedVariables false
namespace Go.Proofs
open Go Go.Ox
set_option maxRecDepth 100000
theorem oxLaw4 (A : List (List Rc)) (x : Value) (Q : List Int) (y : Value) (G : List Int) (z : Value) (cut : Int) (w : Value) (h : AHeap) (hA : SlRb Try.prog (SlRb Try.prog RcR 37) 46 h [x] A) (hQ : SlRb Try.prog (IntR .i64) 3 h [y] Q) (hG : SlRb Try.prog (IntR .i64) 3 h [z] G) (hc : IntR .i64 h [w] cut) :
    wpF Try.prog (.fn 4) [x, y, z, w] h fun v _ => v = .bool true := by
  obtain ⟨a, c, rfl, p1, _, p3, p4⟩ := parts_arg hA
  obtain ⟨b, d, rfl, q1, _, q3⟩ := ints_arg hQ
  obtain ⟨e, g, rfl, r1, _, r3⟩ := ints_arg hG
  have e0 := hc.1
  simp only [List.cons.injEq, and_true] at e0
  subst e0
  exact replays_body A Q G cut a b e c d g h _ p1 q1 r1 p3 p4 (by omega) (by omega) fun _ => rfl
end Go.Proofs
