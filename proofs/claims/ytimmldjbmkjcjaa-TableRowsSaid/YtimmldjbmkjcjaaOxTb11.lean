/-
  TableRows. CONDITIONS: none.
-/
import Derived.Test.YtimmldjbmkjcjaaOxTb10
set_option linter.unusedSimpArgs false
set_option linter.unusedVariables false
namespace Go.Proofs
open Go Go.Ox
theorem oxLaw3 (g0 : Int) (x : Value) (L : List Rw) (y : Value) (key : Int) (z : Value) (h : AHeap) (hg : IntR .i64 h [x] g0) (hL : SlRb Try.prog RwR 29 h [y] L) (hk : IntR .i64 h [z] key) : wpF Try.prog (.fn 3) [x, y, z] h fun v _ => v = .bool true := by
  obtain ⟨a, c, rfl, r, hc, hl, hwf⟩ := rows_arg hL
  have e0 := hg.1
  have e1 := hk.1
  simp only [List.cons.injEq, and_true] at e0 e1
  subst e0 e1
  exact tableRows_body g0 a c L key h r hl hc hwf _ fun _ => rfl
end Go.Proofs
