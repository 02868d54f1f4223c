/-
  TableMoves. CONDITIONS: none.
-/
import Derived.Test.YtimmldjbmkjcjaaOxTb14
set_option linter.unusedSimpArgs false
set_option linter.unusedVariables false
namespace Go.Proofs
open Go Go.Ox
theorem oxLaw5 (g0 : Int) (x : Value) (L : List Rw) (y : Value) (z0 : Int) (w0 : Value) (z1 : Int) (w1 : Value) (z2 : Int) (w2 : Value) (h : AHeap) (hg : IntR .i64 h [x] g0) (hL : SlRb Try.prog RwR 29 h [y] L) (h0 : IntR .i64 h [w0] z0) (h1 : IntR .i64 h [w1] z1) (h2 : IntR .i64 h [w2] z2) : wpF Try.prog (.fn 5) [x, y, w0, w1, w2] h fun v _ => v = .bool true := by
  obtain ⟨a, d, rfl, r, hd, hl, hwf⟩ := rows_arg hL
  have e0 := hg.1
  have e1 := h0.1
  have e2 := h1.1
  have e3 := h2.1
  simp only [List.cons.injEq, and_true] at e0 e1 e2 e3
  subst e0 e1 e2 e3
  exact tableMoves_body g0 a d L z0 z1 z2 h r hl hd hwf _ fun _ => rfl
end Go.Proofs
