/-
  TableApart. CONDITIONS: none.
-/
import Derived.Test.YtimmldjbmkjcjaaOxTb12
set_option linter.unusedSimpArgs false
set_option linter.unusedVariables false
namespace Go.Proofs
open Go Go.Ox
theorem oxLaw4 (g0 : Int) (x : Value) (L : List Rw) (y : Value) (key : Int) (z : Value) (c : Cl) (w : List Value) (h : AHeap) (hg : IntR .i64 h [x] g0) (hL : SlRb Try.prog RwR 29 h [y] L) (hk : IntR .i64 h [z] key) (hc : ClR h w c) : wpF Try.prog (.fn 4) [x, y, z, .agg w.toArray] h fun v _ => v = .bool true := by
  obtain ⟨a, d, rfl, r, hd, hl, hwf⟩ := rows_arg hL
  have e0 := hg.1
  have e1 := hk.1
  simp only [List.cons.injEq, and_true] at e0 e1
  subst e0 e1
  have e2 : w = _ := hc
  subst e2
  exact tableApart_body g0 a d L key c h r hl hd hwf (wfOf hk.2) _ fun _ => rfl
end Go.Proofs
