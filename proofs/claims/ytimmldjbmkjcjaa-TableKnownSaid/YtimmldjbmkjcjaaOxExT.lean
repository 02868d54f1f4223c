/-
  Closed functions of this program return true: run once, by the kernel.
-/
import Derived.Test.YtimmldjbmkjcjaaChecked
import Derived.Test.YtimmldjbmkjcjaaOxTb2
import Derived.WalkKit
import Derived.ProofKit
set_option linter.unusedSimpArgs false
set_option linter.unusedVariables false
namespace Go.Proofs
open Go Go.Ox
set_option maxRecDepth 100000
theorem oxNamed : Named Try.prog := named_of (by decide +kernel)
theorem oxRun14 : isTrue (@aCall Try.prog skExt 2000 (.fn 14) [] h0) = true := by decide +kernel
theorem oxOk : ∀ f, f ∈ [14] → ∀ w : World, Calls Try.prog f #[] w fun e w' => e = .returned (.bool true) ∧ RowKit.Below w.heap.size w w' := by
  intro f hf w
  simp only [List.mem_cons, List.not_mem_nil, or_false] at hf
  rcases hf with rfl
  · exact @closed_calls _ skExt oxNamed (Checked.mixed Try.checked) _ _ oxRun14 w
theorem oxBody : ∀ f, f ∈ [14] → hasBody Try.prog f = true := by
  intro f hf
  simp only [List.mem_cons, List.not_mem_nil, or_false] at hf
  rcases hf with rfl <;> rfl
instance oxExt : Ext Try.prog := { fs := [14], body := oxBody, ok := oxOk , xs := [skNo.s], app := skApp skNo, xnext := skNext, xok := skApp_ok skBody skUnder skSays }
end Go.Proofs
