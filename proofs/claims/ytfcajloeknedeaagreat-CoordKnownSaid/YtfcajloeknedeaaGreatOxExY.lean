/-
  A part of the proof: what functions of the program do on an abstract heap. CONDITIONS: none.
-/
import Derived.Test.YtfcajloeknedeaaGreatChecked
import Derived.Test.YtfcajloeknedeaaGreatOxGBa
import Derived.WalkKit
import Derived.ProofKit
set_option linter.unusedSimpArgs false
set_option linter.unusedVariables false
namespace Go.Proofs
open Go Go.Ox
set_option maxRecDepth 100000
theorem oxNamed : Named Tryz.prog := named_of (by decide +kernel)
theorem oxRun6 : isTrue (@aCall Tryz.prog skExt 2000 (.fn 6) [] h0) = true := by decide +kernel
theorem oxOk : ∀ f, f ∈ [6] → ∀ w : World, Calls Tryz.prog f #[] w fun e w' => e = .returned (.bool true) ∧ RowKit.Below w.heap.size w w' := by
 intro f hf w
 simp only [List.mem_cons, List.not_mem_nil, or_false] at hf
 rcases hf with rfl
 ·exact @closed_calls _ skExt oxNamed (Checked.mixed Tryz.checked) _ _ oxRun6 w
theorem oxBody : ∀ f, f ∈ [6] → hasBody Tryz.prog f = true := by
 intro f hf
 simp only [List.mem_cons, List.not_mem_nil, or_false] at hf
 rcases hf with rfl <;> rfl
instance oxExt : Ext Tryz.prog := { fs := [6], body := oxBody, ok := oxOk , xs := [skNo.s], app := skApp skNo, xnext := skNext, xok := skApp_ok skBody skUnder skSays }
end Go.Proofs

