/-
  No cell of these rows narrows 'for every input' (looked for: loops, veiled, ifaces, maps, wideKeys, modest, calm, conditions, laid).
  DERIVED. THE GIVEN ROWS OF THIS SEAT. 3 by the template 'for every input the law returns true; each argument reads behind the call as it read before'; 0 by the template 'total and deterministic' (their statements: YtcnlilnkbhefbaaTotals.lean).
  GIVEN WITH THE SEED: the statements are not yours to turn. If you find one false, say at which input.
  Laid BY PROGRAM, IN A SANDBOX (cutbox-rows.mjs): the forced cells as the released guide's own fill.sh prints them over the translation d0d311696639d5d2… (all of the seat's roots in one cut). By AI agents, Wed Nov 11 2026. No macro, syntax, notation, axiom, sorry.
-/
import Derived.Test.YtcnlilnkbhefbaaChecked
import GoSem.Claim
import GoSem.ClaimJoined
import GoSem.ClaimMapViews
import Derived.JoinedTies
import Derived.KernelRfl
namespace Go.Proofs.Ytcnlilnkbhefbaa
/- THE CELL 'sum', in the pinned program and in every row, IS THE sha256 OF THE DUMP (.gsa) THAT YtcnlilnkbhefbaaProg.lean LOADS. Nothing in Lean hashes anything: it is a label: what it is worth is what the hold of that sum in a sandbox is worth. -/
noncomputable def Try.pinned : Pinned := { name := "ytcnlilnkbhefbaa", sum := "d0d311696639d5d24eab289fb132e308c608ba60f68ebe794c073ead2ef9ed49", checked := Try.checked }
namespace Rows
def none {H : Type} : Left H := { results := [], args := [] }

/-- 'oxbowlaw29.RescaleKeeps': WHATEVER THE INPUT: true; the input reads as it did. -/
def rescaleKeepsSpec : ChangeSpec := { name := "rescaleKeeps", fn := fun _ => fun
  | [d1, d2, d3] => { results := [.lit (.bool true)], args := [d1, d2, d3] }
  | _ => none }
def rescaleKeepsRow : OpenClaim := { program := "ytcnlilnkbhefbaa", sum := "d0d311696639d5d24eab289fb132e308c608ba60f68ebe794c073ead2ef9ed49", func := "oxbow/oxbowlaw29.RescaleKeeps", spec := "rescaleKeeps", unfollowed := true, recurses := true, apart := false }
def RescaleKeepsSaid : Prop := rescaleKeepsRow.holds Try.pinned (OpenSpec.ofChange rescaleKeepsSpec)

/-- ITS FALSE NEIGHBOUR: 'it returns false'. Refute it at one input. -/
def rescaleKeepsWrong : ChangeSpec := { name := "rescaleKeeps", fn := fun _ => fun
  | [d1, d2, d3] => { results := [.lit (.bool false)], args := [d1, d2, d3] }
  | _ => none }
def RescaleKeepsWrongFalsely : Prop := rescaleKeepsRow.holds Try.pinned (OpenSpec.ofChange rescaleKeepsWrong)

/-- 'oxbowlaw29.RescaleBack': WHATEVER THE INPUT: true; the input reads as it did. -/
def rescaleBackSpec : ChangeSpec := { name := "rescaleBack", fn := fun _ => fun
  | [d1, d2, d3, d4] => { results := [.lit (.bool true)], args := [d1, d2, d3, d4] }
  | _ => none }
def rescaleBackRow : OpenClaim := { program := "ytcnlilnkbhefbaa", sum := "d0d311696639d5d24eab289fb132e308c608ba60f68ebe794c073ead2ef9ed49", func := "oxbow/oxbowlaw29.RescaleBack", spec := "rescaleBack", unfollowed := true, recurses := true, apart := false }
def RescaleBackSaid : Prop := rescaleBackRow.holds Try.pinned (OpenSpec.ofChange rescaleBackSpec)

/-- ITS FALSE NEIGHBOUR: 'it returns false'. Refute it at one input. -/
def rescaleBackWrong : ChangeSpec := { name := "rescaleBack", fn := fun _ => fun
  | [d1, d2, d3, d4] => { results := [.lit (.bool false)], args := [d1, d2, d3, d4] }
  | _ => none }
def RescaleBackWrongFalsely : Prop := rescaleBackRow.holds Try.pinned (OpenSpec.ofChange rescaleBackWrong)

/-- 'oxbowlaw29.RescaleSteps': WHATEVER THE INPUT: true; the input reads as it did. -/
def rescaleStepsSpec : ChangeSpec := { name := "rescaleSteps", fn := fun _ => fun
  | [d1, d2, d3] => { results := [.lit (.bool true)], args := [d1, d2, d3] }
  | _ => none }
def rescaleStepsRow : OpenClaim := { program := "ytcnlilnkbhefbaa", sum := "d0d311696639d5d24eab289fb132e308c608ba60f68ebe794c073ead2ef9ed49", func := "oxbow/oxbowlaw29.RescaleSteps", spec := "rescaleSteps", unfollowed := true, recurses := true, apart := false }
def RescaleStepsSaid : Prop := rescaleStepsRow.holds Try.pinned (OpenSpec.ofChange rescaleStepsSpec)

/-- ITS FALSE NEIGHBOUR: 'it returns false'. Refute it at one input. -/
def rescaleStepsWrong : ChangeSpec := { name := "rescaleSteps", fn := fun _ => fun
  | [d1, d2, d3] => { results := [.lit (.bool false)], args := [d1, d2, d3] }
  | _ => none }
def RescaleStepsWrongFalsely : Prop := rescaleStepsRow.holds Try.pinned (OpenSpec.ofChange rescaleStepsWrong)

/- THE SECOND FORM. 'bulk': how many values and letters a reading holds, each counted each time it is reached (what is shared counts as often as it is met; a slice's spare places count too). A statement '..UptoSaid' is the law's where the arguments, and the package variables that the reading takes, are together of bulk at most 1048576: NARROWER than '..Said'. Prove '..Said' where nothing that the law and all that it calls make is longer than what came in: it says more and counts as full. Else prove '..UptoSaid'. A law counts once. -/
mutual
def uptoBulk {H : Type} : DataW H → Nat
  | .lit (.string bytes) => bytes.length + 1
  | .lit _ => 1
  | .nil => 1
  | .ptr d => uptoBulk d + 1
  | .slice elems spare => uptoBulkAll elems + uptoBulkAll spare + 1
  | .agg parts => uptoBulkAll parts + 1
  | .iface _ d => uptoBulk d + 1
  | .map entries => uptoBulkEntries entries + 1
  | .held _ => 1
def uptoBulkAll {H : Type} : List (DataW H) → Nat
  | [] => 0
  | d :: r => uptoBulk d + uptoBulkAll r
def uptoBulkEntries {H : Type} : List (Lit × DataW H) → Nat
  | [] => 0
  | x :: r => uptoBulkEntry x + uptoBulkEntries r
def uptoBulkEntry {H : Type} : Lit × DataW H → Nat
  | (.string bytes, d) => bytes.length + uptoBulk d + 1
  | (_, d) => uptoBulk d + 1
 end
def uptoSmall : (H : Type) → List (DataW H) → Bool := fun _ ds => decide (uptoBulkAll ds ≤ 1048576)
def OpenSpec.upto (s : _root_.Go.ChangeSpec) : _root_.Go.OpenSpec := { _root_.Go.OpenSpec.ofChange s with cond := some uptoSmall }

/-- 'oxbowlaw29.RescaleKeeps', WHERE WHAT IT READS IS OF BULK AT MOST 1048576: true; the input reads as it did. -/
def rescaleKeepsUptoRow : OpenClaim := { program := "ytcnlilnkbhefbaa", sum := "d0d311696639d5d24eab289fb132e308c608ba60f68ebe794c073ead2ef9ed49", func := "oxbow/oxbowlaw29.RescaleKeeps", spec := "rescaleKeeps", unfollowed := true, recurses := true, apart := false, narrowed := true }
def RescaleKeepsUptoSaid : Prop := rescaleKeepsUptoRow.holds Try.pinned (OpenSpec.upto rescaleKeepsSpec)

/-- 'oxbowlaw29.RescaleBack', WHERE WHAT IT READS IS OF BULK AT MOST 1048576: true; the input reads as it did. -/
def rescaleBackUptoRow : OpenClaim := { program := "ytcnlilnkbhefbaa", sum := "d0d311696639d5d24eab289fb132e308c608ba60f68ebe794c073ead2ef9ed49", func := "oxbow/oxbowlaw29.RescaleBack", spec := "rescaleBack", unfollowed := true, recurses := true, apart := false, narrowed := true }
def RescaleBackUptoSaid : Prop := rescaleBackUptoRow.holds Try.pinned (OpenSpec.upto rescaleBackSpec)

/-- 'oxbowlaw29.RescaleSteps', WHERE WHAT IT READS IS OF BULK AT MOST 1048576: true; the input reads as it did. -/
def rescaleStepsUptoRow : OpenClaim := { program := "ytcnlilnkbhefbaa", sum := "d0d311696639d5d24eab289fb132e308c608ba60f68ebe794c073ead2ef9ed49", func := "oxbow/oxbowlaw29.RescaleSteps", spec := "rescaleSteps", unfollowed := true, recurses := true, apart := false, narrowed := true }
def RescaleStepsUptoSaid : Prop := rescaleStepsUptoRow.holds Try.pinned (OpenSpec.upto rescaleStepsSpec)

end Rows
end Go.Proofs.Ytcnlilnkbhefbaa
