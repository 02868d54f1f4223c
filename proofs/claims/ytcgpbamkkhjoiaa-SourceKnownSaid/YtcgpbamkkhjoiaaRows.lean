/-
  No cell of these rows narrows 'for every input' (looked for: loops, veiled, ifaces, maps, wideKeys, modest, calm, conditions, laid).
  DERIVED. THE GIVEN ROWS OF THIS SEAT. 5 by the template 'for every input the law returns true; each argument reads behind the call as it read before'; 0 by the template 'total and deterministic' (their statements: YtcgpbamkkhjoiaaTotals.lean).
  GIVEN WITH THE SEED: the statements are not yours to turn. If you find one false, say at which input.
  Laid BY PROGRAM, IN A SANDBOX (cutbox-rows.mjs): the forced cells as the released guide's own fill.sh prints them over the translation 0be198795bd0d0d8… (all of the seat's roots in one cut). By AI agents, Wed Nov 11 2026. No macro, syntax, notation, axiom, sorry.
-/
import Derived.Test.YtcgpbamkkhjoiaaChecked
import GoSem.Claim
import GoSem.ClaimJoined
import GoSem.ClaimMapViews
import Derived.JoinedTies
import Derived.KernelRfl
namespace Go.Proofs.Ytcgpbamkkhjoiaa
/- THE CELL 'sum', in the pinned program and in every row, IS THE sha256 OF THE DUMP (.gsa) THAT YtcgpbamkkhjoiaaProg.lean LOADS. Nothing in Lean hashes anything: it is a label: what it is worth is what the hold of that sum in a sandbox is worth. -/
noncomputable def Try.pinned : Pinned := { name := "ytcgpbamkkhjoiaa", sum := "0be198795bd0d0d8f09258ced5fc6b848732060752ddf3ec0d9714aa5f9f6766", checked := Try.checked }
namespace Rows
def none {H : Type} : Left H := { results := [], args := [] }

/-- 'oxbowlaw18.SourceTells': WHATEVER THE INPUT: true; the input reads as it did. -/
def sourceTellsSpec : ChangeSpec := { name := "sourceTells", fn := fun _ => fun
  | [d1, d2, d3] => { results := [.lit (.bool true)], args := [d1, d2, d3] }
  | _ => none }
def sourceTellsRow : OpenClaim := { program := "ytcgpbamkkhjoiaa", sum := "0be198795bd0d0d8f09258ced5fc6b848732060752ddf3ec0d9714aa5f9f6766", func := "oxbow/oxbowlaw18.SourceTells", spec := "sourceTells", unfollowed := true, recurses := true, apart := false }
def SourceTellsSaid : Prop := sourceTellsRow.holds Try.pinned (OpenSpec.ofChange sourceTellsSpec)

/-- ITS FALSE NEIGHBOUR: 'it returns false'. Refute it at one input. -/
def sourceTellsWrong : ChangeSpec := { name := "sourceTells", fn := fun _ => fun
  | [d1, d2, d3] => { results := [.lit (.bool false)], args := [d1, d2, d3] }
  | _ => none }
def SourceTellsWrongFalsely : Prop := sourceTellsRow.holds Try.pinned (OpenSpec.ofChange sourceTellsWrong)

/-- 'oxbowlaw18.SourceReplays': WHATEVER THE INPUT: true; the input reads as it did. -/
def sourceReplaysSpec : ChangeSpec := { name := "sourceReplays", fn := fun _ => fun
  | [d1, d2, d3, d4] => { results := [.lit (.bool true)], args := [d1, d2, d3, d4] }
  | _ => none }
def sourceReplaysRow : OpenClaim := { program := "ytcgpbamkkhjoiaa", sum := "0be198795bd0d0d8f09258ced5fc6b848732060752ddf3ec0d9714aa5f9f6766", func := "oxbow/oxbowlaw18.SourceReplays", spec := "sourceReplays", unfollowed := true, recurses := true, apart := false }
def SourceReplaysSaid : Prop := sourceReplaysRow.holds Try.pinned (OpenSpec.ofChange sourceReplaysSpec)

/-- ITS FALSE NEIGHBOUR: 'it returns false'. Refute it at one input. -/
def sourceReplaysWrong : ChangeSpec := { name := "sourceReplays", fn := fun _ => fun
  | [d1, d2, d3, d4] => { results := [.lit (.bool false)], args := [d1, d2, d3, d4] }
  | _ => none }
def SourceReplaysWrongFalsely : Prop := sourceReplaysRow.holds Try.pinned (OpenSpec.ofChange sourceReplaysWrong)

/-- 'oxbowlaw18.SourceFairly': WHATEVER THE INPUT: true; the input reads as it did. -/
def sourceFairlySpec : ChangeSpec := { name := "sourceFairly", fn := fun _ => fun
  | [d1, d2, d3, d4] => { results := [.lit (.bool true)], args := [d1, d2, d3, d4] }
  | _ => none }
def sourceFairlyRow : OpenClaim := { program := "ytcgpbamkkhjoiaa", sum := "0be198795bd0d0d8f09258ced5fc6b848732060752ddf3ec0d9714aa5f9f6766", func := "oxbow/oxbowlaw18.SourceFairly", spec := "sourceFairly", unfollowed := true, recurses := true, apart := false }
def SourceFairlySaid : Prop := sourceFairlyRow.holds Try.pinned (OpenSpec.ofChange sourceFairlySpec)

/-- ITS FALSE NEIGHBOUR: 'it returns false'. Refute it at one input. -/
def sourceFairlyWrong : ChangeSpec := { name := "sourceFairly", fn := fun _ => fun
  | [d1, d2, d3, d4] => { results := [.lit (.bool false)], args := [d1, d2, d3, d4] }
  | _ => none }
def SourceFairlyWrongFalsely : Prop := sourceFairlyRow.holds Try.pinned (OpenSpec.ofChange sourceFairlyWrong)

/-- 'oxbowlaw18.SourceAll': WHATEVER THE INPUT: true; the input reads as it did. -/
def sourceAllSpec : ChangeSpec := { name := "sourceAll", fn := fun _ => fun
  | [d1, d2] => { results := [.lit (.bool true)], args := [d1, d2] }
  | _ => none }
def sourceAllRow : OpenClaim := { program := "ytcgpbamkkhjoiaa", sum := "0be198795bd0d0d8f09258ced5fc6b848732060752ddf3ec0d9714aa5f9f6766", func := "oxbow/oxbowlaw18.SourceAll", spec := "sourceAll", unfollowed := true, recurses := true, apart := false }
def SourceAllSaid : Prop := sourceAllRow.holds Try.pinned (OpenSpec.ofChange sourceAllSpec)

/-- ITS FALSE NEIGHBOUR: 'it returns false'. Refute it at one input. -/
def sourceAllWrong : ChangeSpec := { name := "sourceAll", fn := fun _ => fun
  | [d1, d2] => { results := [.lit (.bool false)], args := [d1, d2] }
  | _ => none }
def SourceAllWrongFalsely : Prop := sourceAllRow.holds Try.pinned (OpenSpec.ofChange sourceAllWrong)

/-- 'oxbowlaw18.SourceKnown': WHATEVER THE INPUT: true; the input reads as it did. -/
def sourceKnownSpec : ChangeSpec := { name := "sourceKnown", fn := fun _ => fun
  | [] => { results := [.lit (.bool true)], args := [] }
  | _ => none }
def sourceKnownRow : OpenClaim := { program := "ytcgpbamkkhjoiaa", sum := "0be198795bd0d0d8f09258ced5fc6b848732060752ddf3ec0d9714aa5f9f6766", func := "oxbow/oxbowlaw18.SourceKnown", spec := "sourceKnown", unfollowed := true, recurses := true, apart := false }
def SourceKnownSaid : Prop := sourceKnownRow.holds Try.pinned (OpenSpec.ofChange sourceKnownSpec)

/-- ITS FALSE NEIGHBOUR: 'it returns false'. Refute it at one input. -/
def sourceKnownWrong : ChangeSpec := { name := "sourceKnown", fn := fun _ => fun
  | [] => { results := [.lit (.bool false)], args := [] }
  | _ => none }
def SourceKnownWrongFalsely : Prop := sourceKnownRow.holds Try.pinned (OpenSpec.ofChange sourceKnownWrong)

/- THE SECOND FORM. 'bulk': how many values and letters a reading holds, each counted each time it is reached (what is shared counts as often as it is met; a slice's spare places count too). A statement '..UptoSaid' is the law's where the arguments, and the package variables that the reading takes, are together of bulk at most 1048576: NARROWER than '..Said'. Prove '..Said' where nothing that the law and all that it calls make is longer than what came in: it says more and counts as full. Else prove '..UptoSaid'. A law counts once. -/
mutual
def uptoBulk {H : Type} : DataW H → Nat
  | .lit (.string bytes) => bytes.length + 1
  | .lit _ => 1
  | .nil => 1
  | .ptr d => uptoBulk d + 1
  | .slice elems spare => uptoBulkAll elems + uptoBulkAll spare + 1
  | .agg parts => uptoBulkAll parts + 1
  | .iface _ d => uptoBulk d + 1
  | .map entries => uptoBulkEntries entries + 1
  | .held _ => 1
def uptoBulkAll {H : Type} : List (DataW H) → Nat
  | [] => 0
  | d :: r => uptoBulk d + uptoBulkAll r
def uptoBulkEntries {H : Type} : List (Lit × DataW H) → Nat
  | [] => 0
  | x :: r => uptoBulkEntry x + uptoBulkEntries r
def uptoBulkEntry {H : Type} : Lit × DataW H → Nat
  | (.string bytes, d) => bytes.length + uptoBulk d + 1
  | (_, d) => uptoBulk d + 1
 end
def uptoSmall : (H : Type) → List (DataW H) → Bool := fun _ ds => decide (uptoBulkAll ds ≤ 1048576)
def OpenSpec.upto (s : _root_.Go.ChangeSpec) : _root_.Go.OpenSpec := { _root_.Go.OpenSpec.ofChange s with cond := some uptoSmall }

/-- 'oxbowlaw18.SourceTells', WHERE WHAT IT READS IS OF BULK AT MOST 1048576: true; the input reads as it did. -/
def sourceTellsUptoRow : OpenClaim := { program := "ytcgpbamkkhjoiaa", sum := "0be198795bd0d0d8f09258ced5fc6b848732060752ddf3ec0d9714aa5f9f6766", func := "oxbow/oxbowlaw18.SourceTells", spec := "sourceTells", unfollowed := true, recurses := true, apart := false, narrowed := true }
def SourceTellsUptoSaid : Prop := sourceTellsUptoRow.holds Try.pinned (OpenSpec.upto sourceTellsSpec)

/-- 'oxbowlaw18.SourceReplays', WHERE WHAT IT READS IS OF BULK AT MOST 1048576: true; the input reads as it did. -/
def sourceReplaysUptoRow : OpenClaim := { program := "ytcgpbamkkhjoiaa", sum := "0be198795bd0d0d8f09258ced5fc6b848732060752ddf3ec0d9714aa5f9f6766", func := "oxbow/oxbowlaw18.SourceReplays", spec := "sourceReplays", unfollowed := true, recurses := true, apart := false, narrowed := true }
def SourceReplaysUptoSaid : Prop := sourceReplaysUptoRow.holds Try.pinned (OpenSpec.upto sourceReplaysSpec)

/-- 'oxbowlaw18.SourceFairly', WHERE WHAT IT READS IS OF BULK AT MOST 1048576: true; the input reads as it did. -/
def sourceFairlyUptoRow : OpenClaim := { program := "ytcgpbamkkhjoiaa", sum := "0be198795bd0d0d8f09258ced5fc6b848732060752ddf3ec0d9714aa5f9f6766", func := "oxbow/oxbowlaw18.SourceFairly", spec := "sourceFairly", unfollowed := true, recurses := true, apart := false, narrowed := true }
def SourceFairlyUptoSaid : Prop := sourceFairlyUptoRow.holds Try.pinned (OpenSpec.upto sourceFairlySpec)

/-- 'oxbowlaw18.SourceAll', WHERE WHAT IT READS IS OF BULK AT MOST 1048576: true; the input reads as it did. -/
def sourceAllUptoRow : OpenClaim := { program := "ytcgpbamkkhjoiaa", sum := "0be198795bd0d0d8f09258ced5fc6b848732060752ddf3ec0d9714aa5f9f6766", func := "oxbow/oxbowlaw18.SourceAll", spec := "sourceAll", unfollowed := true, recurses := true, apart := false, narrowed := true }
def SourceAllUptoSaid : Prop := sourceAllUptoRow.holds Try.pinned (OpenSpec.upto sourceAllSpec)

/-- 'oxbowlaw18.SourceKnown', WHERE WHAT IT READS IS OF BULK AT MOST 1048576: true; the input reads as it did. -/
def sourceKnownUptoRow : OpenClaim := { program := "ytcgpbamkkhjoiaa", sum := "0be198795bd0d0d8f09258ced5fc6b848732060752ddf3ec0d9714aa5f9f6766", func := "oxbow/oxbowlaw18.SourceKnown", spec := "sourceKnown", unfollowed := true, recurses := true, apart := false, narrowed := true }
def SourceKnownUptoSaid : Prop := sourceKnownUptoRow.holds Try.pinned (OpenSpec.upto sourceKnownSpec)

end Rows
end Go.Proofs.Ytcgpbamkkhjoiaa
