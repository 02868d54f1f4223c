/-
  SinkPlays returns true for every list of acts. CONDITIONS: none.
-/
import Derived.Test.YtoacnhfpapmomaaRows
import Derived.Test.YtoacnhfpapmomaaOxK20
import Derived.WalkKit
import Derived.ProofKit
import Derived.OpenShut
import Derived.Carry
set_option linter.unusedSimpArgs false
set_option linter.unusedVariables false
namespace Go.Proofs.Ytoacnhfpapmomaa.sinkPlays
open Go.ChangeShapes Go.WideShapes Go.ChangeAt Go.RowKit Go.Ox

theorem own : ownKnob Try.prog.godebug = none := by kernel_rfl
theorem laid : laidOutB Try.prog = true := by kernel_rfl

set_option maxRecDepth 100000 in
theorem lifted (os : Os) (started : os.Started) (H : Type) (enc : TypeId × Value → H) :
    ReturnsInHanded {} Try.checked os 3 .any (Rows.sinkPlaysSpec.pre6 enc Try.prog Try.f3 Rows.sinkPlaysRow.domain false) (Rows.sinkPlaysSpec.post enc Try.prog Try.f3 false true false false) := by
  refine returnsInHanded_of_change (C := Try.checked) own started (by kernel_rfl) Try.func3
    (ChangeSpec.witness6 (enc := enc) (C := Try.checked) false ⟨#[], #[.slice none 0 0], []⟩ 8 (by kernel_rfl) (by kernel_rfl) (by kernel_rfl) (by kernel_rfl)) ?_
  intro W base args ds gs before hval hW _ _
  have hW' := hW
  have hlt := hW.lt
  obtain ⟨p, q, hA0, hV, rfl, hfz, hnd⟩ := hW
  have hA : DataW.TrodAll enc Try.prog W 0 (fun _ => true) true Try.f3.params.toList args.toList ds p := hA0
  rw [Try.params3] at hA
  obtain ⟨v0, d0, rfl, rfl, hT0⟩ := trodAll_one hA
  obtain ⟨rfl, rfl⟩ := trodVars_none hV
  have ok0 := hval 0 _ v0 rfl rfl
  obtain ⟨a0, x0, ρ0, hh0, hr0x, ro0, le0, fr0, vr0, R0⟩ := (impAks (enc := enc) (W := W)).arg hT0 (one_slice (by rfl) ok0) (HR.none W) allRo0
  have hw := oxLaw3 a0 x0 hh0 R0
  have hv : VRL ρ0 [x0] #[v0].toList := ⟨vr0, trivial⟩
  refine (lend_calls oxNamed (Checked.mixed Try.checked) hr0x ro0 hv hw).mono fun e W' ⟨he, bel⟩ => ?_
  subst he
  exact ⟨_, rfl, _, _, _, _, _, _, hW', trodAll_mk1 (shut_bool Try.underlying4 _), ⟨_, _, (bel.trod laid (by decide +kernel) (by decide +kernel) hT0 (fun x hx => hlt x (by simp [hx]))), trodAll_mk0, rfl⟩, rfl, bel.frame _, fun h => by cases h⟩

theorem over : Rows.sinkPlaysRow.holds Try.pinned (OpenSpec.ofChange Rows.sinkPlaysSpec) :=
  OpenClaim.holds_of_wide 3 Try.f3 rfl rfl rfl rfl rfl rfl rfl ⟨rfl, rfl, rfl, rfl, rfl⟩ rfl rfl rfl rfl rfl (by kernel_rfl) Try.func3 (by kernel_rfl)
    (of_decide_eq_true (by kernel_rfl)) (by unfold Func.isWrapper; first | (rw [if_pos (by decide +kernel)]; kernel_rfl) | (rw [if_neg (by decide +kernel)]; exact ⟨rfl, rfl⟩))
    (fun os started H enc _ => lifted os started H enc)

/-- The statement. -/
theorem proved : Rows.SinkPlaysSaid := over
#print axioms proved
end Go.Proofs.Ytoacnhfpapmomaa.sinkPlays
