/-
  CoordWhole: for every job, numbers of tasks and answers the call returns true. CONDITIONS: none.
-/
import Derived.Test.YtfcajloeknedeaaGreatRows
import Derived.Test.YtfcajloeknedeaaGreatOxJGg
import Derived.WalkKit
import Derived.ProofKit
import Derived.OpenShut
import Derived.Carry
import Derived.SizedLaws
set_option linter.unusedSimpArgs false
set_option linter.unusedVariables false
namespace Go.Proofs.YtfcajloeknedeaaGreat.coordWhole
open Go.Proofs.Cd Go.ChangeShapes Go.WideShapes Go.ChangeAt Go.RowKit Go.Ox

theorem own : ownKnob Tryz.prog.godebug = none := by kernel_rfl
theorem laid : laidOutB Tryz.prog = true := by kernel_rfl

set_option maxRecDepth 100000 in
theorem lifted (os : Os) (started : os.Started) (H : Type) (enc : TypeId × Value → H) :
    ReturnsInHanded {} Tryz.checked os 3 .any (Rows.coordWholeSpec.pre6 enc Tryz.prog Tryz.f3 Rows.coordWholeRow.domain false) (Rows.coordWholeSpec.post enc Tryz.prog Tryz.f3 false true false false) := by
  refine returnsInHanded_of_change_sized (C := Tryz.checked) own started (by kernel_rfl) Tryz.func3
    (ChangeSpec.witness6 (enc := enc) (C := Tryz.checked) false ⟨#[], #[.agg #[.int .i64 0, .slice none 0 0], .slice none 0 0, .slice none 0 0], []⟩ 8 (by kernel_rfl) (by kernel_rfl) (by kernel_rfl) (by kernel_rfl)) ?_
  intro W base args ds gs before hval hW _ hsz _
  have hsz0 : (DataW.weightsEach Tryz.prog (Tryz.f3.params.toList ++ Rows.coordWholeSpec.plain.varTypes Tryz.prog) (ds ++ gs)).all (fun n => decide (n ≤ reachBytes)) = true := hsz
  have hW' := hW
  have hlt := hW.lt
  obtain ⟨p, q, hA0, hV, rfl, hfz, hnd⟩ := hW
  have hA : DataW.TrodAll enc Tryz.prog W 0 (fun _ => true) true Tryz.f3.params.toList args.toList ds p := hA0
  rw [Tryz.params3] at hA hsz0
  obtain ⟨v0, vs0, d0, ds0, p0, q0, hargs, rfl, rfl, hT0, hr0⟩ := trodAll_cons hA
  obtain ⟨v1, vs1, d1, ds1, p1, q1, rfl, rfl, rfl, hT1, hr1⟩ := trodAll_cons hr0
  obtain ⟨v2, vs2, d2, ds2, p2, q2, rfl, rfl, rfl, hT2, hr2⟩ := trodAll_cons hr1
  obtain ⟨rfl, rfl, rfl⟩ := trodAll_nil hr2
  obtain rfl : args = #[v0, v1, v2] := by cases args; simp_all
  obtain ⟨rfl, rfl⟩ := trodVars_none hV
  have hsz1 : (DataW.weightsEach Tryz.prog [24, 25, 26] [d0, d1, d2]).all (fun n => decide (n ≤ reachBytes)) = true := hsz0
  simp only [DataW.weightsEach, List.all_append, Bool.and_eq_true] at hsz1
  have ok0 := hval 0 _ v0 rfl rfl
  obtain ⟨a0, x0, ρ0, hh0, hr0x, ro0, le0, fr0, vr0, R0⟩ := (impSpec (enc := enc) (W := W)).argS (by rfl) ok0 hT0 hsz1.1 (HR.none W) allRo0
  have ok1 := hval 1 _ v1 rfl rfl
  obtain ⟨a1, x1, ρ1, hh1, hr1x, ro1, le1, fr1, vr1, R1⟩ := (impIs (enc := enc) (W := W)).arg hT1 hsz1.2.1 (one_slice (by rfl) ok1) hr0x ro0
  have ok2 := hval 2 _ v2 rfl rfl
  obtain ⟨a2, x2, ρ2, hh2, hr2x, ro2, le2, fr2, vr2, R2⟩ := (impAcks (enc := enc) (W := W)).arg hT2 hsz1.2.2.1 (one_slice (by rfl) ok2) hr1x ro1
  have hw := oxLaw3 a0 x0 a1 x1 a2 x2 hh2 ((impSpec (enc := enc) (W := W)).mono _ _ _ _ ((impSpec (enc := enc) (W := W)).mono _ _ _ _ R0 fr1) fr2) ((impIs (enc := enc) (W := W)).mono _ _ _ _ R1 fr2) R2
  have hv : VRL ρ2 [.agg x0.toArray, x1, x2] #[v0, v1, v2].toList := ⟨((vr0.mono le1).mono le2), (vr1.mono le2), vr2, trivial⟩
  refine (lend_calls oxNamed (Checked.mixed Tryz.checked) hr2x ro2 hv hw).mono fun e W' ⟨he, bel⟩ => ?_
  subst he
  exact ⟨_, rfl, _, _, _, _, _, _, hW', trodAll_mk1 (shut_bool Tryz.underlying4 _), ⟨_, _, (bel.trod laid (by decide +kernel) (by decide +kernel) hT0 (fun x hx => hlt x (by simp [hx]))), ⟨_, _, (bel.trod laid (by decide +kernel) (by decide +kernel) hT1 (fun x hx => hlt x (by simp [hx]))), ⟨_, _, (bel.trod laid (by decide +kernel) (by decide +kernel) hT2 (fun x hx => hlt x (by simp [hx]))), trodAll_mk0, rfl⟩, rfl⟩, rfl⟩, rfl, bel.frame _, fun h => by cases h⟩

theorem over : Rows.coordWholeRow.holds Tryz.pinned (OpenSpec.ofChange Rows.coordWholeSpec) :=
  OpenClaim.holds_of_wide 3 Tryz.f3 rfl rfl rfl rfl rfl rfl rfl ⟨rfl, rfl, rfl, rfl, rfl⟩ rfl rfl rfl rfl rfl (by kernel_rfl) Tryz.func3 (by kernel_rfl)
    (of_decide_eq_true (by kernel_rfl)) (by unfold Func.isWrapper; first | (rw [if_pos (by decide +kernel)]; kernel_rfl) | (rw [if_neg (by decide +kernel)]; exact ⟨rfl, rfl⟩))
    (fun os started H enc _ => lifted os started H enc)

/-- The statement. -/
theorem proved : Rows.CoordWholeSaid := over
#print axioms proved
end Go.Proofs.YtfcajloeknedeaaGreat.coordWhole
