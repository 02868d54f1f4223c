/-
  CoordAny: for every job, numbers of tasks, answers, and numbers the call returns true. CONDITIONS: none.
-/
import Derived.Test.YtfcajloeknedeaaRows
import Derived.Test.YtfcajloeknedeaaOxCGf
import Derived.WalkKit
import Derived.ProofKit
import Derived.OpenShut
import Derived.Carry
import Derived.SizedLaws
set_option linter.unusedSimpArgs false
set_option linter.unusedVariables false
namespace Go.Proofs.Ytfcajloeknedeaa.coordAny
open Go.ChangeShapes Go.WideShapes Go.ChangeAt Go.RowKit Go.Ox

theorem own : ownKnob Try.prog.godebug = none := by kernel_rfl
theorem laid : laidOutB Try.prog = true := by kernel_rfl

set_option maxRecDepth 100000 in
theorem lifted (os : Os) (started : os.Started) (H : Type) (enc : TypeId × Value → H) :
    ReturnsInHanded {} Try.checked os 4 .any (Rows.coordAnySpec.pre6 enc Try.prog Try.f4 Rows.coordAnyRow.domain false) (Rows.coordAnySpec.post enc Try.prog Try.f4 false true false false) := by
  refine returnsInHanded_of_change_sized (C := Try.checked) own started (by kernel_rfl) Try.func4
    (ChangeSpec.witness6 (enc := enc) (C := Try.checked) false ⟨#[], #[.agg #[.int .i64 0, .slice none 0 0], .slice none 0 0, .slice none 0 0, .int .i64 0, .int .i64 0], []⟩ 8 (by kernel_rfl) (by kernel_rfl) (by kernel_rfl) (by kernel_rfl)) ?_
  intro W base args ds gs before hval hW _ hsz _
  have hsz0 : (DataW.weightsEach Try.prog (Try.f4.params.toList ++ Rows.coordAnySpec.plain.varTypes Try.prog) (ds ++ gs)).all (fun n => decide (n ≤ reachBytes)) = true := hsz
  have hW' := hW
  have hlt := hW.lt
  obtain ⟨p, q, hA0, hV, rfl, hfz, hnd⟩ := hW
  have hA : DataW.TrodAll enc Try.prog W 0 (fun _ => true) true Try.f4.params.toList args.toList ds p := hA0
  rw [Try.params4] at hA hsz0
  obtain ⟨v0, vs0, d0, ds0, p0, q0, hargs, rfl, rfl, hT0, hr0⟩ := trodAll_cons hA
  obtain ⟨v1, vs1, d1, ds1, p1, q1, rfl, rfl, rfl, hT1, hr1⟩ := trodAll_cons hr0
  obtain ⟨v2, vs2, d2, ds2, p2, q2, rfl, rfl, rfl, hT2, hr2⟩ := trodAll_cons hr1
  obtain ⟨v3, vs3, d3, ds3, p3, q3, rfl, rfl, rfl, hT3, hr3⟩ := trodAll_cons hr2
  obtain ⟨v4, vs4, d4, ds4, p4, q4, rfl, rfl, rfl, hT4, hr4⟩ := trodAll_cons hr3
  obtain ⟨rfl, rfl, rfl⟩ := trodAll_nil hr4
  obtain rfl : args = #[v0, v1, v2, v3, v4] := by cases args; simp_all
  obtain ⟨rfl, rfl⟩ := trodVars_none hV
  have hsz1 : (DataW.weightsEach Try.prog [39, 22, 40, 3, 3] [d0, d1, d2, d3, d4]).all (fun n => decide (n ≤ reachBytes)) = true := hsz0
  simp only [DataW.weightsEach, List.all_append, Bool.and_eq_true] at hsz1
  have ok0 := hval 0 _ v0 rfl rfl
  obtain ⟨a0, x0, ρ0, hh0, hr0x, ro0, le0, fr0, vr0, R0⟩ := (impSpec (enc := enc) (W := W)).argS (by rfl) ok0 hT0 hsz1.1 (HR.none W) allRo0
  have ok1 := hval 1 _ v1 rfl rfl
  obtain ⟨a1, x1, ρ1, hh1, hr1x, ro1, le1, fr1, vr1, R1⟩ := (impIs (enc := enc) (W := W)).arg hT1 hsz1.2.1 (one_slice (by rfl) ok1) hr0x ro0
  have ok2 := hval 2 _ v2 rfl rfl
  obtain ⟨a2, x2, ρ2, hh2, hr2x, ro2, le2, fr2, vr2, R2⟩ := (impAcks (enc := enc) (W := W)).arg hT2 hsz1.2.2.1 (one_slice (by rfl) ok2) hr1x ro1
  have ok3 := hval 3 _ v3 rfl rfl
  obtain ⟨a3, x3, ρ3, hh3, hr3x, ro3, le3, fr3, vr3, R3⟩ := (impI (enc := enc) (W := W)).arg hT3 hsz1.2.2.2.1 (one_int (by rfl) ok3) hr2x ro2
  have ok4 := hval 4 _ v4 rfl rfl
  obtain ⟨a4, x4, ρ4, hh4, hr4x, ro4, le4, fr4, vr4, R4⟩ := (impI (enc := enc) (W := W)).arg hT4 hsz1.2.2.2.2.1 (one_int (by rfl) ok4) hr3x ro3
  have hw := oxLaw4 a0 x0 a1 x1 a2 x2 a3 x3 a4 x4 hh4 ((impSpec (enc := enc) (W := W)).mono _ _ _ _ ((impSpec (enc := enc) (W := W)).mono _ _ _ _ ((impSpec (enc := enc) (W := W)).mono _ _ _ _ ((impSpec (enc := enc) (W := W)).mono _ _ _ _ R0 fr1) fr2) fr3) fr4) ((impIs (enc := enc) (W := W)).mono _ _ _ _ ((impIs (enc := enc) (W := W)).mono _ _ _ _ ((impIs (enc := enc) (W := W)).mono _ _ _ _ R1 fr2) fr3) fr4) ((impAcks (enc := enc) (W := W)).mono _ _ _ _ ((impAcks (enc := enc) (W := W)).mono _ _ _ _ R2 fr3) fr4) ((impI (enc := enc) (W := W)).mono _ _ _ _ R3 fr4) R4
  have hv : VRL ρ4 [.agg x0.toArray, x1, x2, x3, x4] #[v0, v1, v2, v3, v4].toList := ⟨((((vr0.mono le1).mono le2).mono le3).mono le4), (((vr1.mono le2).mono le3).mono le4), ((vr2.mono le3).mono le4), (vr3.mono le4), vr4, trivial⟩
  refine (lend_calls oxNamed (Checked.mixed Try.checked) hr4x ro4 hv hw).mono fun e W' ⟨he, bel⟩ => ?_
  subst he
  exact ⟨_, rfl, _, _, _, _, _, _, hW', trodAll_mk1 (shut_bool Try.underlying4 _), ⟨_, _, (bel.trod laid (by decide +kernel) (by decide +kernel) hT0 (fun x hx => hlt x (by simp [hx]))), ⟨_, _, (bel.trod laid (by decide +kernel) (by decide +kernel) hT1 (fun x hx => hlt x (by simp [hx]))), ⟨_, _, (bel.trod laid (by decide +kernel) (by decide +kernel) hT2 (fun x hx => hlt x (by simp [hx]))), ⟨_, _, (bel.trod laid (by decide +kernel) (by decide +kernel) hT3 (fun x hx => hlt x (by simp [hx]))), ⟨_, _, (bel.trod laid (by decide +kernel) (by decide +kernel) hT4 (fun x hx => hlt x (by simp [hx]))), trodAll_mk0, rfl⟩, rfl⟩, rfl⟩, rfl⟩, rfl⟩, rfl, bel.frame _, fun h => by cases h⟩

theorem over : Rows.coordAnyRow.holds Try.pinned (OpenSpec.ofChange Rows.coordAnySpec) :=
  OpenClaim.holds_of_wide 4 Try.f4 rfl rfl rfl rfl rfl rfl rfl ⟨rfl, rfl, rfl, rfl, rfl⟩ rfl rfl rfl rfl rfl (by kernel_rfl) Try.func4 (by kernel_rfl)
    (of_decide_eq_true (by kernel_rfl)) (by unfold Func.isWrapper; first | (rw [if_pos (by decide +kernel)]; kernel_rfl) | (rw [if_neg (by decide +kernel)]; exact ⟨rfl, rfl⟩))
    (fun os started H enc _ => lifted os started H enc)

/-- The statement. -/
theorem proved : Rows.CoordAnySaid := over
#print axioms proved
end Go.Proofs.Ytfcajloeknedeaa.coordAny
