/-
  ARGUMENTS THAT ARE READ: structs whose parts are known each. CONDITIONS: none.
-/
import Derived.Test.YtfcajloeknedeaaGreatOxYw
set_option linter.unusedSimpArgs false
set_option linter.unusedVariables false
namespace Go.Ox
open Go.ChangeShapes Go.RowKit
section
variable {H : Type} {enc : TypeId × Value → H} {P : Program} {W : World}
/-- What readings of fields, from an offset on, tell. -/
structure FI {α : Type} (enc : TypeId × Value → H) (P : Program) (W : World) (fs : List Field) (off n : Nat) (R : AHeap → List Value → α → Prop) : Prop where
  mono : ∀ h h' xs a, R h xs a → Fr h h' [] → R h' xs a
  imp : ∀ fuel (cs : List Value) ys, cs.length = off + n → fs.mapM (fun f => DataW.trod enc P W 0 (fun _ => true) true fuel f.type ((cs.drop f.offset).take (P.cellsOf f.type))) = some ys →
    (DataW.weightsEach P (fs.map (·.type)) (ys.map (·.1))).all (fun n => decide (n ≤ reachBytes)) = true → ∀ ρ h, HR ρ h W → AllRo h → ∃ a xs ρ' h', HR ρ' h' W ∧ AllRo h' ∧ ρ.le ρ' ∧ Fr h h' [] ∧ VRL ρ' xs (cs.drop off) ∧ R h' xs a
theorem FI.nil {off : Nat} : FI enc P W [] off 0 (fun (_ : AHeap) (xs : List Value) (_ : Unit) => xs = []) :=
  ⟨fun _ _ _ _ h _ => h, fun fuel cs ys hl _ _ ρ h hr ro => ⟨(), [], ρ, h, hr, ro, Emb.le_refl ρ, Fr.refl h [], by rw [List.drop_eq_nil_of_le (by omega)]; trivial, rfl⟩⟩
theorem FI.cons {α β : Type} {f : Field} {fs : List Field} {off k n : Nat} {R : AHeap → List Value → α → Prop} {S : AHeap → List Value → β → Prop} (ho : f.offset = off) (hk : P.cellsOf f.type = k) (hi : IsImpW enc P W f.type R) (hs : FI enc P W fs (off + k) n S) :
    FI enc P W (f :: fs) off (k + n) (fun h xs (a : α × β) => ∃ us vs, xs = us ++ vs ∧ R h us a.1 ∧ S h vs a.2) := by
  refine ⟨fun h h' xs a ⟨us, vs, e, k1, k2⟩ hf => ⟨us, vs, e, hi.mono _ _ _ _ k1 hf, hs.mono _ _ _ _ k2 hf⟩, fun fuel cs ys hl hm hw ρ h hr ro => ?_⟩
  rw [List.mapM_cons] at hm
  cases h1 : DataW.trod enc P W 0 (fun _ => true) true fuel f.type ((cs.drop f.offset).take (P.cellsOf f.type)) with
  | none => rw [h1] at hm; cases hm
  | some y =>
    rw [h1] at hm
    cases h2 : fs.mapM (fun f => DataW.trod enc P W 0 (fun _ => true) true fuel f.type ((cs.drop f.offset).take (P.cellsOf f.type))) with
    | none => rw [h2] at hm; cases hm
    | some zs =>
      rw [h2] at hm
      have hm' : y :: zs = ys := Option.some.inj hm
      subst hm'
      simp only [List.map_cons, DataW.weightsEach, List.all_append, Bool.and_eq_true] at hw
      obtain ⟨a, us, ρ1, hh1, k1, k2, k3, k4, k5, k6⟩ := hi.imp fuel _ y h1 hw.1 ρ h hr ro
      obtain ⟨b, vs, ρ2, hh2, l1, l2, l3, l4, l5, l6⟩ := hs.imp fuel cs zs (by omega) h2 hw.2 ρ1 hh1 k1 k2
      refine ⟨(a, b), us ++ vs, ρ2, hh2, l1, l2, Emb.le_trans k3 l3, k4.trans l4 (fun _ k => k) (fun _ _ k => k), ?_, us, vs, rfl, hi.mono _ _ _ _ k6 l4, l6⟩
      rw [ho, hk] at k5
      have e : cs.drop off = (cs.drop off).take k ++ cs.drop (off + k) := by rw [← List.drop_drop, List.take_append_drop]
      rw [e]
      exact (k5.mono l3).append l5
theorem IsImpW.struct {α : Type} {t : TypeId} {fs : Array Field} {n : Nat} {R : AHeap → List Value → α → Prop} (ht : P.underlying t = some (.struct fs)) (hc : P.cellsOf t = n) (hf : FI enc P W fs.toList 0 n R) : IsImpW enc P W t R := by
  refine ⟨hf.mono, fun fuel cs x hx hw ρ h hr ro => ?_⟩
  cases fuel with
  | zero => simp [DataW.trod] at hx
  | succ m =>
    rw [DataW.trod_step] at hx
    unfold DataW.trodStep at hx
    rw [ht] at hx
    simp only at hx
    split at hx
    · rename_i hl
      cases hm : fs.toList.mapM (fun f => DataW.trod enc P W 0 (fun _ => true) true m f.type ((cs.drop f.offset).take (P.cellsOf f.type))) with
      | none => rw [hm] at hx; cases hx
      | some ys =>
        rw [hm] at hx
        simp only [Option.map_some, Option.some.injEq] at hx
        subst hx
        simp only [DataW.weights, ht] at hw
        have := hf.imp m cs ys (by rw [hl, hc]; omega) hm hw ρ h hr ro
        simpa using this
    · cases hx
end
end Go.Ox
