/-
  ARGUMENTS THAT ARE READ: .. and how many bytes each slice has at most.
-/
import Derived.Test.YtfcajloeknedeaaGreatOxY
import Derived.SizedLaws
set_option linter.unusedSimpArgs false
set_option linter.unusedVariables false
namespace Go.Ox
open Go.ChangeShapes Go.RowKit
section
variable {H : Type} {enc : TypeId × Value → H} {P : Program} {W : World}
theorem weightsAll_mem {e : TypeId} : ∀ {l : List (DataW H)}, (DataW.weightsAll P e l).all (fun n => decide (n ≤ reachBytes)) = true → ∀ d ∈ l, (DataW.weights P e d).all (fun n => decide (n ≤ reachBytes)) = true
  | [], _, d, hd => by cases hd
  | c :: l, h, d, hd => by
    simp only [DataW.weightsAll, List.all_append, Bool.and_eq_true] at h
    rcases List.mem_cons.1 hd with rfl | hd
    · exact h.1
    · exact weightsAll_mem h.2 d hd
/-- What readings of one type tell, where no slice is beyond the form's reach. -/
structure IsImpW {α : Type} (enc : TypeId × Value → H) (P : Program) (W : World) (e : TypeId) (R : AHeap → List Value → α → Prop) : Prop where
  mono : ∀ h h' xs a, R h xs a → Fr h h' [] → R h' xs a
  imp : ∀ fuel cs x, DataW.trod enc P W 0 (fun _ => true) true fuel e cs = some x → (DataW.weights P e x.1).all (fun n => decide (n ≤ reachBytes)) = true → ∀ ρ h, HR ρ h W → AllRo h → ∃ a xs ρ' h', HR ρ' h' W ∧ AllRo h' ∧ ρ.le ρ' ∧ Fr h h' [] ∧ VRL ρ' xs cs ∧ R h' xs a
theorem IsImp.toW {α : Type} {e : TypeId} {R : AHeap → List Value → α → Prop} (hi : IsImp enc P W e R) : IsImpW enc P W e R := ⟨hi.mono, fun fuel cs x hx _ => hi.imp fuel cs x hx⟩
theorem IsImpW.conv {α β : Type} {e : TypeId} {R : AHeap → List Value → α → Prop} {R' : AHeap → List Value → β → Prop} (hi : IsImpW enc P W e R) (hc : ∀ h xs z, R h xs z → ∃ b, R' h xs b) (hm : ∀ h h' xs a, R' h xs a → Fr h h' [] → R' h' xs a) : IsImpW enc P W e R' :=
  ⟨hm, fun fuel cs x hx hw ρ h hr ro => let ⟨_, xs, ρ', h', h1, h2, h3, h4, h5, h6⟩ := hi.imp fuel cs x hx hw ρ h hr ro; let ⟨b, hb⟩ := hc _ _ _ h6; ⟨b, xs, ρ', h', h1, h2, h3, h4, h5, hb⟩⟩
/-- A slice, whose elements are known, and which is within reach. -/
def SlRb {α : Type} (P : Program) (R : AHeap → List Value → α → Prop) (e : TypeId) (h : AHeap) (xs : List Value) (A : List α) : Prop := SlR R e h xs A ∧ A.length * P.bytesOf e ≤ reachBytes
theorem impsW {α : Type} {e : TypeId} {R : AHeap → List Value → α → Prop} (hi : IsImpW enc P W e R) {fuel : Nat} : ∀ (css : List (List Value)), (∀ cs ∈ css, ∃ x, DataW.trod enc P W 0 (fun _ => true) true fuel e cs = some x ∧ (DataW.weights P e x.1).all (fun n => decide (n ≤ reachBytes)) = true) → ∀ ρ h, HR ρ h W → AllRo h →
    ∃ (A : List α) (rows : List (List Value)) (ρ' : Emb) (h' : AHeap), HR ρ' h' W ∧ AllRo h' ∧ ρ.le ρ' ∧ Fr h h' [] ∧ A.length = css.length ∧ rows.length = css.length ∧ (∀ (i : Nat) r x, rows[i]? = some r → A[i]? = some x → R h' r x) ∧ (∀ (i : Nat) r c, rows[i]? = some r → css[i]? = some c → VRL ρ' r c)
  | [], _, ρ, h, hr, ro => ⟨[], [], ρ, h, hr, ro, Emb.le_refl ρ, Fr.refl h [], rfl, rfl, fun _ _ _ k => by simp at k, fun _ _ _ k => by simp at k⟩
  | cs :: css, hx, ρ, h, hr, ro => by
    obtain ⟨x, hx0, hxw⟩ := hx cs (by simp)
    obtain ⟨a, xs, ρ1, h1, k1, k2, k3, k4, k5, k6⟩ := hi.imp fuel cs x hx0 hxw ρ h hr ro
    obtain ⟨A, rows, ρ2, h2, l1, l2, l3, l4, l5, l6, l7, l8⟩ := impsW hi css (fun c hc => hx c (by simp [hc])) ρ1 h1 k1 k2
    refine ⟨a :: A, xs :: rows, ρ2, h2, l1, l2, Emb.le_trans k3 l3, k4.trans l4 (fun _ k => k) (fun _ _ k => k), by simp [l5], by simp [l6], ?_, ?_⟩
    · intro i r x hr hx
      cases i with
      | zero => simp at hr hx; subst hr hx; exact hi.mono _ _ _ _ k6 l4
      | succ i => exact l7 i r x (by simpa using hr) (by simpa using hx)
    · intro i r c hr hc
      cases i with
      | zero => simp at hr hc; subst hr hc; exact k5.mono l3
      | succ i => exact l8 i r c (by simpa using hr) (by simpa using hc)

theorem IsImpW.slice {α : Type} {t e : TypeId} {k : Nat} {R : AHeap → List Value → α → Prop} (ht : P.underlying t = some (.slice e)) (hk : P.cellsOf e = k + 1) (hi : IsImpW enc P W e R) : IsImpW enc P W t (SlRb P R e) := by
  constructor
  · rintro h h' xs A ⟨⟨a, cap, h1, h2, h3, h4, h5⟩, hB⟩ hf
    refine ⟨⟨a, cap, h1, h2, h3, h4.imp id ?_, h5⟩, hB⟩
    rintro ⟨b, rows, g1, g2, g3, g4, g5⟩
    exact ⟨b, rows, g1, Nat.lt_of_lt_of_le g2 hf.next, hf.at g3 g2 (by simp), g4, fun i r x p q => hi.mono _ _ _ _ (g5 i r x p q) hf⟩
  · intro fuel cs x hx hxw ρ h hr ro
    cases fuel with
    | zero => simp [DataW.trod] at hx
    | succ n =>
      rw [DataW.trod_step] at hx
      unfold DataW.trodStep at hx
      rw [ht] at hx
      match cs, hx with
      | [.slice none 0 0], _ => exact ⟨[], [.slice none 0 0], ρ, h, hr, ro, Emb.le_refl ρ, Fr.refl h [], VRL.one (.sliceNil 0 0), ⟨none, 0, rfl, by simp, by simp, .inl rfl, fun _ => rfl, fun _ k => (by cases k)⟩, by simp⟩
      | [.slice (some a) len cap], hx =>
        simp only [hk] at hx
        split at hx
        · rename_i hc
          obtain ⟨_, hlc, hcm⟩ := hc
          simp only [maxLen] at hcm
          cases hel : ((List.range len).mapM fun i => (W.cells? 0 (a.add (i * (k + 1))) (k + 1)).bind (DataW.trod enc P W 0 (fun _ => true) true n e)) with
          | none => rw [hel] at hx; cases hx
          | some elems =>
            rw [hel] at hx
            simp only [Option.bind_some, if_true] at hx
            cases hre : ((List.range (cap - len)).mapM fun j => (W.cells? 0 (a.add ((len + j) * (k + 1))) (k + 1)).bind (DataW.trod enc P W 0 (fun _ => true) true n e)) with
            | none => rw [hre] at hx; cases hx
            | some rest =>
              rw [hre] at hx
              simp only [Option.map_some, Option.some.injEq] at hx
              subst hx
              simp only [DataW.weights, ht, List.all_cons, List.all_append, Bool.and_eq_true, decide_eq_true_eq, List.length_map] at hxw
              obtain ⟨hxb, hxe, _⟩ := hxw
              have hlen := mapM_some_length hel
              simp only [List.length_range] at hlen
              have hbyt : len * P.bytesOf e ≤ reachBytes := by
                refine Nat.le_trans (Nat.mul_le_mul_right _ ?_) hxb
                omega
              have hel' : ∀ i, i < len → ∃ cs x, W.cells? 0 (a.add (i * (k + 1))) (k + 1) = some cs ∧ DataW.trod enc P W 0 (fun _ => true) true n e cs = some x ∧ (DataW.weights P e x.1).all (fun n => decide (n ≤ reachBytes)) = true := fun i hi' => by
                have h1 := mapM_some_get hel i i (by simp [hi'])
                have hil : i < elems.length := by omega
                rw [List.getElem?_eq_getElem hil] at h1
                cases hcs : W.cells? 0 (a.add (i * (k + 1))) (k + 1) with
                | none => rw [hcs] at h1; cases h1
                | some cs =>
                  rw [hcs] at h1
                  exact ⟨cs, _, rfl, h1, weightsAll_mem (l := elems.map (·.1)) hxe _ (List.mem_map_of_mem (List.getElem_mem hil))⟩
              by_cases hcap : cap = 0
              · have hl0 : len = 0 := by omega
                subst hcap; subst hl0
                exact ⟨[], [.slice (some ⟨0, 0, none⟩) 0 0], ρ, h, hr, ro, Emb.le_refl ρ, Fr.refl h [], VRL.one (.sliceEmpty _ _ 0 (.inl rfl)), ⟨some ⟨0, 0, none⟩, 0, rfl, by simp, by simp, .inl rfl, fun k => (by cases k), fun _ k => (by cases k; exact ⟨0, rfl⟩)⟩, by simp⟩
              · -- the block
                have hcell : ∃ v, W.cell? a = some v := by
                  have : ∃ cs, W.cells? 0 (a.add (0 * (k + 1))) (k + 1) = some cs := by
                    by_cases hl : 0 < len
                    · obtain ⟨cs, _, h1, _, _⟩ := hel' 0 hl; exact ⟨cs, h1⟩
                    · have h1 := mapM_some_get hre 0 0 (by rw [List.getElem?_range (by omega)])
                      have hlen := mapM_some_length hre
                      rw [List.getElem?_eq_getElem (by rw [hlen]; simp; omega)] at h1
                      have e0 : len + 0 = 0 := by omega
                      simp only [e0] at h1
                      cases hcs : W.cells? 0 (a.add (0 * (k + 1))) (k + 1) with
                      | none => rw [hcs] at h1; cases h1
                      | some cs => exact ⟨cs, rfl⟩
                  obtain ⟨cs, h1⟩ := this
                  obtain ⟨_, h2, h3⟩ := World.cells?_some h1
                  have h4 := h3 0 (by omega)
                  rw [List.getElem?_eq_getElem (by omega)] at h4
                  exact ⟨_, by simpa [Addr.add] using h4⟩
                obtain ⟨v0, hv0⟩ := hcell
                have hspot : a.spot = none := World.cell?_spot hv0
                obtain ⟨d, T, fz, hB⟩ : ∃ d T fz, W.heap[a.block]? = some (.cells d T fz) := by
                  unfold World.cell? at hv0
                  split at hv0
                  · rename_i c T fz h9; exact ⟨_, _, _, h9⟩
                  · cases hv0
                have hcd : ∀ m, W.cell? ⟨a.block, m, none⟩ = d[m]? := fun m => by unfold World.cell?; simp [hB]
                obtain ⟨css, hcl, hcs⟩ : ∃ css : List (List Value), css.length = len ∧ ∀ i c, css[i]? = some c → W.cells? 0 (a.add (i * (k + 1))) (k + 1) = some c ∧ ∃ x, DataW.trod enc P W 0 (fun _ => true) true n e c = some x ∧ (DataW.weights P e x.1).all (fun n => decide (n ≤ reachBytes)) = true := by
                  refine ⟨(List.range len).map fun i => (W.cells? 0 (a.add (i * (k + 1))) (k + 1)).getD [], by simp, fun i c hc => ?_⟩
                  simp only [List.getElem?_map, Option.map_eq_some_iff] at hc
                  obtain ⟨j, hj, rfl⟩ := hc
                  obtain ⟨hj1, hj2⟩ := List.getElem?_eq_some_iff.1 hj
                  simp at hj1 hj2
                  subst hj2
                  obtain ⟨cs, x, h1, h2⟩ := hel' i hj1
                  rw [h1]; exact ⟨rfl, x, h2⟩
                obtain ⟨A, rows, ρ1, h1, l1, l2, l3, l4, l5, l6, l7, l8⟩ := impsW hi css (fun c hc => by
                  obtain ⟨i, hi1⟩ := List.mem_iff_getElem?.1 hc
                  exact (hcs i c hi1).2) ρ h hr ro
                have hflat : ∀ i v, rows.flatten[i]? = some v → ∃ x, d[a.off + i]? = some x ∧ VR ρ1 v x := fun m v hv => by
                  obtain ⟨i, j, c, x, g1, g2, g3, g4, g5⟩ := flatten_rel (k := k + 1) rows css (by omega) (fun c hc => by
                    obtain ⟨i, hi1⟩ := List.mem_iff_getElem?.1 hc
                    exact (World.cells?_some (hcs i c hi1).1).2.1) l8 m v hv
                  obtain ⟨_, h2, h3⟩ := World.cells?_some (hcs i c g1).1
                  have h4 := h3 j g4
                  rw [add_at hspot, add_at rfl, hcd, g2] at h4
                  exact ⟨x, by rw [g3, ← h4]; congr 1; simp [Nat.add_assoc], g5⟩
                obtain ⟨ρ2, q1, q2, q3, q4⟩ := HR.lend (B := a.block) (off := a.off) l1 l2 hB 0 e hflat
                have hAl : A.length = len := by omega
                have hcb : cap < big := by simp only [big]; omega
                refine ⟨A, [.slice (some ⟨h1.next, 0, none⟩) A.length cap], ρ2, _, q1, q2, Emb.le_trans l3 q3, (l4.to_push _), VRL.one ?_, ⟨some ⟨h1.next, 0, none⟩, cap, rfl, by omega, by omega, .inr ⟨h1.next, rows, rfl, by simp, by simp [AHeap.get_push], by omega, fun i r x p q => hi.mono _ _ _ _ (l7 i r x p q) (Fr.push h1 _)⟩, fun k => (by cases k), fun _ k => (by cases k; exact ⟨h1.next, rfl⟩)⟩, by rw [hAl]; exact hbyt⟩
                have e1 : (some a : Option Addr) = some ⟨a.block, a.off + 0, none⟩ := by obtain ⟨b, o, s⟩ := a; simp at hspot; subst hspot; rfl
                rw [hAl, e1]
                exact VR.slice (ρ := ρ2) ⟨h1.next, 0, none⟩ ⟨a.block, a.off, 0, 0⟩ len cap cap q4 (by rw [if_pos hcb]) (by intro k; exact absurd rfl k) hlc
        · cases hx

theorem IsImpW.arg {α : Type} {t : TypeId} {R : AHeap → List Value → α → Prop} (hi : IsImpW enc P W t R) {v : Value} {d : DataW H} {ps : List MemPlace} (hT : DataW.Trod enc P W 0 (fun _ => true) true t v d ps) (hw : (DataW.weights P t d).all (fun n => decide (n ≤ reachBytes)) = true) (h1 : v.cells.toList = [v]) {ρ : Emb} {h : AHeap} (hr : HR ρ h W) (ro : AllRo h) :
    ∃ a x ρ' h', HR ρ' h' W ∧ AllRo h' ∧ ρ.le ρ' ∧ Fr h h' [] ∧ VR ρ' x v ∧ R h' [x] a := by
  obtain ⟨fuel, hf⟩ := hT
  obtain ⟨a, xs, ρ', h', k1, k2, k3, k4, k5, k6⟩ := hi.imp fuel _ _ hf hw ρ h hr ro
  rw [h1] at k5
  match xs, k5 with
  | [x], k5 => exact ⟨a, x, ρ', h', k1, k2, k3, k4, k5.1, k6⟩
theorem IsImpW.argS {α : Type} {t : TypeId} {fs : Array Field} {R : AHeap → List Value → α → Prop} (hi : IsImpW enc P W t R) (ht : P.underlying t = some (.struct fs)) {r : Reach} {base : Nat} {v : Value} {d : DataW H} {ps : List MemPlace} (hval : Value.okWide P W r base t v) (hT : DataW.Trod enc P W 0 (fun _ => true) true t v d ps) (hw : (DataW.weights P t d).all (fun n => decide (n ≤ reachBytes)) = true) {ρ : Emb} {h : AHeap} (hr : HR ρ h W) (ro : AllRo h) :
    ∃ a xs ρ' h', HR ρ' h' W ∧ AllRo h' ∧ ρ.le ρ' ∧ Fr h h' [] ∧ VR ρ' (.agg xs.toArray) v ∧ R h' xs a := by
  obtain ⟨cs, rfl, _⟩ := WideShapes.okWide_struct ht hval
  obtain ⟨fuel, hf⟩ := hT
  obtain ⟨a, xs, ρ', h', k1, k2, k3, k4, k5, k6⟩ := hi.imp fuel _ _ hf hw ρ h hr ro
  exact ⟨a, xs, ρ', h', k1, k2, k3, k4, VR.ofAgg k5, k6⟩
end
end Go.Ox
