/-
  THE ABSTRACT HEAP CUT: what was made behind a place is forgotten. CONDITIONS: none.
-/
import Derived.Test.YtfcajloeknedeaaGreatOxMo
set_option linter.unusedSimpArgs false
set_option linter.unusedVariables false
namespace Go.Ox
variable {D : Prop}

/-- A value that is known under fewer names: its names are those. -/
theorem VR.narrow {ρ ρ' : Emb} (hle : ρ.le ρ') {v x : Value} (h : VR ρ v x) : ∀ {y : Value}, VR ρ' v y → VR ρ v y := by
  have same : ∀ {β : Nat} {e e' : Ent}, ρ β = some e → ρ' β = some e' → e' = e := fun h1 h2 => by
    have := hle _ _ h1
    rw [h2] at this
    exact Option.some.inj this
  have lists : ∀ {xs ys zs : List Value}, xs.length = ys.length → (∀ (i : Nat) (x y : Value), xs[i]? = some x → ys[i]? = some y → ∀ {z : Value}, VR ρ' x z → VR ρ x z) → xs.length = zs.length → (∀ (i : Nat) (x z : Value), xs[i]? = some x → zs[i]? = some z → VR ρ' x z) →
      ∀ (i : Nat) (x z : Value), xs[i]? = some x → zs[i]? = some z → VR ρ x z := by
    intro xs ys zs hl ih hl' h i x z hx hz
    have hi : i < xs.length := by
      rcases Nat.lt_or_ge i xs.length with k | k
      · exact k
      · rw [List.getElem?_eq_none k] at hx; cases hx
    exact ih i x (ys[i]'(by omega)) hx (List.getElem?_eq_getElem (by omega)) (h i x z hx hz)
  induction h with
  | top x hx => intro y k; cases k; exact .top _ (by assumption)
  | bool b => intro y k; cases k; exact .bool b
  | int k n => intro y k; cases k; exact .int _ _
  | float k n => intro y k; cases k; exact .float _ _
  | complex k a b => intro y k; cases k; exact .complex _ _ _
  | string s => intro y k; cases k; exact .string _
  | ptrNil => intro y k; cases k; exact .ptrNil
  | ptr a e he => intro y k; cases k; rename_i e' he'; rw [same he he']; exact .ptr a e he
  | sliceNil l c => intro y k; cases k; exact .sliceNil _ _
  | sliceEmpty a a' c hc =>
    intro y k
    cases k with
    | sliceEmpty _ a'' _ hc' => exact .sliceEmpty _ _ _ hc
    | slice _ e' _ _ c' he' hc' hs hl =>
      rcases hc with rfl | ⟨rfl, e, he⟩
      · rw [if_pos (by decide)] at hc'
        subst hc'
        exact .sliceEmpty _ _ _ (.inl rfl)
      · rw [same he he']
        exact .slice a e _ _ c' he hc' (by rw [← same he he']; exact hs) hl
  | slice a e l c c0 he hc hs hl =>
    intro y k
    cases k with
    | sliceEmpty _ a'' _ hc' =>
      rcases hc' with rfl | ⟨rfl, _⟩
      · exact .sliceEmpty _ _ _ (.inl rfl)
      · exact .sliceEmpty _ _ _ (.inr ⟨rfl, e, he⟩)
    | slice _ e' _ _ c' he' hc' hs' hl' =>
      have := same he he'
      subst this
      exact .slice a _ _ _ c' he hc' hs' hl'
  | mapNil => intro y k; cases k; exact .mapNil
  | map r e he => intro y k; cases k; rename_i e' he'; rw [same he he']; exact .map r e he
  | func fn xs ys us vs hf hl h hl' h' ih ih' =>
    intro y k
    generalize hv : Value.func fn xs.toArray us.toArray = v at k
    cases k <;> first | (cases hv; done) | skip
    · rename_i fn2 xs2 ys2 us2 vs2 hf2 hl2 h2 hl2' h2'
      simp only [Value.func.injEq, Array.mk.injEq, List.toArray_inj] at hv
      obtain ⟨rfl, hx, hu⟩ := hv
      have hx' : xs = xs2 := by simpa using hx
      have hu' : us = us2 := by simpa using hu
      subst hx' hu'
      exact .func fn xs ys2 us vs2 hf hl2 (lists hl ih hl2 h2) hl2' (lists hl' ih' hl2' h2')
    · rename_i l e he
      simp only [Value.func.injEq] at hv
      exact absurd hv.1 (hf l)
  | yield l e he =>
    intro y k
    generalize hv : Value.func (.yield l) #[] #[] = v at k
    cases k <;> first | (cases hv; done) | skip
    · rename_i hf2 _ _ _ _
      simp only [Value.func.injEq] at hv
      exact absurd hv.1.symm (hf2 l)
    · rename_i l' e' he'
      simp only [Value.func.injEq, Fn.yield.injEq, and_true] at hv
      subst hv
      rw [same he he']
      exact .yield l e he
  | nilFunc => intro y k; cases k; exact .nilFunc
  | iface t v x h ih => intro y k; cases k; exact .iface _ _ _ (ih (by assumption))
  | nilIface => intro y k; cases k; exact .nilIface
  | agg xs ys hl h ih =>
    intro y k
    generalize hv : Value.agg xs.toArray = v at k
    cases k <;> first | (cases hv; done) | skip
    rename_i xs2 ys2 hl2 h2
    have hx' : xs = xs2 := by simpa using hv
    subst hx'
    exact .agg xs ys2 hl2 (lists hl ih hl2 h2)
  | tuple xs ys hl h ih =>
    intro y k
    generalize hv : Value.tuple xs.toArray = v at k
    cases k <;> first | (cases hv; done) | skip
    rename_i xs2 ys2 hl2 h2
    have hx' : xs = xs2 := by simpa using hv
    subst hx'
    exact .tuple xs ys2 hl2 (lists hl ih hl2 h2)

def Emb.cut (n : Nat) (ρ : Emb) : Emb := fun β => if β < n then ρ β else none
def AHeap.cut (n : Nat) (h : AHeap) : AHeap := ⟨fun β => if β < n then h.get β else none, n⟩
theorem Emb.cut_some {n : Nat} {ρ : Emb} {β : Nat} {e : Ent} (h : ρ.cut n β = some e) : β < n ∧ ρ β = some e := by
  unfold Emb.cut at h
  split at h
  · rename_i k; exact ⟨k, h⟩
  · cases h
theorem AHeap.cut_some {n : Nat} {h : AHeap} {β : Nat} {b : ABlk} (k : (h.cut n).get β = some b) : β < n ∧ h.get β = some b := by
  unfold AHeap.cut at k
  simp only at k
  split at k
  · rename_i q; exact ⟨q, k⟩
  · cases k
theorem Step.cut {ρ ρ' : Emb} {h h' : AHeap} {w w' : World} (hr : HR ρ h w) (st : Step D ρ ρ' h h' w w') (n : Nat) (hn : h.next ≤ n)
    (ok : ∀ β b e o, β < n → ρ' β = some e → h'.get β = some b → w'.heap[e.blk]? = some o → BR ρ' e b o → BR (ρ'.cut n) e b o) : Step D ρ (ρ'.cut n) h (h'.cut n) w w' where
  hr := {
    fresh := fun β k => by unfold Emb.cut; rw [if_neg (by show ¬ β < n; have : n ≤ β := k; omega)]
    empty := fun β k => by show (if β < n then h'.get β else none) = none; rw [if_neg (by have : n ≤ β := k; omega)]
    old := fun β e k => st.hr.old β e (Emb.cut_some k).2
    blk := fun β e b k1 k2 => by
      obtain ⟨q1, q2⟩ := Emb.cut_some k1
      obtain ⟨_, q3⟩ := AHeap.cut_some k2
      obtain ⟨o, h1, h2⟩ := st.hr.blk β e b q2 q3
      exact ⟨o, h1, ok β b e o q1 q2 q3 h1 h2⟩
    inj := fun β γ e f b c k1 k2 k3 k4 k5 k6 => st.hr.inj β γ e f b c (Emb.cut_some k1).2 (Emb.cut_some k2).2 (AHeap.cut_some k3).2 (AHeap.cut_some k4).2 k5 k6 }
  ext := fun β e k => by
    have h1 : β < n := by
      rcases Nat.lt_or_ge β h.next with q | q
      · omega
      · rw [hr.fresh β q] at k; cases k
    unfold Emb.cut
    rw [if_pos h1]
    exact st.ext β e k
  dom := fun β k => by
    unfold Emb.cut at k
    split at k
    · exact st.dom β k
    · exact absurd rfl k
  next := hn
  keep := fun β k1 k2 => by
    show (if β < n then h'.get β else none) = h.get β
    rw [if_pos (by omega)]
    exact st.keep β k1 k2
  frame := st.frame
  own := fun B ⟨β, e, b, k1, k2, k3⟩ => st.own B ⟨β, e, b, (Emb.cut_some k1).2, (AHeap.cut_some k2).2, k3⟩
  size := st.size
  os := st.os
  tape := st.tape
  output := st.output
  drawn := st.drawn
theorem VRM.narrow {ρ σ ρ' : Emb} (le1 : ρ.le σ) (le2 : σ.le ρ') : ∀ {es : List (Value × Value)} {l0 l : List MapEntry}, VRM ρ es l0 → VRM ρ' es l → VRM σ es l
  | [], [], [], _, _ => trivial
  | [], _, _ :: _, _, h => h.elim
  | [], _ :: _, _, h, _ => h.elim
  | _ :: _, [], _, h, _ => h.elim
  | _ :: _, _ :: _, [], _, h => h.elim
  | _ :: _, _ :: _, _ :: _, h0, h => ⟨⟨h.1.1, (h0.1.2.mono le1).narrow le2 h.1.2⟩, VRM.narrow le1 le2 h0.2 h.2⟩
theorem BR.narrow {ρ σ ρ' : Emb} (le1 : ρ.le σ) (le2 : σ.le ρ') {e : Ent} : ∀ {b : ABlk} {o0 o : Obj}, BR ρ e b o0 → BR ρ' e b o → BR σ e b o := by
  intro b o0 o h0 h
  cases b with
  | cells ro sz c T =>
    cases ro <;> cases o0 <;> first | exact h0.elim | skip
    · cases o <;> first | exact h.elim | skip
      obtain ⟨k1, k2, k3, k4, k5, k6⟩ := h
      refine ⟨k1, k2, k3, k4, k5, fun i v hi => ?_⟩
      obtain ⟨x0, _, q0⟩ := h0.2.2.2.2.2 i v hi
      obtain ⟨x, q1, q2⟩ := k6 i v hi
      exact ⟨x, q1, (q0.mono le1).narrow le2 q2⟩
    · cases o <;> first | exact h.elim | skip
      obtain ⟨k1, k2, k6⟩ := h
      refine ⟨k1, k2, fun i v hi => ?_⟩
      obtain ⟨x0, _, q0⟩ := h0.2.2 i v hi
      obtain ⟨x, q1, q2⟩ := k6 i v hi
      exact ⟨x, q1, (q0.mono le1).narrow le2 q2⟩
  | map es =>
    cases o0 <;> first | exact h0.elim | skip
    cases o <;> first | exact h.elim | skip
    obtain ⟨k1, k2, k3, k4⟩ := h
    exact ⟨k1, k2, VRM.narrow le1 le2 h0.2.2.1 k3, k4⟩
  | loop st pe sz T ps as bo =>
    cases o0 <;> first | exact h0.elim | skip
    cases o <;> first | exact h.elim | skip
    obtain ⟨k1, k2, k3, k4, k5, k6, k7, k8, k9⟩ := h
    obtain ⟨_, _, _, _, _, _, _, _, q9⟩ := h0
    exact ⟨k1, k2, k3, k4, k5, k6, k7, k8, fun t => ((q9 t).mono le1).narrow le2 (k9 t)⟩
/-- What was made is forgotten but for its first block, of which it is known that it holds numbers. -/
theorem Step.forget {ρ ρ' : Emb} {h h' : AHeap} {w w' : World} (hr : HR ρ h w) (st : Step D ρ ρ' h h' w w') (hs : ∀ β, β < h.next → h'.get β = h.get β) {sz : Nat} {T : TypeId} {L : List Value} (hL : ∀ v ∈ L, ∃ (k : IntKind) (n : Int), v = .int k n) (hb : h'.get h.next = some (.cells false sz L T)) :
    Step D ρ (ρ'.cut (h.next + 1)) h (h'.cut (h.next + 1)) w w' := by
  refine st.cut hr _ (by omega) fun β b e o hβ k1 k2 k3 k4 => ?_
  have le2 : (ρ'.cut (h.next + 1)).le ρ' := fun β e k => (Emb.cut_some k).2
  by_cases hlt : β < h.next
  · have h0 : ρ β = some e := by
      rcases st.dom β (by rw [k1]; simp) with q | q
      · obtain ⟨e0, he0⟩ := Option.ne_none_iff_exists'.1 q
        have := st.ext β e0 he0
        rw [k1] at this
        obtain rfl := Option.some.inj this
        exact he0
      · omega
    rw [hs β hlt] at k2
    obtain ⟨o0, _, q2⟩ := hr.blk β e b h0 k2
    refine BR.narrow (ρ := ρ) (fun γ f k => ?_) le2 q2 k4
    have h1 : γ < h.next := by
      rcases Nat.lt_or_ge γ h.next with q | q
      · exact q
      · rw [hr.fresh γ q] at k; cases k
    unfold Emb.cut
    rw [if_pos (by omega)]
    exact st.ext γ f k
  · obtain rfl : β = h.next := by omega
    rw [hb] at k2
    obtain rfl := Option.some.inj k2
    cases o <;> first | exact k4.elim | skip
    obtain ⟨q1, q2, q3, q4, q5, q6⟩ := k4
    refine ⟨q1, q2, q3, q4, q5, fun i v hi => ?_⟩
    obtain ⟨x, r1, r2⟩ := q6 i v hi
    obtain ⟨k, n, rfl⟩ := hL v (List.mem_of_getElem? hi)
    refine ⟨x, r1, ?_⟩
    rw [r2.int_inv]
    exact .int k n
/-- A block that a run has made behind all is taken in. -/
theorem Step.adopt {ρ : Emb} {h : AHeap} {w w' : World} (hr : HR ρ h w) (bl : RowKit.Below w.heap.size w w') (hd : D → w.drawn ≤ w'.drawn) {b : ABlk} {o : Obj} {e : Ent} (he : w.heap.size ≤ e.blk) (ho : w'.heap[e.blk]? = some o)
    (hb : ∀ ρ', ρ.le ρ' → ρ' h.next = some e → BR ρ' e b o) : Step D ρ (fun β => if β = h.next then some e else ρ β) h (h.push b) w w' := by
  have st := Step.of_below hr bl hd
  have hext : ρ.le (fun β => if β = h.next then some e else ρ β) := fun β e' k => by
    have := hr.lt k
    show (if β = h.next then some e else ρ β) = some e'; rw [if_neg (by omega)]; exact k
  have hold : ∀ {β f}, β ≠ h.next → (fun β => if β = h.next then some e else ρ β) β = some f → ρ β = some f := fun hne k => by simpa [hne] using k
  have hlt : e.blk < w'.heap.size := by
    rcases Nat.lt_or_ge e.blk w'.heap.size with k | k
    · exact k
    · rw [Array.getElem?_eq_none k] at ho; cases ho
  refine ⟨⟨fun β k => ?_, fun β k => ?_, fun β f k => ?_, fun β f c k1 k2 => ?_, fun β γ f g c d k1 k2 k3 k4 k5 k6 => ?_⟩, hext, fun β k => ?_, by simp, fun β k0 k1 => ?_, st.frame, fun B k => ?_, st.size, st.os, st.tape, st.output, st.drawn⟩
  · simp only [AHeap.next_push] at k; show (if β = h.next then some e else ρ β) = none; rw [if_neg (by omega)]; exact hr.fresh β (by omega)
  · simp only [AHeap.next_push] at k; rw [AHeap.get_push, if_neg (by omega)]; exact hr.empty β (by omega)
  · by_cases hβ : β = h.next
    · subst hβ; simp at k; subst k; exact hlt
    · exact st.hr.old β f (hold hβ k)
  · by_cases hβ : β = h.next
    · subst hβ
      simp at k1; subst k1
      simp [AHeap.get_push] at k2; subst k2
      exact ⟨o, ho, hb _ hext (by simp)⟩
    · have k1' := hold hβ k1
      rw [AHeap.get_push, if_neg hβ] at k2
      obtain ⟨o', ho', hb'⟩ := st.hr.blk β f c k1' k2
      exact ⟨o', ho', hb'.mono hext⟩
  · by_cases hβ : β = h.next <;> by_cases hγ : γ = h.next
    · rw [hβ, hγ]
    · subst hβ; simp at k1; subst k1
      have := hr.old γ g (hold hγ k2); omega
    · subst hγ; simp at k2; subst k2
      have := hr.old β f (hold hβ k1); omega
    · rw [AHeap.get_push, if_neg hβ] at k3
      rw [AHeap.get_push, if_neg hγ] at k4
      exact st.hr.inj β γ f g c d (hold hβ k1) (hold hγ k2) k3 k4 k5 k6
  · by_cases hβ : β = h.next
    · right; omega
    · left; simpa [hβ] using k
  · rw [AHeap.get_push, if_neg (by omega)]
  · obtain ⟨β, f, c, k1, k2, k3, k4⟩ := k
    by_cases hβ : β = h.next
    · subst hβ; simp at k1; subst k1; right; omega
    · rw [AHeap.get_push, if_neg hβ] at k2
      exact .inl ⟨β, f, c, hold hβ k1, k2, k3, k4⟩
end Go.Ox
