/-
 THE ABSTRACT HEAP CUT: what was made behind a place is forgotten. CONDITIONS: none.
-/
import Derived.Test.YtfcajloeknedeaaGreatOxMo
set_option linter.unusedSimpArgs false
set_option linter.unusedVariables false
namespace Go.Ox
variable {D : Prop}

def Emb.cut (n : Nat) (ρ : Emb) : Emb := fun β => if β < n then ρ β else none
def AHeap.cut (n : Nat) (h : AHeap) : AHeap := ⟨fun β => if β < n then h.get β else none, n⟩
theorem Emb.cut_some {n : Nat} {ρ : Emb} {β : Nat} {e : Ent} (h : ρ.cut n β = some e) : β < n ∧ ρ β = some e := by
 unfold Emb.cut at h
 split at h
 ·rename_i k; exact ⟨k, h⟩
 ·cases h
theorem AHeap.cut_some {n : Nat} {h : AHeap} {β : Nat} {b : ABlk} (k : (h.cut n).get β = some b) : β < n ∧ h.get β = some b := by
 unfold AHeap.cut at k
 simp only at k
 split at k
 ·rename_i q; exact ⟨q, k⟩
 ·cases k
theorem Step.cut {ρ ρ' : Emb} {h h' : AHeap} {w w' : World} (hr : HR ρ h w) (st : Step D ρ ρ' h h' w w') (n : Nat) (hn : h.next ≤ n)
  (ok : ∀ β b e o, β < n → ρ' β = some e → h'.get β = some b → w'.heap[e.blk]? = some o → BR ρ' e b o → BR (ρ'.cut n) e b o) : Step D ρ (ρ'.cut n) h (h'.cut n) w w' where
 hr := {
  fresh := fun β k => by unfold Emb.cut; rw [if_neg (by show ¬ β < n; have : n ≤ β := k; omega)]
  empty := fun β k => by show (if β < n then h'.get β else none) = none; rw [if_neg (by have : n ≤ β := k; omega)]
  old := fun β e k => st.hr.old β e (Emb.cut_some k).2
  blk := fun β e b k1 k2 => by
   obtain ⟨q1, q2⟩ := Emb.cut_some k1
   obtain ⟨_, q3⟩ := AHeap.cut_some k2
   obtain ⟨o, h1, h2⟩ := st.hr.blk β e b q2 q3
   exact ⟨o, h1, ok β b e o q1 q2 q3 h1 h2⟩
  inj := fun β γ e f b c k1 k2 k3 k4 k5 k6 => st.hr.inj β γ e f b c (Emb.cut_some k1).2 (Emb.cut_some k2).2 (AHeap.cut_some k3).2 (AHeap.cut_some k4).2 k5 k6 }
 ext := fun β e k => by
  have h1 : β < n := by
   rcases Nat.lt_or_ge β h.next with q | q
   ·omega
   ·rw [hr.fresh β q] at k; cases k
  unfold Emb.cut
  rw [if_pos h1]
  exact st.ext β e k
 dom := fun β k => by
  unfold Emb.cut at k
  split at k
  ·exact st.dom β k
  ·exact absurd rfl k
 next := hn
 keep := fun β k1 k2 => by
  show (if β < n then h'.get β else none) = h.get β
  rw [if_pos (by omega)]
  exact st.keep β k1 k2
 frame := st.frame
 own := fun B ⟨β, e, b, k1, k2, k3⟩ => st.own B ⟨β, e, b, (Emb.cut_some k1).2, (AHeap.cut_some k2).2, k3⟩
 size := st.size
 os := st.os
 tape := st.tape
 output := st.output
 drawn := st.drawn
/-- A block that a run has made behind all is taken in. -/
theorem Step.adopt {ρ : Emb} {h : AHeap} {w w' : World} (hr : HR ρ h w) (bl : RowKit.Below w.heap.size w w') (hd : D → w.drawn ≤ w'.drawn) {b : ABlk} {o : Obj} {e : Ent} (he : w.heap.size ≤ e.blk) (ho : w'.heap[e.blk]? = some o)
  (hb : ∀ ρ', ρ.le ρ' → ρ' h.next = some e → BR ρ' e b o) : Step D ρ (fun β => if β = h.next then some e else ρ β) h (h.push b) w w' := by
 have st := Step.of_below hr bl hd
 have hext : ρ.le (fun β => if β = h.next then some e else ρ β) := fun β e' k => by
  have := hr.lt k
  show (if β = h.next then some e else ρ β) = some e'; rw [if_neg (by omega)]; exact k
 have hold : ∀ {β f}, β ≠ h.next → (fun β => if β = h.next then some e else ρ β) β = some f → ρ β = some f := fun hne k => by simpa [hne] using k
 have hlt : e.blk < w'.heap.size := by
  rcases Nat.lt_or_ge e.blk w'.heap.size with k | k
  ·exact k
  ·rw [Array.getElem?_eq_none k] at ho; cases ho
 refine ⟨⟨fun β k => ?_, fun β k => ?_, fun β f k => ?_, fun β f c k1 k2 => ?_, fun β γ f g c d k1 k2 k3 k4 k5 k6 => ?_⟩, hext, fun β k => ?_, by simp, fun β k0 k1 => ?_, st.frame, fun B k => ?_, st.size, st.os, st.tape, st.output, st.drawn⟩
 ·simp only [AHeap.next_push] at k; show (if β = h.next then some e else ρ β) = none; rw [if_neg (by omega)]; exact hr.fresh β (by omega)
 ·simp only [AHeap.next_push] at k; rw [AHeap.get_push, if_neg (by omega)]; exact hr.empty β (by omega)
 ·by_cases hβ : β = h.next
  ·subst hβ; simp at k; subst k; exact hlt
  ·exact st.hr.old β f (hold hβ k)
 ·by_cases hβ : β = h.next
  ·subst hβ
   simp at k1; subst k1
   simp [AHeap.get_push] at k2; subst k2
   exact ⟨o, ho, hb _ hext (by simp)⟩
  ·have k1' := hold hβ k1
   rw [AHeap.get_push, if_neg hβ] at k2
   obtain ⟨o', ho', hb'⟩ := st.hr.blk β f c k1' k2
   exact ⟨o', ho', hb'.mono hext⟩
 ·by_cases hβ : β = h.next <;> by_cases hγ : γ = h.next
  ·rw [hβ, hγ]
  ·subst hβ; simp at k1; subst k1
   have := hr.old γ g (hold hγ k2); omega
  ·subst hγ; simp at k2; subst k2
   have := hr.old β f (hold hβ k1); omega
  ·rw [AHeap.get_push, if_neg hβ] at k3
   rw [AHeap.get_push, if_neg hγ] at k4
   exact st.hr.inj β γ f g c d (hold hβ k1) (hold hγ k2) k3 k4 k5 k6
 ·by_cases hβ : β = h.next
  ·right; omega
  ·left; simpa [hβ] using k
 ·rw [AHeap.get_push, if_neg (by omega)]
 ·obtain ⟨β, f, c, k1, k2, k3, k4⟩ := k
  by_cases hβ : β = h.next
  ·subst hβ; simp at k1; subst k1; right; omega
  ·rw [AHeap.get_push, if_neg hβ] at k2
   exact .inl ⟨β, f, c, hold hβ k1, k2, k3, k4⟩
end Go.Ox
