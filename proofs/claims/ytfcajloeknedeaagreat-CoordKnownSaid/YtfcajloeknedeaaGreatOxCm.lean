/-
 AN ORDER OF NUMBERS, shown by the abstract run in a heap that it only reads: what the shelf's sort asks of it. CONDITIONS: none.
-/
import Derived.Test.YtfcajloeknedeaaGreatOxSk
import Derived.Test.YtfcajloeknedeaaGreatOxP
import Derived.Shelf.SlSortCmp.Kit1
import Derived.Sort.OwnSortedInts
set_option linter.unusedSimpArgs false
set_option linter.unusedVariables false
namespace Go.Ox
open Go.RowKit Go.Sort Go.Proofs

/-- A world in which nothing that was there has turned: the old one, grown. -/
theorem grow_of {w w' : World} (b : RowKit.Below w.heap.size w w') (hd : w.drawn ≤ w'.drawn) : ∃ q os, w' = grow (w.drewN q) os := by
 refine ⟨w'.drawn - w.drawn, w'.heap.extract w.heap.size w'.heap.size, ?_⟩
 have hh : w'.heap = w.heap ++ w'.heap.extract w.heap.size w'.heap.size := by
  apply Array.ext_getElem?
  intro k
  rw [Array.getElem?_append]
  have hs := b.size
  by_cases hk : k < w.heap.size
  ·rw [if_pos hk]; exact b.block k hk
  ·rw [if_neg hk, Array.getElem?_extract]
   by_cases hk2 : k < w'.heap.size
   ·rw [if_pos (by omega), show w.heap.size + (k - w.heap.size) = k by omega]
   ·rw [if_neg (by omega), Array.getElem?_eq_none (by omega)]
 have h1 := b.os
 have h2 := b.tape
 have h3 := b.output
 cases w'
 simp only [grow, World.drewN] at *
 subst h1 h2 h3
 congr 1
 omega

/-- Three blocks that are only read: a closure's, what that one captures, and what stands there. -/
def ordH (f : FuncId) (g : Int) : AHeap := ⟨fun β => match β with
 | 0 => some (.cells true 0 [.func (.func f) #[] #[.pointer (some ⟨1, 0, none⟩)]] 0)
 | 1 => some (.cells true 0 [.pointer (some ⟨2, 0, none⟩)] 0)
 | 2 => some (.cells true 0 [.int .i64 g, .chan (some 0)] 0)
 | _ => none, 3⟩
def ordE (b7 o7 b3 o3 bt ot : Nat) : Emb := fun β => match β with
 | 0 => some ⟨b7, o7, 0, 0⟩
 | 1 => some ⟨b3, o3, 0, 0⟩
 | 2 => some ⟨bt, ot, 0, 0⟩
 | _ => none
/-- .. as they lie in a world. -/
structure OrdW (w : World) (f : FuncId) (g : Int) (b7 o7 b3 o3 bt ot : Nat) : Prop where
 c7 : ∃ d e fz, w.heap[b7]? = some (.cells d e fz) ∧ d[o7]? = some (.func (.func f) #[] #[.pointer (some ⟨b3, o3, none⟩)])
 c3 : ∃ d e fz, w.heap[b3]? = some (.cells d e fz) ∧ d[o3]? = some (.pointer (some ⟨bt, ot, none⟩))
 ct : ∃ d e fz x, w.heap[bt]? = some (.cells d e fz) ∧ d[ot]? = some (.int .i64 g) ∧ d[ot + 1]? = some x ∧ x.oneCell' = true
theorem OrdW.keep {w w' : World} {f : FuncId} {g : Int} {b7 o7 b3 o3 bt ot : Nat} (o : OrdW w f g b7 o7 b3 o3 bt ot) (h7 : w'.heap[b7]? = w.heap[b7]?) (h3 : w'.heap[b3]? = w.heap[b3]?) (ht : w'.heap[bt]? = w.heap[bt]?) : OrdW w' f g b7 o7 b3 o3 bt ot :=
 ⟨by rw [h7]; exact o.c7, by rw [h3]; exact o.c3, by rw [ht]; exact o.ct⟩
theorem OrdW.lt {w : World} {f : FuncId} {g : Int} {b7 o7 b3 o3 bt ot : Nat} (o : OrdW w f g b7 o7 b3 o3 bt ot) : b7 < w.heap.size ∧ b3 < w.heap.size ∧ bt < w.heap.size := by
 obtain ⟨⟨_, _, _, h7, _⟩, ⟨_, _, _, h3, _⟩, ⟨_, _, _, _, ht, _⟩⟩ := o
 exact ⟨(Array.getElem?_eq_some_iff.1 h7).1, (Array.getElem?_eq_some_iff.1 h3).1, (Array.getElem?_eq_some_iff.1 ht).1⟩
theorem OrdW.hr {w : World} {f : FuncId} {g : Int} {b7 o7 b3 o3 bt ot : Nat} (o : OrdW w f g b7 o7 b3 o3 bt ot) : HR (ordE b7 o7 b3 o3 bt ot) (ordH f g) w := by
 have hlt := o.lt
 obtain ⟨⟨d7, e7, f7, h7, k7⟩, ⟨d3, e3, f3, h3, k3⟩, ⟨dt, et, ft, x, ht, kt, kt', hx⟩⟩ := o
 have ptr : ∀ (β : Nat) (e : Ent), ordE b7 o7 b3 o3 bt ot β = some e → VR (ordE b7 o7 b3 o3 bt ot) (.pointer (some ⟨β, 0, none⟩)) (.pointer (some ⟨e.blk, e.off, none⟩)) := fun β e he => by
  have := VR.ptr (ρ := ordE b7 o7 b3 o3 bt ot) ⟨β, 0, none⟩ e he
  simpa using this
 refine ⟨fun β k => ?_, fun β k => ?_, fun β e k => ?_, fun β e b k1 k2 => ?_, fun β γ e f b c k1 k2 k3 k4 k5 k6 => ?_⟩
 ·have k' : 3 ≤ β := k
  match β, k' with
  | n + 3, _ => rfl
 ·have k' : 3 ≤ β := k
  match β, k' with
  | n + 3, _ => rfl
 ·match β, k with
  | 0, k => cases k; exact hlt.1
  | 1, k => cases k; exact hlt.2.1
  | 2, k => cases k; exact hlt.2.2
 ·match β, k1, k2 with
  | 0, k1, k2 =>
   cases k1; cases k2
   refine ⟨_, h7, rfl, rfl, fun i v hi => ?_⟩
   match i, hi with
   | 0, hi =>
    cases hi
    refine ⟨_, k7, ?_⟩
    refine VR.func (.func f) [] [] [_] [_] (fun l h => by cases h) rfl (fun i x y h _ => by cases h) rfl (fun i x y h h' => ?_)
    match i, h, h' with
    | 0, h, h' => cases h; cases h'; exact ptr 1 ⟨b3, o3, 0, 0⟩ rfl
  | 1, k1, k2 =>
   cases k1; cases k2
   refine ⟨_, h3, rfl, rfl, fun i v hi => ?_⟩
   match i, hi with
   | 0, hi => cases hi; exact ⟨_, k3, ptr 2 ⟨bt, ot, 0, 0⟩ rfl⟩
  | 2, k1, k2 =>
   cases k1; cases k2
   refine ⟨_, ht, rfl, rfl, fun i v hi => ?_⟩
   match i, hi with
   | 0, hi => cases hi; exact ⟨_, kt, .int _ _⟩
   | 1, hi => cases hi; exact ⟨_, kt', .top _ hx⟩
 ·match β, k3 with
  | 0, k3 => cases k3; cases k5
  | 1, k3 => cases k3; cases k5
  | 2, k3 => cases k3; cases k5
theorem ordH_ro {f : FuncId} {g : Int} {ρ : Emb} (B : Nat) : ¬ Own ρ (ordH f g) B := by
 rintro ⟨β, e, b, k1, k2, k3, k4⟩
 match β, k2 with
 | 0, k2 => cases k2; cases k3
 | 1, k2 => cases k2; cases k3
 | 2, k2 => cases k2; cases k3

/-- What the shelf's sort asks of an order, from its run in that heap. -/
theorem cmp_lays {P : Program} (hP : Named P) (hm : P.follows .mixedOrders = true) {gc f : FuncId} {g : Int} {cf : Int → Int → Int}
  (wp : ∀ a b, @wpF P (noExt P) (.fn gc) [.int .i64 a, .int .i64 b, .pointer (some ⟨0, 0, none⟩)] (ordH f g) (fun v _ => v = .int .i64 (cf a b)))
  {w : World} {b7 o7 b3 o3 bt ot : Nat} (o : OrdW w f g b7 o7 b3 o3 bt ot) (blk off size : Nat) (h7 : b7 ≠ blk) (h3 : b3 ≠ blk) (ht : bt ≠ blk) :
  CmpLays1 P gc #[.pointer (some ⟨b7, o7, none⟩)] (Value.int .i64) cf blk off size w := by
 intro m os dk hs x y
 have hlt := o.lt
 have kept : ∀ k, k < w.heap.size → k ≠ blk → (sortWorld (Value.int .i64) w blk off m dk os).heap[k]? = w.heap[k]? := fun k hk hne => by
  unfold sortWorld
  rw [heap_grow_old _ _ (by simpa using hk)]
  have : blk ≠ k := fun e => hne e.symm
  simp [putRow, mapBlock, Sort.ahead, Array.getElem?_modify, this]
 have o' := o.keep (kept b7 hlt.1 h7) (kept b3 hlt.2.1 h3) (kept bt hlt.2.2 ht)
 have hv : VRL (ordE b7 o7 b3 o3 bt ot) [.int .i64 x, .int .i64 y, .pointer (some ⟨0, 0, none⟩)] (#[Value.int .i64 x, Value.int .i64 y] ++ #[Value.pointer (some ⟨b7, o7, none⟩)]).toList := by
  refine ⟨.int _ _, .int _ _, ?_, trivial⟩
  have := VR.ptr (ρ := ordE b7 o7 b3 o3 bt ot) ⟨0, 0, none⟩ ⟨b7, o7, 0, 0⟩ rfl
  simpa using this
 refine (wpF_calls (X := noExt P) hP hm (wp x y) hv o'.hr).mono ?_
 rintro e w' ⟨v, h', x', ρ', rfl, rfl, hvx, st⟩
 rw [hvx.int_inv]
 exact ⟨rfl, grow_of (st.below fun B => ordH_ro B) (st.drawn trivial)⟩
end Go.Ox
