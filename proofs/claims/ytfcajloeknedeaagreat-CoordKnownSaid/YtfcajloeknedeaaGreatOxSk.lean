/-
 A map of numbers, as the shelf speaks of it. CONDITIONS: none.
-/
import Derived.Test.YtfcajloeknedeaaGreatOxTr
import Derived.Shelf.SlIterI.Collect
set_option linter.unusedSimpArgs false
set_option linter.unusedVariables false
namespace Go.Ox
variable {D : Prop}
open Go.RowKit Go.Maps Go.WideElems Go.WideShapes

theorem VRM.keys {ρ : Emb} : ∀ {es : List (Value × Value)} {l : List MapEntry}, VRM ρ es l → l.map (·.key) = es.map (·.1)
 | [], [], _ => rfl
 | [], _ :: _, h => h.elim
 | _ :: _, [], h => h.elim
 | _ :: _, _ :: _, h => by rw [List.map_cons, List.map_cons, VRM.keys h.2, h.1.1]
theorem owns_map {P : Program} {ρ : Emb} {h : AHeap} {w : World} (hr : HR ρ h w) {r : Nat} {es : List (Value × Value)} {e : Ent} (hg : h.get r = some (.map es)) (he : ρ r = some e) (L : List Int) (hes : es.map (·.1) = L.map (Value.int .i64))
  (hw : ∀ x ∈ L, (Lit.int .i64 x).wf = true) (hnd : L.Nodup) (hl : L.length ≤ maxLen) {k : TypeId} (hk : P.underlying k = some (.int .i64)) :
  ∃ l : List MapEntry, l.map (·.key) = L.map (Value.int .i64) ∧ w.ownsMap P k (fun _ => some ((.nil : DataW Unit), [])) e.blk L.length (.map ((l.map (rg P k fun _ => some ((.nil : DataW Unit), []))).foldr DataW.insert [])) := by
 obtain ⟨o, ho, hb⟩ := hr.blk _ _ _ he hg
 cases o <;> first | exact hb.elim | skip
 rename_i es' clock
 obtain ⟨_, _, q3, q4, q5⟩ := hb
 have hkeys : es'.toList.map (·.key) = L.map (Value.int .i64) := by rw [← hes]; exact VRM.keys q3
 refine ⟨es'.toList, hkeys, es', clock, ho, ⟨?_, ⟨q4, q5, ?_⟩, fun x hx => ?_⟩, ?_, rfl⟩
 ·have := congrArg List.length hkeys
  simp at this
  omega
 ·rw [hkeys]; exact List.Pairwise.map _ (fun a b hab e => hab (by simpa using e)) hnd
 ·have : x.key ∈ es'.toList.map (·.key) := List.mem_map_of_mem hx
  rw [hkeys] at this
  obtain ⟨n, hn, e1⟩ := List.mem_map.1 this
  refine ⟨(.int .i64 n, .nil), ?_⟩
  simp only [rd, ← e1, keyOf_int_mk hk (hw n hn), Option.bind_some, Option.map_some]
 ·have := congrArg List.length hkeys
  simp at this
  omega
/-- HR's map of numbers: the shelf's. -/
theorem owns_ints {P : Program} {ρ : Emb} {h : AHeap} {w : World} (hr : HR ρ h w) {r : Nat} {es : List (Value × Value)} {e : Ent} (hg : h.get r = some (.map es)) (he : ρ r = some e) (L : List Int) (hes : es.map (·.1) = L.map (Value.int .i64))
  (hw : ∀ x ∈ L, (Lit.int .i64 x).wf = true) (hnd : L.Nodup) (hl : L.length ≤ maxLen) {k : TypeId} (hk : P.underlying k = some (.int .i64)) :
  ∃ D : DataW Unit, w.ownsMap P k (fun _ => some ((.nil : DataW Unit), [])) e.blk L.length D ∧ (intKeys D).Perm L ∧ Maps.size D = L.length := by
 obtain ⟨l, hkeys, ho⟩ := owns_map (P := P) hr hg he L hes hw hnd hl hk
 have hr1 : ∀ x ∈ l, ∃ n ∈ L, x.key = .int .i64 n ∧ rg P k (fun _ => some ((.nil : DataW Unit), [])) x = (.int .i64 n, .nil) := by
  intro x hx
  have : x.key ∈ l.map (·.key) := List.mem_map_of_mem hx
  rw [hkeys] at this
  obtain ⟨n, hn, e1⟩ := List.mem_map.1 this
  exact ⟨n, hn, e1.symm, rg_of (by simp only [rd, ← e1, keyOf_int_mk hk (hw n hn), Option.bind_some, Option.map_some])⟩
 have hmap : (l.map (rg P k fun _ => some ((.nil : DataW Unit), []))).map (fun p => intOf p.1) = L := by
  have h2 : ∀ (l : List MapEntry) (L : List Int), l.map (·.key) = L.map (Value.int .i64) → (∀ x ∈ l, ∃ n, x.key = .int .i64 n ∧ rg P k (fun _ => some ((.nil : DataW Unit), [])) x = (.int .i64 n, .nil)) → (l.map (rg P k fun _ => some ((.nil : DataW Unit), []))).map (fun p => intOf p.1) = L := by
   intro l
   induction l with
   | nil => intro L h _; cases L with
    | nil => rfl
    | cons a L => cases h
   | cons x l ih => intro L h hx; cases L with
    | nil => cases h
    | cons a L =>
     simp only [List.map_cons, List.cons.injEq] at h
     obtain ⟨n, k1, k2⟩ := hx x (by simp)
     rw [h.1] at k1
     simp only [Value.int.injEq, true_and] at k1
     subst k1
     simp only [List.map_cons, k2]
     rw [← ih L h.2 fun y hy => hx y (by simp [hy])]
     simp only [intOf]
  exact h2 l L hkeys fun x hx => let ⟨n, _, h1, h3⟩ := hr1 x hx; ⟨n, h1, h3⟩
 refine ⟨_, ho, ?_, ?_⟩
 ·have := (sorted_perm (l.map (rg P k fun _ => some ((.nil : DataW Unit), [])))).map fun p => intOf p.1
  rw [hmap] at this
  exact this
 ·have h1 := (sorted_perm (l.map (rg P k fun _ => some ((.nil : DataW Unit), [])))).length_eq
  have h2 := congrArg List.length hmap
  simp only [List.length_map] at h1 h2
  show (List.foldr DataW.insert [] _).length = _
  rw [h1, h2]
/-- A slice of numbers that a machine-level run has made is taken in. -/
theorem adopt_row {ρ : Emb} {h : AHeap} {w w' : World} (hr : HR ρ h w) (bl : RowKit.Below w.heap.size w w') (hd : D → w.drawn ≤ w'.drawn) {T : TypeId} {v : Value} (xs : List Int) (ho : w'.ownsRow w.heap.size T 1 v xs.length (xs.map (Value.int .i64))) (hne : xs ≠ []) :
  ∃ ρ', Step D ρ ρ' h (h.push (.cells false 1 (xs.map (Value.int .i64)) T)) w w' ∧ VR ρ' (.slice (some ⟨h.next, 0, none⟩) xs.length (big + xs.length)) v := by
 obtain ⟨_, ⟨_, h0⟩ | ⟨g, cap, cur, rfl, k1, k2, k3, k4, k5, k6⟩⟩ := ho
 ·exact absurd (List.length_eq_zero_iff.1 h0) hne
 have st := Step.adopt (b := .cells false 1 (xs.map (Value.int .i64)) T) (e := ⟨g, 0, cur.size, 1⟩) hr bl hd k1 k2 (fun ρ' hle _ => ⟨⟨rfl, fun hz => by cases hz⟩, rfl, rfl, by simp, by simp; omega, fun i v hi => by
  rw [← k6] at hi
  have hi' := List.getElem?_eq_some_iff.1 hi
  obtain ⟨hlt, _⟩ := hi'
  have hlt2 : i < xs.length * 1 := by simp at hlt; omega
  rw [List.getElem?_take, if_pos hlt2] at hi
  refine ⟨v, by simpa using hi, ?_⟩
  have hm : v ∈ xs.map (Value.int .i64) := by rw [← k6]; exact List.mem_of_getElem? (by rw [List.getElem?_take, if_pos hlt2]; exact hi)
  obtain ⟨n, _, rfl⟩ := List.mem_map.1 hm
  exact .int _ _⟩)
 refine ⟨_, st, ?_⟩
 have := VR.slice (ρ := fun β => if β = h.next then some ⟨g, 0, cur.size, 1⟩ else ρ β) ⟨h.next, 0, none⟩ ⟨g, 0, cur.size, 1⟩ xs.length (big + xs.length) cap (by simp) (by rw [if_neg (by omega)]; omega) (fun _ => by show 0 + cap * 1 ≤ cur.size; omega) k3
 simpa using this
end Go.Ox
