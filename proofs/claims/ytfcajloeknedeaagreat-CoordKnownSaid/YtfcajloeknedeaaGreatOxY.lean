/-
 ARGUMENTS THAT ARE READ: what a reading of the arguments tells, as a heap of blocks that nobody may write.
-/
import Derived.Test.YtfcajloeknedeaaGreatOxX
import Derived.Carry
import Derived.ChangeSame
set_option linter.unusedSimpArgs false
set_option linter.unusedVariables false
namespace Go.Ox
open Go.ChangeShapes Go.RowKit

def AllRo (h : AHeap) : Prop := ∀ β b, h.get β = some b → b.rw = false

section
variable {H : Type} {enc : TypeId × Value → H} {P : Program} {W : World}

/-- A new block that nobody may write. -/
theorem HR.lend {ρ : Emb} {h : AHeap} (hr : HR ρ h W) (ro : AllRo h) {B off : Nat} {d : Array Value} {T : TypeId} {fz : Nat × Nat} (hB : W.heap[B]? = some (.cells d T fz)) {C : List Value} (cap : Nat) (E : TypeId)
  (hc : ∀ i v, C[i]? = some v → ∃ x, d[off + i]? = some x ∧ VR ρ v x) :
  ∃ ρ' : Emb, HR ρ' (h.push (.cells true 0 C E)) W ∧ AllRo (h.push (.cells true 0 C E)) ∧ ρ.le ρ' ∧ ρ' h.next = some ⟨B, off, cap, 0⟩ := by
 have hlt : B < W.heap.size := (Array.getElem?_eq_some_iff.1 hB).1
 have hle : ρ.le (fun γ => if γ = h.next then some ⟨B, off, cap, 0⟩ else ρ γ) := fun β e k => by
  have : β < h.next := hr.lt k
  simp only; rw [if_neg (by omega)]; exact k
 have hro : AllRo (h.push (.cells true 0 C E)) := fun β b k => by
  simp only [AHeap.get_push] at k
  split at k
  ·cases k; rfl
  ·exact ro β b k
 refine ⟨_, ⟨?_, ?_, ?_, ?_, ?_⟩, hro, hle, by simp⟩
 ·intro β k
  have : h.next + 1 ≤ β := k
  rw [if_neg (by omega)]; exact hr.fresh β (by omega)
 ·intro β k
  have : h.next + 1 ≤ β := k
  simp only [AHeap.get_push]; rw [if_neg (by omega)]; exact hr.empty β (by omega)
 ·intro β e k
  split at k
  ·cases k; exact hlt
  ·exact hr.old β e k
 ·intro β e b k l
  simp only [AHeap.get_push] at l
  by_cases hβ : β = h.next
  ·rw [if_pos hβ] at k l
   cases k; cases l
   refine ⟨_, hB, rfl, rfl, fun i v hv => ?_⟩
   obtain ⟨x, h1, h2⟩ := hc i v hv
   exact ⟨x, h1, h2.mono hle⟩
  ·rw [if_neg hβ] at k l
   obtain ⟨o, h1, h2⟩ := hr.blk β e b k l
   exact ⟨o, h1, h2.mono hle⟩
 ·intro β γ e f b c _ _ k _ l _
  have := hro β b k
  rw [this] at l; cases l

/-- What readings of one type tell. -/
structure IsImp {α : Type} (enc : TypeId × Value → H) (P : Program) (W : World) (e : TypeId) (R : AHeap → List Value → α → Prop) : Prop where
 mono : ∀ h h' xs a, R h xs a → Fr h h' [] → R h' xs a
 imp : ∀ fuel cs x, DataW.trod enc P W 0 (fun _ => true) true fuel e cs = some x → ∀ ρ h, HR ρ h W → AllRo h → ∃ a xs ρ' h', HR ρ' h' W ∧ AllRo h' ∧ ρ.le ρ' ∧ Fr h h' [] ∧ VRL ρ' xs cs ∧ R h' xs a

theorem IsImp.conv {α β : Type} {e : TypeId} {R : AHeap → List Value → α → Prop} {R' : AHeap → List Value → β → Prop} (hi : IsImp enc P W e R) (hc : ∀ h xs z, R h xs z → ∃ b, R' h xs b) (hm : ∀ h h' xs a, R' h xs a → Fr h h' [] → R' h' xs a) : IsImp enc P W e R' :=
 ⟨hm, fun fuel cs x hx ρ h hr ro => let ⟨_, xs, ρ', h', h1, h2, h3, h4, h5, h6⟩ := hi.imp fuel cs x hx ρ h hr ro; let ⟨b, hb⟩ := hc _ _ _ h6; ⟨b, xs, ρ', h', h1, h2, h3, h4, h5, hb⟩⟩

def InK (k : IntKind) (n : Int) : Prop := k.min ≤ n ∧ n ≤ k.max
def IntR (k : IntKind) (_ : AHeap) (xs : List Value) (n : Int) : Prop := xs = [.int k n] ∧ InK k n

theorem IsImp.int {t : TypeId} {k : IntKind} (ht : P.underlying t = some (.int k)) : IsImp enc P W t (IntR k) := by
 refine ⟨fun _ _ _ _ h _ => h, fun fuel cs x hx ρ h hr ro => ?_⟩
 cases fuel with
 | zero => simp [DataW.trod] at hx
 | succ n =>
  rw [DataW.trod_step] at hx
  unfold DataW.trodStep at hx
  rw [ht] at hx
  match cs, hx with
  | [.int k' m], hx =>
   simp only at hx
   split at hx
   ·rename_i hk
    obtain ⟨rfl, hw⟩ := hk
    simp only [Lit.wf, Bool.and_eq_true, decide_eq_true_eq] at hw
    exact ⟨m, [.int k' m], ρ, h, hr, ro, Emb.le_refl ρ, Fr.refl h [], VRL.one (.int k' m), rfl, hw⟩
   ·cases hx

/-- A slice, whose elements are known. -/
def SlR {α : Type} (R : AHeap → List Value → α → Prop) (e : TypeId) (h : AHeap) (xs : List Value) (A : List α) : Prop :=
 ∃ a cap, xs = [.slice a A.length cap] ∧ A.length ≤ cap ∧ cap < 9223372036854775808 ∧ (A = [] ∨ ∃ (b : Nat) (rows : List (List Value)), a = some ⟨b, 0, none⟩ ∧ b < h.next ∧ h.get b = some (.cells true 0 rows.flatten e) ∧ rows.length = A.length ∧ ∀ (i : Nat) r x, rows[i]? = some r → A[i]? = some x → R h r x) ∧ (a = none → cap = 0) ∧ (∀ x, a = some x → ∃ b, x = ⟨b, 0, none⟩)

theorem imps {α : Type} {e : TypeId} {R : AHeap → List Value → α → Prop} (hi : IsImp enc P W e R) {fuel : Nat} : ∀ (css : List (List Value)), (∀ cs ∈ css, ∃ x, DataW.trod enc P W 0 (fun _ => true) true fuel e cs = some x) → ∀ ρ h, HR ρ h W → AllRo h →
  ∃ (A : List α) (rows : List (List Value)) (ρ' : Emb) (h' : AHeap), HR ρ' h' W ∧ AllRo h' ∧ ρ.le ρ' ∧ Fr h h' [] ∧ A.length = css.length ∧ rows.length = css.length ∧ (∀ (i : Nat) r x, rows[i]? = some r → A[i]? = some x → R h' r x) ∧ (∀ (i : Nat) r c, rows[i]? = some r → css[i]? = some c → VRL ρ' r c)
 | [], _, ρ, h, hr, ro => ⟨[], [], ρ, h, hr, ro, Emb.le_refl ρ, Fr.refl h [], rfl, rfl, fun _ _ _ k => by simp at k, fun _ _ _ k => by simp at k⟩
 | cs :: css, hx, ρ, h, hr, ro => by
  obtain ⟨x, hx0⟩ := hx cs (by simp)
  obtain ⟨a, xs, ρ1, h1, k1, k2, k3, k4, k5, k6⟩ := hi.imp fuel cs x hx0 ρ h hr ro
  obtain ⟨A, rows, ρ2, h2, l1, l2, l3, l4, l5, l6, l7, l8⟩ := imps hi css (fun c hc => hx c (by simp [hc])) ρ1 h1 k1 k2
  refine ⟨a :: A, xs :: rows, ρ2, h2, l1, l2, Emb.le_trans k3 l3, k4.trans l4 (fun _ k => k) (fun _ _ k => k), by simp [l5], by simp [l6], ?_, ?_⟩
  ·intro i r x hr hx
   cases i with
   | zero => simp at hr hx; subst hr hx; exact hi.mono _ _ _ _ k6 l4
   | succ i => exact l7 i r x (by simpa using hr) (by simpa using hx)
  ·intro i r c hr hc
   cases i with
   | zero => simp at hr hc; subst hr hc; exact k5.mono l3
   | succ i => exact l8 i r c (by simpa using hr) (by simpa using hc)

theorem flatten_rel {k : Nat} {ρ : Emb} : ∀ (rows css : List (List Value)), rows.length = css.length → (∀ c ∈ css, c.length = k) → (∀ (i : Nat) r c, rows[i]? = some r → css[i]? = some c → VRL ρ r c) →
  ∀ (m : Nat) v, rows.flatten[m]? = some v → ∃ (i j : Nat) (c : List Value) (x : Value), css[i]? = some c ∧ c[j]? = some x ∧ m = i * k + j ∧ j < k ∧ VR ρ v x
 | [], _, _, _, _, m, v, hv => by simp at hv
 | r :: rows, [], hl, _, _, _, _, _ => by simp at hl
 | r :: rows, c :: css, hl, hk, hr, m, v, hv => by
  have h0 : VRL ρ r c := hr 0 r c rfl rfl
  have hc : c.length = k := hk c (by simp)
  have hrl : r.length = k := by rw [h0.length, hc]
  rw [List.flatten_cons] at hv
  by_cases hm : m < k
  ·rw [List.getElem?_append_left (by omega)] at hv
   obtain ⟨x, h1, h2⟩ := h0.get hv
   exact ⟨0, m, c, x, rfl, h1, by simp, hm, h2⟩
  ·rw [List.getElem?_append_right (by omega), hrl] at hv
   obtain ⟨i, j, c', x, h1, h2, h3, h4, h5⟩ := flatten_rel rows css (by simpa using hl) (fun c hc => hk c (by simp [hc])) (fun i r c a b => hr (i + 1) r c (by simpa using a) (by simpa using b)) (m - k) v hv
   exact ⟨i + 1, j, c', x, by simpa using h1, h2, by rw [Nat.succ_mul]; omega, h4, h5⟩

theorem add_at {a : Addr} (hs : a.spot = none) (n : Nat) : a.add n = ⟨a.block, a.off + n, none⟩ := by
 obtain ⟨b, o, s⟩ := a
 simp at hs; subst hs
 unfold Addr.add
 split
 ·rename_i h; subst h; rfl
 ·rfl

theorem IsImp.slice {α : Type} {t e : TypeId} {k : Nat} {R : AHeap → List Value → α → Prop} (ht : P.underlying t = some (.slice e)) (hk : P.cellsOf e = k + 1) (hi : IsImp enc P W e R) : IsImp enc P W t (SlR R e) := by
 constructor
 ·rintro h h' xs A ⟨a, cap, h1, h2, h3, h4, h5⟩ hf
  refine ⟨a, cap, h1, h2, h3, h4.imp id ?_, h5⟩
  rintro ⟨b, rows, g1, g2, g3, g4, g5⟩
  exact ⟨b, rows, g1, Nat.lt_of_lt_of_le g2 hf.next, hf.at g3 g2 (by simp), g4, fun i r x p q => hi.mono _ _ _ _ (g5 i r x p q) hf⟩
 ·intro fuel cs x hx ρ h hr ro
  cases fuel with
  | zero => simp [DataW.trod] at hx
  | succ n =>
   rw [DataW.trod_step] at hx
   unfold DataW.trodStep at hx
   rw [ht] at hx
   match cs, hx with
   | [.slice none 0 0], _ => exact ⟨[], [.slice none 0 0], ρ, h, hr, ro, Emb.le_refl ρ, Fr.refl h [], VRL.one (.sliceNil 0 0), none, 0, rfl, by simp, by simp, .inl rfl, fun _ => rfl, fun _ k => (by cases k)⟩
   | [.slice (some a) len cap], hx =>
    simp only [hk] at hx
    split at hx
    ·rename_i hc
     obtain ⟨_, hlc, hcm⟩ := hc
     simp only [maxLen] at hcm
     cases hel : ((List.range len).mapM fun i => (W.cells? 0 (a.add (i * (k + 1))) (k + 1)).bind (DataW.trod enc P W 0 (fun _ => true) true n e)) with
     | none => rw [hel] at hx; cases hx
     | some elems =>
      rw [hel] at hx
      simp only [Option.bind_some, if_true] at hx
      cases hre : ((List.range (cap - len)).mapM fun j => (W.cells? 0 (a.add ((len + j) * (k + 1))) (k + 1)).bind (DataW.trod enc P W 0 (fun _ => true) true n e)) with
      | none => rw [hre] at hx; cases hx
      | some rest =>
       have hel' : ∀ i, i < len → ∃ cs x, W.cells? 0 (a.add (i * (k + 1))) (k + 1) = some cs ∧ DataW.trod enc P W 0 (fun _ => true) true n e cs = some x := fun i hi' => by
        have h1 := mapM_some_get hel i i (by simp [hi'])
        have hlen := mapM_some_length hel
        rw [List.getElem?_eq_getElem (by rw [hlen]; simpa using hi')] at h1
        cases hcs : W.cells? 0 (a.add (i * (k + 1))) (k + 1) with
        | none => rw [hcs] at h1; cases h1
        | some cs => rw [hcs] at h1; exact ⟨cs, _, rfl, h1⟩
       by_cases hcap : cap = 0
       ·have hl0 : len = 0 := by omega
        subst hcap; subst hl0
        exact ⟨[], [.slice (some ⟨0, 0, none⟩) 0 0], ρ, h, hr, ro, Emb.le_refl ρ, Fr.refl h [], VRL.one (.sliceEmpty _ _ 0 (.inl rfl)), some ⟨0, 0, none⟩, 0, rfl, by simp, by simp, .inl rfl, fun k => (by cases k), fun _ k => (by cases k; exact ⟨0, rfl⟩)⟩
       ·-- the block
        have hcell : ∃ v, W.cell? a = some v := by
         have : ∃ cs, W.cells? 0 (a.add (0 * (k + 1))) (k + 1) = some cs := by
          by_cases hl : 0 < len
          ·obtain ⟨cs, _, h1, _⟩ := hel' 0 hl; exact ⟨cs, h1⟩
          ·have h1 := mapM_some_get hre 0 0 (by rw [List.getElem?_range (by omega)])
           have hlen := mapM_some_length hre
           rw [List.getElem?_eq_getElem (by rw [hlen]; simp; omega)] at h1
           have e0 : len + 0 = 0 := by omega
           simp only [e0] at h1
           cases hcs : W.cells? 0 (a.add (0 * (k + 1))) (k + 1) with
           | none => rw [hcs] at h1; cases h1
           | some cs => exact ⟨cs, rfl⟩
         obtain ⟨cs, h1⟩ := this
         obtain ⟨_, h2, h3⟩ := World.cells?_some h1
         have h4 := h3 0 (by omega)
         rw [List.getElem?_eq_getElem (by omega)] at h4
         exact ⟨_, by simpa [Addr.add] using h4⟩
        obtain ⟨v0, hv0⟩ := hcell
        have hspot : a.spot = none := World.cell?_spot hv0
        obtain ⟨d, T, fz, hB⟩ : ∃ d T fz, W.heap[a.block]? = some (.cells d T fz) := by
         unfold World.cell? at hv0
         split at hv0
         ·rename_i c T fz h9; exact ⟨_, _, _, h9⟩
         ·cases hv0
        have hcd : ∀ m, W.cell? ⟨a.block, m, none⟩ = d[m]? := fun m => by unfold World.cell?; simp [hB]
        obtain ⟨css, hcl, hcs⟩ : ∃ css : List (List Value), css.length = len ∧ ∀ i c, css[i]? = some c → W.cells? 0 (a.add (i * (k + 1))) (k + 1) = some c ∧ ∃ x, DataW.trod enc P W 0 (fun _ => true) true n e c = some x := by
         refine ⟨(List.range len).map fun i => (W.cells? 0 (a.add (i * (k + 1))) (k + 1)).getD [], by simp, fun i c hc => ?_⟩
         simp only [List.getElem?_map, Option.map_eq_some_iff] at hc
         obtain ⟨j, hj, rfl⟩ := hc
         obtain ⟨hj1, hj2⟩ := List.getElem?_eq_some_iff.1 hj
         simp at hj1 hj2
         subst hj2
         obtain ⟨cs, x, h1, h2⟩ := hel' i hj1
         rw [h1]; exact ⟨rfl, x, h2⟩
        obtain ⟨A, rows, ρ1, h1, l1, l2, l3, l4, l5, l6, l7, l8⟩ := imps hi css (fun c hc => by
         obtain ⟨i, hi1⟩ := List.mem_iff_getElem?.1 hc
         exact (hcs i c hi1).2) ρ h hr ro
        have hflat : ∀ i v, rows.flatten[i]? = some v → ∃ x, d[a.off + i]? = some x ∧ VR ρ1 v x := fun m v hv => by
         obtain ⟨i, j, c, x, g1, g2, g3, g4, g5⟩ := flatten_rel (k := k + 1) rows css (by omega) (fun c hc => by
          obtain ⟨i, hi1⟩ := List.mem_iff_getElem?.1 hc
          exact (World.cells?_some (hcs i c hi1).1).2.1) l8 m v hv
         obtain ⟨_, h2, h3⟩ := World.cells?_some (hcs i c g1).1
         have h4 := h3 j g4
         rw [add_at hspot, add_at rfl, hcd, g2] at h4
         exact ⟨x, by rw [g3, ← h4]; congr 1; simp [Nat.add_assoc], g5⟩
        obtain ⟨ρ2, q1, q2, q3, q4⟩ := HR.lend (B := a.block) (off := a.off) l1 l2 hB 0 e hflat
        have hAl : A.length = len := by omega
        have hcb : cap < big := by simp only [big]; omega
        refine ⟨A, [.slice (some ⟨h1.next, 0, none⟩) A.length cap], ρ2, _, q1, q2, Emb.le_trans l3 q3, (l4.to_push _), VRL.one ?_, some ⟨h1.next, 0, none⟩, cap, rfl, by omega, by omega, .inr ⟨h1.next, rows, rfl, by simp, by simp [AHeap.get_push], by omega, fun i r x p q => hi.mono _ _ _ _ (l7 i r x p q) (Fr.push h1 _)⟩, fun k => (by cases k), fun _ k => (by cases k; exact ⟨h1.next, rfl⟩)⟩
        have e1 : (some a : Option Addr) = some ⟨a.block, a.off + 0, none⟩ := by obtain ⟨b, o, s⟩ := a; simp at hspot; subst hspot; rfl
        rw [hAl, e1]
        exact VR.slice (ρ := ρ2) ⟨h1.next, 0, none⟩ ⟨a.block, a.off, 0, 0⟩ len cap cap q4 (by rw [if_pos hcb]) (by intro k; exact absurd rfl k) hlc
    ·cases hx

/-! ### structs, flat: ints, and other cells, that are not looked at -/
def shGo (P : Program) (r : TypeId → Option (List Bool)) : List Field → Nat → Option (List Bool)
 | [], _ => some []
 | f :: fs, off => match r f.type with
  | some s => if f.offset = off ∧ P.cellsOf f.type = s.length then (match shGo P r fs (off + s.length) with
   | some r => some (s ++ r)
   | none => none) else none
  | none => none
def ishape (P : Program) : Nat → TypeId → Option (List Bool)
 | 0, _ => none
 | n + 1, t => match P.underlying t with
  | some (.int .i64) => some [true]
  | some (.struct fs) => (match shGo P (ishape P n) fs.toList 0 with
   | some s => if P.cellsOf t = s.length then some s else none
   | none => none)
  | some (.slice _) => some [false]
  | some .bool => some [false]
  | some .string => some [false]
  | some (.pointer _) => some [false]
  | some (.map _ _) => some [false]
  | some (.interface _) => some [false]
  | _ => none

abbrev top : Value := .chan (some 0)
def fill : List Bool → List Int → List Value
 | [], _ => []
 | false :: s, ns => top :: fill s ns
 | true :: s, n :: ns => .int .i64 n :: fill s ns
 | true :: s, [] => top :: fill s []
def ShR (s : List Bool) (_ : AHeap) (xs : List Value) (ns : List Int) : Prop := xs = fill s ns ∧ ns.length = (s.filter id).length ∧ ∀ n ∈ ns, InK .i64 n

theorem fill_append : ∀ (s r : List Bool) (ns ms : List Int), ns.length = (s.filter id).length → fill (s ++ r) (ns ++ ms) = fill s ns ++ fill r ms
 | [], r, ns, ms, h => by
  have : ns = [] := List.eq_nil_of_length_eq_zero (by simpa using h)
  subst this; rfl
 | false :: s, r, ns, ms, h => by simp only [List.cons_append, fill, fill_append s r ns ms (by simpa using h)]
 | true :: s, r, [], ms, h => by simp at h
 | true :: s, r, n :: ns, ms, h => by simp only [List.cons_append, fill, fill_append s r ns ms (by simpa using h)]
abbrev ρn : Emb := fun _ => none
theorem ρn_le (ρ : Emb) : Emb.le ρn ρ := fun _ _ k => by cases k

theorem shape_ok : ∀ (n : Nat) (t : TypeId) (s : List Bool), ishape P n t = some s → ∀ (fuel : Nat) (cs : List Value) x, DataW.trod enc P W 0 (fun _ => true) true fuel t cs = some x → ∃ ns : List Int, ns.length = (s.filter id).length ∧ (∀ m ∈ ns, InK .i64 m) ∧ VRL ρn (fill s ns) cs := by
 intro n
 induction n with
 | zero => intro t s h; simp [ishape] at h
 | succ n ih =>
  have hgo : ∀ (fs : List Field) (off : Nat) (s : List Bool), shGo P (ishape P n) fs off = some s → ∀ (fuel : Nat) (cs : List Value) x, off + s.length = cs.length → fs.mapM (fun f => DataW.trod enc P W 0 (fun _ => true) true fuel f.type ((cs.drop f.offset).take (P.cellsOf f.type))) = some x →
    ∃ ns : List Int, ns.length = (s.filter id).length ∧ (∀ m ∈ ns, InK .i64 m) ∧ VRL ρn (fill s ns) (cs.drop off) := by
   intro fs
   induction fs with
   | nil =>
    intro off s h fuel cs x hl _
    simp only [shGo, Option.some.injEq] at h
    subst h
    refine ⟨[], rfl, fun _ k => (by cases k), ?_⟩
    rw [List.drop_eq_nil_of_le (by simp at hl; omega)]
    trivial
   | cons f fs ihf =>
    intro off s h fuel cs x hl hm
    simp only [shGo] at h
    split at h
    ·rename_i s1 hs1
     split at h
     ·rename_i hc
      obtain ⟨ho, hsz⟩ := hc
      split at h
      ·rename_i r hr
       simp only [Option.some.injEq] at h
       subst h
       rw [List.mapM_cons] at hm
       cases h1 : DataW.trod enc P W 0 (fun _ => true) true fuel f.type ((cs.drop f.offset).take (P.cellsOf f.type)) with
       | none => rw [h1] at hm; cases hm
       | some y =>
        rw [h1] at hm
        cases h2 : fs.mapM (fun f => DataW.trod enc P W 0 (fun _ => true) true fuel f.type ((cs.drop f.offset).take (P.cellsOf f.type))) with
        | none => rw [h2] at hm; cases hm
        | some ys =>
         obtain ⟨ns, a1, a2, a3⟩ := ih _ _ hs1 fuel _ y h1
         obtain ⟨ms, b1, b2, b3⟩ := ihf _ _ hr fuel cs ys (by simp at hl; omega) h2
         refine ⟨ns ++ ms, by simp [a1, b1], fun m hm => (List.mem_append.1 hm).elim (a2 m) (b2 m), ?_⟩
         rw [fill_append s1 r ns ms a1]
         rw [ho, hsz] at a3
         have e : cs.drop off = (cs.drop off).take s1.length ++ cs.drop (off + s1.length) := by rw [← List.drop_drop, List.take_append_drop]
         rw [e]
         exact a3.append b3
      ·cases h
     ·cases h
    ·cases h
  intro t s h fuel cs x hx
  cases fuel with
  | zero => simp [DataW.trod] at hx
  | succ m =>
   rw [DataW.trod_step] at hx
   unfold DataW.trodStep at hx
   simp only [ishape] at h
   have one : ∀ v : Value, cs = [v] → v.oneCell' = true → s = [false] → ∃ ns : List Int, ns.length = (s.filter id).length ∧ (∀ m ∈ ns, InK .i64 m) ∧ VRL ρn (fill s ns) cs := by
    rintro v rfl ho rfl
    exact ⟨[], rfl, fun _ k => (by cases k), VRL.one (.top v ho)⟩
   cases hu : P.underlying t with
   | none => rw [hu] at h; cases h
   | some d =>
    rw [hu] at h hx
    cases d with
    | int k =>
     cases k <;> simp only at h <;> try (cases h; done)
     simp only [Option.some.injEq] at h
     subst h
     match cs, hx with
     | [.int k' m], hx =>
      simp only at hx
      split at hx
      ·rename_i hk
       obtain ⟨rfl, hw⟩ := hk
       simp only [Lit.wf, Bool.and_eq_true, decide_eq_true_eq] at hw
       exact ⟨[m], rfl, fun q hq => by simp at hq; subst hq; exact hw, VRL.one (.int .i64 m)⟩
      ·cases hx
    | struct fs =>
     simp only at h hx
     split at h
     ·rename_i s' hs'
      split at h
      ·rename_i hsz
       simp only [Option.some.injEq] at h
       subst h
       split at hx
       ·rename_i hl
        cases hm : fs.toList.mapM (fun f => DataW.trod enc P W 0 (fun _ => true) true m f.type ((cs.drop f.offset).take (P.cellsOf f.type))) with
        | none => rw [hm] at hx; cases hx
        | some y =>
         obtain ⟨ns, a1, a2, a3⟩ := hgo fs.toList 0 s' hs' m cs y (by omega) hm
         exact ⟨ns, a1, a2, by simpa using a3⟩
       ·cases hx
      ·cases h
     ·cases h
    | slice e =>
     simp only [Option.some.injEq] at h
     match cs, hx with
     | [.slice none 0 0], _ => exact one _ rfl rfl h.symm
     | [.slice (some a) l c], _ => exact one _ rfl rfl h.symm
    | bool =>
     simp only [Option.some.injEq] at h
     match cs, hx with
     | [.bool b], _ => exact one _ rfl rfl h.symm
    | string =>
     simp only [Option.some.injEq] at h
     match cs, hx with
     | [.string b], _ => exact one _ rfl rfl h.symm
    | pointer e =>
     simp only [Option.some.injEq] at h
     match cs, hx with
     | [.pointer none], _ => exact one _ rfl rfl h.symm
     | [.pointer (some a)], _ => exact one _ rfl rfl h.symm
    | map k e =>
     simp only [Option.some.injEq] at h
     match cs, hx with
     | [.map none], _ => exact one _ rfl rfl h.symm
     | [.map (some a)], _ => exact one _ rfl rfl h.symm
    | interface ms =>
     simp only [Option.some.injEq] at h
     match cs, hx with
     | [.nilIface], _ => exact one _ rfl rfl h.symm
     | [.iface u v], _ => exact one _ rfl rfl h.symm
    | _ => cases h

def shLe : List Bool → List Bool → Bool
 | [], [] => true
 | a :: s, b :: t => (!a || b) && shLe s t
 | _, _ => false
theorem fill_weak : ∀ (s t : List Bool), shLe s t = true → ∀ (ns : List Int) (cs : List Value), ns.length = (t.filter id).length → VRL ρn (fill t ns) cs → ∃ ms : List Int, ms.length = (s.filter id).length ∧ (∀ m ∈ ms, m ∈ ns) ∧ VRL ρn (fill s ms) cs
 | [], [], _, ns, cs, _, h => ⟨[], rfl, fun _ k => (by cases k), h⟩
 | a :: s, false :: t, hl, ns, cs, hn, h => by
  simp only [shLe, Bool.or_false, Bool.and_eq_true, Bool.not_eq_true'] at hl
  obtain ⟨rfl, hl⟩ := hl
  match cs, h with
  | c :: cs, h =>
   obtain ⟨ms, h1, h2, h3⟩ := fill_weak s t hl ns cs (by simpa using hn) h.2
   exact ⟨ms, by simpa using h1, h2, h.1, h3⟩
 | true :: s, true :: t, hl, ns, cs, hn, h => by
  simp only [shLe, Bool.not_true, Bool.or_true, Bool.true_and] at hl
  match ns, cs, hn, h with
  | n :: ns, c :: cs, hn, h =>
   obtain ⟨ms, h1, h2, h3⟩ := fill_weak s t hl ns cs (by simpa using hn) h.2
   exact ⟨n :: ms, by simpa using h1, fun m hm => (List.mem_cons.1 hm).elim (fun k => by simp [k]) (fun k => List.mem_cons_of_mem _ (h2 m k)), h.1, h3⟩
 | false :: s, true :: t, hl, ns, cs, hn, h => by
  simp only [shLe, Bool.not_false, Bool.true_or, Bool.true_and] at hl
  match ns, cs, hn, h with
  | n :: ns, c :: cs, hn, h =>
   obtain ⟨ms, h1, h2, h3⟩ := fill_weak s t hl ns cs (by simpa using hn) h.2
   have hc : c = .int .i64 n := VR.int_inv h.1
   exact ⟨ms, by simpa using h1, fun m hm => List.mem_cons_of_mem _ (h2 m hm), VR.top c (by rw [hc]; rfl), h3⟩

theorem IsImp.flat {t : TypeId} {s : List Bool} {n : Nat} (hs : (ishape P n t).map (shLe s) = some true) : IsImp enc P W t (ShR s) :=
 ⟨fun _ _ _ _ h _ => h, fun fuel cs x hx ρ h hr ro => by
  simp only [Option.map_eq_some_iff] at hs
  obtain ⟨s', h1, h2⟩ := hs
  obtain ⟨ns, a1, a2, a3⟩ := shape_ok n t s' h1 fuel cs x hx
  obtain ⟨ms, b1, b2, b3⟩ := fill_weak s s' h2 ns cs a1 a3
  exact ⟨ms, fill s ms, ρ, h, hr, ro, Emb.le_refl ρ, Fr.refl h [], b3.mono (ρn_le ρ), rfl, b1, fun m hm => a2 m (b2 m hm)⟩⟩

/-! ### arguments -/
theorem allRo0 : AllRo h0 := fun _ _ k => by cases k

theorem lend_calls [Ext P] (hP : Named P) (hm : P.follows .mixedOrders = true) {f : FuncId} {xs : List Value} {args : Array Value} {ρ : Emb} {h : AHeap} (hr : HR ρ h W) (ro : AllRo h) (hv : VRL ρ xs args.toList) (hw : wpF P (.fn f) xs h fun v _ => v = .bool true) :
  Calls P f args W fun e W' => e = .returned (.bool true) ∧ Below W.heap.size W W' := by
 refine (wpF_calls hP hm hw hv hr).mono ?_
 rintro e W' ⟨v, h', x, ρ', rfl, rfl, hx, st⟩
 rw [hx.bool_inv]
 exact ⟨rfl, st.below fun B ⟨β, e, b, _, k, l, _⟩ => by rw [ro β b k] at l; cases l⟩
end
end Go.Ox
