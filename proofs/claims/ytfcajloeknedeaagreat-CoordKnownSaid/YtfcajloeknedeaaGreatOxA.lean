/-
 A SECOND READING OF A RUN: values and a heap of one's own ('abstract'), and how they stand to the machine's.
-/
import Derived.RangeFuncIn
import Derived.LoopNIn
import Derived.OrdersIn
import Derived.Below
set_option linter.unusedSimpArgs false
set_option linter.unusedVariables false
namespace Go.Ox

/-- Where a block of the abstract heap lies in the world: block, offset of its first cell, how many cells there are from there on, and the width of an element (0: no slice may grow in it). -/
structure Ent where
 blk : Nat
 off : Nat
 cap : Nat
 sz : Nat

def Emb := Nat → Option Ent

/-- A capacity of 'big + n' is one of which only 'at least n' is known. -/
def big : Nat := 1180591620717411303424

inductive VR (ρ : Emb) : Value → Value → Prop
 | top (x : Value) (h : x.oneCell' = true) : VR ρ (.chan (some 0)) x
 | bool (b : Bool) : VR ρ (.bool b) (.bool b)
 | int (k : IntKind) (n : Int) : VR ρ (.int k n) (.int k n)
 | float (k : FloatKind) (n : Nat) : VR ρ (.float k n) (.float k n)
 | complex (k : FloatKind) (a b : Nat) : VR ρ (.complex k a b) (.complex k a b)
 | string (s : ByteArray) : VR ρ (.string s) (.string s)
 | ptrNil : VR ρ (.pointer none) (.pointer none)
 | ptr (a : Addr) (e : Ent) (h : ρ a.block = some e) : VR ρ (.pointer (some a)) (.pointer (some ⟨e.blk, e.off + a.off, a.spot⟩))
 | sliceNil (l c : Nat) : VR ρ (.slice none l c) (.slice none l c)
 | sliceEmpty (a a' : Addr) (c : Nat) (h : c = 0 ∨ (c = big ∧ ∃ e, ρ a.block = some e)) : VR ρ (.slice (some a) 0 c) (.slice (some a') 0 0)
 | slice (a : Addr) (e : Ent) (l c c' : Nat) (h : ρ a.block = some e) (hc : if c < big then c' = c else c - big ≤ c')
   (hs : e.sz ≠ 0 → a.off + c' * e.sz ≤ e.cap) (hl : l ≤ c') :
   VR ρ (.slice (some a) l c) (.slice (some ⟨e.blk, e.off + a.off, a.spot⟩) l c')
 | mapNil : VR ρ (.map none) (.map none)
 | map (r : Nat) (e : Ent) (h : ρ r = some e) : VR ρ (.map (some r)) (.map (some e.blk))
 | func (fn : Fn) (xs ys us vs : List Value) (hf : ∀ l, fn ≠ .yield l) (hl : xs.length = ys.length) (h : ∀ (i : Nat) (x y : Value), xs[i]? = some x → ys[i]? = some y → VR ρ x y)
   (hl' : us.length = vs.length) (h' : ∀ (i : Nat) (x y : Value), us[i]? = some x → vs[i]? = some y → VR ρ x y) : VR ρ (.func fn xs.toArray us.toArray) (.func fn ys.toArray vs.toArray)
 | yield (l : Nat) (e : Ent) (h : ρ l = some e) : VR ρ (.func (.yield l) #[] #[]) (.func (.yield e.blk) #[] #[])
 | nilFunc : VR ρ .nilFunc .nilFunc
 | iface (t : TypeId) (v x : Value) (h : VR ρ v x) : VR ρ (.iface t v) (.iface t x)
 | nilIface : VR ρ .nilIface .nilIface
 | agg (xs ys : List Value) (hl : xs.length = ys.length) (h : ∀ (i : Nat) (x y : Value), xs[i]? = some x → ys[i]? = some y → VR ρ x y) : VR ρ (.agg xs.toArray) (.agg ys.toArray)
 | tuple (xs ys : List Value) (hl : xs.length = ys.length) (h : ∀ (i : Nat) (x y : Value), xs[i]? = some x → ys[i]? = some y → VR ρ x y) : VR ρ (.tuple xs.toArray) (.tuple ys.toArray)

def VRL (ρ : Emb) : List Value → List Value → Prop
 | [], [] => True
 | x :: xs, y :: ys => VR ρ x y ∧ VRL ρ xs ys
 | _, _ => False

theorem VRL_iff {ρ : Emb} : ∀ {xs ys : List Value}, VRL ρ xs ys ↔ xs.length = ys.length ∧ ∀ (i : Nat) (x y : Value), xs[i]? = some x → ys[i]? = some y → VR ρ x y
 | [], [] => by simp [VRL]
 | [], _ :: _ => by simp [VRL]
 | _ :: _, [] => by simp [VRL]
 | x :: xs, y :: ys => by
  simp only [VRL, VRL_iff (xs := xs) (ys := ys), List.length_cons, Nat.add_right_cancel_iff]
  constructor
  ·rintro ⟨h, hl, hs⟩
   refine ⟨hl, fun i a b ha hb => ?_⟩
   cases i with
   | zero => simp at ha hb; subst ha hb; exact h
   | succ i => exact hs i a b (by simpa using ha) (by simpa using hb)
  ·rintro ⟨hl, hs⟩
   exact ⟨hs 0 x y rfl rfl, hl, fun i a b ha hb => hs (i + 1) a b (by simpa using ha) (by simpa using hb)⟩

def Emb.le (ρ ρ' : Emb) : Prop := ∀ β e, ρ β = some e → ρ' β = some e
theorem Emb.le_refl (ρ : Emb) : ρ.le ρ := fun _ _ h => h
theorem heap_alloc_new (w : World) (o : Obj) : (w.alloc o).heap[w.heap.size]? = some o := by
 show (w.heap.push o)[w.heap.size]? = _
 simp
theorem heap_alloc_old (w : World) (o : Obj) {k : Nat} (h : k < w.heap.size) : (w.alloc o).heap[k]? = w.heap[k]? := by
 show (w.heap.push o)[k]? = _
 rw [Array.getElem?_push, if_neg (by omega)]
theorem Emb.le_trans {ρ ρ' ρ'' : Emb} (h : ρ.le ρ') (h' : ρ'.le ρ'') : ρ.le ρ'' := fun β e k => h' β e (h β e k)

theorem VR.mono {ρ ρ' : Emb} (hle : ρ.le ρ') {v x : Value} (h : VR ρ v x) : VR ρ' v x := by
 induction h with
 | top x h => exact .top x h
 | bool b => exact .bool b
 | int k n => exact .int k n
 | float k n => exact .float k n
 | complex k a b => exact .complex k a b
 | string s => exact .string s
 | ptrNil => exact .ptrNil
 | ptr a e h => exact .ptr a e (hle _ _ h)
 | sliceNil l c => exact .sliceNil l c
 | sliceEmpty a a' c h => exact .sliceEmpty a a' c (h.imp id (fun k => ⟨k.1, k.2.imp fun _ q => hle _ _ q⟩))
 | slice a e l c c' h hc hs hl => exact .slice a e l c c' (hle _ _ h) hc hs hl
 | mapNil => exact .mapNil
 | map r e h => exact .map r e (hle _ _ h)
 | func fn xs ys us vs hf hl _ hl' _ ih ih' => exact .func fn xs ys us vs hf hl ih hl' ih'
 | yield l e h => exact .yield l e (hle _ _ h)
 | nilFunc => exact .nilFunc
 | iface t v x _ ih => exact .iface t v x ih
 | nilIface => exact .nilIface
 | agg xs ys hl _ ih => exact .agg xs ys hl ih
 | tuple xs ys hl _ ih => exact .tuple xs ys hl ih

theorem VRL.mono {ρ ρ' : Emb} (hle : ρ.le ρ') {xs ys : List Value} (h : VRL ρ xs ys) : VRL ρ' xs ys := by
 rw [VRL_iff] at *
 exact ⟨h.1, fun i x y a b => (h.2 i x y a b).mono hle⟩

theorem VRL.length {ρ : Emb} {xs ys : List Value} (h : VRL ρ xs ys) : xs.length = ys.length := (VRL_iff.1 h).1
theorem VRL.nil {ρ : Emb} : VRL ρ [] [] := trivial
theorem VRL.cons {ρ : Emb} {x y : Value} {xs ys : List Value} (h : VR ρ x y) (hs : VRL ρ xs ys) : VRL ρ (x :: xs) (y :: ys) := ⟨h, hs⟩
theorem VRL.one {ρ : Emb} {x y : Value} (h : VR ρ x y) : VRL ρ [x] [y] := ⟨h, trivial⟩

theorem VRL.get {ρ : Emb} {xs ys : List Value} (h : VRL ρ xs ys) {i : Nat} {x : Value} (hx : xs[i]? = some x) : ∃ y, ys[i]? = some y ∧ VR ρ x y := by
 have hi : i < xs.length := (List.getElem?_eq_some_iff.1 hx).1
 have hi' : i < ys.length := by have := h.length; omega
 exact ⟨ys[i], List.getElem?_eq_getElem hi', (VRL_iff.1 h).2 i x _ hx (List.getElem?_eq_getElem hi')⟩

theorem VRL.none {ρ : Emb} {xs ys : List Value} (h : VRL ρ xs ys) {i : Nat} (hx : xs[i]? = Option.none) : ys[i]? = Option.none := by
 rw [List.getElem?_eq_none_iff] at *
 have := h.length; omega

theorem VRL.append {ρ : Emb} {xs ys us vs : List Value} (h : VRL ρ xs ys) (h' : VRL ρ us vs) : VRL ρ (xs ++ us) (ys ++ vs) := by
 induction xs generalizing ys with
 | nil => cases ys with | nil => exact h' | cons _ _ => exact h.elim
 | cons x xs ih => cases ys with | nil => exact h.elim | cons y ys => exact ⟨h.1, ih h.2⟩

theorem VRL.take {ρ : Emb} {xs ys : List Value} (h : VRL ρ xs ys) (n : Nat) : VRL ρ (xs.take n) (ys.take n) := by
 induction xs generalizing ys n with
 | nil => cases ys with | nil => simp [VRL] | cons _ _ => exact h.elim
 | cons x xs ih => cases ys with | nil => exact h.elim | cons y ys => cases n with | zero => simp [VRL] | succ n => exact ⟨h.1, ih h.2 n⟩

theorem VRL.drop {ρ : Emb} {xs ys : List Value} (h : VRL ρ xs ys) (n : Nat) : VRL ρ (xs.drop n) (ys.drop n) := by
 induction xs generalizing ys n with
 | nil => cases ys with | nil => simp [VRL] | cons _ _ => exact h.elim
 | cons x xs ih => cases ys with | nil => exact h.elim | cons y ys => cases n with | zero => exact h | succ n => exact ih h.2 n

theorem VR.oneCell {ρ : Emb} {v x : Value} (h : VR ρ v x) : v.oneCell' = x.oneCell' := by
 cases h <;> first | rfl | (simp only [Value.oneCell'] at *; simp_all)

theorem VR.cells {ρ : Emb} {v x : Value} (h : VR ρ v x) : VRL ρ v.cells.toList x.cells.toList := by
 cases h with
 | agg xs ys hl h => simpa [Value.cells] using VRL_iff.2 ⟨hl, h⟩
 | top x h => cases x <;> first | exact VRL.one (.top _ h) | (simp [Value.oneCell'] at h)
 | bool b => exact VRL.one (.bool b)
 | int k n => exact VRL.one (.int k n)
 | float k n => exact VRL.one (.float k n)
 | complex k a b => exact VRL.one (.complex k a b)
 | string s => exact VRL.one (.string s)
 | ptrNil => exact VRL.one .ptrNil
 | ptr a e h => exact VRL.one (.ptr a e h)
 | sliceNil l c => exact VRL.one (.sliceNil l c)
 | sliceEmpty a a' c h => exact VRL.one (.sliceEmpty a a' c h)
 | slice a e l c c' h hc hs hl => exact VRL.one (.slice a e l c c' h hc hs hl)
 | mapNil => exact VRL.one .mapNil
 | map r e h => exact VRL.one (.map r e h)
 | func fn xs ys us vs hf hl h hl' h' => exact VRL.one (.func fn xs ys us vs hf hl h hl' h')
 | yield l e h => exact VRL.one (.yield l e h)
 | nilFunc => exact VRL.one .nilFunc
 | iface t v x h => exact VRL.one (.iface t v x h)
 | nilIface => exact VRL.one .nilIface
 | tuple xs ys hl h => exact VRL.one (.tuple xs ys hl h)

theorem VR.ofAgg {ρ : Emb} {xs ys : List Value} (h : VRL ρ xs ys) : VR ρ (.agg xs.toArray) (.agg ys.toArray) := .agg xs ys (VRL_iff.1 h).1 (VRL_iff.1 h).2
theorem VR.ofTuple {ρ : Emb} {xs ys : List Value} (h : VRL ρ xs ys) : VR ρ (.tuple xs.toArray) (.tuple ys.toArray) := .tuple xs ys (VRL_iff.1 h).1 (VRL_iff.1 h).2

theorem VR.agg_inv {ρ : Emb} {a : Array Value} {x : Value} (h : VR ρ (.agg a) x) : ∃ ys : List Value, x = .agg ys.toArray ∧ VRL ρ a.toList ys := by
 cases h with
 | agg xs ys hl h => exact ⟨ys, rfl, VRL_iff.2 ⟨hl, h⟩⟩
theorem VR.tuple_inv {ρ : Emb} {a : Array Value} {x : Value} (h : VR ρ (.tuple a) x) : ∃ ys : List Value, x = .tuple ys.toArray ∧ VRL ρ a.toList ys := by
 cases h with
 | tuple xs ys hl h => exact ⟨ys, rfl, VRL_iff.2 ⟨hl, h⟩⟩
theorem VR.int_inv {ρ : Emb} {k : IntKind} {n : Int} {x : Value} (h : VR ρ (.int k n) x) : x = .int k n := by cases h; rfl
theorem VR.bool_inv {ρ : Emb} {b : Bool} {x : Value} (h : VR ρ (.bool b) x) : x = .bool b := by cases h; rfl
theorem VR.ptr_inv {ρ : Emb} {a : Addr} {x : Value} (h : VR ρ (.pointer (some a)) x) : ∃ e, ρ a.block = some e ∧ x = .pointer (some ⟨e.blk, e.off + a.off, a.spot⟩) := by
 cases h with | ptr _ e h => exact ⟨e, h, rfl⟩

/-! ### Slots and operands -/
def tget : List Value → Nat → Value
 | [], _ => undef
 | x :: _, 0 => x
 | _ :: xs, n + 1 => tget xs n
def tput : List Value → Nat → Value → List Value
 | [], 0, v => [v]
 | [], n + 1, v => undef :: tput [] n v
 | _ :: xs, 0, v => v :: xs
 | x :: xs, n + 1, v => x :: tput xs n v
theorem tget_nil (j : Nat) : tget [] j = undef := by cases j <;> rfl
theorem tget_tput : ∀ (T : List Value) (k : Nat) (v : Value) (j : Nat), tget (tput T k v) j = if j = k then v else tget T j
 | [], 0, v, 0 => rfl
 | [], 0, v, j + 1 => by simp [tput, tget]
 | [], k + 1, v, 0 => by simp [tput, tget]
 | [], k + 1, v, j + 1 => by simp [tput, tget, tget_tput [] k v j, tget_nil]
 | x :: xs, 0, v, 0 => rfl
 | x :: xs, 0, v, j + 1 => by simp [tput, tget]
 | x :: xs, k + 1, v, 0 => by simp [tput, tget]
 | x :: xs, k + 1, v, j + 1 => by simp [tput, tget, tget_tput xs k v j]

/-! ### The abstract heap -/

inductive ABlk where
 | cells (ro : Bool) (sz : Nat) (c : List Value) (elem : TypeId)
 | map (es : List (Value × Value))
 | loop (state : LoopState) (pending : Option Code) (size : Nat) (T : List Value) (params : Array Tmp) (assign body : Code)

structure AHeap where
 get : Nat → Option ABlk
 next : Nat

def AHeap.set (h : AHeap) (β : Nat) (b : ABlk) : AHeap := { h with get := fun γ => if γ = β then some b else h.get γ }
def AHeap.del (h : AHeap) (β : Nat) : AHeap := { h with get := fun γ => if γ = β then none else h.get γ }
def AHeap.push (h : AHeap) (b : ABlk) : AHeap := { get := fun γ => if γ = h.next then some b else h.get γ, next := h.next + 1 }
@[simp] theorem AHeap.next_set (h : AHeap) (β : Nat) (b : ABlk) : (h.set β b).next = h.next := rfl
@[simp] theorem AHeap.next_del (h : AHeap) (β : Nat) : (h.del β).next = h.next := rfl
@[simp] theorem AHeap.next_push (h : AHeap) (b : ABlk) : (h.push b).next = h.next + 1 := rfl
theorem AHeap.get_set (h : AHeap) (β : Nat) (b : ABlk) (γ : Nat) : (h.set β b).get γ = if γ = β then some b else h.get γ := rfl
theorem AHeap.get_del (h : AHeap) (β : Nat) (γ : Nat) : (h.del β).get γ = if γ = β then none else h.get γ := rfl
theorem AHeap.get_push (h : AHeap) (b : ABlk) (γ : Nat) : (h.push b).get γ = if γ = h.next then some b else h.get γ := rfl

def ABlk.rw : ABlk → Bool
 | .cells ro .. => !ro
 | _ => true

/-- The pairs of a map, and its entries. -/
def VRM (ρ : Emb) : List (Value × Value) → List MapEntry → Prop
 | [], [] => True
 | x :: xs, y :: ys => (x.1 = y.key ∧ VR ρ x.2 y.val) ∧ VRM ρ xs ys
 | _, _ => False

def BR (ρ : Emb) (e : Ent) : ABlk → Obj → Prop
 | .cells true sz c _, .cells d _ _ => e.sz = 0 ∧ sz = 0 ∧ ∀ i v, c[i]? = some v → ∃ x, d[e.off + i]? = some x ∧ VR ρ v x
 | .cells false sz c T, .cells d T' fz => (e.sz = sz ∧ (sz = 0 → e.off = 0)) ∧ T = T' ∧ fz = (0, 0) ∧ d.size = e.off + e.cap ∧ c.length ≤ e.cap ∧ ∀ i v, c[i]? = some v → ∃ x, d[e.off + i]? = some x ∧ VR ρ v x
 | .map es, .map es' clock => e.off = 0 ∧ e.sz = 0 ∧ VRM ρ es es'.toList ∧ (∀ x ∈ es'.toList, x.born < clock) ∧ (es'.toList.map (·.born)).Nodup
 | .loop st pe sz T ps as bo, .loop m => e.off = 0 ∧ e.sz = 0 ∧ m.state = st ∧ m.pending = pe ∧ m.params = ps ∧ m.assign = as ∧ m.body = bo ∧ m.tmps.size = sz ∧ ∀ t, VR ρ (tget T t) (m.tmps.getD t undef)
 | _, _ => False

structure HR (ρ : Emb) (h : AHeap) (w : World) : Prop where
 fresh : ∀ β, h.next ≤ β → ρ β = none
 empty : ∀ β, h.next ≤ β → h.get β = none
 old : ∀ β e, ρ β = some e → e.blk < w.heap.size
 blk : ∀ β e b, ρ β = some e → h.get β = some b → ∃ o, w.heap[e.blk]? = some o ∧ BR ρ e b o
 inj : ∀ β γ e f b c, ρ β = some e → ρ γ = some f → h.get β = some b → h.get γ = some c → b.rw = true → e.blk = f.blk → β = γ

theorem VRM.mono {ρ ρ' : Emb} (hle : ρ.le ρ') : ∀ {xs : List (Value × Value)} {ys : List MapEntry}, VRM ρ xs ys → VRM ρ' xs ys
 | [], [], _ => trivial
 | [], _ :: _, h => h.elim
 | _ :: _, [], h => h.elim
 | _ :: _, _ :: _, h => ⟨⟨h.1.1, h.1.2.mono hle⟩, VRM.mono hle h.2⟩

theorem BR.mono {ρ ρ' : Emb} (hle : ρ.le ρ') {e : Ent} {b : ABlk} {o : Obj} (h : BR ρ e b o) : BR ρ' e b o := by
 cases b with
 | cells ro sz c T =>
  cases o with
  | cells d T' fz =>
   cases ro with
   | true => exact ⟨h.1, h.2.1, fun i v hv => let ⟨x, hx, hr⟩ := h.2.2 i v hv; ⟨x, hx, hr.mono hle⟩⟩
   | false =>
    obtain ⟨h1, h2, h3, h4, h5, h6⟩ := h
    exact ⟨h1, h2, h3, h4, h5, fun i v hv => let ⟨x, hx, hr⟩ := h6 i v hv; ⟨x, hx, hr.mono hle⟩⟩
  | _ => cases ro <;> exact h.elim
 | map es => cases o with
  | map es' cl => exact ⟨h.1, h.2.1, h.2.2.1.mono hle, h.2.2.2⟩
  | _ => exact h.elim
 | loop st pe sz T ps as bo => cases o with
  | loop m =>
   obtain ⟨h1, h2, h3, h4, h5, h6, h7, h8, h9⟩ := h
   exact ⟨h1, h2, h3, h4, h5, h6, h7, h8, fun t => (h9 t).mono hle⟩
  | _ => exact h.elim

/-- A concrete block that the abstract heap may write. -/
def Own (ρ : Emb) (h : AHeap) (B : Nat) : Prop := ∃ β e b, ρ β = some e ∧ h.get β = some b ∧ b.rw = true ∧ e.blk = B

/-- D: is it told that nothing is drawn back? -/
structure Step (D : Prop) (ρ ρ' : Emb) (h h' : AHeap) (w w' : World) : Prop where
 hr : HR ρ' h' w'
 ext : ρ.le ρ'
 dom : ∀ β, ρ' β ≠ none → ρ β ≠ none ∨ h.next ≤ β
 next : h.next ≤ h'.next
 keep : ∀ β, β < h.next → ρ β = none → h'.get β = h.get β
 frame : ∀ B, B < w.heap.size → ¬ Own ρ h B → w'.heap[B]? = w.heap[B]?
 own : ∀ B, Own ρ' h' B → Own ρ h B ∨ w.heap.size ≤ B
 size : w.heap.size ≤ w'.heap.size
 os : w'.os = w.os
 tape : w'.tape = w.tape
 output : w'.output = w.output
 drawn : D → w.drawn ≤ w'.drawn

variable {D : Prop}
theorem Step.any {ρ ρ' : Emb} {h h' : AHeap} {w w' : World} (s : Step True ρ ρ' h h' w w') : Step D ρ ρ' h h' w w' := { s with drawn := fun _ => s.drawn trivial }

theorem Step.refl {ρ : Emb} {h : AHeap} {w : World} (hr : HR ρ h w) : Step D ρ ρ h h w w :=
 ⟨hr, (Emb.le_refl ρ), fun _ k => .inl k, Nat.le_refl _, fun _ _ _ => rfl, fun _ _ _ => rfl, fun _ k => .inl k, Nat.le_refl _, rfl, rfl, rfl, fun _ => Nat.le_refl _⟩

theorem Step.trans {ρ ρ' ρ'' : Emb} {h h' h'' : AHeap} {w w' w'' : World} (a : Step D ρ ρ' h h' w w') (b : Step D ρ' ρ'' h' h'' w' w'') : Step D ρ ρ'' h h'' w w'' where
 hr := b.hr
 ext := Emb.le_trans a.ext b.ext
 dom := fun β k => by
  rcases b.dom β k with k | k
  ·exact a.dom β k
  ·exact .inr (Nat.le_trans a.next k)
 next := Nat.le_trans a.next b.next
 keep := fun β k0 k1 => by
  have k2 : ρ' β = none := by
   cases hx : ρ' β with
   | none => rfl
   | some e =>
    rcases a.dom β (by simp [hx]) with k | k
    ·exact absurd k1 k
    ·omega
  rw [b.keep β (Nat.lt_of_lt_of_le k0 a.next) k2, a.keep β k0 k1]
 frame := fun B k0 k1 => by
  have k2 : ¬ Own ρ' h' B := fun k => by
   rcases a.own B k with k | k
   ·exact k1 k
   ·omega
  rw [b.frame B (Nat.lt_of_lt_of_le k0 a.size) k2, a.frame B k0 k1]
 own := fun B k => by
  rcases b.own B k with k | k
  ·exact a.own B k
  ·exact .inr (Nat.le_trans a.size k)
 size := Nat.le_trans a.size b.size
 os := b.os.trans a.os
 tape := b.tape.trans a.tape
 output := b.output.trans a.output
 drawn := fun d => Nat.le_trans (a.drawn d) (b.drawn d)

theorem HR.lt {ρ : Emb} {h : AHeap} {w : World} (hr : HR ρ h w) {β : Nat} {e : Ent} (k : ρ β = some e) : β < h.next := by
 rcases Nat.lt_or_ge β h.next with k' | k'
 ·exact k'
 ·rw [hr.fresh β k'] at k; cases k

theorem HR.drew {ρ : Emb} {h : AHeap} {w : World} (hr : HR ρ h w) : HR ρ h w.drew := ⟨hr.fresh, hr.empty, hr.old, hr.blk, hr.inj⟩

theorem Step.drew {ρ : Emb} {h : AHeap} {w : World} (hr : HR ρ h w) : Step D ρ ρ h h w w.drew :=
 ⟨hr.drew, (Emb.le_refl ρ), fun _ k => .inl k, Nat.le_refl _, fun _ _ _ => rfl, fun _ _ _ => rfl, fun _ k => .inl k, Nat.le_refl _, rfl, rfl, rfl, fun _ => Nat.le_succ _⟩

/-! ### Three ways in which both heaps go on: a new block; a block written; a block that another one stands for -/

/-- A new block on both sides. -/
theorem Step.push {ρ : Emb} {h : AHeap} {w : World} (hr : HR ρ h w) {b : ABlk} {o : Obj} {e : Ent} (he : e.blk = w.heap.size)
  (hb : ∀ ρ', ρ.le ρ' → ρ' h.next = some e → BR ρ' e b o) :
  Step D ρ (fun β => if β = h.next then some e else ρ β) h (h.push b) w (w.alloc o) := by
 have hext : ρ.le (fun β => if β = h.next then some e else ρ β) := fun β e' k => by
  have := hr.lt k
  show (if β = h.next then some e else ρ β) = some e'; rw [if_neg (by omega)]; exact k
 have hold : ∀ {β f}, β ≠ h.next → (fun β => if β = h.next then some e else ρ β) β = some f → ρ β = some f := fun hne k => by simpa [hne] using k
 refine ⟨⟨fun β k => ?_, fun β k => ?_, fun β f k => ?_, fun β f c k1 k2 => ?_, fun β γ f g c d k1 k2 k3 k4 k5 k6 => ?_⟩, hext, fun β k => ?_, by simp, fun β k0 k1 => ?_, fun B k0 k1 => ?_, fun B k => ?_, by simp, rfl, rfl, rfl, fun _ => Nat.le_refl _⟩
 ·simp only [AHeap.next_push] at k; show (if β = h.next then some e else ρ β) = none; rw [if_neg (by omega)]; exact hr.fresh β (by omega)
 ·simp only [AHeap.next_push] at k; rw [AHeap.get_push, if_neg (by omega)]; exact hr.empty β (by omega)
 ·by_cases hβ : β = h.next
  ·subst hβ; simp at k; subst k; simp [he]
  ·have := hr.old β f (hold hβ k); simp; omega
 ·by_cases hβ : β = h.next
  ·subst hβ
   simp at k1; subst k1
   simp [AHeap.get_push] at k2; subst k2
   exact ⟨o, by rw [he]; exact heap_alloc_new w o, hb _ hext (by simp)⟩
  ·have k1' := hold hβ k1
   rw [AHeap.get_push, if_neg hβ] at k2
   obtain ⟨o', ho', hb'⟩ := hr.blk β f c k1' k2
   refine ⟨o', ?_, hb'.mono hext⟩
   have := hr.old β f k1'
   rw [heap_alloc_old w o this]; exact ho'
 ·by_cases hβ : β = h.next <;> by_cases hγ : γ = h.next
  ·rw [hβ, hγ]
  ·subst hβ; simp at k1; subst k1
   have := hr.old γ g (hold hγ k2); omega
  ·subst hγ; simp at k2; subst k2
   have := hr.old β f (hold hβ k1); omega
  ·rw [AHeap.get_push, if_neg hβ] at k3
   rw [AHeap.get_push, if_neg hγ] at k4
   exact hr.inj β γ f g c d (hold hβ k1) (hold hγ k2) k3 k4 k5 k6
 ·by_cases hβ : β = h.next
  ·exact .inr (by omega)
  ·exact .inl (by simpa [hβ] using k)
 ·rw [AHeap.get_push, if_neg (by omega)]
 ·exact heap_alloc_old w o k0
 ·obtain ⟨β, f, c, k1, k2, k3, k4⟩ := k
  by_cases hβ : β = h.next
  ·subst hβ; simp at k1; subst k1; exact .inr (by omega)
  ·rw [AHeap.get_push, if_neg hβ] at k2
   exact .inl ⟨β, f, c, hold hβ k1, k2, k3, k4⟩

/-- A block written on both sides. -/
theorem Step.set {ρ : Emb} {h : AHeap} {w w' : World} (hr : HR ρ h w) {β : Nat} {e : Ent} {b b' : ABlk} {o' : Obj} (hβ : ρ β = some e) (hb : h.get β = some b) (hw : b.rw = true) (hw' : b'.rw = true)
  (ho : w'.heap[e.blk]? = some o') (hbr : BR ρ e b' o') (hsame : ∀ B, B ≠ e.blk → w'.heap[B]? = w.heap[B]?) (hsize : w'.heap.size = w.heap.size)
  (hos : w'.os = w.os) (htape : w'.tape = w.tape) (hout : w'.output = w.output) (hdr : w'.drawn = w.drawn) : Step D ρ ρ h (h.set β b') w w' := by
 have hlt := hr.lt hβ
 refine ⟨⟨hr.fresh, fun γ k => ?_, fun γ f k => by rw [hsize]; exact hr.old γ f k, fun γ f c k1 k2 => ?_, fun γ δ f g c d k1 k2 k3 k4 k5 k6 => ?_⟩, (Emb.le_refl ρ), fun _ k => .inl k, Nat.le_refl _, fun γ k0 k1 => ?_, fun B k0 k1 => ?_, fun B k => ?_, by omega, hos, htape, hout, fun _ => Nat.le_of_eq hdr.symm⟩
 ·simp only [AHeap.next_set] at k; rw [AHeap.get_set, if_neg (by omega)]; exact hr.empty γ k
 ·by_cases hγ : γ = β
  ·subst hγ
   rw [hβ] at k1; obtain rfl := Option.some.inj k1
   simp [AHeap.get_set] at k2; subst k2
   exact ⟨o', ho, hbr⟩
  ·rw [AHeap.get_set, if_neg hγ] at k2
   obtain ⟨o, h1, h2⟩ := hr.blk γ f c k1 k2
   refine ⟨o, ?_, h2⟩
   rw [hsame _ (fun hE => hγ ?_)]; exact h1
   exact (hr.inj β γ e f b c hβ k1 hb k2 hw hE.symm).symm
 ·have get : ∀ {γ c}, (h.set β b').get γ = some c → c.rw = true → ∃ c', h.get γ = some c' ∧ c'.rw = true := by
   intro γ c k k'
   rw [AHeap.get_set] at k
   by_cases hγ : γ = β
   ·subst hγ; exact ⟨b, hb, hw⟩
   ·rw [if_neg hγ] at k; exact ⟨c, k, k'⟩
  have get' : ∀ {γ c}, (h.set β b').get γ = some c → ∃ c', h.get γ = some c' := by
   intro γ c k
   rw [AHeap.get_set] at k
   by_cases hγ : γ = β
   ·subst hγ; exact ⟨b, hb⟩
   ·rw [if_neg hγ] at k; exact ⟨c, k⟩
  obtain ⟨c', hc, hcw⟩ := get k3 k5
  obtain ⟨d', hd⟩ := get' k4
  exact hr.inj γ δ f g c' d' k1 k2 hc hd hcw k6
 ·rw [AHeap.get_set, if_neg (fun hE => by subst hE; rw [hβ] at k1; cases k1)]
 ·exact hsame B (fun hE => k1 ⟨β, e, b, hβ, hb, hw, hE.symm⟩)
 ·obtain ⟨γ, f, c, k1, k2, k3, k4⟩ := k
  rw [AHeap.get_set] at k2
  by_cases hγ : γ = β
  ·subst hγ; rw [hβ] at k1; obtain rfl := Option.some.inj k1; exact .inl ⟨γ, e, b, hβ, hb, hw, k4⟩
  ·rw [if_neg hγ] at k2; exact .inl ⟨γ, f, c, k1, k2, k3, k4⟩

/-- A block is given up. -/
theorem Step.del {ρ : Emb} {h : AHeap} {w : World} (hr : HR ρ h w) {β : Nat} {e : Ent} (hβ : ρ β = some e) : Step D ρ ρ h (h.del β) w w := by
 have get : ∀ {γ c}, (h.del β).get γ = some c → h.get γ = some c := fun {γ c} k => by
  rw [AHeap.get_del] at k; split at k
  ·cases k
  ·exact k
 have hlt := hr.lt hβ
 refine ⟨⟨hr.fresh, fun γ k => ?_, hr.old, fun γ f c k1 k2 => hr.blk γ f c k1 (get k2), fun γ δ f g c d k1 k2 k3 k4 k5 k6 => hr.inj γ δ f g c d k1 k2 (get k3) (get k4) k5 k6⟩, (Emb.le_refl ρ), fun _ k => .inl k, Nat.le_refl _, fun γ k0 k1 => ?_, fun B k0 k1 => rfl, fun B k => ?_, Nat.le_refl _, rfl, rfl, rfl, fun _ => Nat.le_refl _⟩
 ·simp only [AHeap.next_del] at k; rw [AHeap.get_del]; split
  ·rfl
  ·exact hr.empty γ k
 ·rw [AHeap.get_del, if_neg (fun hE => by subst hE; rw [hβ] at k1; cases k1)]
 ·obtain ⟨γ, f, c, k1, k2, k3, k4⟩ := k
  exact .inl ⟨γ, f, c, k1, get k2, k3, k4⟩

/-- A block that was grown in its place: another abstract block stands for it from an offset on. -/
theorem Step.move {ρ : Emb} {h : AHeap} {w w' : World} (hr : HR ρ h w) {β : Nat} {e e' : Ent} {b b' : ABlk} {o' : Obj} (hβ : ρ β = some e) (hb : h.get β = some b) (hw : b.rw = true) (he' : e'.blk = e.blk)
  (ho : w'.heap[e.blk]? = some o') (hbr : BR ρ e' b' o') (hsame : ∀ B, B ≠ e.blk → w'.heap[B]? = w.heap[B]?) (hsize : w'.heap.size = w.heap.size)
  (hos : w'.os = w.os) (htape : w'.tape = w.tape) (hout : w'.output = w.output) (hdr : w'.drawn = w.drawn) :
  Step D ρ (fun γ => if γ = h.next then some e' else ρ γ) h ((h.del β).push b') w w' := by
 have hlt := hr.lt hβ
 have hext : ρ.le (fun γ => if γ = h.next then some e' else ρ γ) := fun γ f k => by
  have := hr.lt k
  show (if γ = h.next then some e' else ρ γ) = some f
  rw [if_neg (by omega)]; exact k
 have hold : ∀ {γ f}, γ ≠ h.next → (fun γ => if γ = h.next then some e' else ρ γ) γ = some f → ρ γ = some f := fun hne k => by simpa [hne] using k
 have get : ∀ {γ c}, γ ≠ h.next → ((h.del β).push b').get γ = some c → γ ≠ β ∧ h.get γ = some c := fun {γ c} hne k => by
  rw [AHeap.get_push, if_neg (by simpa using hne), AHeap.get_del] at k
  split at k
  ·cases k
  ·exact ⟨by assumption, k⟩
 have hne : ∀ {γ f c}, γ ≠ β → ρ γ = some f → h.get γ = some c → f.blk ≠ e.blk := fun {γ f c} h1 h2 h3 h4 => h1 (hr.inj β γ e f b c hβ h2 hb h3 hw h4.symm).symm
 refine ⟨⟨fun γ k => ?_, fun γ k => ?_, fun γ f k => ?_, fun γ f c k1 k2 => ?_, fun γ δ f g c d k1 k2 k3 k4 k5 k6 => ?_⟩, hext, fun γ k => ?_, by simp, fun γ k0 k1 => ?_, fun B k0 k1 => ?_, fun B k => ?_, by omega, hos, htape, hout, fun _ => Nat.le_of_eq hdr.symm⟩
 ·simp only [AHeap.next_push, AHeap.next_del] at k; show (if γ = h.next then some e' else ρ γ) = none; rw [if_neg (by omega)]; exact hr.fresh γ (by omega)
 ·simp only [AHeap.next_push, AHeap.next_del] at k
  rw [AHeap.get_push, if_neg (by simp; omega), AHeap.get_del, if_neg (by omega)]; exact hr.empty γ (by omega)
 ·rw [hsize]
  by_cases hγ : γ = h.next
  ·subst hγ; simp at k; subst k; rw [he']; exact hr.old β e hβ
  ·exact hr.old γ f (hold hγ k)
 ·by_cases hγ : γ = h.next
  ·subst hγ
   simp at k1; subst k1
   simp [AHeap.get_push] at k2; subst k2
   exact ⟨o', by rw [he']; exact ho, hbr.mono hext⟩
  ·obtain ⟨k3, k4⟩ := get hγ k2
   obtain ⟨o, h1, h2⟩ := hr.blk γ f c (hold hγ k1) k4
   exact ⟨o, by rw [hsame _ (hne k3 (hold hγ k1) k4)]; exact h1, h2.mono hext⟩
 ·by_cases hγ : γ = h.next <;> by_cases hδ : δ = h.next
  ·rw [hγ, hδ]
  ·subst hγ; simp at k1; subst k1
   obtain ⟨k7, k8⟩ := get hδ k4
   exact absurd (k6.symm.trans he') (hne k7 (hold hδ k2) k8)
  ·subst hδ; simp at k2; subst k2
   obtain ⟨k7, k8⟩ := get hγ k3
   exact absurd (k6.trans he') (hne k7 (hold hγ k1) k8)
  ·exact hr.inj γ δ f g c d (hold hγ k1) (hold hδ k2) (get hγ k3).2 (get hδ k4).2 k5 k6
 ·by_cases hγ : γ = h.next
  ·exact .inr (by omega)
  ·exact .inl (by simpa [hγ] using k)
 ·rw [AHeap.get_push, if_neg (by simp; omega), AHeap.get_del, if_neg (fun hE => by subst hE; rw [hβ] at k1; cases k1)]
 ·exact hsame B (fun hE => k1 ⟨β, e, b, hβ, hb, hw, hE.symm⟩)
 ·obtain ⟨γ, f, c, k1, k2, k3, k4⟩ := k
  by_cases hγ : γ = h.next
  ·subst hγ; simp at k1; subst k1; exact .inl ⟨β, e, b, hβ, hb, hw, by rw [← k4, he']⟩
  ·exact .inl ⟨γ, f, c, hold hγ k1, (get hγ k2).2, k3, k4⟩

end Go.Ox
