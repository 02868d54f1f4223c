/-
 WHAT EACH OPERATION DOES ON THE ABSTRACT SIDE, part 1: memory, aggregates, scalars.
-/
import Derived.Test.YtfcajloeknedeaaGreatOxA
set_option linter.unusedSimpArgs false
set_option linter.unusedVariables false
namespace Go.Ox

/-- Values without addresses. -/
def plain : Nat → Value → Bool
 | _, .bool _ | _, .int _ _ | _, .float _ _ | _, .complex _ _ _ | _, .string _ | _, .pointer none | _, .slice none _ _ | _, .map none | _, .nilFunc | _, .nilIface => true
 | n + 1, .iface _ v => plain n v
 | n + 1, .agg cs => cs.toList.all (plain n)
 | n + 1, .tuple cs => cs.toList.all (plain n)
 | _, _ => false

theorem plain_self {ρ : Emb} : ∀ (n : Nat) (v : Value), plain n v = true → VR ρ v v := by
 intro n
 induction n with
 | zero => intro v h; cases v <;> first | (constructor; done) | (rename_i o; cases o <;> first | (constructor; done) | simp [plain] at h) | (rename_i o l c; cases o <;> first | (constructor; done) | simp [plain] at h) | simp [plain] at h
 | succ n ih =>
  intro v h
  cases v with
  | iface t v => exact .iface t v v (ih v (by simpa [plain] using h))
  | agg cs =>
   have := VR.agg (ρ := ρ) cs.toList cs.toList rfl (fun i x y hx hy => by
    rw [hx] at hy; obtain rfl := Option.some.inj hy
    exact ih x (by simp only [plain, List.all_eq_true] at h; exact h x (List.mem_of_getElem? hx)))
   simpa using this
  | tuple cs =>
   have := VR.tuple (ρ := ρ) cs.toList cs.toList rfl (fun i x y hx hy => by
    rw [hx] at hy; obtain rfl := Option.some.inj hy
    exact ih x (by simp only [plain, List.all_eq_true] at h; exact h x (List.mem_of_getElem? hx)))
   simpa using this
  | bool _ | int _ _ | float _ _ | complex _ _ _ | string _ | nilFunc | nilIface => constructor
  | pointer a | map a => cases a <;> first | (constructor; done) | simp [plain] at h
  | slice a l c => cases a <;> first | (constructor; done) | simp [plain] at h
  | chan _ | func _ _ _ => simp [plain] at h

theorem list_plain {ρ : Emb} {n : Nat} {l : List Value} (h : l.all (plain n) = true) : VRL ρ l l :=
 VRL_iff.2 ⟨rfl, fun i x y hx hy => by
  rw [hx] at hy; obtain rfl := Option.some.inj hy
  exact plain_self n x (by rw [List.all_eq_true] at h; exact h x (List.mem_of_getElem? hx))⟩

/-- Related to a value without addresses: that value. -/
theorem plain_eq {ρ : Emb} : ∀ (n : Nat) (v x : Value), plain n v = true → VR ρ v x → x = v := by
 intro n
 induction n with
 | zero => intro v x h hr; cases hr <;> first | rfl | simp [plain] at h
 | succ n ih =>
  intro v x h hr
  cases hr with
  | iface t v x hx => rw [ih v x (by simpa [plain] using h) hx]
  | agg xs ys hl hx =>
   have : xs = ys := by
    refine List.ext_getElem? fun i => ?_
    cases hxi : xs[i]? with
    | none => rw [List.getElem?_eq_none_iff] at hxi; exact (List.getElem?_eq_none_iff.2 (by omega)).symm
    | some a =>
     have hi := (List.getElem?_eq_some_iff.1 hxi).1
     have hy : ys[i]? = some ys[i] := List.getElem?_eq_getElem (by omega)
     rw [hy, ih a _ (by simp [plain] at h; exact h a (List.mem_of_getElem? hxi)) (hx i a _ hxi hy)]
   rw [this]
  | tuple xs ys hl hx =>
   have : xs = ys := by
    refine List.ext_getElem? fun i => ?_
    cases hxi : xs[i]? with
    | none => rw [List.getElem?_eq_none_iff] at hxi; exact (List.getElem?_eq_none_iff.2 (by omega)).symm
    | some a =>
     have hi := (List.getElem?_eq_some_iff.1 hxi).1
     have hy : ys[i]? = some ys[i] := List.getElem?_eq_getElem (by omega)
     rw [hy, ih a _ (by simp [plain] at h; exact h a (List.mem_of_getElem? hxi)) (hx i a _ hxi hy)]
   rw [this]
  | _ => first | rfl | simp [plain] at h

def aev (T : List Value) : Operand → Option Value
 | .tmp t => some (tget T t)
 | .const v => if plain 6 v then some v else none
 | .global _ => none
 | .func f => some (.func (.func f) #[] #[])

/-- The two sides' slots. -/
structure AR (ρ : Emb) (n : Nat) (T : List Value) (a : Act) : Prop where
 size : a.tmps.size = n
 slot : ∀ t, VR ρ (tget T t) (a.tmps.getD t undef)

theorem VR.undef {ρ : Emb} : VR ρ undef undef := .tuple [] [] rfl (fun i x y h => by simp at h)
theorem VR.fn {ρ : Emb} (f : FuncId) : VR ρ (.func (.func f) #[] #[]) (.func (.func f) #[] #[]) :=
 .func (.func f) [] [] [] [] (fun l h => by cases h) rfl (fun i x y h => by simp at h) rfl (fun i x y h => by simp at h)

theorem AR.ev {ρ : Emb} {n : Nat} {T : List Value} {a : Act} (h : AR ρ n T a) {x : Operand} {v : Value} (hv : aev T x = some v) : VR ρ v (a.eval x) := by
 cases x with
 | tmp t => simp [aev] at hv; subst hv; exact h.slot t
 | const c => simp only [aev] at hv; split at hv <;> simp at hv; subst hv; exact plain_self 6 _ (by assumption)
 | global g => simp [aev] at hv
 | func f => simp [aev] at hv; subst hv; exact VR.fn f

theorem AR.mono {ρ ρ' : Emb} (hle : ρ.le ρ') {n : Nat} {T : List Value} {a : Act} (h : AR ρ n T a) : AR ρ' n T a := ⟨h.size, fun t => (h.slot t).mono hle⟩

theorem AR.put {ρ : Emb} {n : Nat} {T : List Value} {a : Act} (h : AR ρ n T a) {d : Nat} (hd : d < n) {v x : Value} (hv : VR ρ v x) : AR ρ n (tput T d v) (a.put (some d) x) := by
 refine ⟨by simp [Act.put, h.size], fun t => ?_⟩
 rw [tget_tput]
 have hs := h.size
 by_cases ht : t = d
 ·subst ht
  simp only [if_true, Act.put]
  rw [Array.getD_eq_getD_getElem?, Array.getElem?_setIfInBounds_self, if_pos (by omega)]; exact hv
 ·rw [if_neg ht]
  simp only [Act.put]
  rw [Array.getD_eq_getD_getElem?, Array.getElem?_setIfInBounds_ne (fun e => ht e.symm), ← Array.getD_eq_getD_getElem?]
  exact h.slot t

/-! ### What the program tells of a type -/
section
variable {P : Program}
theorem r_und {t : TypeId} {d : TypeDesc} (h : P.underlying t = some d) (w : World) : (underlying t).run P w = .ok d w := by
 simp [underlying, h]
theorem r_info {t : TypeId} {i : TypeInfo} (h : P.info? t = some i) (w : World) : (typeInfo t).run P w = .ok i w := by
 simp [typeInfo, h]
theorem r_size {t : TypeId} {i : TypeInfo} (h : P.info? t = some i) (w : World) : (sizeOf t).run P w = .ok i.size w := by
 simp [sizeOf, r_info h]
theorem r_zero {t : TypeId} {i : TypeInfo} {z : Value} (h : P.info? t = some i) (hz : i.zero = some z) (w : World) : (zeroValue t).run P w = .ok z w := by
 simp [zeroValue, r_info h, hz]
def agg? : TypeDesc → Bool
 | .struct _ | .array _ _ => true
 | _ => false
theorem r_agg {t : TypeId} {d : TypeDesc} (h : P.underlying t = some d) (w : World) : (isAgg t).run P w = .ok (agg? d) w := by
 cases d <;> simp [isAgg, r_und h, agg?]

/-! ### Reading -/
def AHeap.load (h : AHeap) (a : Addr) (n : Nat) : Option (List Value) :=
 match h.get a.block with
 | some (.cells _ _ c _) => if a.spot = none ∧ a.off + n ≤ c.length then some ((c.drop a.off).take n) else none
 | _ => none

theorem cell_of {w : World} {B i : Nat} {d : Array Value} {T : TypeId} {fz : Nat × Nat} (h : w.heap[B]? = some (.cells d T fz)) : w.cell? ⟨B, i, none⟩ = d[i]? := by
 simp [World.cell?, h]

theorem loadFrom {w : World} {B o : Nat} {d : Array Value} {T : TypeId} {fz : Nat × Nat} (h : w.heap[B]? = some (.cells d T fz)) : ∀ (n i : Nat) (acc : Array Value) (ys : List Value),
  ys.length = n → (∀ j y, ys[j]? = some y → d[o + i + j]? = some y) → (loadCellsFrom ⟨B, o, none⟩ i n acc).run P w = .ok (acc ++ ys.toArray) w := by
 intro n
 induction n with
 | zero => intro i acc ys hl _; obtain rfl := List.length_eq_zero_iff.1 hl; simp [loadCellsFrom]
 | succ n ih =>
  intro i acc ys hl hy
  cases ys with
  | nil => simp at hl
  | cons y ys =>
   have h0 := hy 0 y rfl
   have hcell : w.cell? ((⟨B, o, none⟩ : Addr).add i) = some y := by
    have : (⟨B, o, none⟩ : Addr).add i = ⟨B, o + i, none⟩ := by
     simp only [Addr.add]; split
     ·subst_vars; rfl
     ·rfl
    rw [this, cell_of h]; simpa using h0
   simp only [loadCellsFrom, Sem.run_bind, run_load, hcell, Result.andThen_ok]
   rw [ih (i + 1) (acc.push y) ys (by simpa using hl) (fun j z hz => by
    have := hy (j + 1) z (by simpa using hz)
    rwa [show o + i + (j + 1) = o + (i + 1) + j by omega] at this)]
   simp

theorem addr_spot {a : Addr} (h : a.spot = none) (B o : Nat) : (⟨B, o, a.spot⟩ : Addr) = ⟨B, o, none⟩ := by rw [h]

/-- A row of cells, read on both sides. -/
theorem load_row {ρ : Emb} {h : AHeap} {w : World} (hr : HR ρ h w) {a : Addr} {n : Nat} {xs : List Value} (hl : h.load a n = some xs) {e : Ent} (he : ρ a.block = some e) :
  ∃ ys, (loadCells ⟨e.blk, e.off + a.off, a.spot⟩ n).run P w = .ok ys.toArray w ∧ VRL ρ xs ys ∧ xs.length = n := by
 unfold AHeap.load at hl
 split at hl
 ·rename_i ro sz c T hg
  split at hl
  ·rename_i hc
   obtain ⟨hs, hlen⟩ := hc
   obtain rfl := Option.some.inj hl
   obtain ⟨o, ho, hb⟩ := hr.blk _ _ _ he hg
   obtain ⟨d, T', fz, rfl, hcell⟩ : ∃ d T' fz, o = .cells d T' fz ∧ ∀ (i : Nat) v, c[i]? = some v → ∃ x, d[e.off + i]? = some x ∧ VR ρ v x := by
    cases o <;> cases ro <;> first | exact hb.elim | (refine ⟨_, _, _, rfl, ?_⟩; first | exact hb.2.2 | exact hb.2.2.2.2.2)
   have hxl : ((c.drop a.off).take n).length = n := by simp; omega
   have hex : ∀ i, i < n → ∃ x, d[e.off + a.off + i]? = some x ∧ VR ρ (c.getD (a.off + i) undef) x := fun i hi => by
    obtain ⟨x, hx, hv⟩ := hcell (a.off + i) c[a.off + i] (List.getElem?_eq_getElem (by omega))
    refine ⟨x, by rw [show e.off + a.off + i = e.off + (a.off + i) by omega]; exact hx, ?_⟩
    rw [List.getD_eq_getElem?_getD, List.getElem?_eq_getElem (show a.off + i < c.length by omega)]; exact hv
   refine ⟨(List.range n).map fun i => d.getD (e.off + a.off + i) undef, ?_, ?_, hxl⟩
   ·rw [addr_spot hs, loadCells]
    have := loadFrom (P := P) ho n 0 #[] ((List.range n).map fun i => d.getD (e.off + a.off + i) undef) (by simp) (o := e.off + a.off) (fun j y hy => by
     have hj : j < n := by have := (List.getElem?_eq_some_iff.1 hy).1; simpa using this
     simp [List.getElem?_range hj] at hy
     obtain ⟨x, hx, _⟩ := hex j hj
     simp only [Nat.add_zero]
     rw [hx] at hy ⊢
     simpa using hy)
    rw [this]; simp
   ·refine VRL_iff.2 ⟨by rw [hxl]; simp, fun i x y hx hy => ?_⟩
    have hi : i < n := by have := (List.getElem?_eq_some_iff.1 hy).1; simpa using this
    obtain ⟨z, hz, hv⟩ := hex i hi
    simp [List.getElem?_range hi] at hy
    rw [hz] at hy; simp at hy; subst hy
    rw [List.getElem?_take, if_pos hi, List.getElem?_drop] at hx
    rw [List.getD_eq_getElem?_getD, hx] at hv; exact hv
  ·cases hl
 ·cases hl

def aLoad (P : Program) (h : AHeap) (t : TypeId) (a : Addr) : Option Value :=
 match P.underlying t with
 | none => none
 | some d =>
  if agg? d then
   match P.info? t with
   | some i => (h.load a i.size).map fun xs => .agg xs.toArray
   | none => none
  else match h.load a 1 with
   | some [x] => some x
   | _ => none

theorem loadCells_one {w w' : World} {a : Addr} {y : Value} (h : (loadCells a 1).run P w = .ok #[y] w') : (load a).run P w = .ok y w' := by
 simp only [loadCells, loadCellsFrom, Sem.run_bind] at h
 have : a.add 0 = a := by simp [Addr.add]
 rw [this] at h
 generalize hr : (load a).run P w = r at h
 cases r with
 | ok z w2 => simp at h; obtain ⟨h1, h2⟩ := h; subst h2; rw [h1]
 | halt _ _ => simp at h

theorem aLoad_sound {ρ : Emb} {h : AHeap} {w : World} (hr : HR ρ h w) {t : TypeId} {a : Addr} {v : Value} (hl : aLoad P h t a = some v) {e : Ent} (he : ρ a.block = some e) :
  ∃ x, (loadVar t ⟨e.blk, e.off + a.off, a.spot⟩).run P w = .ok x w ∧ VR ρ v x := by
 unfold aLoad at hl
 split at hl
 ·cases hl
 rename_i d hd
 split at hl
 ·rename_i hagg
  split at hl
  ·rename_i i hi
   cases hx : h.load a i.size with
   | none => simp [hx] at hl
   | some xs =>
    simp [hx] at hl; subst hl
    obtain ⟨ys, hy, hv, _⟩ := load_row (P := P) hr hx he
    refine ⟨.agg ys.toArray, ?_, VR.ofAgg hv⟩
    simp [loadVar, r_agg hd, hagg, r_size hi, hy]
  ·cases hl
 ·rename_i hagg
  split at hl
  ·rename_i x hx
   obtain rfl := Option.some.inj hl
   obtain ⟨ys, hy, hv, hlen⟩ := load_row (P := P) hr hx he
   match ys, hv with
   | [y], hv =>
    refine ⟨y, ?_, hv.1⟩
    simp only [loadVar, Sem.run_bind, r_agg hd, Result.andThen_ok, hagg]
    exact loadCells_one hy
  ·cases hl

/-! ### Writing -/
def splice (c : List Value) (off : Nat) (v : List Value) : List Value := c.take off ++ v ++ c.drop (off + v.length)

def AHeap.store (h : AHeap) (a : Addr) (vs : List Value) : Option AHeap :=
 match h.get a.block with
 | some (.cells false sz c T) => if a.spot = none ∧ a.off + vs.length ≤ c.length ∧ vs.all Value.oneCell' = true then some (h.set a.block (.cells false sz (splice c a.off vs) T)) else none
 | _ => none

theorem splice_length {c v : List Value} {off : Nat} (h : off + v.length ≤ c.length) : (splice c off v).length = c.length := by
 simp [splice]; omega
theorem splice_get {c v : List Value} {off : Nat} (h : off + v.length ≤ c.length) (i : Nat) : (splice c off v)[i]? = if off ≤ i ∧ i < off + v.length then v[i - off]? else c[i]? := by
 unfold splice
 by_cases h1 : i < off
 ·rw [if_neg (by omega), List.append_assoc, List.getElem?_append_left (by simp; omega), List.getElem?_take, if_pos h1]
 ·by_cases h2 : i < off + v.length
  ·rw [if_pos ⟨by omega, h2⟩, List.getElem?_append_left (by simp; omega), List.getElem?_append_right (by simp; omega)]
   congr 1; simp; omega
  ·rw [if_neg (by omega), List.getElem?_append_right (by simp; omega), List.getElem?_drop]
   congr 1; simp; omega

/-- Cells written one behind the other into one block. -/
theorem storeFrom {B o : Nat} {T : TypeId} : ∀ (ys : List Value) (i : Nat) (w : World) (d : Array Value), w.heap[B]? = some (.cells d T (0, 0)) → o + i + ys.length ≤ d.size → (∀ y ∈ ys, y.oneCell' = true) →
  ∃ w', (storeCells ⟨B, o, none⟩ ys i).run P w = .ok () w' ∧ (∃ d', w'.heap[B]? = some (.cells d' T (0, 0)) ∧ d'.size = d.size ∧ ∀ j, d'[j]? = if o + i ≤ j ∧ j < o + i + ys.length then ys[j - (o + i)]? else d[j]?) ∧
   (∀ C, C ≠ B → w'.heap[C]? = w.heap[C]?) ∧ w'.heap.size = w.heap.size ∧ w'.os = w.os ∧ w'.tape = w.tape ∧ w'.output = w.output ∧ w'.drawn = w.drawn := by
 intro ys
 induction ys with
 | nil => intro i w d hd _ _; exact ⟨w, rfl, ⟨d, hd, rfl, fun j => by rw [if_neg (by simp)]⟩, fun _ _ => rfl, rfl, rfl, rfl, rfl, rfl⟩
 | cons y ys ih =>
  intro i w d hd hlen hone
  simp only [List.length_cons] at hlen
  have hadd : (⟨B, o, none⟩ : Addr).add i = ⟨B, o + i, none⟩ := by
   simp only [Addr.add]; split
   ·subst_vars; rfl
   ·rfl
  have hcell : w.cell? ⟨B, o + i, none⟩ = some d[o + i] := by rw [cell_of hd]; exact Array.getElem?_eq_getElem (by omega)
  have hfz : w.frozen? ⟨B, o + i, none⟩ = false := by simp [World.frozen?, hd]
  have hone0 := hone y (by simp)
  have hd1 : (w.setCell ⟨B, o + i, none⟩ y).heap[B]? = some (.cells (d.setIfInBounds (o + i) y) T (0, 0)) := by
   simp [World.setCell, Array.getElem?_modify, hd]
  obtain ⟨w', h1, ⟨d', h2, h3, h4⟩, h5, h6, h7⟩ := ih (i + 1) (w.setCell ⟨B, o + i, none⟩ y) (d.setIfInBounds (o + i) y) hd1 (by simp; omega) (fun z hz => hone z (by simp [hz]))
  refine ⟨w', ?_, ⟨d', h2, by rw [h3]; simp, fun j => ?_⟩, fun C hC => ?_, by rw [h6]; simp [World.setCell], h7.1.trans rfl, h7.2.1.trans rfl, h7.2.2.1.trans rfl, h7.2.2.2.trans rfl⟩
  ·simp only [storeCells, Sem.run_bind]
   rw [hadd, run_store P w _ y .plain hone0, hcell]
   simp only [hfz, Bool.false_eq_true, if_false, Result.andThen_ok]
   exact h1
  ·rw [h4]
   by_cases hj : j = o + i
   ·subst hj
    rw [if_neg (by omega), if_pos ⟨by omega, by simp⟩, Array.getElem?_setIfInBounds_self, if_pos (by omega), Nat.sub_self]; rfl
   ·by_cases hj2 : o + (i + 1) ≤ j ∧ j < o + (i + 1) + ys.length
    ·rw [if_pos hj2, if_pos ⟨by omega, by simp; omega⟩]
     rw [show j - (o + i) = (j - (o + (i + 1))) + 1 by omega]; simp
    ·rw [if_neg hj2, if_neg (by simp; omega), Array.getElem?_setIfInBounds_ne (fun e => hj e.symm)]
  ·rw [h5 C hC]
   exact Below.heap_setCell_ne w _ y hC
where
 Below.heap_setCell_ne (w : World) (a : Addr) (u : Value) {k : Nat} (h : k ≠ a.block) : (w.setCell a u).heap[k]? = w.heap[k]? := by
  simp only [World.setCell, Array.getElem?_modify]
  rw [if_neg (by omega)]

theorem store_row {ρ : Emb} {h h' : AHeap} {w : World} (hr : HR ρ h w) {a : Addr} {xs ys : List Value} (hs : h.store a xs = some h') (hv : VRL ρ xs ys) {e : Ent} (he : ρ a.block = some e) :
  ∃ w', (storeCells ⟨e.blk, e.off + a.off, a.spot⟩ ys).run P w = .ok () w' ∧ Step True ρ ρ h h' w w' := by
 unfold AHeap.store at hs
 split at hs
 ·rename_i sz c T hg
  split at hs
  ·rename_i hc
   obtain ⟨hsp, hlen, hone⟩ := hc
   obtain rfl := Option.some.inj hs
   obtain ⟨o, ho, hb⟩ := hr.blk _ _ _ he hg
   cases o <;> first | exact hb.elim | skip
   rename_i d T' fz
   obtain ⟨h1, h2, h3, h4, h5, h6⟩ := hb
   subst h2 h3
   have hl := hv.length
   obtain ⟨w', k1, ⟨d', k2, k3, k4⟩, k5, k6, k7, k8, k9, k10⟩ := storeFrom (P := P) (o := e.off + a.off) ys 0 w d ho (by omega) (fun y hy => by
    obtain ⟨i, hi⟩ := List.getElem?_of_mem hy
    have hi' : i < xs.length := by have := (List.getElem?_eq_some_iff.1 hi).1; omega
    have hx := (VRL_iff.1 hv).2 i xs[i] y (List.getElem?_eq_getElem hi') hi
    rw [← hx.oneCell]
    rw [List.all_eq_true] at hone
    exact hone _ (List.getElem_mem hi'))
   refine ⟨w', by rw [addr_spot hsp]; exact k1, Step.set hr he hg rfl rfl k2 ⟨h1, rfl, rfl, by omega, by rw [splice_length hlen]; exact h5, fun i v hi => ?_⟩ k5 k6 k7 k8 k9 k10⟩
   rw [splice_get hlen] at hi
   split at hi
   ·rename_i hii
    obtain ⟨y, hy, hvy⟩ := hv.get hi
    exact ⟨y, by rw [k4, if_pos (by omega)]; rw [show e.off + i - (e.off + a.off + 0) = i - a.off by omega]; exact hy, hvy⟩
   ·rename_i hii
    obtain ⟨x, hx, hvx⟩ := h6 i v hi
    exact ⟨x, by rw [k4, if_neg (by omega)]; exact hx, hvx⟩
  ·cases hs
 ·cases hs

def aStore (P : Program) (h : AHeap) (t : TypeId) (a : Addr) (v : Value) : Option AHeap :=
 match P.info? t with
 | some i => if v.cells.size = i.size then h.store a v.cells.toList else none
 | none => none

theorem aStore_sound {ρ : Emb} {h h' : AHeap} {w : World} (hr : HR ρ h w) {t : TypeId} {a : Addr} {v x : Value} (hs : aStore P h t a v = some h') (hv : VR ρ v x) {e : Ent} (he : ρ a.block = some e) :
  ∃ w', (storeVar t ⟨e.blk, e.off + a.off, a.spot⟩ x).run P w = .ok () w' ∧ Step True ρ ρ h h' w w' := by
 unfold aStore at hs
 split at hs
 ·rename_i i hi
  split at hs
  ·rename_i hsz
   have hc := hv.cells
   obtain ⟨w', h1, h2⟩ := store_row (P := P) hr hs hc he
   refine ⟨w', ?_, h2⟩
   have hxs : x.cells.size = i.size := by have := hc.length; simp at this; omega
   simp [storeVar, r_size hi, hxs, h1]
  ·cases hs
 ·cases hs

/-! ### New blocks -/
theorem push_cells {ρ : Emb} {h : AHeap} {w : World} (hr : HR ρ h w) {xs : List Value} {ys : Array Value} (hv : VRL ρ xs ys.toList) (sz : Nat) (T : TypeId) :
  ∃ ρ', Step True ρ ρ' h (h.push (.cells false sz xs T)) w (w.alloc (.cells ys T)) ∧ ρ' h.next = some ⟨w.heap.size, 0, ys.size, sz⟩ ∧ ρ.le ρ' := by
 have hl := hv.length
 have st := Step.push (D := True) (b := .cells false sz xs T) (o := .cells ys T) (e := ⟨w.heap.size, 0, ys.size, sz⟩) hr rfl (fun ρ' hle _ => ⟨⟨rfl, fun _ => rfl⟩, rfl, rfl, by simp, by simp at hl; simp; omega, fun i v hi => by
  obtain ⟨y, hy, hvy⟩ := hv.get hi
  exact ⟨y, by simpa using hy, hvy.mono hle⟩⟩)
 exact ⟨_, st, by simp, st.ext⟩

theorem run_newRow {w : World} (T : TypeId) (ys : Array Value) : (newRow T ys).run P w = .ok ⟨w.heap.size, 0, none⟩ (w.alloc (.cells ys T)) := by
 simp [newRow]

/-! ### Parts of aggregates -/
def aPart (P : Program) (t : TypeId) (cs : List Value) (off : Nat) : Option Value :=
 match P.underlying t with
 | none => none
 | some d =>
  if agg? d then (P.info? t).map fun i => .agg ((cs.drop off).take i.size).toArray
  else cs[off]?

theorem aPart_sound {ρ : Emb} {t : TypeId} {cs ys : List Value} {off : Nat} {v : Value} (hp : aPart P t cs off = some v) (hv : VRL ρ cs ys) (w : World) :
  ∃ x, (part t ys.toArray off).run P w = .ok x w ∧ VR ρ v x := by
 unfold aPart at hp
 split at hp
 ·cases hp
 rename_i d hd
 split at hp
 ·rename_i hagg
  cases hi : P.info? t with
  | none => simp [hi] at hp
  | some i =>
   simp [hi] at hp; subst hp
   refine ⟨.agg ((ys.drop off).take i.size).toArray, ?_, VR.ofAgg ((hv.drop off).take i.size)⟩
   simp [part, r_agg hd, hagg, r_size hi, List.take_drop]
 ·rename_i hagg
  obtain ⟨y, hy, hvy⟩ := hv.get hp
  refine ⟨y, ?_, hvy⟩
  simp [part, r_agg hd, hagg, hy]

/-! ### Filling -/
def aFill (place : Nat → Option (Nat × Nat)) (c : List Value) : List (Nat × Value) → Option (List Value)
 | [] => some c
 | (i, v) :: rest =>
  match place i with
  | none => none
  | some (off, size) => if v.cells.size = size ∧ off + v.cells.size ≤ c.length then aFill place (splice c off v.cells.toList) rest else none

theorem fold_set : ∀ (vs : List Value) (k off : Nat) (c : Array Value), off + k + vs.length ≤ c.size →
  ((vs.zipIdx k).foldl (fun cs (x : Value × Nat) => cs.setIfInBounds (off + x.2) x.1) c).toList = splice c.toList (off + k) vs := by
 intro vs
 induction vs with
 | nil => intro k off c h; simp [splice]
 | cons v vs ih =>
  intro k off c h
  simp only [List.length_cons] at h
  simp only [List.zipIdx_cons, List.foldl_cons]
  rw [ih (k + 1) off _ (by simp; omega)]
  refine List.ext_getElem? fun i => ?_
  rw [splice_get (by simp; omega), splice_get (by simp; omega)]
  by_cases h1 : i = off + k
  ·subst h1
   rw [if_neg (by omega), if_pos ⟨by omega, by simp⟩, Array.toList_setIfInBounds, List.getElem?_set_self (by simp; omega)]
   simp
  ·by_cases h2 : off + (k + 1) ≤ i ∧ i < off + (k + 1) + vs.length
   ·rw [if_pos h2, if_pos ⟨by omega, by simp; omega⟩, show i - (off + k) = (i - (off + (k + 1))) + 1 by omega]; simp
   ·rw [if_neg h2, if_neg (by simp; omega)]
    simp [List.getElem?_set_ne (fun e => h1 e.symm)]

theorem VRL.splice {ρ : Emb} {c d v x : List Value} (h : VRL ρ c d) (h' : VRL ρ v x) (off : Nat) : VRL ρ (splice c off v) (splice d off x) := by
 have := h'.length
 unfold Ox.splice
 rw [this]
 exact ((h.take off).append h').append (h.drop _)

theorem aFill_sound {ρ : Emb} (place : Nat → Option (Nat × Nat)) : ∀ (ps qs : List (Nat × Value)) (c r : List Value) (d : Array Value), aFill place c ps = some r → VRL ρ c d.toList →
  ps.map (·.1) = qs.map (·.1) → VRL ρ (ps.map (·.2)) (qs.map (·.2)) → ∃ r', Instr.fill place d qs = some r' ∧ VRL ρ r r'.toList := by
 intro ps
 induction ps with
 | nil => intro qs c r d h hc h1 _; cases qs with | nil => exact ⟨d, rfl, by simp [aFill] at h; subst h; exact hc⟩ | cons _ _ => simp at h1
 | cons p ps ih =>
  intro qs c r d h hc h1 h2
  cases qs with
  | nil => simp at h1
  | cons q qs =>
   obtain ⟨i, v⟩ := p
   obtain ⟨j, x⟩ := q
   simp only [List.map_cons, List.cons.injEq] at h1
   obtain ⟨rfl, h1⟩ := h1
   obtain ⟨hvx, h2⟩ := h2
   have hvc := hvx.cells
   have hl := hvc.length
   have hcl := hc.length
   simp only [Array.length_toList] at hl hcl
   unfold aFill at h
   unfold Instr.fill
   cases hp : place i with
   | none => simp [hp] at h
   | some os =>
    obtain ⟨off, size⟩ := os
    simp only [hp] at h
    simp only
    split at h
    ·rename_i hcond
     rw [if_neg (by simp; omega)]
     refine ih qs _ r _ h ?_ h1 h2
     have hf := fold_set x.cells.toList 0 off d (by simp; omega)
     rw [Nat.add_zero] at hf
     rw [show (x.cells.zipIdx.foldl (fun cs (x : Value × Nat) => cs.setIfInBounds (off + x.2) x.1) d).toList = Ox.splice d.toList off x.cells.toList from by
      rw [← hf, ← Array.foldl_toList, Array.toList_zipIdx]]
     exact hc.splice hvc off
    ·cases h

end
end Go.Ox
