/-
 WHAT EACH OPERATION DOES ON THE ABSTRACT SIDE, part 3.
-/
import Derived.Test.YtfcajloeknedeaaGreatOxC
set_option linter.unusedSimpArgs false
set_option linter.unusedVariables false
namespace Go.Ox
section
variable {P : Program}

/-! ### one operand of an integer, a bool -/
def aUn (op : UnOp) : Value → Option Value
 | .int k n => match op with
  | .neg => some (.int k (k.wrap (0 - n)))
  | .xor => some (.int k (k.wrap (BitVec.ofInt k.bits (if k.signed then -1 else k.max) ^^^ BitVec.ofInt k.bits n).toNat))
  | _ => none
 | .bool b => match op with
  | .not => some (.bool !b)
  | _ => none
 | _ => none

theorem aUn_sound {ρ : Emb} {h : AHeap} {w : World} (hr : HR ρ h w) {op : UnOp} {a a' v : Value} (hs : aUn op a = some v) (ha : VR ρ a a') : OK P ρ h w (Op.unary op a') v h := by
 unfold aUn at hs
 split at hs
 ·obtain rfl := ha.int_inv
  split at hs <;> first | (cases hs; done) | (obtain rfl := Option.some.inj hs; exact OK.still hr (by simp [Op.unary, Op.intArith, Op.intBits]) (.int _ _))
 ·obtain rfl := ha.bool_inv
  split at hs <;> first | (cases hs; done) | (obtain rfl := Option.some.inj hs; exact OK.still hr (by simp [Op.unary]) (.bool _))
 ·cases hs

def aConv (P : Program) (src dst : TypeId) : Value → Option Value
 | .int k n => match P.underlying src, P.underlying dst with
  | some (.int _), some (.int k') => some (.int k' (k'.wrap n))
  | _, _ => none
 | .string s => match P.underlying src, P.underlying dst with
  | some .string, some .string => some (.string s)
  | _, _ => none
 | _ => none

theorem aConv_sound {ρ : Emb} {h : AHeap} {w : World} (hr : HR ρ h w) {src dst : TypeId} {a a' v : Value} (hs : aConv P src dst a = some v) (ha : VR ρ a a') : OK P ρ h w (convert src dst a') v h := by
 unfold aConv at hs
 split at hs
 ·obtain rfl := ha.int_inv
  split at hs
  ·rename_i h1 h2
   obtain rfl := Option.some.inj hs
   exact OK.still hr (by simp [convert, r_und h1, r_und h2, Conv.intToInt]) (.int _ _)
  ·cases hs
 ·cases ha
  split at hs
  ·rename_i h1 h2
   obtain rfl := Option.some.inj hs
   exact OK.still hr (by simp [convert, r_und h1, r_und h2]) (.string _)
  ·cases hs
 ·cases hs

/-! ### aggregates -/
def aZero (P : Program) (t : TypeId) : Option (List Value) :=
 match P.info? t with
 | some i => match i.zero with
  | some z => if z.cells.toList.all (plain 6) && z.cells.toList.all Value.oneCell' && z.cells.size == i.size then some z.cells.toList else none
  | none => none
 | none => none

theorem aZero_spec {t : TypeId} {zs : List Value} (h : aZero P t = some zs) : ∃ i z, P.info? t = some i ∧ i.zero = some z ∧ zs = z.cells.toList ∧ zs.length = i.size ∧ zs.all (plain 6) = true ∧ zs.all Value.oneCell' = true := by
 unfold aZero at h
 split at h
 ·rename_i i hi
  split at h
  ·rename_i z hz
   split at h
   ·rename_i hc
    obtain rfl := Option.some.inj h
    simp only [Bool.and_eq_true, beq_iff_eq] at hc
    exact ⟨i, z, hi, hz, rfl, by simpa using hc.2, hc.1.1, hc.1.2⟩
   ·cases h
  ·cases h
 ·cases h

def aPlaces (P : Program) (fs : List Field) : Option (List (Nat × Nat)) := fs.mapM fun f => (P.info? f.type).map fun i => (f.offset, i.size)

theorem aPlaces_sound {fs : List Field} {ps : List (Nat × Nat)} (h : aPlaces P fs = some ps) (w : World) :
  (fs.mapM (fun f => do pure (f.offset, ← sizeOf f.type) : Field → Sem (Nat × Nat))).run P w = .ok ps w := by
 induction fs generalizing ps with
 | nil => simp [aPlaces] at h; subst h; rfl
 | cons f fs ih =>
  simp only [aPlaces, List.mapM_cons] at h
  cases hi : P.info? f.type with
  | none => simp [hi] at h
  | some i =>
   simp only [hi, Option.map_some, Option.bind_eq_bind, Option.bind_some] at h
   cases hps : aPlaces P fs with
   | none => simp only [aPlaces] at hps; simp [hps] at h
   | some qs =>
    have := ih hps
    simp only [aPlaces] at hps
    simp [hps] at h
    subst h
    simp only [List.mapM_cons, Sem.run_bind, r_size hi, Result.andThen_ok, Sem.run_pure, this]

def aBuild (P : Program) (t : TypeId) (ps : List (Nat × Value)) : Option Value :=
 match aZero P t, P.underlying t with
 | some zs, some (.struct fs) => match aPlaces P fs.toList with
  | some pl => match aFill (pl.toArray[·]?) zs ps with
   | some r => some (.agg r.toArray)
   | none => none
  | none => none
 | some zs, some (.array _ e) => match P.info? e with
  | some ti => match aFill (fun j => some (j * ti.size, ti.size)) zs ps with
   | some r => some (.agg r.toArray)
   | none => none
  | none => none
 | _, _ => none

theorem aBuild_sound {ρ : Emb} {h : AHeap} {w : World} (hr : HR ρ h w) {t : TypeId} {ps qs : List (Nat × Value)} {v : Value} (hs : aBuild P t ps = some v) (h1 : ps.map (·.1) = qs.map (·.1)) (h2 : VRL ρ (ps.map (·.2)) (qs.map (·.2))) :
  OK P ρ h w (Instr.build t qs.toArray) v h := by
 unfold aBuild at hs
 split at hs
 ·rename_i zs fs hz hu
  obtain ⟨i, z, hi, hzz, rfl, hlen, hpl, _⟩ := aZero_spec hz
  split at hs
  ·rename_i pl hp
   split at hs
   ·rename_i r hf
    obtain rfl := Option.some.inj hs
    obtain ⟨r', h3, h4⟩ := aFill_sound (ρ := ρ) _ ps qs _ r z.cells hf (list_plain hpl) h1 h2
    refine OK.still hr (x := .agg r') ?_ ?_
    ·have hm : (fs.mapM (fun f => do pure (f.offset, ← sizeOf f.type) : Field → Sem (Nat × Nat))).run P w = .ok pl.toArray w := by
      rw [← Array.toArray_toList (xs := fs), List.mapM_toArray]
      simp only [Sem.run_map, aPlaces_sound hp, Result.andThen_ok]
     simp only [Instr.build, Sem.run_bind, r_zero hi hzz, r_und hu, Result.andThen_ok, hm]
     simp only [h3]; rfl
    ·have := VR.ofAgg h4; simpa using this
   ·cases hs
  ·cases hs
 ·rename_i zs len e hz hu
  obtain ⟨i, z, hi, hzz, rfl, hlen, hpl, _⟩ := aZero_spec hz
  split at hs
  ·rename_i ti hti
   split at hs
   ·rename_i r hf
    obtain rfl := Option.some.inj hs
    obtain ⟨r', h3, h4⟩ := aFill_sound (ρ := ρ) _ ps qs _ r z.cells hf (list_plain hpl) h1 h2
    refine OK.still hr (x := .agg r') ?_ ?_
    ·simp only [Instr.build, Sem.run_bind, r_zero hi hzz, r_und hu, r_size hti, Result.andThen_ok]
     simp only [h3]; rfl
    ·have := VR.ofAgg h4; simpa using this
   ·cases hs
  ·cases hs
 ·cases hs

def aZeros (zs : List Value) : Nat → List Value
 | 0 => []
 | n + 1 => zs ++ aZeros zs n

theorem aZeros_length (zs : List Value) (n : Nat) : (aZeros zs n).length = n * zs.length := by
 induction n with
 | zero => simp [aZeros]
 | succ n ih => simp [aZeros, ih, Nat.add_mul]; omega

theorem aZeros_get (zs : List Value) : ∀ (n i : Nat), i < n * zs.length → (aZeros zs n)[i]? = zs[i % zs.length]?
 | 0, i, h => by omega
 | n + 1, i, h => by
  simp only [aZeros]
  by_cases hi : i < zs.length
  ·rw [List.getElem?_append_left hi, Nat.mod_eq_of_lt hi]
  ·rw [List.getElem?_append_right (by omega), aZeros_get zs n (i - zs.length) (by rw [Nat.add_mul] at h; omega)]
   congr 1
   exact (Nat.mod_eq_sub_mod (by omega)).symm

theorem aZeros_eq (z : Array Value) (n : Nat) : ((Array.range (n * z.size)).map (fun i => z[i % z.size]!)).toList = aZeros z.toList n := by
 refine List.ext_getElem? fun i => ?_
 by_cases hi : i < n * z.size
 ·rw [aZeros_get _ _ _ (by simpa using hi)]
  have hz : 0 < z.size := Nat.pos_of_ne_zero (fun e => by rw [e] at hi; omega)
  have hm : i % z.size < z.size := Nat.mod_lt _ hz
  simp [List.getElem?_range hi, hm]
 ·rw [List.getElem?_eq_none (by simp; omega), List.getElem?_eq_none (by rw [aZeros_length]; simp; omega)]

theorem all_zeros {p : Value → Bool} {zs : List Value} (h : zs.all p = true) (n : Nat) : (aZeros zs n).all p = true := by
 induction n with
 | zero => rfl
 | succ n ih => simp [aZeros, List.all_append, h, ih]

def aBuildSlice (P : Program) (h : AHeap) (t : TypeId) (len : Nat) (ps : List (Nat × Value)) : Option (Value × AHeap) :=
 match P.underlying t with
 | some (.slice e) => match P.info? e, aZero P e with
  | some i, some zs =>
   if i.size = 0 ∨ len * i.size > 2 ^ 24 then none
   else match aFill (fun j => some (j * i.size, i.size)) (aZeros zs len) ps with
    | some r => some (.slice (some ⟨h.next, 0, none⟩) len len, h.push (.cells false i.size r e))
    | none => none
  | _, _ => none
 | _ => none

theorem VR.sliceAt {ρ : Emb} {β : Nat} {e : Ent} {n c : Nat} (he : ρ β = some e) (ho : e.off = 0) (hc : n ≤ c) (hb : c < big) (hcap : c * e.sz ≤ e.cap) :
  VR ρ (.slice (some ⟨β, 0, none⟩) n c) (.slice (some ⟨e.blk, 0, none⟩) n c) := by
 have := VR.slice (ρ := ρ) ⟨β, 0, none⟩ e n c c he (by rw [if_pos hb]) (fun _ => by simpa using hcap) hc
 simpa [ho] using this

theorem aBuildSlice_sound {ρ : Emb} {h h' : AHeap} {w : World} (hr : HR ρ h w) {t : TypeId} {len : Nat} {ps qs : List (Nat × Value)} {v : Value} (hs : aBuildSlice P h t len ps = some (v, h'))
  (h1 : ps.map (·.1) = qs.map (·.1)) (h2 : VRL ρ (ps.map (·.2)) (qs.map (·.2))) : OK P ρ h w (Instr.buildSlice t len qs.toArray) v h' := by
 unfold aBuildSlice at hs
 split at hs
 ·rename_i e hu
  split at hs
  ·rename_i i zs hi hz
   obtain ⟨i', z, hi', hzz, rfl, hlen, hpl, _⟩ := aZero_spec hz
   rw [hi] at hi'; obtain rfl := Option.some.inj hi'
   split at hs
   ·cases hs
   rename_i hc
   simp only [not_or, Nat.not_lt] at hc
   split at hs
   ·rename_i r hf
    simp only [Option.some.injEq, Prod.mk.injEq] at hs
    obtain ⟨rfl, rfl⟩ := hs
    have hzs : z.cells.size = i.size := by simpa using hlen
    obtain ⟨r', h3, h4⟩ := aFill_sound (ρ := ρ) _ ps qs _ r ((Array.range (len * i.size)).map (fun j => z.cells[j % z.cells.size]!)) hf
     (by rw [← hzs, aZeros_eq]; exact list_plain (all_zeros hpl len)) h1 h2
    obtain ⟨ρ', st, hρ, hle⟩ := push_cells hr h4 i.size e
    have hrl : r'.size = len * i.size := by
     have k1 := h4.length
     have k2 := aFill_len hf
     rw [aZeros_length] at k2
     simp at k1 k2; rw [← k1, k2, hzs]
    refine ⟨.slice (some ⟨w.heap.size, 0, none⟩) len len, _, ρ', ?_, VR.sliceAt hρ rfl (Nat.le_refl _) ?_ (by simp [hrl]), st⟩
    ·simp only [Instr.buildSlice, Sem.run_bind, r_und hu, Result.andThen_ok, r_size hi]
     rw [if_neg (by omega)]
     by_cases h0 : len * i.size = 0
     ·have hl0 : len = 0 := by rcases Nat.mul_eq_zero.1 h0 with h | h <;> omega
      subst hl0
      simp only [Nat.zero_mul, Nat.not_lt_zero, if_false, if_true, Sem.run_pure, Result.andThen_ok]
      simp only [Nat.zero_mul, show Array.range 0 = #[] from rfl, List.map_toArray, Array.map_empty, List.map_nil] at h3 ⊢
      simp [h3, run_newRow]
     ·simp only [h0, if_false, Sem.run_bind, r_zero hi hzz, Result.andThen_ok, Sem.run_pure]
      simp [h3, run_newRow]
    ·have : len ≤ len * i.size := Nat.le_mul_of_pos_right _ (Nat.pos_of_ne_zero hc.1)
     have : (2 : Nat) ^ 24 < big := by decide
     omega
   ·cases hs
  ·cases hs
 ·cases hs
where
 aFill_len {place : Nat → Option (Nat × Nat)} : ∀ {ps : List (Nat × Value)} {c r : List Value}, aFill place c ps = some r → r.length = c.length
  | [], c, r, h => by simp [aFill] at h; rw [h]
  | (i, v) :: ps, c, r, h => by
   unfold aFill at h
   split at h
   ·cases h
   ·split at h
    ·rename_i hc
     rw [aFill_len h, splice_length (by simpa using hc.2)]
    ·cases h

/-! ### places -/
def aField (P : Program) (s : TypeId) (f : Nat) : Value → Option Value
 | .pointer (some a) => match P.underlying s with
  | some (.struct fs) => match fs[f]? with
   | some fl => match P.info? fl.type with
    | some i => if i.size = 0 then none else some (.pointer (some (a.add fl.offset)))
    | none => none
   | none => none
  | _ => none
 | _ => none

theorem VR.add {ρ : Emb} {a : Addr} {e : Ent} (he : ρ a.block = some e) (n : Nat) : VR ρ (.pointer (some (a.add n))) (.pointer (some ((⟨e.blk, e.off + a.off, a.spot⟩ : Addr).add n))) := by
 unfold Addr.add
 split
 ·exact .ptr a e he
 ·have := VR.ptr (ρ := ρ) ⟨a.block, a.off + n, none⟩ e he
  simpa [Nat.add_assoc] using this

theorem aField_sound {ρ : Emb} {h : AHeap} {w : World} (hr : HR ρ h w) {s : TypeId} {f : Nat} {a a' v : Value} (hs : aField P s f a = some v) (ha : VR ρ a a') : OK P ρ h w (Instr.fieldAt s a' f) v h := by
 unfold aField at hs
 split at hs
 ·obtain ⟨e, he, rfl⟩ := ha.ptr_inv
  split at hs
  ·rename_i fs hu
   split at hs
   ·rename_i fl hfl
    split at hs
    ·rename_i i hi
     split at hs
     ·cases hs
     rename_i h0
     obtain rfl := Option.some.inj hs
     refine OK.still hr ?_ (VR.add he _)
     simp only [Instr.fieldAt, Sem.run_bind, r_und hu, Result.andThen_ok, hfl, Instr.sureAddr, Sem.run_pure, fieldPlace, r_size hi, h0, if_false]
    ·cases hs
   ·cases hs
  ·cases hs
 ·cases hs

def aFieldV (P : Program) (t : TypeId) (f : Nat) : Value → Option Value
 | .agg cs => match P.underlying t with
  | some (.struct fs) => match fs[f]? with
   | some fl => aPart P fl.type cs.toList fl.offset
   | none => none
  | _ => none
 | _ => none

theorem aFieldV_sound {ρ : Emb} {h : AHeap} {w : World} (hr : HR ρ h w) {t : TypeId} {f : Nat} {a a' v : Value} (hs : aFieldV P t f a = some v) (ha : VR ρ a a') : OK P ρ h w (Instr.field t a' f) v h := by
 unfold aFieldV at hs
 split at hs
 ·obtain ⟨ys, rfl, hv⟩ := ha.agg_inv
  split at hs
  ·rename_i fs hu
   split at hs
   ·rename_i fl hfl
    obtain ⟨x, hx, hvx⟩ := aPart_sound hs hv w
    refine OK.still hr ?_ hvx
    simp only [Instr.field, Sem.run_bind, r_und hu, Result.andThen_ok, hfl, asAgg, Sem.run_pure, hx]
   ·cases hs
  ·cases hs
 ·cases hs

def aIndexAddr (P : Program) (t : TypeId) : Value → Value → Option Value
 | .slice (some a) len _, .int _ i => match P.underlying t with
  | some (.slice e) => match P.info? e with
   | some ti => if 0 ≤ i ∧ i < len then some (.pointer (some (a.add (i.toNat * ti.size)))) else none
   | none => none
  | _ => none
 | .pointer (some a), .int _ i => match P.underlying t with
  | some (.array len e) => match P.info? e with
   | some ti => if 0 ≤ i ∧ i < len then some (.pointer (some (a.add (i.toNat * ti.size)))) else none
   | none => none
  | _ => none
 | _, _ => none

theorem aIndexAddr_sound {ρ : Emb} {h : AHeap} {w : World} (hr : HR ρ h w) {t : TypeId} {a a' b b' v : Value} (hs : aIndexAddr P t a b = some v) (ha : VR ρ a a') (hb : VR ρ b b') : OK P ρ h w (Instr.indexAt t a' b') v h := by
 unfold aIndexAddr at hs
 split at hs
 ·obtain rfl := hb.int_inv
  split at hs
  ·rename_i e hu
   split at hs
   ·rename_i ti hti
    split at hs
    ·rename_i hc
     obtain rfl := Option.some.inj hs
     cases ha with
     | sliceEmpty _ _ _ _ => omega
     | slice a e l c c' he _ _ _ =>
      refine OK.still hr ?_ (VR.add he _)
      simp only [Instr.indexAt, asIntOf, Sem.run_bind, Sem.run_pure, Result.andThen_ok, r_und hu]
      simp [hc, r_size hti]
    ·cases hs
   ·cases hs
  ·cases hs
 ·obtain rfl := hb.int_inv
  obtain ⟨e, he, rfl⟩ := ha.ptr_inv
  split at hs
  ·rename_i len el hu
   split at hs
   ·rename_i ti hti
    split at hs
    ·rename_i hc
     obtain rfl := Option.some.inj hs
     refine OK.still hr ?_ (VR.add he _)
     simp only [Instr.indexAt, asIntOf, Sem.run_bind, Sem.run_pure, Result.andThen_ok, r_und hu, Instr.sureAddr]
     simp [hc, r_size hti]
    ·cases hs
   ·cases hs
  ·cases hs
 ·cases hs

def aIndex (P : Program) (t : TypeId) : Value → Value → Option Value
 | .string s, .int _ i => match P.underlying t with
  | some .string => if 0 ≤ i then match s[i.toNat]? with
   | some b => some (.int .u8 b.toNat)
   | none => none
   else none
  | _ => none
 | .agg cs, .int _ i => match P.underlying t with
  | some (.array len e) => match P.info? e with
   | some ti => if 0 ≤ i ∧ i < len then aPart P e cs.toList (i.toNat * ti.size) else none
   | none => none
  | _ => none
 | _, _ => none

theorem aIndex_sound {ρ : Emb} {h : AHeap} {w : World} (hr : HR ρ h w) {t : TypeId} {a a' b b' v : Value} (hs : aIndex P t a b = some v) (ha : VR ρ a a') (hb : VR ρ b b') : OK P ρ h w (Instr.index t a' b') v h := by
 unfold aIndex at hs
 split at hs
 ·obtain rfl := hb.int_inv
  cases ha
  split at hs
  ·rename_i hu
   split at hs
   ·rename_i h0
    split at hs
    ·rename_i bt hbt
     obtain rfl := Option.some.inj hs
     refine OK.still hr ?_ (.int _ _)
     simp only [Instr.index, asIntOf, Sem.run_bind, Sem.run_pure, Result.andThen_ok, r_und hu, h0, if_true, hbt]
    ·cases hs
   ·cases hs
  ·cases hs
 ·obtain rfl := hb.int_inv
  obtain ⟨ys, rfl, hv⟩ := ha.agg_inv
  split at hs
  ·rename_i len e hu
   split at hs
   ·rename_i ti hti
    split at hs
    ·rename_i hc
     obtain ⟨x, hx, hvx⟩ := aPart_sound hs hv w
     refine OK.still hr ?_ hvx
     simp only [Instr.index, asIntOf, Sem.run_bind, Sem.run_pure, Result.andThen_ok, r_und hu]
     simp [hc, r_size hti, hx]
    ·cases hs
   ·cases hs
  ·cases hs
 ·cases hs

/-! ### slices of slices and strings -/
def aBound (y : Nat) : Value → Option Nat
 | .int _ i => if 0 ≤ i ∧ i ≤ y then some i.toNat else none
 | _ => none

theorem aBound_sound {ρ : Emb} {y : Nat} {a a' : Value} {n : Nat} (hs : aBound y a = some n) (ha : VR ρ a a') (code : BoundsCode) (y' : Nat) (hy : y ≤ y') (w : World) :
  (Instr.sliceBound a' y' code).run P w = .ok n w ∧ n ≤ y := by
 unfold aBound at hs
 split at hs
 ·obtain rfl := ha.int_inv
  split at hs
  ·rename_i hc
   obtain rfl := Option.some.inj hs
   refine ⟨?_, by omega⟩
   simp only [Instr.sliceBound, asIntOf, Sem.run_bind, Sem.run_pure, Result.andThen_ok]
   rw [if_pos (by omega)]; rfl
  ·cases hs
 ·cases hs

def aStride (h : AHeap) (β : Nat) : Option Nat :=
 match h.get β with
 | some (.cells _ sz _ _) => some sz
 | _ => none

def optB (y d : Nat) : Option Value → Option Nat
 | some v => aBound y v
 | none => some d

/-- s[lo:hi:mx] of a slice of elements of 'size' cells. -/
def aSliceS (h : AHeap) (size : Nat) (a : Addr) (len cap : Nat) (lo hi mx : Option Value) : Option Value :=
 let capK := if cap < big then cap else cap - big
 if capK < len then none else
 match optB capK capK mx with
 | none => none
 | some m =>
  match optB (if mx.isSome then m else capK) len hi with
  | none => none
  | some hh =>
   if mx.isSome && hi.isNone then none else
   match optB hh 0 lo with
   | none => none
   | some l =>
    if l ≠ 0 ∧ aStride h a.block ≠ some size ∧ aStride h a.block ≠ some 0 then none else
    some (.slice (some (a.add (l * size))) (hh - l) (if mx.isSome then m - l else cap - l))

def aSlice (P : Program) (h : AHeap) (t : TypeId) (x : Value) (lo hi mx : Option Value) : Option Value :=
 match P.underlying t, x with
 | some .string, .string s =>
  if mx.isSome then none else
  match optB s.size s.size hi with
  | none => none
  | some hh => match optB hh 0 lo with
   | none => none
   | some l => some (.string (s.extract l hh))
 | some (.slice e), .slice (some a) len cap => match P.info? e with
  | some ti => aSliceS h ti.size a len cap lo hi mx
  | none => none
 | some (.slice e), .slice none 0 0 => match P.info? e with
  | some _ => match optB 0 0 mx, optB 0 0 hi, optB 0 0 lo with
   | some _, some _, some _ => if mx.isSome && hi.isNone then none else some (.slice none 0 0)
   | _, _, _ => none
  | none => none
 | _, _ => none

def VRO (ρ : Emb) : Option Value → Option Value → Prop
 | none, none => True
 | some a, some b => VR ρ a b
 | _, _ => False

theorem optB_high {ρ : Emb} {y d n : Nat} {a a' : Option Value} (hs : optB y d a = some n) (ha : VRO ρ a a') :
  (∃ v v', a = some v ∧ a' = some v' ∧ VR ρ v v' ∧ aBound y v = some n) ∨ (a = none ∧ a' = none ∧ n = d) := by
 cases a with
 | none => cases a' with
  | none => simp [optB] at hs; exact .inr ⟨rfl, rfl, hs.symm⟩
  | some _ => exact ha.elim
 | some v => cases a' with
  | none => exact ha.elim
  | some v' => exact .inl ⟨v, v', rfl, rfl, ha, hs⟩

/-- What the bounds come to, where the capacity is 'at least capK'. -/
theorem bounds_sound {ρ : Emb} {len capK cap' m hh l : Nat} {lo hi mx lo' hi' mx' : Option Value} (hl : VRO ρ lo lo') (hh' : VRO ρ hi hi') (hm : VRO ρ mx mx') (h1 : optB capK capK mx = some m)
  (h2 : optB (if mx.isSome then m else capK) len hi = some hh) (h3 : (mx.isSome && hi.isNone) = false) (h4 : optB hh 0 lo = some l) (hcap : capK ≤ cap') (hlen : len ≤ capK) (w : World) :
  (Instr.sliceBounds true len cap' lo' hi' mx').run P w = .ok (l, hh, if mx.isSome then m else cap') w ∧ l ≤ hh ∧ hh ≤ capK ∧ m ≤ capK ∧ (mx.isSome = true → hh ≤ m) := by
 rcases optB_high h4 hl with ⟨vl, vl', rfl, rfl, hvl, hbl⟩ | ⟨rfl, rfl, rfl⟩ <;>
 rcases optB_high h1 hm with ⟨vm, vm', rfl, rfl, hvm, hbm⟩ | ⟨rfl, rfl, rfl⟩ <;>
 rcases optB_high h2 hh' with ⟨vh, vh', rfl, rfl, hvh, hbh⟩ | ⟨rfl, rfl, rfl⟩ <;>
 simp only [Option.isSome_some, Option.isSome_none, Option.isNone_some, Option.isNone_none, Bool.and_true, Bool.and_false, Bool.true_eq_false, if_true, if_false, Bool.false_eq_true] at h3 <;>
 (try simp only [Option.isSome_some, Option.isSome_none, if_true, if_false, Bool.false_eq_true] at hbh) <;>
 simp only [Instr.sliceBounds, Sem.run_bind, Option.isSome_some, Option.isSome_none, if_true, if_false, Bool.false_eq_true]
 ·obtain ⟨k1, k2⟩ := aBound_sound (P := P) hbm hvm .slice3Acap cap' hcap w
  obtain ⟨k3, k4⟩ := aBound_sound (P := P) hbh hvh .slice3B m (Nat.le_refl _) w
  obtain ⟨k5, k6⟩ := aBound_sound (P := P) hbl hvl .slice3C hh (Nat.le_refl _) w
  simp only [k1, k3, k5, Result.andThen_ok, Sem.run_pure]
  exact ⟨trivial, k6, by omega, k2, fun _ => k4⟩
 ·obtain ⟨k3, k4⟩ := aBound_sound (P := P) hbh hvh .sliceAcap cap' hcap w
  obtain ⟨k5, k6⟩ := aBound_sound (P := P) hbl hvl .sliceB hh (Nat.le_refl _) w
  simp only [k3, k5, Result.andThen_ok, Sem.run_pure]
  exact ⟨trivial, k6, k4, Nat.le_refl _, fun h => by cases h⟩
 ·obtain ⟨k5, k6⟩ := aBound_sound (P := P) hbl hvl .sliceB hh (Nat.le_refl _) w
  simp only [k5, Result.andThen_ok, Sem.run_pure]
  exact ⟨trivial, k6, hlen, Nat.le_refl _, fun h => by cases h⟩
 ·obtain ⟨k1, k2⟩ := aBound_sound (P := P) hbm hvm .slice3Acap cap' hcap w
  obtain ⟨k3, k4⟩ := aBound_sound (P := P) hbh hvh .slice3B m (Nat.le_refl _) w
  simp only [k1, k3, Result.andThen_ok, Sem.run_pure]
  exact ⟨trivial, Nat.zero_le _, by omega, k2, fun _ => k4⟩
 ·obtain ⟨k3, k4⟩ := aBound_sound (P := P) hbh hvh .sliceAcap cap' hcap w
  simp only [k3, Result.andThen_ok, Sem.run_pure]
  exact ⟨trivial, Nat.zero_le _, k4, Nat.le_refl _, fun h => by cases h⟩
 ·simp only [Result.andThen_ok, Sem.run_pure]
  exact ⟨trivial, Nat.zero_le _, hlen, Nat.le_refl _, fun h => by cases h⟩

theorem aStride_of {ρ : Emb} {h : AHeap} {w : World} (hr : HR ρ h w) {β sz : Nat} (hs : aStride h β = some sz) {e : Ent} (he : ρ β = some e) : e.sz = sz := by
 unfold aStride at hs
 split at hs
 ·rename_i ro sz' c T hg
  obtain rfl := Option.some.inj hs
  obtain ⟨o, _, hb⟩ := hr.blk _ _ _ he hg
  cases o <;> cases ro <;> first | exact hb.elim | exact hb.1.1 | (rw [hb.1, hb.2.1])
 ·cases hs

theorem aSliceS_sound {ρ : Emb} {h : AHeap} {w : World} (hr : HR ρ h w) {t e : TypeId} {ti : TypeInfo} (hu : P.underlying t = some (.slice e)) (hti : P.info? e = some ti) {a : Addr} {len cap : Nat} {x' : Value} {lo hi mx lo' hi' mx' : Option Value} {v : Value}
  (hs : aSliceS h ti.size a len cap lo hi mx = some v) (hx : VR ρ (.slice (some a) len cap) x') (hl : VRO ρ lo lo') (hh' : VRO ρ hi hi') (hm : VRO ρ mx mx') : OK P ρ h w (Instr.slice t x' lo' hi' mx') v h := by
 unfold aSliceS at hs
 simp only at hs
 generalize hK : (if cap < big then cap else cap - big) = capK at hs
 split at hs
 ·cases hs
 rename_i hlenK
 split at hs
 ·cases hs
 rename_i m h1
 split at hs
 ·cases hs
 rename_i hh h2
 split at hs
 ·cases hs
 rename_i h3
 split at hs
 ·cases hs
 rename_i l h4
 split at hs
 ·cases hs
 rename_i h5
 obtain rfl := Option.some.inj hs
 have h3' : (mx.isSome && hi.isNone) = false := (by cases hq : (mx.isSome && hi.isNone) <;> simp_all)
 cases hx with
 | sliceEmpty _ a' _ hc =>
  have hk0 : capK = 0 := by rw [← hK]; rcases hc with rfl | ⟨rfl, _⟩ <;> simp [big]
  obtain ⟨k1, k2, k3, k4, k5⟩ := bounds_sound (P := P) hl hh' hm h1 h2 h3' h4 (cap' := 0) (by omega) (by omega) w
  have hh0 : hh = 0 := by omega
  have hl0 : l = 0 := by omega
  have hm0 : m = 0 := by omega
  subst hh0 hl0 hm0
  refine OK.still hr (x := .slice (some a') 0 0) ?_ ?_
  ·simp only [Instr.slice, Sem.run_bind, r_und hu, Result.andThen_ok, k1, r_size hti, Sem.run_pure]
   simp
  ·refine .sliceEmpty _ _ _ ?_
   rcases hc with rfl | ⟨rfl, f, hf⟩
   ·left; cases mx <;> simp
   ·cases mx with
    | some _ => left; simp
    | none => right; exact ⟨by simp, f, by simpa [Addr.add] using hf⟩
 | slice a e' l' c' cap' he hc hsz hle =>
  have hcap : capK ≤ cap' := by split at hc <;> split at hK <;> omega
  obtain ⟨k1, k2, k3, k4, k5⟩ := bounds_sound (P := P) hl hh' hm h1 h2 h3' h4 hcap (by omega) w
  generalize hM : (if mx.isSome then m else cap') = M at k1
  have hlK : l ≤ capK := by omega
  have hhM : hh ≤ M := by rw [← hM]; split <;> first | exact k5 (by assumption) | omega
  have hMc : M ≤ cap' := by rw [← hM]; split <;> omega
  have hrun : ∀ x, (if M = l then some (⟨e'.blk, e'.off + a.off, a.spot⟩ : Addr) else some ((⟨e'.blk, e'.off + a.off, a.spot⟩ : Addr).add (l * ti.size))) = x →
    (Instr.slice t (.slice (some ⟨e'.blk, e'.off + a.off, a.spot⟩) len cap') lo' hi' mx').run P w = .ok (.slice x (hh - l) (M - l)) w := fun x hx => by
   simp only [Instr.slice, Sem.run_bind, r_und hu, Result.andThen_ok, k1, r_size hti, Sem.run_pure, Option.map_some, hx]
  by_cases hMl : M = l
  ·refine OK.still hr (hrun _ (if_pos hMl)) ?_
   have e1 : hh - l = 0 := by omega
   have e2 : M - l = 0 := by omega
   rw [e1, e2]
   refine .sliceEmpty _ _ _ ?_
   have hblk : (a.add (l * ti.size)).block = a.block := by unfold Addr.add; split <;> rfl
   cases mx with
   | some _ => simp at hM ⊢; left; omega
   | none =>
    simp at hM ⊢
    split at hK
    ·left; omega
    ·right; exact ⟨by omega, e', by rw [hblk]; exact he⟩
  ·refine OK.still hr (hrun _ (if_neg hMl)) ?_
   have hoff : (a.add (l * ti.size)).off = a.off + l * ti.size := by unfold Addr.add; split <;> simp_all
   have hblk : (a.add (l * ti.size)).block = a.block := by unfold Addr.add; split <;> rfl
   have hadd : ((⟨e'.blk, e'.off + a.off, a.spot⟩ : Addr).add (l * ti.size)) = ⟨e'.blk, e'.off + (a.add (l * ti.size)).off, (a.add (l * ti.size)).spot⟩ := by
    unfold Addr.add; split <;> simp_all [Nat.add_assoc]
   rw [hadd]
   refine .slice _ e' _ _ _ (by rw [hblk]; exact he) ?_ ?_ (by omega)
   ·cases mx with
    | some _ => simp at hM ⊢; split <;> omega
    | none =>
     simp at hM ⊢
     split at hc
     ·rename_i hb
      rw [if_pos hb] at hK
      rw [if_pos (by omega)]; omega
     ·rename_i hb
      rw [if_neg hb] at hK
      rw [if_neg (by omega)]; omega
   ·intro hz
    have hb := hsz hz
    rw [hoff]
    have hle2 : l * ti.size + (M - l) * e'.sz ≤ cap' * e'.sz := by
     by_cases h0 : l = 0
     ·subst h0; simp; exact Nat.mul_le_mul_right _ hMc
     ·have hst : e'.sz = ti.size := by
       by_cases hq : aStride h a.block = some ti.size
       ·exact aStride_of hr hq he
       ·by_cases hq0 : aStride h a.block = some 0
        ·exact absurd (aStride_of hr hq0 he) hz
        ·exact absurd ⟨h0, hq, hq0⟩ h5
      rw [hst, ← Nat.add_mul]
      exact Nat.mul_le_mul_right _ (by omega)
    omega


theorem aSlice_sound {ρ : Emb} {h : AHeap} {w : World} (hr : HR ρ h w) {t : TypeId} {x x' : Value} {lo hi mx lo' hi' mx' : Option Value} {v : Value}
  (hs : aSlice P h t x lo hi mx = some v) (hx : VR ρ x x') (hl : VRO ρ lo lo') (hh' : VRO ρ hi hi') (hm : VRO ρ mx mx') : OK P ρ h w (Instr.sliceAt t x' lo' hi' mx') v h := by
 unfold aSlice at hs
 split at hs
 ·rename_i s hu
  cases hx
  split at hs
  ·cases hs
  rename_i hmx
  cases mx with
  | some _ => simp at hmx
  | none =>
  cases mx' with
  | some _ => exact hm.elim
  | none =>
  split at hs
  ·cases hs
  rename_i hh h2
  split at hs
  ·cases hs
  rename_i l h4
  obtain rfl := Option.some.inj hs
  have hb : (Instr.sliceBounds false s.size s.size lo' hi' none).run P w = .ok (l, hh, s.size) w := by
   rcases optB_high h2 hh' with ⟨vh, vh', rfl, rfl, hvh, hbh⟩ | ⟨rfl, rfl, rfl⟩ <;> rcases optB_high h4 hl with ⟨vl, vl', rfl, rfl, hvl, hbl⟩ | ⟨rfl, rfl, rfl⟩ <;>
    simp only [Instr.sliceBounds, Sem.run_bind, Sem.run_pure, Result.andThen_ok, Option.isSome_none, Bool.false_eq_true, if_false]
   ·obtain ⟨k3, _⟩ := aBound_sound (P := P) hbh hvh .sliceAlen s.size (Nat.le_refl _) w
    obtain ⟨k5, _⟩ := aBound_sound (P := P) hbl hvl .sliceB hh (Nat.le_refl _) w
    simp only [k3, k5, Result.andThen_ok]
   ·obtain ⟨k3, _⟩ := aBound_sound (P := P) hbh hvh .sliceAlen s.size (Nat.le_refl _) w
    simp only [k3, Result.andThen_ok]
   ·obtain ⟨k5, _⟩ := aBound_sound (P := P) hbl hvl .sliceB s.size (Nat.le_refl _) w
    simp only [k5, Result.andThen_ok]
  refine OK.still hr ?_ (.string (s.extract l hh))
  simp only [Instr.sliceAt, Instr.slice, Sem.run_bind, r_und hu, Result.andThen_ok, Option.isSome_none, Bool.false_eq_true, if_false, hb, Sem.run_pure]
 ·rename_i e a len cap hu
  split at hs
  ·rename_i ti hti
   have := aSliceS_sound hr hu hti hs hx hl hh' hm
   obtain ⟨y, w', ρ', h1, h2, h3⟩ := this
   refine ⟨y, w', ρ', ?_, h2, h3⟩
   simp only [Instr.sliceAt, Sem.run_bind, r_und hu, Result.andThen_ok]; exact h1
  ·cases hs
 ·rename_i e hu
  cases hx
  split at hs
  ·rename_i ti hti
   split at hs
   ·rename_i m hh l h1 h2 h4
    split at hs
    ·cases hs
    rename_i h3
    obtain rfl := Option.some.inj hs
    have hz : m = 0 ∧ hh = 0 ∧ l = 0 := by
     have z : ∀ {o : Option Value} {n : Nat}, optB 0 0 o = some n → n = 0 := fun {o n} k => by
      cases o with
      | none => simp [optB] at k; exact k.symm
      | some v => simp only [optB, aBound] at k; split at k <;> (try cases k); split at k <;> (try cases k); omega
     exact ⟨z h1, z h2, z h4⟩
    obtain ⟨rfl, rfl, rfl⟩ := hz
    obtain ⟨k1, _⟩ := bounds_sound (P := P) (len := 0) (capK := 0) (cap' := 0) hl hh' hm h1 (by split <;> exact h2) ((by cases hq : (mx.isSome && hi.isNone) <;> simp_all)) h4 (Nat.le_refl _) (Nat.le_refl _) w
    refine OK.still hr ?_ (.sliceNil 0 0)
    simp only [Instr.sliceAt, Instr.slice, Sem.run_bind, r_und hu, Result.andThen_ok, k1, r_size hti, Sem.run_pure]
    simp
   ·cases hs
  ·cases hs
 ·cases hs
end
end Go.Ox
