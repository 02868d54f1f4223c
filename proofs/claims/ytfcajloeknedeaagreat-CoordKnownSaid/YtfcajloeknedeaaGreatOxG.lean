/-
 WHAT EACH OPERATION DOES ON THE ABSTRACT SIDE, part 6: the operation as a whole.
-/
import Derived.Test.YtfcajloeknedeaaGreatOxF
set_option linter.unusedSimpArgs false
set_option linter.unusedVariables false
namespace Go.Ox
section
variable {P : Program}

def aClear (P : Program) (h : AHeap) (t : TypeId) : Value → Option AHeap
 | .slice none _ _ => some h
 | .slice (some a) n _ => if n = 0 then some h else match P.underlying t with
  | some (.slice e) => match aZero P e with
   | some zs => h.store a (aZeros zs n)
   | none => none
  | _ => none
 | .map none => some h
 | .map (some r) => match P.underlying t, h.get r with
  | some (.map _ _), some (.map _) => some (h.set r (.map []))
  | _, _ => none
 | _ => none

theorem aClear_sound {ρ : Emb} {h h' : AHeap} {w : World} (hr : HR ρ h w) {t : TypeId} {x x' : Value} (hs : aClear P h t x = some h') (hx : VR ρ x x') (ty : TypeId) (ts : Array TypeId) (ht : ts[0]? = some t) {d : TypeDesc} (hd : P.underlying t = some d) :
  OK P ρ h w (Builtin.clear_ ts ty #[x']) (.tuple #[]) h' := by
 have hu2 : (VR ρ (.tuple #[]) (.tuple #[])) := VR.undef
 unfold aClear at hs
 split at hs
 ·obtain rfl := Option.some.inj hs
  cases hx
  exact OK.still hr (by simp [Builtin.clear_, ht, r_und hd]) hu2
 ·split at hs
  ·rename_i hn
   obtain rfl := Option.some.inj hs
   subst hn
   obtain ⟨b', c', rfl⟩ := hx.slice_inv
   refine OK.still hr (x := .tuple #[]) ?_ hu2
   cases b' <;> simp [Builtin.clear_, ht, r_und hd]
  ·rename_i n _ hn
   split at hs
   ·rename_i e hu
    split at hs
    ·rename_i zs hz
     obtain ⟨i', z, hi', hzz, rfl, hlen, hpl, hone⟩ := aZero_spec hz
     cases hx with
     | sliceEmpty _ _ _ _ => exact absurd rfl hn
     | slice a e' _ _ c' he _ _ _ =>
      obtain ⟨w', k1, k2⟩ := store_row (P := P) hr hs (list_plain (all_zeros hpl n)) he
      refine ⟨.tuple #[], w', ρ, ?_, hu2, k2⟩
      cases n with
      | zero => exact absurd rfl hn
      | succ n => simp [Builtin.clear_, ht, r_und hu, r_zero hi' hzz, zeroCells_toList, k1]
    ·cases hs
   ·cases hs
 ·obtain rfl := Option.some.inj hs
  cases hx
  exact OK.still hr (by simp [Builtin.clear_, ht, r_und hd]) hu2
 ·cases hx with
  | map r e he =>
  split at hs
  ·rename_i es hu hg
   obtain rfl := Option.some.inj hs
   obtain ⟨es', clock, k1, k2, k3, k4, k5, k6⟩ := map_at hr hg he
   refine ⟨.tuple #[], _, ρ, ?_, hu2, Step.setMap (clock := clock) (fs' := #[]) hr hg he trivial (fun z hz => by simp at hz) (by simp)⟩
   simp only [Builtin.clear_, ht, List.getElem?_toArray, List.getElem?_cons_zero, Sem.run_bind, r_und hu, Result.andThen_ok, run_getMap k1, run_setMap k1, Sem.run_pure]
  ·cases hs
 ·cases hs

def aCopy (P : Program) (h : AHeap) (t : TypeId) (x y : Value) : Option (Value × AHeap) :=
 match P.underlying t with
 | some (.slice e) => match P.info? e, x, y with
  | some ti, .slice base dn _, .slice _ sn _ =>
   let n := Nat.min sn dn
   match aFirst h ti.size n y with
   | none => none
   | some new =>
    if new = [] then some (.int .i64 n, h) else
    match base with
    | none => none
    | some a => match h.store a new with
     | some h' => some (.int .i64 n, h')
     | none => none
  | _, _, _ => none
 | _ => none

theorem aCopy_sound {ρ : Emb} {h h' : AHeap} {w : World} (hr : HR ρ h w) {t : TypeId} {x x' y y' v : Value} (hs : aCopy P h t x y = some (v, h')) (hx : VR ρ x x') (hy : VR ρ y y') (ty : TypeId) (ts : Array TypeId) (ht : ts[0]? = some t) :
  OK P ρ h w (Builtin.copy_ ts ty #[x', y']) v h' := by
 unfold aCopy at hs
 split at hs
 ·rename_i e hu
  split at hs
  ·rename_i ti base dn dc yb sn sc hti
   simp only at hs
   split at hs
   ·cases hs
   rename_i new hnew
   obtain ⟨yb', yc', rfl⟩ := hy.slice_inv
   obtain ⟨ys, g1, g2, g3⟩ := aFirst_sound (P := P) hr hnew hy
   split at hs
   ·rename_i h0
    subst h0
    have hy0 : ys = [] := by simpa using g2.length.symm
    subst hy0
    simp only [Option.some.injEq, Prod.mk.injEq] at hs
    obtain ⟨rfl, rfl⟩ := hs
    obtain ⟨xb', xc', rfl⟩ := hx.slice_inv
    refine OK.still hr ?_ (.int _ _)
    cases xb' <;> simp [Builtin.copy_, ht, r_und hu, r_size hti, Builtin.lenOf, g1, storeCells, goInt]
   ·rename_i hne
    split at hs
    ·cases hs
    rename_i a
    split at hs
    ·rename_i h2 hst
     simp only [Option.some.injEq, Prod.mk.injEq] at hs
     obtain ⟨rfl, rfl⟩ := hs
     cases hx with
     | sliceEmpty _ _ _ _ =>
      exfalso; apply hne
      have : new.length = 0 := by rw [g3]; simp [Nat.min_def]
      exact List.length_eq_zero_iff.1 this
     | slice a e' _ _ c' he _ _ _ =>
      obtain ⟨w', k1, k2⟩ := store_row (P := P) hr hst g2 he
      refine ⟨.int .i64 (Nat.min sn dn), w', ρ, ?_, .int _ _, k2⟩
      simp [Builtin.copy_, ht, r_und hu, r_size hti, Builtin.lenOf, g1, k1, goInt]
    ·cases hs
  ·cases hs
 ·cases hs

def aBuiltin (P : Program) (h : AHeap) (b : Builtin) (ts : Array TypeId) (args : List Value) : Option (Value × AHeap) :=
 match b, args with
 | .append, [s, x] => match ts[0]?, ts[1]? with
  | some t, some u => match P.underlying u with
   | some (.slice _) => aAppend P h t s x
   | some (.int _) => aAppendZ P h t s x
   | _ => none
  | _, _ => none
 | .len, [x] => match ts[0]? with
  | some t => match aLen P h t x with
   | some v => some (v, h)
   | none => none
  | none => none
 | .delete, [m, k] => match ts[0]? with
  | some t => match aDelete P h t m k with
   | some h' => some (.tuple #[], h')
   | none => none
  | none => none
 | .clear, [x] => match ts[0]? with
  | some t => match P.underlying t with
   | some _ => match aClear P h t x with
    | some h' => some (.tuple #[], h')
    | none => none
   | none => none
  | none => none
 | .copy, [x, y] => match ts[0]? with
  | some t => aCopy P h t x y
  | none => none
 | .min, [.int k x, .int _ y] => some (.int k (if y < x then y else x), h)
 | .max, [.int k x, .int _ y] => some (.int k (if y > x then y else x), h)
 | .cap, [.slice a l c] => match ts[0]? with
  | some t => match P.underlying t with
   | some (.slice _) => if c < big then some (.int .i64 c, h) else none
   | _ => none
  | none => none
 | _, _ => none

theorem aBuiltin_sound {ρ : Emb} {h h' : AHeap} {w : World} (hr : HR ρ h w) {b : Builtin} {ts : Array TypeId} {ty : TypeId} {cs : Array Bool} {args args' : List Value} {v : Value} (hs : aBuiltin P h b ts args = some (v, h')) (ha : VRL ρ args args') :
  ∃ x w' ρ', (builtin b ts ty cs args'.toArray).run P w = .ok (.value x) w' ∧ VR ρ' v x ∧ Step True ρ ρ' h h' w w' := by
 have lift : ∀ {s : Sem Value}, OK P ρ h w s v h' → (builtin b ts ty cs args'.toArray) = (do pure (.value (← s))) → ∃ x w' ρ', (builtin b ts ty cs args'.toArray).run P w = .ok (.value x) w' ∧ VR ρ' v x ∧ Step True ρ ρ' h h' w w' := by
  rintro s ⟨x, w', ρ', k1, k2, k3⟩ hb
  exact ⟨x, w', ρ', by rw [hb]; simp [k1], k2, k3⟩
 unfold aBuiltin at hs
 split at hs
 ·rename_i s x
  match args', ha with
  | [s', x'], ⟨hvs, hvx, _⟩ =>
  split at hs
  ·rename_i t u ht hu
   split at hs
   ·rename_i e he
    exact lift (aAppend_sound hr ht hu he hs hvs hvx (ty := ty)) rfl
   ·rename_i e he
    exact lift (aAppendZ_sound hr ht hu he hs hvs hvx (ty := ty)) rfl
   ·cases hs
  ·cases hs
 ·rename_i x
  match args', ha with
  | [x'], ⟨hvx, _⟩ =>
  split at hs
  ·rename_i t ht
   split at hs
   ·rename_i u hl
    simp only [Option.some.injEq, Prod.mk.injEq] at hs
    obtain ⟨rfl, rfl⟩ := hs
    exact lift (aLen_sound hr hl hvx ty ts ht) rfl
   ·cases hs
  ·cases hs
 ·rename_i m k
  match args', ha with
  | [m', k'], ⟨hvm, hvk, _⟩ =>
  split at hs
  ·rename_i t ht
   split at hs
   ·rename_i h2 hl
    simp only [Option.some.injEq, Prod.mk.injEq] at hs
    obtain ⟨rfl, rfl⟩ := hs
    exact lift (aDelete_sound hr hl hvm hvk ty ts ht) rfl
   ·cases hs
  ·cases hs
 ·rename_i x
  match args', ha with
  | [x'], ⟨hvx, _⟩ =>
  split at hs
  ·rename_i t ht
   split at hs
   ·rename_i d hd
    split at hs
    ·rename_i h2 hl
     simp only [Option.some.injEq, Prod.mk.injEq] at hs
     obtain ⟨rfl, rfl⟩ := hs
     exact lift (aClear_sound hr hl hvx ty ts ht hd) rfl
    ·cases hs
   ·cases hs
  ·cases hs
 ·rename_i x y
  match args', ha with
  | [x', y'], ⟨hvx, hvy, _⟩ =>
  split at hs
  ·rename_i t ht
   exact lift (aCopy_sound hr hs hvx hvy ty ts ht) rfl
  ·cases hs
 ·match args', ha with
  | [x', y'], ⟨hvx, hvy, _⟩ =>
  obtain rfl := hvx.int_inv
  obtain rfl := hvy.int_inv
  simp only [Option.some.injEq, Prod.mk.injEq] at hs
  obtain ⟨rfl, rfl⟩ := hs
  exact lift (s := Builtin.min_ ts ty _) (OK.still hr (by simp [Builtin.min_, Builtin.min2]) (.int _ _)) rfl
 ·match args', ha with
  | [x', y'], ⟨hvx, hvy, _⟩ =>
  obtain rfl := hvx.int_inv
  obtain rfl := hvy.int_inv
  simp only [Option.some.injEq, Prod.mk.injEq] at hs
  obtain ⟨rfl, rfl⟩ := hs
  exact lift (s := Builtin.max_ ts ty _) (OK.still hr (by simp [Builtin.max_, Builtin.max2]) (.int _ _)) rfl
 ·match args', ha with
  | [x'], ⟨hvx, _⟩ =>
  split at hs
  ·rename_i t ht
   split at hs
   ·rename_i e hu
    split at hs
    ·rename_i hcb
     simp only [Option.some.injEq, Prod.mk.injEq] at hs
     obtain ⟨rfl, rfl⟩ := hs
     refine lift (s := Builtin.cap_ ts ty _) (OK.still hr ?_ (.int _ _)) rfl
     cases hvx with
     | sliceNil => simp [Builtin.cap_, ht, run_underlying hu]; rfl
     | sliceEmpty _ _ _ h =>
      rcases h with rfl | ⟨rfl, _⟩
      ·simp [Builtin.cap_, ht, run_underlying hu]; rfl
      ·omega
     | slice _ _ _ _ _ _ hc =>
      rw [if_pos hcb] at hc
      subst hc
      simp [Builtin.cap_, ht, run_underlying hu]; rfl
    ·cases hs
   ·cases hs
  ·cases hs
 ·cases hs

/-! ### Operands, many -/
def aevs (T : List Value) : List Operand → Option (List Value)
 | [] => some []
 | x :: xs => match aev T x, aevs T xs with
  | some v, some vs => some (v :: vs)
  | _, _ => none

def aevp (T : List Value) : List (Nat × Operand) → Option (List (Nat × Value))
 | [] => some []
 | (i, x) :: xs => match aev T x, aevp T xs with
  | some v, some vs => some ((i, v) :: vs)
  | _, _ => none

def aevo (T : List Value) : Option Operand → Option (Option Value)
 | none => some none
 | some x => match aev T x with
  | some v => some (some v)
  | none => none

theorem AR.evs {ρ : Emb} {n : Nat} {T : List Value} {a : Act} (h : AR ρ n T a) : ∀ {xs : List Operand} {vs : List Value}, aevs T xs = some vs → VRL ρ vs (xs.map a.eval)
 | [], vs, hv => by simp [aevs] at hv; subst hv; trivial
 | x :: xs, vs, hv => by
  simp only [aevs] at hv
  split at hv
  ·rename_i v us h1 h2
   obtain rfl := Option.some.inj hv
   exact ⟨h.ev h1, h.evs h2⟩
  ·cases hv

theorem AR.evp {ρ : Emb} {n : Nat} {T : List Value} {a : Act} (h : AR ρ n T a) : ∀ {xs : List (Nat × Operand)} {vs : List (Nat × Value)}, aevp T xs = some vs →
  vs.map (·.1) = (xs.map fun p => (p.1, a.eval p.2)).map (·.1) ∧ VRL ρ (vs.map (·.2)) ((xs.map fun p => (p.1, a.eval p.2)).map (·.2))
 | [], vs, hv => by simp [aevp] at hv; subst hv; exact ⟨rfl, trivial⟩
 | (i, x) :: xs, vs, hv => by
  simp only [aevp] at hv
  split at hv
  ·rename_i v us h1 h2
   obtain rfl := Option.some.inj hv
   obtain ⟨k1, k2⟩ := h.evp h2
   exact ⟨by simp only [List.map_cons, k1], h.ev h1, k2⟩
  ·cases hv

theorem AR.evo {ρ : Emb} {n : Nat} {T : List Value} {a : Act} (h : AR ρ n T a) {x : Option Operand} {v : Option Value} (hv : aevo T x = some v) : VRO ρ v (x.map a.eval) := by
 cases x with
 | none => simp [aevo] at hv; subst hv; trivial
 | some x =>
  simp only [aevo] at hv
  split at hv
  ·rename_i u h1
   obtain rfl := Option.some.inj hv
   exact h.ev h1
  ·cases hv

/-! ### What makes one block -/
def ptrTo (β : Nat) : Value := .pointer (some ⟨β, 0, none⟩)

def bBuildSlice (P : Program) (t : TypeId) (len : Nat) (ps : List (Nat × Value)) : Option (ABlk × (Nat → Value)) :=
 match P.underlying t with
 | some (.slice e) => match P.info? e, aZero P e with
  | some i, some zs =>
   if i.size = 0 ∨ len * i.size > 2 ^ 24 then none
   else match aFill (fun j => some (j * i.size, i.size)) (aZeros zs len) ps with
    | some r => some (.cells false i.size r e, fun β => .slice (some ⟨β, 0, none⟩) len len)
    | none => none
  | _, _ => none
 | _ => none

def bMakeSlice (P : Program) (t : TypeId) : Value → Value → Option (ABlk × (Nat → Value))
 | .int _ l, .int _ c => match P.underlying t with
  | some (.slice e) => match P.info? e, aZero P e with
   | some i, some zs =>
    if i.size = 0 ∨ ¬ (0 ≤ l ∧ l ≤ c ∧ c < 2 ^ 62) ∨ i.bytes * c > 2 ^ 48 then none
    else some (.cells false i.size (aZeros zs c.toNat) e, fun β => .slice (some ⟨β, 0, none⟩) l.toNat c.toNat)
   | _, _ => none
  | _ => none
 | _, _ => none

def bMakeMap (P : Program) (t : TypeId) : Option Value → Option (ABlk × (Nat → Value))
 | none => some (.map [], fun β => .map (some β))
 | some (.int _ _) => match P.underlying t with
  | some (.map _ _) => some (.map [], fun β => .map (some β))
  | _ => none
 | _ => none

def aAlloc (P : Program) (T : List Value) : Op → Option (ABlk × (Nat → Value))
 | .alloc t => match P.info? t with
  | some i => match i.zero with
   | some z => if plain 6 z then some (.cells false 0 z.cells.toList t, ptrTo) else none
   | none => none
  | none => none
 | .box t x => match aev T x with
  | some v => some (.cells false 0 v.cells.toList t, ptrTo)
  | none => none
 | .buildSlice t len ps => match aevp T ps.toList with
  | some vs => bBuildSlice P t len vs
  | none => none
 | .makeMap t r => match aevo T r with
  | some r => bMakeMap P t r
  | none => none
 | .makeSlice t l c => match aev T l, aev T c with
  | some a, some b => bMakeSlice P t a b
  | _, _ => none
 | _ => none

/-- One new block on the concrete side, which the abstract one stands for wherever it is laid. -/
def AllocOK (P : Program) (ρ : Emb) (w : World) (s : Sem Next) (b : ABlk) (mk : Nat → Value) : Prop :=
 ∃ x obj e, e.blk = w.heap.size ∧ s.run P w = .ok (.value x) (w.alloc obj) ∧ ∀ ρ' β, ρ.le ρ' → ρ' β = some e → BR ρ' e b obj ∧ VR ρ' (mk β) x

theorem cellsBR {ρ : Emb} {xs : List Value} {ys : Array Value} (hv : VRL ρ xs ys.toList) (B sz : Nat) (T : TypeId) {ρ' : Emb} (hle : ρ.le ρ') : BR ρ' ⟨B, 0, ys.size, sz⟩ (.cells false sz xs T) (.cells ys T) := by
 have hl := hv.length
 refine ⟨⟨rfl, fun _ => rfl⟩, rfl, rfl, by simp, by simp at hl; simp; omega, fun i v hi => ?_⟩
 obtain ⟨y, hy, hvy⟩ := hv.get hi
 exact ⟨y, by simpa using hy, hvy.mono hle⟩

theorem VR.ptrTo {ρ : Emb} {β : Nat} {e : Ent} (he : ρ β = some e) (ho : e.off = 0) : VR ρ (Ox.ptrTo β) (.pointer (some ⟨e.blk, 0, none⟩)) := by
 have := VR.ptr (ρ := ρ) ⟨β, 0, none⟩ e he
 simpa [Ox.ptrTo, ho] using this

theorem newVar_ok {ρ : Emb} {w : World} {v x : Value} (hv : VR ρ v x) (t : TypeId) {s : Sem Next} (hs : s = (do pure (.value (.pointer (some (← newVar t x)))))) : AllocOK P ρ w s (.cells false 0 v.cells.toList t) ptrTo := by
 subst hs
 refine ⟨_, .cells x.cells t, ⟨w.heap.size, 0, x.cells.size, 0⟩, rfl, ?_, fun ρ' β hle he => ⟨cellsBR hv.cells _ _ _ hle, VR.ptrTo he rfl⟩⟩
 simp [newVar, run_newRow]

theorem bBuildSlice_sound {ρ : Emb} {w : World} {t : TypeId} {len : Nat} {ps qs : List (Nat × Value)} {b : ABlk} {mk : Nat → Value} (hs : bBuildSlice P t len ps = some (b, mk))
  (h1 : ps.map (·.1) = qs.map (·.1)) (h2 : VRL ρ (ps.map (·.2)) (qs.map (·.2))) {s : Sem Next} (hq : s = (do pure (.value (← Instr.buildSlice t len qs.toArray)))) : AllocOK P ρ w s b mk := by
 subst hq
 unfold bBuildSlice at hs
 split at hs
 ·rename_i e hu
  split at hs
  ·rename_i i zs hi hz
   obtain ⟨i', z, hi', hzz, rfl, hlen, hpl, _⟩ := aZero_spec hz
   rw [hi] at hi'; obtain rfl := Option.some.inj hi'
   split at hs
   ·cases hs
   rename_i hc
   simp only [not_or, Nat.not_lt] at hc
   split at hs
   ·rename_i r hf
    simp only [Option.some.injEq, Prod.mk.injEq] at hs
    obtain ⟨rfl, rfl⟩ := hs
    have hzs : z.cells.size = i.size := by simpa using hlen
    obtain ⟨r', h3, h4⟩ := aFill_sound (ρ := ρ) _ ps qs _ r ((Array.range (len * i.size)).map (fun j => z.cells[j % z.cells.size]!)) hf
     (by rw [← hzs, aZeros_eq]; exact list_plain (all_zeros hpl len)) h1 h2
    have hrl : r'.size = len * i.size := by
     have k1 := h4.length
     have k2 := aBuildSlice_sound.aFill_len hf
     rw [aZeros_length] at k2
     simp at k1 k2; rw [← k1, k2, hzs]
    refine ⟨.slice (some ⟨w.heap.size, 0, none⟩) len len, .cells r' e, ⟨w.heap.size, 0, r'.size, i.size⟩, rfl, ?_, fun ρ' β hle he => ⟨cellsBR h4 _ _ _ hle, VR.sliceAt he rfl (Nat.le_refl _) ?_ (by simp [hrl])⟩⟩
    ·have hm : (Instr.buildSlice t len qs.toArray).run P w = .ok (.slice (some ⟨w.heap.size, 0, none⟩) len len) (w.alloc (.cells r' e)) := by
      simp only [Instr.buildSlice, Sem.run_bind, r_und hu, Result.andThen_ok, r_size hi]
      rw [if_neg (by omega)]
      by_cases h0 : len * i.size = 0
      ·have hl0 : len = 0 := by rcases Nat.mul_eq_zero.1 h0 with h | h <;> omega
       subst hl0
       simp only [Nat.zero_mul, Nat.not_lt_zero, if_false, if_true, Sem.run_pure, Result.andThen_ok]
       simp only [Nat.zero_mul, show Array.range 0 = #[] from rfl, List.map_toArray, Array.map_empty, List.map_nil] at h3 ⊢
       simp [h3, run_newRow]
      ·simp only [h0, if_false, Sem.run_bind, r_zero hi hzz, Result.andThen_ok, Sem.run_pure]
       simp [h3, run_newRow]
     simp [hm]
    ·have : len ≤ len * i.size := Nat.le_mul_of_pos_right _ (Nat.pos_of_ne_zero hc.1)
     have : (2 : Nat) ^ 24 < big := by decide
     omega
   ·cases hs
  ·cases hs
 ·cases hs

theorem bMakeSlice_sound {ρ : Emb} {w : World} {t : TypeId} {a a' c c' : Value} {b : ABlk} {mk : Nat → Value} (hs : bMakeSlice P t a c = some (b, mk)) (ha : VR ρ a a') (hb : VR ρ c c')
  {s : Sem Next} (hq : s = (do pure (.value (← Instr.makeSlice t a' c')))) : AllocOK P ρ w s b mk := by
 subst hq
 unfold bMakeSlice at hs
 split at hs
 ·obtain rfl := ha.int_inv
  obtain rfl := hb.int_inv
  rename_i l _ c
  split at hs
  ·rename_i e hu
   split at hs
   ·rename_i i zs hi hz
    obtain ⟨i', z, hi', hzz, rfl, hlen, hpl, _⟩ := aZero_spec hz
    rw [hi] at hi'; obtain rfl := Option.some.inj hi'
    split at hs
    ·cases hs
    rename_i hc
    simp only [not_or, Decidable.not_not, Int.not_lt] at hc
    obtain ⟨h0, ⟨hl0, hlc, hcm⟩, hby⟩ := hc
    simp only [Option.some.injEq, Prod.mk.injEq] at hs
    obtain ⟨rfl, rfl⟩ := hs
    have hwl : IntKind.i64.wrap l = l := wrap_small rfl hl0 (by omega)
    have hwc : IntKind.i64.wrap c = c := wrap_small rfl (by omega) hcm
    have hzs : z.cells.size = i.size := by simpa using hlen
    have hv : VRL ρ (aZeros z.cells.toList c.toNat) ((Array.range (c.toNat * i.size)).map (fun j => z.cells[j % z.cells.size]!)).toList := by
     rw [← hzs, aZeros_eq]; exact list_plain (all_zeros hpl _)
    refine ⟨.slice (some ⟨w.heap.size, 0, none⟩) l.toNat c.toNat, _, ⟨w.heap.size, 0, _, i.size⟩, rfl, ?_, fun ρ' β hle he => ⟨cellsBR hv _ _ e hle, VR.sliceAt he rfl (by omega) ?_ (by simp)⟩⟩
    ·have hm : ∀ k k', (Instr.makeSlice t (.int k l) (.int k' c)).run P w = .ok (.slice (some ⟨w.heap.size, 0, none⟩) l.toNat c.toNat) (w.alloc (.cells ((Array.range (c.toNat * i.size)).map (fun j => z.cells[j % z.cells.size]!)) e)) := by
      intro k k'
      simp only [Instr.makeSlice, Sem.run_bind, r_und hu, Result.andThen_ok, asInt, asIntOf, Sem.run_pure, r_info hi, hwl, hwc]
      rw [if_neg (by simp; omega)]
      simp only [Sem.run_bind, run_askRoom, Result.andThen_ok, r_size hi]
      by_cases hn : c.toNat * i.size = 0
      ·simp only [hn, if_true, Sem.run_pure, Result.andThen_ok]
       simp [run_newRow, show Array.range 0 = #[] from rfl]
      ·simp only [hn, if_false, Sem.run_bind, r_zero hi hzz, Result.andThen_ok, Sem.run_pure]
       simp [run_newRow]
     simp [hm]
    ·have : (2 : Nat) ^ 62 < big := by decide
     omega
   ·cases hs
  ·cases hs
 ·cases hs

theorem bMakeMap_sound {ρ : Emb} {w : World} {t : TypeId} {a a' : Option Value} {b : ABlk} {mk : Nat → Value} (hs : bMakeMap P t a = some (b, mk)) (ha : VRO ρ a a')
  {s : Sem Next} (hq : s = (do pure (.value (← Instr.makeMap t a')))) : AllocOK P ρ w s b mk := by
 subst hq
 have fin : (Instr.makeMap t a').run P w = .ok (.map (some w.heap.size)) (w.alloc (.map #[] 0)) ∧ b = .map [] ∧ mk = (fun β => .map (some β)) := by
  unfold bMakeMap at hs
  split at hs
  ·cases a' with
   | some _ => exact ha.elim
   | none => simp only [Option.some.injEq, Prod.mk.injEq] at hs; exact ⟨rfl, hs.1.symm, hs.2.symm⟩
  ·cases a' with
   | none => exact ha.elim
   | some x =>
    obtain rfl := VR.int_inv ha
    split at hs
    ·rename_i k e hu
     simp only [Option.some.injEq, Prod.mk.injEq] at hs
     exact ⟨by simp [Instr.makeMap, r_und hu, asInt, asIntOf], hs.1.symm, hs.2.symm⟩
    ·cases hs
  ·cases hs
 obtain ⟨h1, rfl, rfl⟩ := fin
 refine ⟨_, .map #[] 0, ⟨w.heap.size, 0, 0, 0⟩, rfl, by simp [h1], fun ρ' β hle he => ⟨⟨rfl, rfl, trivial, by simp, by simp⟩, VR.map _ _ he⟩⟩

theorem aAlloc_sound {ρ : Emb} {n : Nat} {T : List Value} {a : Act} {w : World} (ha : AR ρ n T a) {o : Oper} {b : ABlk} {mk : Nat → Value} (hs : aAlloc P T o.op = some (b, mk)) : AllocOK P ρ w (execOp a.eval o) b mk := by
 obtain ⟨dst, op, ty, pos, after, guard⟩ := o
 cases op with
 | alloc t =>
  simp only [aAlloc] at hs
  split at hs
  ·rename_i i hi
   split at hs
   ·rename_i z hz
    split at hs
    ·rename_i hp
     simp only [Option.some.injEq, Prod.mk.injEq] at hs
     obtain ⟨rfl, rfl⟩ := hs
     obtain ⟨x, obj, e, k1, k2, k3⟩ := newVar_ok (P := P) (ρ := ρ) (w := w) (plain_self 6 z hp) t rfl
     refine ⟨x, obj, e, k1, ?_, k3⟩
     rw [← k2]
     simp [execOp, Instr.alloc, r_zero hi hz]
    ·cases hs
   ·cases hs
  ·cases hs
 | box t x =>
  simp only [aAlloc] at hs
  split at hs
  ·rename_i u hx
   simp only [Option.some.injEq, Prod.mk.injEq] at hs
   obtain ⟨rfl, rfl⟩ := hs
   exact newVar_ok (ha.ev hx) t rfl
  ·cases hs
 | buildSlice t len ps =>
  simp only [aAlloc] at hs
  split at hs
  ·rename_i vs hv
   obtain ⟨q1, q2⟩ := ha.evp hv
   refine bBuildSlice_sound hs q1 q2 ?_
   rw [show ((ps.toList.map fun p => (p.1, a.eval p.2)).toArray) = ps.map (fun (i, x) => (i, a.eval x)) by rw [← Array.toList_map]]
   rfl
  ·cases hs
 | makeMap t r =>
  simp only [aAlloc] at hs
  split at hs
  ·rename_i u hx
   exact bMakeMap_sound hs (ha.evo hx) rfl
  ·cases hs
 | makeSlice t l c =>
  simp only [aAlloc] at hs
  split at hs
  ·rename_i b d hx hy
   exact bMakeSlice_sound hs (ha.ev hx) (ha.ev hy) rfl
  ·cases hs
 | _ => simp [aAlloc] at hs

/-! ### The operation -/
def still (h : AHeap) : Option Value → Option (Value × AHeap)
 | some v => some (v, h)
 | none => none

def skips : Option AHeap → Option (Value × AHeap)
 | some h => some (undef, h)
 | none => none

def aOp (P : Program) (T : List Value) (h : AHeap) (o : Oper) : Option (Value × AHeap) :=
 match o.op with
 | .move x | .assign x => still h (aev T x)
 | .pick c a b => match aev T c with
  | some (.bool t) => still h (aev T (if t then a else b))
  | _ => none
 | .alloc _ | .box _ _ | .buildSlice _ _ _ | .makeMap _ _ | .makeSlice _ _ _ => match aAlloc P T o.op with
  | some (b, mk) => some (mk h.next, h.push b)
  | none => none
 | .build t ps => match aevp T ps.toList with
  | some vs => still h (aBuild P t vs)
  | none => none
 | .load t x => match aev T x with
  | some (.pointer (some a)) => still h (aLoad P h t a)
  | _ => none
 | .store t x y => match aev T x, aev T y with
  | some (.pointer (some a)), some v => skips (aStore P h t a v)
  | _, _ => none
 | .nilCheck x => match aev T x with
  | some (.pointer (some a)) => some (.pointer (some a), h)
  | some (.func (.func f) xs us) => some (.func (.func f) xs us, h)
  | some (.iface t v) => some (.iface t v, h)
  | _ => none
 | .binOp op t x y _ => match aev T x, aev T y with
  | some a, some b => still h (aBin P op t x y a b)
  | _, _ => none
 | .unOp op _ x => match aev T x with
  | some a => still h (aUn op a)
  | none => none
 | .convert s d x => match aev T x with
  | some a => still h (aConv P s d a)
  | none => none
 | .makeInterface t x => match aev T x, P.underlying t with
  | some _, some (.interface _) => none
  | some a, some _ => some (.iface t a, h)
  | _, _ => none
 | .makeFunc (.func f) xs us => match aevs T xs.toList, aevs T us.toList with
  | some a, some b => some (.func (.func f) a.toArray b.toArray, h)
  | _, _ => none
 | .slice t x lo hi mx => match aev T x, aevo T lo, aevo T hi, aevo T mx with
  | some a, some b, some c, some d => still h (aSlice P h t a b c d)
  | _, _, _, _ => none
 | .fieldAddr s x f => match aev T x with
  | some a => still h (aField P s f a)
  | none => none
 | .field t x f => match aev T x with
  | some a => still h (aFieldV P t f a)
  | none => none
 | .indexAddr t x i => match aev T x, aev T i with
  | some a, some b => still h (aIndexAddr P t a b)
  | _, _ => none
 | .index t x i => match aev T x, aev T i with
  | some a, some b => still h (aIndex P t a b)
  | _, _ => none
 | .lookup t x i ok => match aev T x, aev T i with
  | some a, some b => still h (aLookup P h t a b ok)
  | _, _ => none
 | .mapUpdate t m k x | .insert t m k x => match aev T m, aev T k, aev T x with
  | some a, some b, some c => skips (aMapSet P h t a b c)
  | _, _, _ => none
 | .extract t i => match aev T t with
  | some (.tuple vs) => still h vs.toList[i]?
  | _ => none
 | .call { callee := .builtin b, args, argTypes } => match aevs T args.toList with
  | some vs => aBuiltin P h b argTypes vs
  | none => none
 | _ => none

def OpOK (P : Program) (ρ : Emb) (h : AHeap) (w : World) (s : Sem Next) (v : Value) (h' : AHeap) : Prop :=
 ∃ x w' ρ', (s.run P w = .ok (.value x) w' ∨ (s.run P w = .ok .skip w' ∧ x = undef)) ∧ VR ρ' v x ∧ Step True ρ ρ' h h' w w'

theorem OpOK.of {ρ : Emb} {h h' : AHeap} {w : World} {s : Sem Value} {v : Value} (hs : OK P ρ h w s v h') : OpOK P ρ h w (do pure (.value (← s))) v h' := by
 obtain ⟨x, w', ρ', k1, k2, k3⟩ := hs
 exact ⟨x, w', ρ', .inl (by simp [k1]), k2, k3⟩

theorem still_some {h h' : AHeap} {o : Option Value} {v : Value} (hs : still h o = some (v, h')) : o = some v ∧ h' = h := by
 cases o with
 | none => simp [still] at hs
 | some u => simp [still] at hs; exact ⟨by rw [hs.1], hs.2.symm⟩

theorem skips_some {h' : AHeap} {o : Option AHeap} {v : Value} (hs : skips o = some (v, h')) : o = some h' ∧ v = undef := by
 cases o with
 | none => simp [skips] at hs
 | some u => simp [skips] at hs; exact ⟨by rw [hs.2], hs.1.symm⟩

theorem aOp_sound {ρ : Emb} {n : Nat} {T : List Value} {a : Act} {h h' : AHeap} {w : World} (ha : AR ρ n T a) (hr : HR ρ h w) {o : Oper} {v : Value} (hs : aOp P T h o = some (v, h')) :
  OpOK P ρ h w (execOp a.eval o) v h' := by
 have lay : ∀ {r : Option (ABlk × (Nat → Value))}, (match r with
   | some (b, mk) => some (mk h.next, h.push b)
   | none => none) = some (v, h') → r = aAlloc P T o.op → OpOK P ρ h w (execOp a.eval o) v h' := by
  intro r hs hr'
  cases r with
  | none => cases hs
  | some bm =>
   obtain ⟨b, mk⟩ := bm
   simp only [Option.some.injEq, Prod.mk.injEq] at hs
   obtain ⟨rfl, rfl⟩ := hs
   obtain ⟨x, obj, e, k1, k2, k3⟩ := aAlloc_sound (w := w) ha hr'.symm
   have st := Step.push (D := True) (b := b) (o := obj) hr k1 (fun ρ' hle he => (k3 ρ' h.next hle he).1)
   exact ⟨x, _, _, .inl k2, (k3 _ h.next st.ext (by simp)).2, st⟩
 obtain ⟨dst, op, ty, pos, after, guard⟩ := o
 cases op with
 | move x =>
  simp only [aOp] at hs
  obtain ⟨k1, rfl⟩ := still_some hs
  exact ⟨_, w, ρ, .inl rfl, ha.ev k1, Step.refl hr⟩
 | assign x =>
  simp only [aOp] at hs
  obtain ⟨k1, rfl⟩ := still_some hs
  exact ⟨_, w, ρ, .inl rfl, ha.ev k1, Step.refl hr⟩
 | pick c x y =>
  simp only [aOp] at hs
  split at hs
  ·rename_i t hc
   obtain ⟨k1, rfl⟩ := still_some hs
   have hb := (ha.ev hc).bool_inv
   refine ⟨a.eval (if t then x else y), w, ρ, .inl ?_, ha.ev k1, Step.refl hr⟩
   simp only [execOp, hb, asBool, Sem.run_bind, Sem.run_pure, Result.andThen_ok]
   cases t <;> rfl
  ·cases hs
 | alloc t => exact lay hs rfl
 | box t x => exact lay hs rfl
 | build t ps =>
  simp only [aOp] at hs
  split at hs
  ·rename_i vs hv
   obtain ⟨k1, rfl⟩ := still_some hs
   obtain ⟨q1, q2⟩ := ha.evp hv
   have := aBuild_sound hr k1 q1 q2
   rw [show ((ps.toList.map fun p => (p.1, a.eval p.2)).toArray) = ps.map (fun (i, x) => (i, a.eval x)) by rw [← Array.toList_map]] at this
   exact OpOK.of this
  ·cases hs
 | buildSlice t len ps => exact lay hs rfl
 | load t x =>
  simp only [aOp] at hs
  split at hs
  ·rename_i b hx
   obtain ⟨k1, rfl⟩ := still_some hs
   obtain ⟨e, he, hxe⟩ := (ha.ev hx).ptr_inv
   obtain ⟨y, k2, k3⟩ := aLoad_sound hr k1 he
   refine OpOK.of (s := Instr.loadAt t (a.eval x)) (OK.still hr (x := y) ?_ k3)
   simp only [Instr.loadAt, hxe, Instr.sureAddr, Sem.run_bind, Sem.run_pure, Result.andThen_ok, k2]
  ·cases hs
 | store t x y =>
  simp only [aOp] at hs
  split at hs
  ·rename_i b u hx hy
   obtain ⟨k1, rfl⟩ := skips_some hs
   obtain ⟨e, he, hxe⟩ := (ha.ev hx).ptr_inv
   obtain ⟨w', k2, k3⟩ := aStore_sound hr k1 (ha.ev hy) he
   refine ⟨undef, w', ρ, .inr ⟨?_, rfl⟩, VR.undef, k3⟩
   simp only [execOp, Instr.storeAt, hxe, Instr.sureAddr, Sem.run_bind, Sem.run_pure, Result.andThen_ok, k2]
  ·cases hs
 | nilCheck x =>
  simp only [aOp] at hs
  split at hs
  ·rename_i b hx
   simp only [Option.some.injEq, Prod.mk.injEq] at hs
   obtain ⟨rfl, rfl⟩ := hs
   obtain ⟨e, he, hxe⟩ := (ha.ev hx).ptr_inv
   exact ⟨_, w, ρ, .inl (by simp only [execOp, hxe]; rfl), .ptr _ e he, Step.refl hr⟩
  ·rename_i f xs us hx
   simp only [Option.some.injEq, Prod.mk.injEq] at hs
   obtain ⟨rfl, rfl⟩ := hs
   have hv := ha.ev hx
   refine ⟨a.eval x, w, ρ, .inl ?_, hv, Step.refl hr⟩
   cases hq : a.eval x <;> rw [hq] at hv <;> first | (cases hv; done) | skip
   rename_i fn ys vs
   have hfn : fn = .func f := by cases hv; rfl
   subst hfn
   simp only [execOp, hq]; rfl
  ·rename_i t u hx
   simp only [Option.some.injEq, Prod.mk.injEq] at hs
   obtain ⟨rfl, rfl⟩ := hs
   have hv := ha.ev hx
   refine ⟨a.eval x, w, ρ, .inl ?_, hv, Step.refl hr⟩
   cases hq : a.eval x <;> rw [hq] at hv <;> first | (cases hv; done) | skip
   simp only [execOp, hq]; rfl
  ·cases hs
 | binOp op t x y yt =>
  simp only [aOp] at hs
  split at hs
  ·rename_i b c hx hy
   obtain ⟨k1, rfl⟩ := still_some hs
   exact OpOK.of (aBin_sound hr k1 (ha.ev hx) (ha.ev hy))
  ·cases hs
 | unOp op t x =>
  simp only [aOp] at hs
  split at hs
  ·rename_i b hx
   obtain ⟨k1, rfl⟩ := still_some hs
   exact OpOK.of (aUn_sound hr k1 (ha.ev hx))
  ·cases hs
 | convert s d x =>
  simp only [aOp] at hs
  split at hs
  ·rename_i b hx
   obtain ⟨k1, rfl⟩ := still_some hs
   exact OpOK.of (aConv_sound hr k1 (ha.ev hx))
  ·cases hs
 | makeInterface t x =>
  simp only [aOp] at hs
  split at hs
  ·cases hs
  ·rename_i b d hn hx hu
   simp only [Option.some.injEq, Prod.mk.injEq] at hs
   obtain ⟨rfl, rfl⟩ := hs
   refine OpOK.of (s := Instr.makeInterface t (a.eval x)) (OK.still hr (x := .iface t (a.eval x)) ?_ (.iface t _ _ (ha.ev hx)))
   cases d <;> first | (simp [Instr.makeInterface, r_und hu]; done) | (simp_all; done)
  ·cases hs
 | makeFunc fn xs us =>
  cases fn with
  | func f =>
   simp only [aOp] at hs
   split at hs
   ·rename_i b c hx hy
    simp only [Option.some.injEq, Prod.mk.injEq] at hs
    obtain ⟨rfl, rfl⟩ := hs
    have k1 := VRL_iff.1 (ha.evs hx)
    have k2 := VRL_iff.1 (ha.evs hy)
    refine OpOK.of (s := Instr.makeFunc (.func f) (xs.map a.eval) (us.map a.eval)) (OK.still hr (x := .func (.func f) (xs.map a.eval) (us.map a.eval)) rfl ?_)
    have := VR.func (ρ := ρ) (.func f) b (xs.toList.map a.eval) c (us.toList.map a.eval) (fun l h => by cases h) k1.1 k1.2 k2.1 k2.2
    rwa [← Array.toList_map, ← Array.toList_map, Array.toArray_toList, Array.toArray_toList] at this
   ·cases hs
  | _ => simp [aOp] at hs
 | makeMap t r => exact lay hs rfl
 | makeSlice t l c => exact lay hs rfl
 | slice t x lo hi mx =>
  simp only [aOp] at hs
  split at hs
  ·rename_i b c d e h1 h2 h3 h4
   obtain ⟨k1, rfl⟩ := still_some hs
   exact OpOK.of (aSlice_sound hr k1 (ha.ev h1) (ha.evo h2) (ha.evo h3) (ha.evo h4))
  ·cases hs
 | fieldAddr s x f =>
  simp only [aOp] at hs
  split at hs
  ·obtain ⟨k1, rfl⟩ := still_some hs
   rename_i hx
   exact OpOK.of (aField_sound hr k1 (ha.ev hx))
  ·cases hs
 | field t x f =>
  simp only [aOp] at hs
  split at hs
  ·obtain ⟨k1, rfl⟩ := still_some hs
   rename_i hx
   exact OpOK.of (aFieldV_sound hr k1 (ha.ev hx))
  ·cases hs
 | indexAddr t x i =>
  simp only [aOp] at hs
  split at hs
  ·obtain ⟨k1, rfl⟩ := still_some hs
   rename_i hx hy
   exact OpOK.of (aIndexAddr_sound hr k1 (ha.ev hx) (ha.ev hy))
  ·cases hs
 | index t x i =>
  simp only [aOp] at hs
  split at hs
  ·obtain ⟨k1, rfl⟩ := still_some hs
   rename_i hx hy
   exact OpOK.of (aIndex_sound hr k1 (ha.ev hx) (ha.ev hy))
  ·cases hs
 | lookup t x i ok =>
  simp only [aOp] at hs
  split at hs
  ·obtain ⟨k1, rfl⟩ := still_some hs
   rename_i hx hy
   exact OpOK.of (aLookup_sound hr k1 (ha.ev hx) (ha.ev hy))
  ·cases hs
 | mapUpdate t m k x =>
  simp only [aOp] at hs
  split at hs
  ·rename_i hx hy hz
   obtain ⟨k1, rfl⟩ := skips_some hs
   obtain ⟨w', k2, k3⟩ := aMapSet_sound hr k1 (ha.ev hx) (ha.ev hy) (ha.ev hz)
   exact ⟨undef, w', ρ, .inr ⟨by simp [execOp, k2], rfl⟩, VR.undef, k3⟩
  ·cases hs
 | insert t m k x =>
  simp only [aOp] at hs
  split at hs
  ·rename_i hx hy hz
   obtain ⟨k1, rfl⟩ := skips_some hs
   obtain ⟨w', k2, k3⟩ := aMapSet_sound hr k1 (ha.ev hx) (ha.ev hy) (ha.ev hz)
   exact ⟨undef, w', ρ, .inr ⟨by simp [execOp, k2], rfl⟩, VR.undef, k3⟩
  ·cases hs
 | extract t i =>
  simp only [aOp] at hs
  split at hs
  ·rename_i vs hx
   obtain ⟨k1, rfl⟩ := still_some hs
   obtain ⟨ys, k2, k3⟩ := (ha.ev hx).tuple_inv
   obtain ⟨y, k4, k5⟩ := k3.get k1
   refine OpOK.of (s := Instr.extract (a.eval t) i) (OK.still hr (x := y) ?_ k5)
   simp [k2, Instr.extract, k4]
  ·cases hs
 | call c =>
  obtain ⟨callee, args, ts⟩ := c
  cases callee with
  | builtin b =>
   simp only [aOp] at hs
   split at hs
   ·rename_i vs hx
    obtain ⟨x, w', ρ', k1, k2, k3⟩ := aBuiltin_sound (ty := ty) (cs := args.map fun | .const _ => true | _ => false) hr hs (ha.evs hx)
    refine ⟨x, w', ρ', .inl ?_, k2, k3⟩
    rw [← Array.toList_map, Array.toArray_toList] at k1
    simp only [execOp, resolve, Sem.run_bind, Sem.run_pure, Result.andThen_ok, invoke]
    exact k1
   ·cases hs
  | _ => simp [aOp] at hs
 | _ => simp [aOp] at hs
end
end Go.Ox
