/-
 WHAT EACH OPERATION DOES ON THE ABSTRACT SIDE, part 4: what is made; maps; built-in functions.
-/
import Derived.Test.YtfcajloeknedeaaGreatOxD
import Derived.Laws.BitsLemmas
set_option linter.unusedSimpArgs false
set_option linter.unusedVariables false
namespace Go.Ox
section
variable {P : Program}

/-! ### make -/
theorem wrap_small {k : IntKind} {n : Int} (hk : k = .i64) (h0 : 0 ≤ n) (h1 : n < 2 ^ 62) : k.wrap n = n := by
 subst hk
 rw [IntKind.wrap_i64]
 have e : (2 : Int) ^ 62 = 4611686018427387904 := by decide
 rw [e] at h1
 rw [Int.emod_eq_of_lt (by omega) (by omega)]
 omega

/-! ### maps with keys that are integers -/
def mFind (k : IntKind) (n : Int) : List (Value × Value) → Nat → Option (Option (Nat × Value))
 | [], _ => some none
 | (.int k' m, v) :: es, i => if k = k' then (if n = m then some (some (i, v)) else mFind k n es (i + 1)) else none
 | _ :: _, _ => none

theorem mFind_sound {ρ : Emb} {k q : IntKind} {n : Int} : ∀ {xs : List (Value × Value)} {ys : List MapEntry} {i : Nat} {r : Option (Nat × Value)}, mFind k n xs i = some r → VRM ρ xs ys →
  (r = none ∧ Instr.findNow (.int q) (.int k n) ys i = some none) ∨
  (∃ j v x, r = some (j, v) ∧ Instr.findNow (.int q) (.int k n) ys i = some (some (j, x)) ∧ VR ρ v x ∧ i ≤ j ∧ xs[j - i]? = some (.int k n, v) ∧ (∃ e, ys[j - i]? = some e ∧ e.key = .int k n ∧ e.val = x))
 | [], [], i, r, h, _ => by simp [mFind] at h; exact .inl ⟨h.symm, rfl⟩
 | [], _ :: _, _, _, _, hv => hv.elim
 | _ :: _, [], _, _, _, hv => hv.elim
 | (x0, v0) :: xs, y :: ys, i, r, h, hv => by
  obtain ⟨⟨hk, hvv⟩, hv'⟩ := hv
  simp only at hk hvv
  cases x0 with
  | int k' m =>
   simp only [mFind] at h
   split at h
   ·rename_i hkk
    subst hkk
    split at h
    ·rename_i hn
     subst hn
     obtain rfl := Option.some.inj h
     refine .inr ⟨i, v0, y.val, rfl, ?_, hvv, Nat.le_refl _, by simp, y, by simp, hk.symm, rfl⟩
     simp [Instr.findNow, Instr.sameNow, ← hk]
    ·rename_i hn
     have hf : Instr.findNow (.int q) (.int k n) (y :: ys) i = Instr.findNow (.int q) (.int k n) ys (i + 1) := by
      simp [Instr.findNow, Instr.sameNow, ← hk, show (n == m) = false from by simpa using hn]
     rcases mFind_sound (q := q) h hv' with ⟨h1, h2⟩ | ⟨j, v, x, h1, h2, h3, h4, h5, h6⟩
     ·exact .inl ⟨h1, by rw [hf, h2]⟩
     ·obtain ⟨e, h6, h7⟩ := h6
      refine .inr ⟨j, v, x, h1, by rw [hf, h2], h3, by omega, ?_, e, ?_, h7⟩
      ·rw [show j - i = (j - (i + 1)) + 1 by omega]; simpa using h5
      ·rw [show j - i = (j - (i + 1)) + 1 by omega]; simpa using h6
   ·cases h
  | _ => simp [mFind] at h

theorem findKey_now {kt : TypeId} {q : IntKind} {kv : Value} {ys : List MapEntry} {r : Option (Nat × Value)} (hu : P.underlying kt = some (.int q)) (hf : Instr.findNow (.int q) kv ys 0 = some r) (w : World) :
  (Instr.findKey kt kv ys).run P w = .ok r w := by
 simp [Instr.findKey, r_und hu, hf]

theorem checkKey_int {kt : TypeId} {q k : IntKind} {n : Int} (hu : P.underlying kt = some (.int q)) (b : Bool) (d : Nat) (w : World) : (Instr.checkKey b (d + 1) kt (.int k n)).run P w = .ok () w := by
 simp [Instr.checkKey, r_und hu]

/-- Where a map lies. -/
theorem map_at {ρ : Emb} {h : AHeap} {w : World} (hr : HR ρ h w) {r : Nat} {es : List (Value × Value)} (hg : h.get r = some (.map es)) {e : Ent} (he : ρ r = some e) :
  ∃ es' clock, w.heap[e.blk]? = some (.map es' clock) ∧ VRM ρ es es'.toList ∧ e.off = 0 ∧ e.sz = 0 ∧ (∀ x ∈ es'.toList, x.born < clock) ∧ (es'.toList.map (·.born)).Nodup := by
 obtain ⟨o, ho, hb⟩ := hr.blk _ _ _ he hg
 cases o <;> first | exact hb.elim | exact ⟨_, _, ho, hb.2.2.1, hb.1, hb.2.1, hb.2.2.2⟩

theorem run_getMap {w : World} {B : Nat} {es : Array MapEntry} {c : Nat} (h : w.heap[B]? = some (.map es c)) : (getObj B).run P w = .ok (.map es c) w := by
 simp only [getObj, Sem.run, h]

theorem VRM.length {ρ : Emb} : ∀ {xs : List (Value × Value)} {ys : List MapEntry}, VRM ρ xs ys → xs.length = ys.length
 | [], [], _ => rfl
 | [], _ :: _, h => h.elim
 | _ :: _, [], h => h.elim
 | _ :: _, _ :: _, h => by simp [VRM.length h.2]

def aLookup (P : Program) (h : AHeap) (t : TypeId) (x : Value) (i : Value) (ok : Bool) : Option Value :=
 match P.underlying t, i with
 | some (.map kt et), .int k n => match P.underlying kt, P.info? et with
  | some (.int _), some ti => match ti.zero with
   | some z =>
    let found : Option (Option (Nat × Value)) := match x with
     | .map none => some none
     | .map (some r) => match h.get r with
      | some (.map es) => mFind k n es 0
      | _ => none
     | _ => none
    match found with
    | some (some (_, v)) => some (if ok then .tuple #[v, .bool true] else v)
    | some none => if plain 6 z then some (if ok then .tuple #[z, .bool false] else z) else none
    | none => none
   | none => none
  | _, _ => none
 | _, _ => none

theorem VR.pairOk {ρ : Emb} {v x : Value} (h : VR ρ v x) (ok b : Bool) : VR ρ (if ok then .tuple #[v, .bool b] else v) (if ok then .tuple #[x, .bool b] else x) := by
 cases ok with
 | false => exact h
 | true => exact VR.ofTuple (xs := [v, .bool b]) (ys := [x, .bool b]) ⟨h, .bool b, trivial⟩

theorem lookup_some {w : World} {B : Nat} {es : Array MapEntry} {c : Nat} (hb : w.heap[B]? = some (.map es c)) {t kt et : TypeId} {q k : IntKind} {n : Int} {ti : TypeInfo} {z : Value} (hu : P.underlying t = some (.map kt et))
  (hk : P.underlying kt = some (.int q)) (hti : P.info? et = some ti) (hz : ti.zero = some z) (ok : Bool) {r : Option (Nat × Value)} (hf : Instr.findNow (.int q) (.int k n) es.toList 0 = some r) :
  (Instr.lookup t (.map (some B)) (.int k n) ok).run P w = .ok (if ok then .tuple #[(r.map (·.2)).getD z, .bool r.isSome] else (r.map (·.2)).getD z) w := by
 simp only [Instr.lookup, Sem.run_bind, r_und hu, Result.andThen_ok, run_getMap hb, Sem.run_pure, checkKey_int hk _ 9999, findKey_now hk hf]
 cases r with
 | none => simp only [Sem.run_bind, r_zero hti hz, Sem.run_pure, Result.andThen_ok]; rfl
 | some r => obtain ⟨j, y⟩ := r; simp only [Sem.run_bind, Sem.run_pure, Result.andThen_ok]; rfl

theorem lookup_none {w : World} {t kt et : TypeId} {q k : IntKind} {n : Int} {ti : TypeInfo} {z : Value} (hu : P.underlying t = some (.map kt et))
  (hk : P.underlying kt = some (.int q)) (hti : P.info? et = some ti) (hz : ti.zero = some z) (ok : Bool) :
  (Instr.lookup t (.map none) (.int k n) ok).run P w = .ok (if ok then .tuple #[z, .bool false] else z) w := by
 simp only [Instr.lookup, Sem.run_bind, r_und hu, Result.andThen_ok, Sem.run_pure, checkKey_int hk _ 9999, findKey_now (r := none) (kv := .int k n) (ys := []) hk rfl]
 simp only [Sem.run_bind, r_zero hti hz, Sem.run_pure, Result.andThen_ok]

theorem aLookup_sound {ρ : Emb} {h : AHeap} {w : World} (hr : HR ρ h w) {t : TypeId} {x x' i i' : Value} {ok : Bool} {v : Value} (hs : aLookup P h t x i ok = some v) (hx : VR ρ x x') (hi : VR ρ i i') :
  OK P ρ h w (Instr.lookup t x' i' ok) v h := by
 unfold aLookup at hs
 split at hs
 ·rename_i kt et k n hu
  obtain rfl := hi.int_inv
  split at hs
  ·rename_i q ti hk hti
   split at hs
   ·rename_i z hz
    simp only at hs
    cases hx with
    | mapNil =>
     simp only at hs
     split at hs
     ·rename_i hp
      obtain rfl := Option.some.inj hs
      exact OK.still hr (lookup_none hu hk hti hz ok) ((plain_self 6 z hp).pairOk ok false)
     ·cases hs
    | map r e he =>
     simp only at hs
     cases hg : h.get r with
     | none => simp [hg] at hs
     | some b =>
      cases b with
      | map es =>
       simp only [hg] at hs
       obtain ⟨es', clock, h1, h2, _⟩ := map_at hr hg he
       cases hf : mFind k n es 0 with
       | none => simp [hf] at hs
       | some found =>
        rcases mFind_sound (q := q) hf h2 with ⟨rfl, k2⟩ | ⟨j, u, y, rfl, k2, k3, _⟩
        ·simp only [hf] at hs
         split at hs
         ·rename_i hp
          obtain rfl := Option.some.inj hs
          exact OK.still hr (lookup_some h1 hu hk hti hz ok k2) ((plain_self 6 z hp).pairOk ok false)
         ·cases hs
        ·simp only [hf] at hs
         obtain rfl := Option.some.inj hs
         exact OK.still hr (lookup_some h1 hu hk hti hz ok k2) (k3.pairOk ok true)
      | _ => simp [hg] at hs
    | _ => simp at hs
   ·cases hs
  ·cases hs
 ·cases hs

/-! Maps written -/
theorem VRM.append {ρ : Emb} : ∀ {xs : List (Value × Value)} {ys : List MapEntry} {a : Value × Value} {b : MapEntry}, VRM ρ xs ys → a.1 = b.key → VR ρ a.2 b.val → VRM ρ (xs ++ [a]) (ys ++ [b])
 | [], [], _, _, _, h1, h2 => ⟨⟨h1, h2⟩, trivial⟩
 | [], _ :: _, _, _, h, _, _ => h.elim
 | _ :: _, [], _, _, h, _, _ => h.elim
 | _ :: _, _ :: _, _, _, h, h1, h2 => ⟨h.1, VRM.append h.2 h1 h2⟩

theorem VRM.modify {ρ : Emb} {k v x : Value} : ∀ {xs : List (Value × Value)} {ys : List MapEntry} (i : Nat), VRM ρ xs ys → VR ρ v x →
  VRM ρ (xs.set i (k, v)) (ys.modify i fun e => { e with key := k, val := x })
 | [], [], i, _, _ => by cases i <;> simp [VRM]
 | [], _ :: _, _, h, _ => h.elim
 | _ :: _, [], _, h, _ => h.elim
 | a :: xs, b :: ys, 0, h, hv => ⟨⟨rfl, hv⟩, h.2⟩
 | a :: xs, b :: ys, i + 1, h, hv => by
  simp only [List.set_cons_succ, List.modify_succ_cons]
  exact ⟨h.1, VRM.modify i h.2 hv⟩

theorem VRM.erase {ρ : Emb} : ∀ {xs : List (Value × Value)} {ys : List MapEntry} (i : Nat), VRM ρ xs ys → VRM ρ (xs.eraseIdx i) (ys.eraseIdx i)
 | [], [], i, _ => by cases i <;> simp [VRM]
 | [], _ :: _, _, h => h.elim
 | _ :: _, [], _, h => h.elim
 | a :: xs, b :: ys, 0, h => h.2
 | a :: xs, b :: ys, i + 1, h => by
  simp only [List.eraseIdx_cons_succ]
  exact ⟨h.1, VRM.erase i h.2⟩

theorem run_setMap {w : World} {B : Nat} {es : Array MapEntry} {c : Nat} (h : w.heap[B]? = some (.map es c)) (o : Obj) : (setObj B o).run P w = .ok () { w with heap := w.heap.setIfInBounds B o } := by
 simp only [setObj, Sem.run, h]

theorem Step.setMap {ρ : Emb} {h : AHeap} {w : World} (hr : HR ρ h w) {r : Nat} {es : List (Value × Value)} (hg : h.get r = some (.map es)) {e : Ent} (he : ρ r = some e)
  {fs : List (Value × Value)} {fs' : Array MapEntry} {clock : Nat} (hv : VRM ρ fs fs'.toList) (h1 : ∀ x ∈ fs'.toList, x.born < clock) (h2 : (fs'.toList.map (·.born)).Nodup) :
  Step True ρ ρ h (h.set r (.map fs)) w { w with heap := w.heap.setIfInBounds e.blk (.map fs' clock) } := by
 obtain ⟨es', cl, k1, k2, k3, k4, _⟩ := map_at hr hg he
 have hlt := hr.old _ _ he
 refine Step.set (o' := .map fs' clock) hr he hg rfl rfl ?_ ⟨k3, k4, hv, h1, h2⟩ (fun B hB => ?_) (by simp) rfl rfl rfl rfl
 ·simp [Array.getElem?_setIfInBounds_self, hlt]
 ·simp only [Array.getElem?_setIfInBounds_ne (fun e => hB e.symm)]

def aMapSet (P : Program) (h : AHeap) (t : TypeId) (x i y : Value) : Option AHeap :=
 match P.underlying t, x, i with
 | some (.map kt _), .map (some r), .int k n => match P.underlying kt, h.get r with
  | some (.int _), some (.map es) => match mFind k n es 0 with
   | some (some (j, _)) => some (h.set r (.map (es.set j (.int k n, y))))
   | some none => some (h.set r (.map (es ++ [(.int k n, y)])))
   | none => none
  | _, _ => none
 | _, _, _ => none

theorem born_modify {f : MapEntry → MapEntry} (hf : ∀ e, (f e).born = e.born) : ∀ (l : List MapEntry) (i : Nat), (l.modify i f).map (·.born) = l.map (·.born)
 | [], i => by cases i <;> rfl
 | a :: l, 0 => by simp [hf]
 | a :: l, i + 1 => by simp [born_modify hf l i]

theorem aMapSet_sound {ρ : Emb} {h h' : AHeap} {w : World} (hr : HR ρ h w) {t : TypeId} {x x' i i' y y' : Value} (hs : aMapSet P h t x i y = some h') (hx : VR ρ x x') (hi : VR ρ i i') (hy : VR ρ y y') :
  ∃ w', (Instr.mapUpdate t x' i' y').run P w = .ok () w' ∧ Step True ρ ρ h h' w w' := by
 unfold aMapSet at hs
 split at hs
 ·rename_i kt et r k n hu
  obtain rfl := hi.int_inv
  cases hx with
  | map r e he =>
  split at hs
  ·rename_i q es hk hg
   obtain ⟨es', clock, k1, k2, k3, k4, k5, k6⟩ := map_at hr hg he
   split at hs
   ·rename_i j u hf
    obtain rfl := Option.some.inj hs
    rcases mFind_sound (q := q) hf k2 with ⟨hh, _⟩ | ⟨j', u', z, hh, f1, f2, _, f3, f4⟩
    ·cases hh
    simp only [Option.some.injEq, Prod.mk.injEq] at hh
    obtain ⟨rfl, rfl⟩ := hh
    obtain ⟨e', f4, f5, f6⟩ := f4
    simp only [Nat.sub_zero] at f4
    refine ⟨_, ?_, Step.setMap (clock := clock) (fs' := es'.modify j fun e => { e with key := .int k n, val := y' }) hr hg he (by simpa using VRM.modify j k2 hy) (fun z hz => ?_) ?_⟩
    ·have hkey : ((es'[j]?).map (·.key)).getD (.int k n) = .int k n := by
      have : es'[j]? = some e' := by simpa using f4
      simp [this, f5]
     simp only [Instr.mapUpdate, Sem.run_bind, r_und hu, Result.andThen_ok, run_getMap k1, checkKey_int hk _ 9999, findKey_now hk f1]
     rw [hkey]
     have hbits : Instr.sameBits 10000 (.int k n) (.int k n) = true := by
      unfold Instr.sameBits; simp
     simp only [Instr.keyThatStays, hbits, if_true, Sem.run_pure, Result.andThen_ok, run_setMap k1]
    ·have hb : ∀ b, b ∈ (es'.toList.modify j fun e => { e with key := .int k n, val := y' }).map (·.born) → b < clock := fun b hb => by
      rw [born_modify (f := fun e => { e with key := Value.int k n, val := y' }) (fun _ => rfl)] at hb
      obtain ⟨z, hz, rfl⟩ := List.mem_map.1 hb
      exact k5 z hz
     exact hb _ (List.mem_map.2 ⟨z, by simpa using hz, rfl⟩)
    ·have : ((es'.modify j fun e => { e with key := Value.int k n, val := y' }).toList.map (·.born)) = es'.toList.map (·.born) := by
      rw [Array.toList_modify, born_modify (f := fun e => { e with key := Value.int k n, val := y' }) (fun _ => rfl)]
     rw [this]; exact k6
   ·rename_i hf
    obtain rfl := Option.some.inj hs
    rcases mFind_sound (q := q) hf k2 with ⟨_, f1⟩ | ⟨_, _, _, hh, _⟩
    ·refine ⟨_, ?_, Step.setMap (clock := clock + 1) (fs' := es'.push { key := .int k n, val := y', born := clock }) hr hg he (by simpa using VRM.append (b := { key := .int k n, val := y', born := clock }) k2 rfl hy) (fun z hz => ?_) ?_⟩
     ·simp only [Instr.mapUpdate, Sem.run_bind, r_und hu, Result.andThen_ok, run_getMap k1, checkKey_int hk _ 9999, findKey_now hk f1, run_setMap k1]
     ·simp only [Array.toList_push, List.mem_append, List.mem_singleton] at hz
      rcases hz with hz | rfl
      ·have := k5 z hz; omega
      ·simp
     ·simp only [Array.toList_push, List.map_append, List.map_cons, List.map_nil]
      rw [List.nodup_append]
      refine ⟨k6, by simp, fun a ha b hb => ?_⟩
      obtain ⟨z, hz, rfl⟩ := List.mem_map.1 ha
      simp at hb; subst hb
      have := k5 z hz; omega
    ·cases hh
   ·cases hs
  ·cases hs
 ·cases hs
end
end Go.Ox
