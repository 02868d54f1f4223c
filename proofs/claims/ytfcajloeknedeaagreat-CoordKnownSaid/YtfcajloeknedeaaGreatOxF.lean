/-
  WHAT EACH OPERATION DOES ON THE ABSTRACT SIDE, part 5: built-in functions; the operation as a whole.
-/
import Derived.Laws.Append
import Derived.Test.YtfcajloeknedeaaGreatOxE
set_option linter.unusedSimpArgs false
set_option linter.unusedVariables false
namespace Go.Ox
section
variable {P : Program}

/-! ### delete, len -/
def aDelete (P : Program) (h : AHeap) (t : TypeId) (x i : Value) : Option AHeap :=
  match P.underlying t, x, i with
  | some (.map kt _), .map (some r), .int k n => match P.underlying kt, h.get r with
    | some (.int _), some (.map es) => match mFind k n es 0 with
      | some (some (j, _)) => some (h.set r (.map (es.eraseIdx j)))
      | some none => some h
      | none => none
    | _, _ => none
  | _, _, _ => none

theorem aDelete_sound {ρ : Emb} {h h' : AHeap} {w : World} (hr : HR ρ h w) {t : TypeId} {x x' i i' : Value} (hs : aDelete P h t x i = some h') (hx : VR ρ x x') (hi : VR ρ i i') (ty : TypeId) (ts : Array TypeId) (ht : ts[0]? = some t) :
    OK P ρ h w (Builtin.delete_ ts ty #[x', i']) (.tuple #[]) h' := by
  unfold aDelete at hs
  split at hs
  · rename_i kt et r k n hu
    obtain rfl := hi.int_inv
    cases hx with
    | map r e he =>
    split at hs
    · rename_i q es hk hg
      obtain ⟨es', clock, k1, k2, k3, k4, k5, k6⟩ := map_at hr hg he
      have hu2 : (VR ρ (.tuple #[]) (.tuple #[])) := VR.undef
      split at hs
      · rename_i j u hf
        obtain rfl := Option.some.inj hs
        rcases mFind_sound (q := q) hf k2 with ⟨hh, _⟩ | ⟨j', u', z, hh, f1, f2, _, f3, f4⟩
        · cases hh
        simp only [Option.some.injEq, Prod.mk.injEq] at hh
        obtain ⟨rfl, rfl⟩ := hh
        have hel : (es'.eraseIdxIfInBounds j).toList = es'.toList.eraseIdx j := by simp
        refine ⟨.tuple #[], _, ρ, ?_, hu2, Step.setMap (clock := clock) (fs' := es'.eraseIdxIfInBounds j) hr hg he (by rw [hel]; exact VRM.erase j k2) (fun z hz => ?_) ?_⟩
        · simp only [Builtin.delete_, ht, List.getElem?_toArray, List.getElem?_cons_zero, List.getElem?_cons_succ, Sem.run_bind, r_und hu, Result.andThen_ok, run_getMap k1, checkKey_int hk _ 9999, findKey_now hk f1, run_setMap k1, Sem.run_pure]
        · rw [hel] at hz; exact k5 z (List.mem_of_mem_eraseIdx hz)
        · rw [hel]; exact ((List.eraseIdx_sublist es'.toList j).map _).nodup k6
      · rename_i hf
        obtain rfl := Option.some.inj hs
        rcases mFind_sound (q := q) hf k2 with ⟨_, f1⟩ | ⟨_, _, _, hh, _⟩
        · have hsame : ({ w with heap := w.heap.setIfInBounds e.blk (.map es' clock) } : World) = w := by
            have : w.heap.setIfInBounds e.blk (.map es' clock) = w.heap := by
              refine Array.ext_getElem? fun i => ?_
              by_cases hi : i = e.blk
              · subst hi; rw [Array.getElem?_setIfInBounds_self, if_pos (hr.old _ _ he), k1]
              · rw [Array.getElem?_setIfInBounds_ne (fun h => hi h.symm)]
            rw [this]
          refine OK.still hr (x := .tuple #[]) ?_ hu2
          simp only [Builtin.delete_, ht, List.getElem?_toArray, List.getElem?_cons_zero, List.getElem?_cons_succ, Sem.run_bind, r_und hu, Result.andThen_ok, run_getMap k1, checkKey_int hk _ 9999, findKey_now hk f1, run_setMap k1, Sem.run_pure, hsame]
        · cases hh
      · cases hs
    · cases hs
  · cases hs

def aLen (P : Program) (h : AHeap) (t : TypeId) : Value → Option Value
  | .slice _ n _ => match P.underlying t with
    | some (.slice _) => some (.int .i64 n)
    | _ => none
  | .string s => match P.underlying t with
    | some .string => some (.int .i64 s.size)
    | _ => none
  | .map none => match P.underlying t with
    | some (.map _ _) => some (.int .i64 0)
    | _ => none
  | .map (some r) => match P.underlying t, h.get r with
    | some (.map _ _), some (.map es) => some (.int .i64 es.length)
    | _, _ => none
  | _ => none

theorem aLen_sound {ρ : Emb} {h : AHeap} {w : World} (hr : HR ρ h w) {t : TypeId} {x x' : Value} {v : Value} (hs : aLen P h t x = some v) (hx : VR ρ x x') (ty : TypeId) (ts : Array TypeId) (ht : ts[0]? = some t) :
    OK P ρ h w (Builtin.len_ ts ty #[x']) v h := by
  unfold aLen at hs
  split at hs
  · split at hs
    · rename_i hu
      obtain rfl := Option.some.inj hs
      refine OK.still hr ?_ (.int _ _)
      cases hx <;> simp [Builtin.len_, ht, r_und hu, goInt]
    · cases hs
  · cases hx
    split at hs
    · rename_i hu
      obtain rfl := Option.some.inj hs
      exact OK.still hr (by simp [Builtin.len_, ht, r_und hu, goInt]) (.int _ _)
    · cases hs
  · cases hx
    split at hs
    · rename_i hu
      obtain rfl := Option.some.inj hs
      exact OK.still hr (by simp [Builtin.len_, ht, r_und hu, goInt]) (.int _ _)
    · cases hs
  · cases hx with
    | map r e he =>
    split at hs
    · rename_i es hu hg
      obtain rfl := Option.some.inj hs
      obtain ⟨es', clock, k1, k2, _⟩ := map_at hr hg he
      refine OK.still hr ?_ (.int _ _)
      have hl : es.length = es'.size := by simpa using k2.length
      simp [Builtin.len_, ht, r_und hu, run_getMap k1, goInt, hl]
    · cases hs
  · cases hs

/-! ### rows of cells as a source -/
/-- The first n elements (of 'size' cells) of a slice. -/
def aFirst (h : AHeap) (size n : Nat) : Value → Option (List Value)
  | .slice (some a) l _ => if n * size = 0 then some [] else if l < n then none else h.load a (n * size)
  | .slice none _ _ => if n = 0 then some [] else none
  | _ => none

theorem aFirst_sound {ρ : Emb} {h : AHeap} {w : World} (hr : HR ρ h w) {size n : Nat} {x x' : Value} {xs : List Value} (hs : aFirst h size n x = some xs) (hx : VR ρ x x') :
    ∃ ys, (Builtin.firstCells size n x').run P w = .ok ys.toArray w ∧ VRL ρ xs ys ∧ xs.length = n * size := by
  unfold aFirst at hs
  split at hs
  · split at hs
    · rename_i h0
      obtain rfl := Option.some.inj hs
      refine ⟨[], ?_, trivial, by simp [h0]⟩
      cases hx <;> simp [Builtin.firstCells, h0, loadCells, loadCellsFrom]
    · rename_i h0
      split at hs
      · cases hs
      rename_i hn
      cases hx with
      | sliceEmpty a a' c hc => exact absurd (show n * size = 0 by rw [show n = 0 by omega]; simp) h0
      | slice a e l c c' he _ _ _ =>
        obtain ⟨ys, h1, h2, h3⟩ := load_row (P := P) hr hs he
        exact ⟨ys, h1, h2, h3⟩
  · split at hs
    · rename_i h0
      obtain rfl := Option.some.inj hs
      subst h0
      cases hx
      exact ⟨[], rfl, trivial, by simp⟩
    · cases hs
  · cases hs

/-! ### append -/
def aAppend (P : Program) (h : AHeap) (t : TypeId) (s x : Value) : Option (Value × AHeap) :=
  match P.underlying t with
  | some (.slice el) => match P.info? el, aZero P el, s, x with
    | some ti, some _, .slice base len cap, .slice _ n _ =>
      if ti.size = 0 then none else
      if (len + n) * ti.bytes > 2 ^ 47 ∨ len + n ≥ 2 ^ 62 then none else
      match aFirst h ti.size n x with
      | none => none
      | some new =>
        match base with
        | none =>
          if len ≠ 0 ∨ cap ≠ 0 then none
          else if n = 0 then some (.slice none 0 0, h)
          else some (.slice (some ⟨h.next, 0, none⟩) n (big + n), h.push (.cells false ti.size new el))
        | some a =>
          let capK := if cap < big then cap else cap - big
          if len + n ≤ capK then
            if n = 0 then some (.slice (some a) len cap, h)
            else match h.store (a.add (len * ti.size)) new with
              | some h' => some (.slice (some a) (len + n) cap, h')
              | none => none
          else match aFirst h ti.size len s with
            | none => none
            | some old =>
              if cap < big then some (.slice (some ⟨h.next, 0, none⟩) (len + n) (big + (len + n)), h.push (.cells false ti.size (old ++ new) el))
              else match h.get a.block with
                | some (.cells false sz c el') =>
                  if sz = ti.size ∧ el' = el ∧ a.spot = none ∧ a.off + len * ti.size ≤ c.length ∧ new.all Value.oneCell' = true then
                    some (.slice (some ⟨h.next, 0, none⟩) (len + n) (big + (len + n)), (h.del a.block).push (.cells false ti.size (old ++ new) el))
                  else none
                | _ => none
    | _, _, _, _ => none
  | _ => none

theorem zeroCells_toList (z : Array Value) (n : Nat) : (Builtin.zeroCells z n).toList = aZeros z.toList n := by
  rw [← aZeros_eq]; rfl

/-- The concrete append, where there is room. -/
theorem append_room {w : World} {t el u e2 ty : TypeId} {ti : TypeInfo} {ts : Array TypeId} (ht : ts[0]? = some t) (h1 : ts[1]? = some u) (hu : P.underlying t = some (.slice el)) (hu1 : P.underlying u = some (.slice e2)) (hti : P.info? el = some ti)
    {base : Option Addr} {len cap n c : Nat} {b : Option Addr} {ys : List Value} (hf : (Builtin.firstCells ti.size n (.slice b n c)).run P w = .ok ys.toArray w) (hroom : len + n ≤ cap) :
    (Builtin.append_ ts ty #[.slice base len cap, .slice b n c]).run P w = (match base with
      | some a => ((storeCells (a.add (len * ti.size)) ys).run P w).andThen fun _ w' => .ok (.slice base (len + n) cap) w'
      | none => .ok (.slice base (len + n) cap) w) := by
  simp only [Builtin.append_, ht, h1, List.getElem?_toArray, List.getElem?_cons_zero, List.getElem?_cons_succ, Sem.run_bind, r_und hu, r_und hu1, Result.andThen_ok, r_size hti, Sem.run_pure, Builtin.lenOf,
    Bool.false_eq_true, if_false, hroom, if_true, Bool.not_false, hf]
  cases base with
  | none => rfl
  | some a => simp only [Sem.run_bind]; rfl

/-- The concrete append, where there is none. -/
theorem append_grow {w : World} {t el u e2 ty : TypeId} {ti : TypeInfo} {ts : Array TypeId} (ht : ts[0]? = some t) (h1 : ts[1]? = some u) (hu : P.underlying t = some (.slice el)) (hu1 : P.underlying u = some (.slice e2)) (hti : P.info? el = some ti)
    {z : Value} (hz : ti.zero = some z) {base : Option Addr} {len cap n c : Nat} {b : Option Addr} {xs ys : List Value} (hroom : ¬ len + n ≤ cap) (hb : (len + n) * ti.bytes ≤ 2 ^ 47) (hs : len + n < 2 ^ 62)
    (ho : (Builtin.firstCells ti.size len (.slice base len cap)).run P w.drew = .ok xs.toArray w.drew) (hf : (Builtin.firstCells ti.size n (.slice b n c)).run P w.drew = .ok ys.toArray w.drew) :
    ∃ N, len + n ≤ N ∧ (Builtin.append_ ts ty #[.slice base len cap, .slice b n c]).run P w =
      .ok (.slice (some ⟨w.heap.size, 0, none⟩) (len + n) N) (w.drew.alloc (.cells (xs.toArray ++ ys.toArray ++ Builtin.zeroCells z.cells (N - (len + n))) el)) := by
  have hb2 : ¬ Builtin.nextslicecap (len + n) cap * ti.bytes > 2 ^ 48 := by
    have := growslice_fits (need := len + n) (old := cap) (bytes := ti.bytes) (by omega) hb
    omega
  have hbig : ¬ (((len + n : Nat) : Int) > IntKind.i64.max) := by
    have e : IntKind.i64.max = 9223372036854775807 := by decide
    have e2 : (2 : Nat) ^ 62 = 4611686018427387904 := by decide
    rw [e]; omega
  refine ⟨(Question.appendCap (len + n) cap el).cut (w.tape w.drawn (.appendCap (len + n) cap el)), by simp [Question.cut], ?_⟩
  simp only [Builtin.append_, ht, h1, List.getElem?_toArray, List.getElem?_cons_zero, List.getElem?_cons_succ, Sem.run_bind, r_und hu, r_und hu1, Result.andThen_ok, r_size hti, Sem.run_pure, Builtin.lenOf,
    Bool.false_eq_true, if_false, hroom, Bool.not_false, r_info hti, hbig, hb2, false_and, run_choose, Question.forced, run_askRoom, World.drew_eq]
  rw [ho, Result.andThen_ok, if_pos trivial, hf]
  simp only [Result.andThen_ok, r_zero hti hz, Sem.run_bind, run_newRow, Sem.run_pure]
  rfl

theorem VR.slice_inv {ρ : Emb} {b : Option Addr} {l c : Nat} {x : Value} (h : VR ρ (.slice b l c) x) : ∃ b' c', x = .slice b' l c' := by
  cases h <;> exact ⟨_, _, rfl⟩

theorem push_more {ρ : Emb} {h : AHeap} {w : World} (hr : HR ρ h w) {xs : List Value} {ys : List Value} (hv : VRL ρ xs ys) (d : Array Value) (hd : ∃ rest, d.toList = ys ++ rest) (sz : Nat) (T : TypeId) :
    ∃ ρ', Step True ρ ρ' h (h.push (.cells false sz xs T)) w (w.alloc (.cells d T)) ∧ ρ' h.next = some ⟨w.heap.size, 0, d.size, sz⟩ := by
  obtain ⟨rest, hd⟩ := hd
  have hl := hv.length
  have hds : d.size = ys.length + rest.length := by rw [← Array.length_toList, hd]; simp
  have st := Step.push (D := True) (b := .cells false sz xs T) (o := .cells d T) (e := ⟨w.heap.size, 0, d.size, sz⟩) hr rfl (fun ρ' hle _ => ⟨⟨rfl, fun _ => rfl⟩, rfl, rfl, by simp, by simp; omega, fun i v hi => by
    obtain ⟨y, hy, hvy⟩ := hv.get hi
    refine ⟨y, ?_, hvy.mono hle⟩
    have hi' := (List.getElem?_eq_some_iff.1 hy).1
    rw [← Array.getElem?_toList, hd, List.getElem?_append_left (by simpa using hi')]; simpa using hy⟩)
  exact ⟨_, st, by simp⟩

theorem aAppend_sound {ρ : Emb} {h h' : AHeap} {w : World} (hr : HR ρ h w) {t u e2 ty : TypeId} {ts : Array TypeId} (ht : ts[0]? = some t) (h1 : ts[1]? = some u) (hu1 : P.underlying u = some (.slice e2)) {s s' x x' v : Value}
    (hs : aAppend P h t s x = some (v, h')) (hvs : VR ρ s s') (hvx : VR ρ x x') : OK P ρ h w (Builtin.append_ ts ty #[s', x']) v h' := by
  unfold aAppend at hs
  split at hs
  · rename_i el hu
    split at hs
    · rename_i ti zs base len cap bx n cx hti hz
      obtain ⟨i', z, hi', hzz, rfl, hlen, hpl, hone⟩ := aZero_spec hz
      rw [hti] at hi'; obtain rfl := Option.some.inj hi'
      have hzs : z.cells.size = ti.size := by simpa using hlen
      split at hs
      · cases hs
      rename_i h0
      split at hs
      · cases hs
      rename_i hbd
      simp only [not_or, Nat.not_lt, Nat.not_le] at hbd
      obtain ⟨hbd1, hbd2⟩ := hbd
      split at hs
      · cases hs
      rename_i new hnew
      obtain ⟨bx', cx', rfl⟩ := hvx.slice_inv
      -- a new block
      have grow : ∀ {hh : AHeap} {ww : World} {base' : Option Addr} {cap' : Nat} {old : List Value} (hr' : HR ρ hh w) (st0 : Step True ρ ρ h hh w w) (hvs' : s' = .slice base' len cap') (hroom : ¬ len + n ≤ cap')
          (hold : aFirst h ti.size len (.slice base len cap) = some old),
          OK P ρ h w (Builtin.append_ ts ty #[s', .slice bx' n cx']) (.slice (some ⟨hh.next, 0, none⟩) (len + n) (big + (len + n))) (hh.push (.cells false ti.size (old ++ new) el)) := by
        intro hh ww base' cap' old hr' st0 hvs' hroom hold
        subst hvs'
        obtain ⟨xs, f1, f2, f3⟩ := aFirst_sound (P := P) hr.drew hold hvs
        obtain ⟨ys, g1, g2, g3⟩ := aFirst_sound (P := P) hr.drew hnew hvx
        obtain ⟨N, hN, hrun⟩ := append_grow (ty := ty) ht h1 hu hu1 hti hzz (xs := xs) (ys := ys) hroom hbd1 hbd2 f1 g1
        obtain ⟨ρ', st, hρ⟩ := push_more (w := w.drew) hr'.drew (f2.append g2) (xs.toArray ++ ys.toArray ++ Builtin.zeroCells z.cells (N - (len + n))) ⟨(Builtin.zeroCells z.cells (N - (len + n))).toList, by simp⟩ ti.size el
        have hsz : (xs.toArray ++ ys.toArray ++ Builtin.zeroCells z.cells (N - (len + n))).size = N * ti.size := by
          have k1 := f2.length
          have k2 := g2.length
          have k3 : (Builtin.zeroCells z.cells (N - (len + n))).size = (N - (len + n)) * ti.size := by rw [← Array.length_toList, zeroCells_toList, aZeros_length]; simp [hzs]
          simp only [Array.size_append, List.size_toArray, k3]
          rw [← k1, ← k2, f3, g3, ← Nat.add_mul, ← Nat.add_mul]
          congr 1; omega
        refine ⟨_, _, ρ', hrun, ?_, st0.trans ((Step.drew hr').trans st)⟩
        have := VR.slice (ρ := ρ') ⟨hh.next, 0, none⟩ _ (len + n) (big + (len + n)) N hρ (by rw [if_neg (by omega)]; omega) (fun _ => by show 0 + N * ti.size ≤ (xs.toArray ++ ys.toArray ++ Builtin.zeroCells z.cells (N - (len + n))).size; rw [hsz]; omega) hN
        simpa using this
      split at hs
      · -- nil
        split at hs
        · cases hs
        rename_i hz0
        simp only [not_or, Decidable.not_not] at hz0
        obtain ⟨rfl, rfl⟩ := hz0
        cases hvs
        split at hs
        · rename_i hn
          subst hn
          simp only [Option.some.injEq, Prod.mk.injEq] at hs
          obtain ⟨rfl, rfl⟩ := hs
          obtain ⟨ys, g1, g2, g3⟩ := aFirst_sound (P := P) hr hnew hvx
          exact OK.still hr (append_room ht h1 hu hu1 hti g1 (Nat.le_refl _)) (.sliceNil 0 0)
        · rename_i hn
          simp only [Option.some.injEq, Prod.mk.injEq] at hs
          obtain ⟨rfl, rfl⟩ := hs
          have := grow (hh := h) (ww := w) (old := []) hr (Step.refl hr) rfl (by omega) (by simp [aFirst])
          simpa using this
      · rename_i a
        simp only at hs
        generalize hK : (if cap < big then cap else cap - big) = capK at hs
        split at hs
        · -- in its place
          rename_i hroom
          split at hs
          · rename_i hn
            subst hn
            simp only [Option.some.injEq, Prod.mk.injEq] at hs
            obtain ⟨rfl, rfl⟩ := hs
            obtain ⟨ys, g1, g2, g3⟩ := aFirst_sound (P := P) hr hnew hvx
            have hy0 : ys = [] := by
              have := g2.length; simp at g3; rw [g3] at this; simpa using this.symm
            subst hy0
            have hcap' : ∀ {b' c'}, s' = .slice b' len c' → len + 0 ≤ c' := fun {b' c'} hq => by
              subst hq
              cases hvs with
              | sliceEmpty _ _ _ _ => simp
              | slice _ _ _ _ _ _ _ _ hl => simpa using hl
            obtain ⟨b', c', rfl⟩ := hvs.slice_inv
            refine OK.still hr ?_ hvs
            rw [append_room ht h1 hu hu1 hti g1 (hcap' rfl)]
            cases b' <;> rfl
          · rename_i hn
            split at hs
            · rename_i h2 hst
              simp only [Option.some.injEq, Prod.mk.injEq] at hs
              obtain ⟨rfl, rfl⟩ := hs
              cases hvs with
              | sliceEmpty _ _ _ hc =>
                exfalso
                rcases hc with rfl | ⟨rfl, _⟩ <;> simp [big] at hK <;> omega
              | slice a e l c c' he hc hsz hl =>
                obtain ⟨ys, g1, g2, g3⟩ := aFirst_sound (P := P) hr hnew hvx
                have hblk : (a.add (len * ti.size)).block = a.block := by unfold Addr.add; split <;> rfl
                have hadd : ((⟨e.blk, e.off + a.off, a.spot⟩ : Addr).add (len * ti.size)) = ⟨e.blk, e.off + (a.add (len * ti.size)).off, (a.add (len * ti.size)).spot⟩ := by
                  unfold Addr.add; split <;> simp_all [Nat.add_assoc]
                obtain ⟨w', k1, k2⟩ := store_row (P := P) hr hst g2 (by rw [hblk]; exact he)
                have hcc : len + n ≤ c' := by split at hc <;> split at hK <;> omega
                refine ⟨_, w', ρ, ?_, VR.slice a e (len + n) cap c' he hc hsz hcc, k2⟩
                rw [append_room ht h1 hu hu1 hti g1 hcc]
                simp only [hadd, k1, Result.andThen_ok]
            · cases hs
        · rename_i hroom
          split at hs
          · cases hs
          rename_i old hold
          split at hs
          · -- the capacity is known: there is no room
            rename_i hcb
            simp only [Option.some.injEq, Prod.mk.injEq] at hs
            obtain ⟨rfl, rfl⟩ := hs
            rw [if_pos hcb] at hK
            subst hK
            obtain ⟨b', c', rfl⟩ := hvs.slice_inv
            refine grow (ww := w) hr (Step.refl hr) rfl ?_ hold
            cases hvs with
            | sliceEmpty _ _ _ hc => rcases hc with rfl | ⟨rfl, _⟩ <;> omega
            | slice _ _ _ _ _ _ hc _ _ => rw [if_pos hcb] at hc; omega
          · rename_i hcb
            rw [if_neg hcb] at hK
            split at hs
            · rename_i sz c el' hg
              split at hs
              · rename_i hcond
                obtain ⟨rfl, rfl, hsp, hlc, hon⟩ := hcond
                simp only [Option.some.injEq, Prod.mk.injEq] at hs
                obtain ⟨rfl, rfl⟩ := hs
                have hdom : ∃ e, ρ a.block = some e := by
                  cases hvs with
                  | sliceEmpty _ _ _ hc => rcases hc with rfl | ⟨rfl, hx⟩; · exact absurd (show (0 : Nat) < big by decide) hcb
                                           exact hx
                  | slice _ e _ _ _ he _ _ _ => exact ⟨e, he⟩
                obtain ⟨e, he⟩ := hdom
                have stdel := Step.del (D := True) hr he
                obtain ⟨b', c', rfl⟩ := hvs.slice_inv
                by_cases hrm : len + n ≤ c'
                · -- grown in its place
                  cases hvs with
                  | sliceEmpty _ _ _ hc => exfalso; rcases hc with rfl | ⟨rfl, _⟩ <;> omega
                  | slice _ e2' _ _ _ he2 hc hsz hl =>
                    rw [he] at he2; obtain rfl := Option.some.inj he2
                    obtain ⟨o, ho, hb⟩ := hr.blk _ _ _ he hg
                    cases o <;> first | exact hb.elim | skip
                    rename_i d T' fz
                    obtain ⟨⟨q1, _⟩, q2, q3, q4, q5, q6⟩ := hb
                    subst q2 q3
                    have hext := hsz (by rw [q1]; exact h0)
                    rw [q1] at hext
                    obtain ⟨ys, g1, g2, g3⟩ := aFirst_sound (P := P) hr hnew hvx
                    have hyl : ys.length = n * ti.size := by rw [← g2.length]; exact g3
                    have hfit : len * ti.size + n * ti.size ≤ c' * ti.size := by rw [← Nat.add_mul]; exact Nat.mul_le_mul_right _ hrm
                    obtain ⟨w', k1, ⟨d', k2, k3, k4⟩, k5, k6, k7, k8, k9, k10⟩ := storeFrom (P := P) (o := e.off + a.off + len * ti.size) ys 0 w d ho (by omega) (fun y hy => by
                      obtain ⟨i, hi⟩ := List.getElem?_of_mem hy
                      have hi' : i < new.length := by have := (List.getElem?_eq_some_iff.1 hi).1; have := g2.length; omega
                      have hx := (VRL_iff.1 g2).2 i new[i] y (List.getElem?_eq_getElem hi') hi
                      rw [← hx.oneCell]
                      rw [List.all_eq_true] at hon
                      exact hon _ (List.getElem_mem hi'))
                    have holdl : old.length = len * ti.size := by
                      obtain ⟨_, _, _, f3⟩ := aFirst_sound (P := P) hr hold (VR.slice a e len cap c' he hc hsz hl); exact f3
                    have holdc : ∀ (i : Nat) v, old[i]? = some v → c[a.off + i]? = some v := fun i v hi => by
                      unfold aFirst at hold
                      simp only at hold
                      split at hold
                      · obtain rfl := Option.some.inj hold; simp at hi
                      · simp only [Nat.lt_irrefl, if_false, AHeap.load, hg] at hold
                        split at hold
                        · obtain rfl := Option.some.inj hold
                          have hil := (List.getElem?_eq_some_iff.1 hi).1
                          rw [List.getElem?_take, List.getElem?_drop] at hi
                          split at hi
                          · exact hi
                          · cases hi
                        · cases hold
                    refine ⟨.slice (some ⟨e.blk, e.off + a.off, a.spot⟩) (len + n) c', w', _, ?_, ?_, Step.move (e' := ⟨e.blk, e.off + a.off, e.cap - a.off, ti.size⟩) (o' := .cells d' el' (0, 0)) hr he hg rfl rfl k2
                      ⟨⟨rfl, fun hz => absurd hz h0⟩, rfl, rfl, by simp only; omega, by simp only [List.length_append, holdl, g3]; omega, fun i v hi => ?_⟩ k5 k6 k7 k8 k9 k10⟩
                    · rw [append_room ht h1 hu hu1 hti g1 hrm]
                      have hadd : ((⟨e.blk, e.off + a.off, a.spot⟩ : Addr).add (len * ti.size)) = ⟨e.blk, e.off + a.off + len * ti.size, none⟩ := by
                        unfold Addr.add; split <;> simp_all
                      simp only [hadd, k1, Result.andThen_ok]
                    · rw [hsp]
                      have := VR.slice (ρ := fun γ => if γ = h.next then some ⟨e.blk, e.off + a.off, e.cap - a.off, ti.size⟩ else ρ γ) ⟨h.next, 0, none⟩ ⟨e.blk, e.off + a.off, e.cap - a.off, ti.size⟩ (len + n) (big + (len + n)) c' (by simp) (by rw [if_neg (by omega)]; omega)
                        (fun _ => by simp only; omega) hrm
                      simpa using this
                    · by_cases hil : i < old.length
                      · rw [List.getElem?_append_left hil] at hi
                        obtain ⟨x, hx, hvx'⟩ := q6 (a.off + i) v (holdc i v hi)
                        refine ⟨x, ?_, hvx'⟩
                        rw [k4, if_neg (by simp only; omega)]
                        show d[e.off + a.off + i]? = some x
                        rw [Nat.add_assoc]; exact hx
                      · rw [List.getElem?_append_right (by omega)] at hi
                        obtain ⟨y, hy, hvy⟩ := g2.get hi
                        have hyi := (List.getElem?_eq_some_iff.1 hy).1
                        refine ⟨y, ?_, hvy⟩
                        rw [k4, if_pos (by simp only; omega)]
                        simp only
                        rw [show e.off + a.off + i - (e.off + a.off + len * ti.size + 0) = i - old.length by omega]; exact hy
                · exact grow (hh := h.del a.block) (ww := w) stdel.hr stdel rfl hrm hold
              · cases hs
            · cases hs
    · cases hs
  · cases hs
/-- append(nil, make([]T, l)...): so many zeros. -/
def aAppendZ (P : Program) (h : AHeap) (t : TypeId) (s x : Value) : Option (Value × AHeap) :=
  match s, x, P.underlying t with
  | .slice none 0 0, .int .i64 l, some (.slice e) => match P.info? e, aZero P e with
    | some ti, some zs =>
      if ti.size = 0 ∨ ¬ (0 < l ∧ l < 2 ^ 62) ∨ l.toNat * ti.bytes > 2 ^ 47 then none
      else some (.slice (some ⟨h.next, 0, none⟩) l.toNat (big + l.toNat), h.push (.cells false ti.size (aZeros zs l.toNat) e))
    | _, _ => none
  | _, _, _ => none
theorem aAppendZ_sound {ρ : Emb} {h h' : AHeap} {w : World} (hr : HR ρ h w) {t u ty : TypeId} {k : IntKind} {ts : Array TypeId} (ht : ts[0]? = some t) (h1 : ts[1]? = some u) (hu1 : P.underlying u = some (.int k)) {s s' x x' v : Value}
    (hs : aAppendZ P h t s x = some (v, h')) (hvs : VR ρ s s') (hvx : VR ρ x x') : OK P ρ h w (Builtin.append_ ts ty #[s', x']) v h' := by
  unfold aAppendZ at hs
  split at hs
  · rename_i l el hu
    split at hs
    · rename_i ti zs hti hz
      obtain ⟨i', z, hi', hzz, rfl, hlen, hpl, hone⟩ := aZero_spec hz
      rw [hti] at hi'; obtain rfl := Option.some.inj hi'
      have hzs : z.cells.size = ti.size := by simpa using hlen
      split at hs
      · cases hs
      rename_i hc
      simp only [not_or, Decidable.not_not, Nat.not_lt] at hc
      obtain ⟨h0, ⟨hl0, hlm⟩, hby⟩ := hc
      simp only [Option.some.injEq, Prod.mk.injEq] at hs
      obtain ⟨rfl, rfl⟩ := hs
      cases hvs
      obtain rfl := hvx.int_inv
      obtain ⟨n, rfl⟩ : ∃ n : Nat, l = (n : Int) := ⟨l.toNat, by omega⟩
      simp only [Int.toNat_natCast] at hby ⊢
      have hwl : IntKind.i64.wrap (n : Int) = (n : Int) := wrap_small rfl (by omega) hlm
      have e62 : (2 : Int) ^ 62 = 4611686018427387904 := by decide
      have e47 : (2 : Nat) ^ 47 = 140737488355328 := by decide
      have e48 : (2 : Nat) ^ 48 = 281474976710656 := by decide
      rw [e62] at hlm
      rw [e47] at hby
      have hn0 : 0 < n := by omega
      have hsn : ¬ n * ti.size = 0 := fun e => (Nat.mul_eq_zero.1 e).elim (by omega) h0
      have hroom : ¬ 0 + n ≤ 0 := by omega
      have hb2 : ¬ Builtin.nextslicecap (0 + n) 0 * ti.bytes > 2 ^ 48 := by
        have := growslice_fits (need := 0 + n) (old := 0) (bytes := ti.bytes) (by omega) (by rw [Nat.zero_add]; exact hby)
        omega
      have hbig : ¬ (((0 + n : Nat) : Int) > IntKind.i64.max) := by
        have e : IntKind.i64.max = 9223372036854775807 := by decide
        rw [e]; omega
      have hlb : ¬ ((n : Int) * (ti.bytes : Int) > 2 ^ 48) := by
        have : ((n * ti.bytes : Nat) : Int) ≤ 140737488355328 := by omega
        have e : (2 : Int) ^ 48 = 281474976710656 := by decide
        rw [Int.natCast_mul] at this
        omega
      have hneg : ¬ ((n : Int) < 0) := by omega
      have hf0 : (Builtin.firstCells ti.size 0 (.slice none 0 0)).run P w.drew = .ok #[] w.drew := by simp [Builtin.firstCells]
      obtain ⟨N, hN, hrun⟩ : ∃ N, n ≤ N ∧ (Builtin.append_ ts ty #[.slice none 0 0, .int .i64 (n : Int)]).run P w =
          .ok (.slice (some ⟨w.heap.size, 0, none⟩) n N) (w.drew.alloc (.cells (#[] ++ Builtin.zeroCells z.cells n ++ Builtin.zeroCells z.cells (N - n)) el)) := by
        refine ⟨(Question.appendCap (0 + n) 0 el).cut (w.tape w.drawn (.appendCap (0 + n) 0 el)), by simp [Question.cut], ?_⟩
        simp only [Builtin.append_, ht, h1, List.getElem?_toArray, List.getElem?_cons_zero, List.getElem?_cons_succ, Sem.run_bind, r_und hu, r_und hu1, Result.andThen_ok, r_size hti, Sem.run_pure, asInt, asIntOf, hwl, hneg,
          r_info hti, hlb, if_true, if_false, Int.toNat_natCast, hroom, hbig, hb2, false_and, run_choose, Question.forced, run_askRoom, World.drew_eq, hsn]
        simp only [Bool.false_eq_true, if_false, Result.andThen_ok]
        rw [hf0]
        simp only [Result.andThen_ok, Bool.not_true, Bool.false_eq_true, if_false, Sem.run_bind, r_zero hti hzz, Sem.run_pure, run_newRow, Nat.zero_add]
        rfl
      have hv : VRL ρ (aZeros z.cells.toList n) (Builtin.zeroCells z.cells n).toList := by
        rw [zeroCells_toList]; exact list_plain (all_zeros hpl _)
      obtain ⟨ρ', st, hρ⟩ := push_more (w := w.drew) hr.drew hv (#[] ++ Builtin.zeroCells z.cells n ++ Builtin.zeroCells z.cells (N - n)) ⟨(Builtin.zeroCells z.cells (N - n)).toList, by simp⟩ ti.size el
      have hsz : (#[] ++ Builtin.zeroCells z.cells n ++ Builtin.zeroCells z.cells (N - n)).size = N * ti.size := by
        have k2 : (Builtin.zeroCells z.cells n).size = n * ti.size := by rw [← Array.length_toList, zeroCells_toList, aZeros_length]; simp [hzs]
        have k3 : (Builtin.zeroCells z.cells (N - n)).size = (N - n) * ti.size := by rw [← Array.length_toList, zeroCells_toList, aZeros_length]; simp [hzs]
        simp only [Array.size_append, k2, k3, List.size_toArray, List.length_nil, Nat.zero_add]
        rw [← Nat.add_mul]; congr 1; omega
      refine ⟨_, _, ρ', hrun, ?_, (Step.drew hr).trans st⟩
      have := VR.slice (ρ := ρ') ⟨h.next, 0, none⟩ _ n (big + n) N hρ (by rw [if_neg (by omega)]; omega) (fun _ => by show 0 + N * ti.size ≤ (#[] ++ Builtin.zeroCells z.cells n ++ Builtin.zeroCells z.cells (N - n)).size; rw [hsz]; omega) hN
      simpa using this
    · cases hs
  · cases hs
end
end Go.Ox
