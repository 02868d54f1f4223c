/-
  Sorted keys of a map of numbers: a summary for the abstract run. CONDITIONS: none.
-/
import Derived.Test.YtfcajloeknedeaaGreatOxCm
import Derived.Test.YtfcajloeknedeaaGreatOxGp
set_option linter.unusedSimpArgs false
set_option linter.unusedVariables false
namespace Go.Ox
open Go.RowKit Go.Sort Go.Maps Go.WideElems Go.WideShapes

theorem cmpI_neg (a b : Int) : cmpI a b < 0 ↔ a < b := by unfold cmpI; split <;> (try split) <;> omega
theorem cmpI_zero (a b : Int) : cmpI a b = 0 ↔ a = b := by unfold cmpI; split <;> (try split) <;> omega
theorem gkCmp_neg (g a b : Int) : gkCmp g a b < 0 ↔ grp a g < grp b g ∨ (grp a g = grp b g ∧ a < b) := by
  unfold gkCmp
  have h1 := cmpI_neg (grp a g) (grp b g)
  have h2 := cmpI_zero (grp a g) (grp b g)
  have h3 := cmpI_neg a b
  split <;> omega
def keyLe (g : Int) (x y : Int) : Bool := !decide (gkCmp g y x < 0)
theorem keyLe_iff (g x y : Int) : keyLe g x y = true ↔ grp x g < grp y g ∨ (grp x g = grp y g ∧ x ≤ y) := by
  have := gkCmp_neg g y x
  unfold keyLe
  by_cases h : gkCmp g y x < 0
  · rw [decide_eq_true h]; simp; omega
  · rw [decide_eq_false h]; simp; omega
theorem keyLe_trans (g : Int) (a b c : Int) (h1 : keyLe g a b = true) (h2 : keyLe g b c = true) : keyLe g a c = true := by
  rw [keyLe_iff] at *; omega
theorem keyLe_total (g : Int) (a b : Int) : (keyLe g a b || keyLe g b a) = true := by
  have h1 := keyLe_iff g a b
  have h2 := keyLe_iff g b a
  rw [Bool.or_eq_true, h1, h2]; omega
theorem keyLe_anti (g : Int) {a b : Int} (h1 : keyLe g a b = true) (h2 : keyLe g b a = true) : a = b := by
  rw [keyLe_iff] at *; omega
def keyIns (g : Int) (x : Int) : List Int → List Int
  | [] => [x]
  | y :: l => if keyLe g x y = true then x :: y :: l else y :: keyIns g x l
/-- Keys by groups, and keys. -/
def keySort (g : Int) : List Int → List Int
  | [] => []
  | x :: l => keyIns g x (keySort g l)
theorem keyIns_perm (g x : Int) : ∀ l : List Int, (keyIns g x l).Perm (x :: l)
  | [] => .refl _
  | y :: l => by
    unfold keyIns
    split
    · exact .refl _
    · exact ((keyIns_perm g x l).cons y).trans (.swap x y l)
theorem keySort_perm (g : Int) : ∀ L : List Int, (keySort g L).Perm L
  | [] => .refl _
  | x :: l => (keyIns_perm g x _).trans ((keySort_perm g l).cons x)
theorem keyIns_sorted (g x : Int) : ∀ {l : List Int}, l.Pairwise (fun x y => keyLe g x y = true) → (keyIns g x l).Pairwise (fun x y => keyLe g x y = true)
  | [], _ => by simp [keyIns]
  | y :: l, h => by
    rw [List.pairwise_cons] at h
    unfold keyIns
    split
    · rename_i hx
      rw [List.pairwise_cons, List.pairwise_cons]
      exact ⟨fun z hz => (List.mem_cons.1 hz).elim (fun e => by rw [e]; exact hx) (fun hz => keyLe_trans g x y z hx (h.1 z hz)), h⟩
    · rename_i hx
      rw [List.pairwise_cons]
      refine ⟨fun z hz => ?_, keyIns_sorted g x h.2⟩
      rcases List.mem_cons.1 ((keyIns_perm g x l).mem_iff.1 hz) with rfl | hz
      · have := keyLe_total g z y
        rw [Bool.or_eq_true] at this
        exact this.resolve_left hx
      · exact h.1 z hz
theorem keySort_sorted (g : Int) : ∀ L : List Int, (keySort g L).Pairwise (fun x y => keyLe g x y = true)
  | [] => .nil
  | x :: l => keyIns_sorted g x (keySort_sorted g l)
theorem keySort_merge (g : Int) (L : List Int) : L.mergeSort (keyLe g) = keySort g L :=
  List.Perm.eq_of_pairwise (fun _ _ _ _ h1 h2 => keyLe_anti g h1 h2) (List.pairwise_mergeSort (keyLe_trans g) (keyLe_total g) L) (keySort_sorted g L) ((List.mergeSort_perm L _).trans (keySort_perm g L).symm)
theorem keySort_congr (g : Int) {L M : List Int} (h : L.Perm M) : keySort g L = keySort g M :=
  List.Perm.eq_of_pairwise (fun _ _ _ _ h1 h2 => keyLe_anti g h1 h2) (keySort_sorted g L) (keySort_sorted g M) ((keySort_perm g L).trans (h.trans (keySort_perm g M).symm))

def keyInts : List (Value × Value) → Option (List Int)
  | [] => some []
  | (.int .i64 n, _) :: es => (keyInts es).map (n :: ·)
  | _ => none
theorem keyInts_map : ∀ {es : List (Value × Value)} {L : List Int}, keyInts es = some L → es.map (·.1) = L.map (Value.int .i64)
  | [], L, h => by simp only [keyInts, Option.some.injEq] at h; subst h; rfl
  | (k, v) :: es, L, h => by
    cases k with
    | int kk n =>
      cases kk <;> simp only [keyInts, Option.map_eq_some_iff, reduceCtorEq] at h
      obtain ⟨M, h1, rfl⟩ := h
      simp only [List.map_cons, keyInts_map h1]
    | _ => simp [keyInts] at h
theorem keyInts_of : ∀ {es : List (Value × Value)} {L : List Int}, es.map (·.1) = L.map (Value.int .i64) → keyInts es = some L
  | [], [], _ => rfl
  | [], _ :: _, h => by cases h
  | _ :: _, [], h => by cases h
  | (k, v) :: es, n :: L, h => by
    simp only [List.map_cons, List.cons.injEq] at h
    obtain ⟨rfl, h2⟩ := h
    simp only [keyInts, keyInts_of h2, Option.map_some]
def keysGood (L : List Int) : Prop := L.Nodup ∧ L.length ≤ 17592186044416 ∧ ∀ x ∈ L, (Lit.int .i64 x).wf = true
instance (L : List Int) : Decidable (keysGood L) := by unfold keysGood; infer_instance

def fnArgs : Value → Option (FuncId × List Value × List Value)
  | .func (.func f) a b => some (f, a.toList, b.toList)
  | _ => none
theorem fnArgs_some {v : Value} {f : FuncId} {a b : List Value} (h : fnArgs v = some (f, a, b)) : v = .func (.func f) a.toArray b.toArray := by
  unfold fnArgs at h
  split at h
  · simp only [Option.some.injEq, Prod.mk.injEq] at h
    obtain ⟨rfl, rfl, rfl⟩ := h
    simp
  · cases h
/-- The numbers of the functions, and of the elements' type. -/
structure SkNo where
  s : FuncId
  k : FuncId
  c : FuncId
  f : FuncId
  T : TypeId
def skOut (T : TypeId) (g : Int) (L : List Int) (h : AHeap) : Value × AHeap :=
  if L = [] then (.slice none 0 0, h) else (.slice (some ⟨h.next, 0, none⟩) L.length (big + L.length), h.push (.cells false 1 ((keySort g L).map (Value.int .i64)) T))
def skRun (N : SkNo) (bm b7 : Nat) (h : AHeap) : Option (Value × AHeap) :=
  match h.get bm, h.get b7 with
  | some (.cells false 0 [.map (some r)] _), some (.cells _ _ [v] _) => match fnArgs v, h.get r with
    | some (f, [], [.pointer (some ⟨b3, 0, none⟩)]), some (.map es) => match h.get b3 with
      | some (.cells _ _ [.pointer (some ⟨bt, 0, none⟩)] _) => match h.get bt, keyInts es with
        | some (.cells _ _ [.int .i64 g, m] _), some L => if f = N.f ∧ keysGood L ∧ m.oneCell' = true then some (skOut N.T g L h) else none
        | _, _ => none
      | _ => none
    | _, _ => none
  | _, _ => none
def skApp (N : SkNo) (f : FuncId) (args : List Value) (h : AHeap) : Option (Value × AHeap) :=
  match args.map fnArgs with
  | [some (k, [], [.pointer (some ⟨bm, 0, none⟩)]), some (c, [], [.pointer (some ⟨b7, 0, none⟩)])] => if f = N.s ∧ k = N.k ∧ c = N.c then skRun N bm b7 h else none
  | _ => none

theorem skRun_inv {N : SkNo} {bm b7 : Nat} {h h' : AHeap} {v : Value} (hs : skRun N bm b7 h = some (v, h')) : ∃ (r b3 bt : Nat) (es : List (Value × Value)) (L : List Int) (g : Int) (m : Value) (Tm : TypeId) (r7 r3 rt : Bool) (s7 s3 st : Nat) (T7 T3 Tt : TypeId),
    h.get bm = some (.cells false 0 [.map (some r)] Tm) ∧ h.get r = some (.map es) ∧ keyInts es = some L ∧ keysGood L ∧ h.get b7 = some (.cells r7 s7 [.func (.func N.f) #[] #[.pointer (some ⟨b3, 0, none⟩)]] T7) ∧
    h.get b3 = some (.cells r3 s3 [.pointer (some ⟨bt, 0, none⟩)] T3) ∧ h.get bt = some (.cells rt st [.int .i64 g, m] Tt) ∧ m.oneCell' = true ∧ (v, h') = skOut N.T g L h := by
  unfold skRun at hs
  split at hs
  case h_2 => cases hs
  rename_i r Tm r7 s7 v7 T7 h1 h2
  split at hs
  case h_2 => cases hs
  rename_i f b3 es h3 h4
  split at hs
  case h_2 => cases hs
  rename_i r3 s3 bt T3 h5
  split at hs
  case h_2 => cases hs
  rename_i rt st g m Tt L h6 h7
  split at hs
  case isFalse => cases hs
  rename_i hc
  obtain ⟨rfl, hg, hm⟩ := hc
  have := fnArgs_some h3
  subst this
  exact ⟨r, b3, bt, es, L, g, m, Tm, r7, r3, rt, s7, s3, st, T7, T3, Tt, h1, h4, h7, hg, h2, h5, h6, hm, (Option.some.inj hs).symm⟩
theorem skApp_inv {N : SkNo} {f : FuncId} {args : List Value} {h h' : AHeap} {v : Value} (hs : skApp N f args h = some (v, h')) : f = N.s ∧ ∃ bm b7, args = [.func (.func N.k) #[] #[.pointer (some ⟨bm, 0, none⟩)], .func (.func N.c) #[] #[.pointer (some ⟨b7, 0, none⟩)]] ∧ skRun N bm b7 h = some (v, h') := by
  unfold skApp at hs
  split at hs
  case h_2 => cases hs
  rename_i k bm c b7 ha
  split at hs
  case isFalse => cases hs
  rename_i hc
  obtain ⟨rfl, rfl, rfl⟩ := hc
  have hl : args.length = 2 := by have := congrArg List.length ha; simpa using this
  obtain ⟨x, y, rfl⟩ : ∃ x y, args = [x, y] := by
    match args, hl with
    | [x, y], _ => exact ⟨x, y, rfl⟩
  simp only [List.map_cons, List.map_nil, List.cons.injEq, and_true] at ha
  rw [fnArgs_some ha.1, fnArgs_some ha.2]
  exact ⟨rfl, bm, b7, rfl, hs⟩
theorem skApp_some {N : SkNo} {h : AHeap} {r b3 bt bm b7 : Nat} {es : List (Value × Value)} {L : List Int} {g : Int} {m : Value} {Tm : TypeId} {r7 r3 rt : Bool} {s7 s3 st : Nat} {T7 T3 Tt : TypeId}
    (h1 : h.get bm = some (.cells false 0 [.map (some r)] Tm)) (h2 : h.get r = some (.map es)) (h3 : es.map (·.1) = L.map (Value.int .i64)) (h4 : keysGood L) (h5 : h.get b7 = some (.cells r7 s7 [.func (.func N.f) #[] #[.pointer (some ⟨b3, 0, none⟩)]] T7))
    (h6 : h.get b3 = some (.cells r3 s3 [.pointer (some ⟨bt, 0, none⟩)] T3)) (h7 : h.get bt = some (.cells rt st [.int .i64 g, m] Tt)) (h8 : m.oneCell' = true) :
    skApp N N.s [.func (.func N.k) #[] #[.pointer (some ⟨bm, 0, none⟩)], .func (.func N.c) #[] #[.pointer (some ⟨b7, 0, none⟩)]] h = some (skOut N.T g L h) := by
  have e : skRun N bm b7 h = some (skOut N.T g L h) := by
    simp only [skRun, h1, h5, fnArgs, h2, h6, h7, keyInts_of h3, h4, h8, and_self, if_true]
  simp only [skApp, List.map_cons, List.map_nil, fnArgs, e, and_self, if_true]
theorem skOut_next (T : TypeId) (g : Int) (L : List Int) (h : AHeap) : h.next ≤ (skOut T g L h).2.next := by
  unfold skOut; split <;> simp

/-- What the machine's run of that function is known to do. -/
def SkSays (P : Program) (N : SkNo) : Prop := ∀ (w : World) (Bm b nn b7 o7 b3 o3 bt ot : Nat) (g : Int) (D : DataW Unit), OrdW w N.f g b7 o7 b3 o3 bt ot → Bm < w.heap.size → w.cell? ⟨Bm, 0, none⟩ = some (.map (some b)) →
  w.ownsMap P N.T (fun _ => some ((.nil : DataW Unit), [])) b nn D → Maps.size D ≤ 17592186044416 →
  Calls P N.s #[.func (.func N.k) #[] #[.pointer (some ⟨Bm, 0, none⟩)], .func (.func N.c) #[] #[.pointer (some ⟨b7, o7, none⟩)]] w fun e w' => ∃ (v : Value) (ss : List Int), e = .returned v ∧ ss.Perm (intKeys D) ∧
    w'.ownsRow w.heap.size N.T 1 v ss.length ((keySort g ss).map (Value.int .i64)) ∧ (v = .slice none 0 0 ↔ ss = []) ∧ RowKit.Below w.heap.size w w'

theorem skApp_ok {P : Program} {N : SkNo} (hb : hasBody P N.s = true) (hT : P.underlying N.T = some (.int .i64)) (hc : SkSays P N) (f : FuncId) (args : List Value) (h : AHeap) (v : Value) (h' : AHeap) (hs : skApp N f args h = some (v, h')) :
    hasBody P f = true ∧ ∀ (ρ : Emb) (ws : Array Value) (w : World), VRL ρ args ws.toList → HR ρ h w → Calls P f ws w (CallR False ρ h w v h') := by
  obtain ⟨rfl, bm, b7, rfl, hr⟩ := skApp_inv hs
  refine ⟨hb, fun ρ ws w hv hh => ?_⟩
  obtain ⟨r, b3, bt, es, L, g, m, Tm, r7, r3, rt, s7, s3, st, T7, T3, Tt, h1, h2, h3, h4, h5, h6, h7, h8, h9⟩ := skRun_inv hr
  -- the two values
  have hfun : ∀ {k : FuncId} {b : Nat} {x : Value}, VR ρ (.func (.func k) #[] #[.pointer (some ⟨b, 0, none⟩)]) x → ∃ e, ρ b = some e ∧ x = .func (.func k) #[] #[.pointer (some ⟨e.blk, e.off, none⟩)] := by
    intro k b x hx
    generalize hq : Value.func (.func k) #[] #[.pointer (some ⟨b, 0, none⟩)] = q at hx
    cases hx <;> try (cases hq; done)
    rename_i fn xs ys us vs _ hl1 hx1 hl2 hx2
    simp only [Value.func.injEq] at hq
    obtain ⟨rfl, e1, e2⟩ := hq
    have e1' : xs = [] := by simpa using congrArg Array.toList e1.symm
    have e2' : us = [.pointer (some ⟨b, 0, none⟩)] := by simpa using congrArg Array.toList e2.symm
    subst e1' e2'
    have : ys = [] := List.length_eq_zero_iff.1 (by simpa using hl1.symm)
    subst this
    match vs, hl2 with
    | [y], _ =>
      obtain ⟨e, he, rfl⟩ := (hx2 0 _ y rfl rfl).ptr_inv
      exact ⟨e, he, by simp⟩
  obtain ⟨ws⟩ := ws
  have hl : ws.length = 2 := by have := hv.length; simpa using this.symm
  obtain ⟨x, y, rfl⟩ : ∃ x y, ws = [x, y] := by
    match ws, hl with
    | [x, y], _ => exact ⟨x, y, rfl⟩
  · obtain ⟨em, hem, rfl⟩ := hfun hv.1
    obtain ⟨e7, he7, rfl⟩ := hfun hv.2.1
    -- the box of the map
    obtain ⟨om, ho1, ho2⟩ := hh.blk _ _ _ hem h1
    cases om <;> first | exact ho2.elim | skip
    rename_i dm Tm' fm
    obtain ⟨⟨q1, q2⟩, rfl, rfl, q5, q6, q7⟩ := ho2
    have hoff : em.off = 0 := q2 rfl
    obtain ⟨xm, q8, q9⟩ := q7 0 _ rfl
    have hxm : ∃ er, ρ r = some er ∧ xm = .map (some er.blk) := by cases q9; exact ⟨_, by assumption, rfl⟩
    obtain ⟨er, her, rfl⟩ := hxm
    rw [hoff] at q8 ⊢
    have hcell : w.cell? ⟨em.blk, 0, none⟩ = some (.map (some er.blk)) := by simp [World.cell?, ho1]; simpa using q8
    -- what the order captures
    have blk : ∀ {β : Nat} {e : Ent} {ro : Bool} {s : Nat} {C : List Value} {T : TypeId}, ρ β = some e → h.get β = some (.cells ro s C T) → ∃ d T' fz, w.heap[e.blk]? = some (.cells d T' fz) ∧ ∀ i v, C[i]? = some v → ∃ x, d[e.off + i]? = some x ∧ VR ρ v x := by
      intro β e ro s C T k1 k2
      obtain ⟨o, p1, p2⟩ := hh.blk _ _ _ k1 k2
      cases o <;> cases ro <;> first | exact p2.elim | skip
      · exact ⟨_, _, _, p1, p2.2.2.2.2.2⟩
      · exact ⟨_, _, _, p1, p2.2.2⟩
    obtain ⟨d7, _, _, k7, v7⟩ := blk he7 h5
    obtain ⟨x7, k7', y7⟩ := v7 0 _ rfl
    obtain ⟨e3, he3, rfl⟩ := hfun y7
    obtain ⟨d3, _, _, k3, v3⟩ := blk he3 h6
    obtain ⟨x3, k3', y3⟩ := v3 0 _ rfl
    obtain ⟨et, het, rfl⟩ := y3.ptr_inv
    obtain ⟨dt, _, _, kt, vt⟩ := blk het h7
    obtain ⟨xt, kt', yt⟩ := vt 0 _ rfl
    obtain ⟨xu, ku', yu⟩ := vt 1 _ rfl
    rw [yt.int_inv] at kt'
    have ow : OrdW w N.f g e7.blk e7.off e3.blk e3.off et.blk et.off :=
      ⟨⟨_, _, _, k7, by simpa using k7'⟩, ⟨_, _, _, k3, by simpa using k3'⟩, ⟨_, _, _, xu, kt, by simpa using kt', ku', by rw [← yu.oneCell]; exact h8⟩⟩
    have hes := keyInts_map h3
    obtain ⟨hnd, hlen, hwf⟩ := h4
    obtain ⟨D, hD1, hD2, hD3⟩ := owns_ints (P := P) hh h2 her L hes hwf hnd (by have : (17592186044416 : Nat) ≤ maxLen := by decide
                                                                                omega) hT
    have hlt := hh.old _ _ hem
    refine (hc w em.blk er.blk L.length e7.blk e7.off e3.blk e3.off et.blk et.off g D ow hlt hcell hD1 (by omega)).mono ?_
    rintro e w' ⟨v', ss, rfl, hp, hrow, hnil, bl⟩
    have hsL : ss.Perm L := hp.trans hD2
    have hks := keySort_congr g hsL
    have hv' : v = (skOut N.T g L h).1 := congrArg Prod.fst h9
    have hh' : h' = (skOut N.T g L h).2 := congrArg Prod.snd h9
    by_cases hL : L = []
    · subst hL
      have hss : ss = [] := List.Perm.eq_nil hsL
      rw [hnil.2 hss]
      rw [hv', hh']
      refine ⟨_, ρ, rfl, ?_, Step.of_below hh bl fun d => d.elim⟩
      unfold skOut; rw [if_pos rfl]; exact .sliceNil 0 0
    · have hlk : (keySort g L).length = L.length := (keySort_perm g L).length_eq
      have hrow' : w'.ownsRow w.heap.size N.T 1 v' (keySort g L).length ((keySort g L).map (Value.int .i64)) := by rw [hks, hsL.length_eq, ← hlk] at hrow; exact hrow
      have hne : keySort g L ≠ [] := fun e => hL (List.length_eq_zero_iff.1 (by rw [← hlk, e]; rfl))
      obtain ⟨ρ', st, hvr⟩ := adopt_row (D := False) hh bl (fun d => d.elim) (keySort g L) hrow' hne
      rw [hlk] at hvr
      rw [hv', hh']
      refine ⟨v', ρ', rfl, ?_, ?_⟩
      · unfold skOut; rw [if_neg hL]; exact hvr
      · unfold skOut; rw [if_neg hL]; exact st
end Go.Ox
