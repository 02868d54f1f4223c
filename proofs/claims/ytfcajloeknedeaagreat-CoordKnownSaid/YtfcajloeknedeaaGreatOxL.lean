/-
 REGIONS THAT DRAW THEIR ORDER, part 4: the computation is sound.
-/
import Derived.Test.YtfcajloeknedeaaGreatOxK
set_option linter.unusedSimpArgs false
set_option linter.unusedVariables false
namespace Go.Ox
variable {D : Prop}
section
variable {P : Program}

theorem aReq_quiet {T : List Value} {o : Oper} (h : isChainOp o.op = false) : aReq P T o = none := by
 obtain ⟨dst, op, ty, pos, after, guard⟩ := o
 cases op with
 | call c =>
  obtain ⟨callee, args, ts⟩ := c
  cases callee with
  | builtin b => rfl
  | _ => simp [isChainOp] at h
 | _ => rfl

theorem isAlloc_spec {op : Op} (h : isAllocOp op = true) (P : Program) (T : List Value) (hh : AHeap) (dst : Option Tmp) (ty : TypeId) (pos : String) (after : Array Edge) (g : Option (Nat × Bool)) :
  aOp P T hh ⟨dst, op, ty, pos, after, g⟩ = match aAlloc P T op with
   | some (b, mk) => some (mk hh.next, hh.push b)
   | none => none := by
 cases op <;> first | rfl | simp [isAllocOp] at h

/-- A quiet operation leaves the heap alone. -/
theorem quiet_same {T : List Value} {h h' : AHeap} {o : Oper} {v : Value} (hc : isChainOp o.op = false) (hal : isAllocOp o.op = false) (hs : aOp P T h o = some (v, h')) : h' = h := by
 obtain ⟨dst, op, ty, pos, after, guard⟩ := o
 cases op
 case call c =>
  obtain ⟨callee, args, ts⟩ := c
  cases callee with
  | builtin b =>
   simp only [aOp] at hs
   split at hs
   ·rename_i vs _
    cases b <;> first | (simp [isChainOp] at hc; done) | skip
    all_goals
     unfold aBuiltin at hs
     (repeat' split at hs) <;> first | (cases hs; done) | (simp only [Option.some.injEq, Prod.mk.injEq] at hs; exact hs.2.symm) | (simp_all; done)
   ·cases hs
  | _ => simp [isChainOp] at hc
 case makeFunc fn xs us =>
  cases fn <;> simp only [aOp] at hs <;> first | (cases hs; done) | skip
  split at hs <;> first | (cases hs; done) | (simp only [Option.some.injEq, Prod.mk.injEq] at hs; exact hs.2.symm)
 all_goals first | (simp [isAllocOp] at hal; done) | (simp [isChainOp] at hc; done) | skip
 all_goals simp only [aOp] at hs
 all_goals (repeat' split at hs)
 all_goals first | (cases hs; done) | exact (still_some hs).2 | (simp only [Option.some.injEq, Prod.mk.injEq] at hs; exact hs.2.symm)

/-- .. and one that reads no memory does not hang on it. -/
theorem quiet_indep {T : List Value} {h h' : AHeap} {o : Oper} {v : Value} (hc : isChainOp o.op = false) (hal : isAllocOp o.op = false) (hrd : readsHeap o.op = false) (hs : aOp P T h o = some (v, h')) (h2 : AHeap) : aOp P T h2 o = some (v, h2) := by
 obtain ⟨dst, op, ty, pos, after, guard⟩ := o
 have st : ∀ {x : Option Value}, still h x = some (v, h') → still h2 x = some (v, h2) := fun {x} k => by
  rw [(still_some k).1]; rfl
 cases op
 case makeFunc fn xs us =>
  cases fn <;> simp only [aOp] at hs ⊢ <;> first | (cases hs; done) | skip
  split at hs <;> first | (cases hs; done) | (simp only [Option.some.injEq, Prod.mk.injEq] at hs; rw [hs.1])
 all_goals first | (simp [isAllocOp] at hal; done) | (simp [isChainOp] at hc; done) | (simp [readsHeap] at hrd; done) | skip
 all_goals simp only [aOp] at hs ⊢
 all_goals first
  | (cases hs; done)
  | exact st hs
  | (split at hs <;> first | (cases hs; done) | exact st hs | (simp only [Option.some.injEq, Prod.mk.injEq] at hs; rw [hs.1]))

theorem later_get {ops : Array Oper} : ∀ (is : List Nat) (rs : List Rec) (j : Nat) (x : Nat × Bool × AHeap), (later ops is rs)[j]? = some x → ∃ i r, is[j]? = some i ∧ rs[j]? = some r ∧ x = (i, isChainOp (ops.getD i default).op, r.h)
 | [], _, j, x, h => by simp [later] at h
 | _ :: _, [], j, x, h => by simp [later] at h
 | i :: is, r :: rs, 0, x, h => by simp only [later, List.getElem?_cons_zero, Option.some.injEq] at h; exact ⟨i, r, rfl, rfl, h.symm⟩
 | i :: is, r :: rs, j + 1, x, h => by
  simp only [later, List.getElem?_cons_succ] at h
  obtain ⟨i', r', h1, h2, h3⟩ := later_get is rs j x h
  exact ⟨i', r', by simpa using h1, by simpa using h2, h3⟩

theorem later_length {ops : Array Oper} : ∀ (is : List Nat) (rs : List Rec), is.length = rs.length → (later ops is rs).length = is.length
 | [], [], _ => rfl
 | [], _ :: _, h => by simp at h
 | _ :: _, [], h => by simp at h
 | i :: is, r :: rs, h => by simp [later, later_length is rs (by simpa using h)]

theorem dynFrom_spec {cm : List Nat} {i : Nat} {T : List Value} {v : Value} {o : Oper} {hN : AHeap} : ∀ (L : List (Nat × Bool × AHeap)), dynFrom P cm i T v o hN L = true →
  ∀ p, p ≤ L.length → (p = L.length ∨ ∃ x, L[p]? = some x ∧ x.2.1 = true) → (∃ k x, k < p ∧ L[k]? = some x ∧ x.2.1 = true ∧ (cm.getD x.1 0).testBit i = true) ∨
   sameRead (aOp P T (match L[p]? with | some x => x.2.2 | none => hN) o) v = true
 | [], hd, p, hp, _ => by
  have : p = 0 := by simpa using hp
  subst this
  right; simpa [dynFrom] using hd
 | (k, ch, hk) :: L, hd, p, hp, hx => by
  simp only [dynFrom] at hd
  cases p with
  | zero =>
   rcases hx with hx | ⟨x, hx, hx2⟩
   ·simp at hx
   ·simp at hx; subst hx
    simp only at hx2; subst hx2
    simp only [if_true, Bool.and_eq_true] at hd
    right; simpa using hd.1
  | succ p =>
   have hp' : p ≤ L.length := by simpa using hp
   have hx' : p = L.length ∨ ∃ x, L[p]? = some x ∧ x.2.1 = true := by simpa using hx
   have rest : dynFrom P cm i T v o hN L = true → _ := fun hd' => dynFrom_spec L hd' p hp' hx'
   have up : ((∃ k x, k < p ∧ L[k]? = some x ∧ x.2.1 = true ∧ (cm.getD x.1 0).testBit i = true) ∨ sameRead (aOp P T (match L[p]? with | some x => x.2.2 | none => hN) o) v = true) →
     (∃ k' x, k' < p + 1 ∧ ((k, ch, hk) :: L)[k']? = some x ∧ x.2.1 = true ∧ (cm.getD x.1 0).testBit i = true) ∨ sameRead (aOp P T (match ((k, ch, hk) :: L)[p + 1]? with | some x => x.2.2 | none => hN) o) v = true := by
    rintro (⟨k', x, h1, h2, h3⟩ | h1)
    ·exact .inl ⟨k' + 1, x, by omega, by simpa using h2, h3⟩
    ·right; simpa using h1
   split at hd
   ·rename_i hch
    simp only [Bool.and_eq_true, Bool.or_eq_true] at hd
    rcases hd.2 with hd2 | hd2
    ·exact .inl ⟨0, (k, ch, hk), by omega, rfl, hch, hd2⟩
    ·exact up (rest hd2)
   ·exact up (rest hd)

theorem dynOK_spec {ops : Array Oper} {cm : List Nat} {hN : AHeap} : ∀ (is : List Nat) (rs : List Rec), dynOK P ops cm hN is rs = true → ∀ q i r, is[q]? = some i → rs[q]? = some r → r.w = true → readsHeap (ops.getD i default).op = true → isChainOp (ops.getD i default).op = false →
  dynFrom P cm i r.T r.v (ops.getD i default) hN (later ops (is.drop (q + 1)) (rs.drop (q + 1))) = true
 | [], _, _, q, i, r, h, _ => by simp at h
 | _ :: _, [], _, q, i, r, _, h => by simp at h
 | i0 :: is, r0 :: rs, hd, 0, i, r, h1, h2 => by
  intro h3 h4 h5
  simp at h1 h2; subst h1 h2
  simp only [dynOK, Bool.and_eq_true, Bool.or_eq_true] at hd
  rcases hd.1 with h6 | h6
  ·rw [h3, h4, h5] at h6; simp at h6
  ·simpa using h6
 | i0 :: is, r0 :: rs, hd, q + 1, i, r, h1, h2 => by
  simp only [dynOK, Bool.and_eq_true] at hd
  simp only [List.getElem?_cons_succ] at h1 h2
  have := dynOK_spec is rs hd.2 q i r h1 h2
  simpa using this

theorem chain_notAlloc {op : Op} (h : isChainOp op = true) : isAllocOp op = false := by
 cases op <;> first | rfl | (simp [isChainOp] at h; done)

theorem nodup_inj {l : List Nat} (h : l.Nodup) {q q' : Nat} {x : Nat} (h1 : l[q]? = some x) (h2 : l[q']? = some x) : q = q' := by
 have h' : l.Pairwise (· ≠ ·) := h
 rw [List.pairwise_iff_getElem] at h'
 obtain ⟨k1, e1⟩ := List.getElem?_eq_some_iff.1 h1
 obtain ⟨k2, e2⟩ := List.getElem?_eq_some_iff.1 h2
 rcases Nat.lt_trichotomy q q' with hlt | heq | hgt
 ·exact absurd (e1.trans e2.symm) (h' q q' k1 k2 hlt)
 ·exact heq
 ·exact absurd (e2.trans e1.symm) (h' q' q k2 k1 hgt)

set_option maxHeartbeats 1000000 in
theorem aDraw_sound (hP : Named P) {call : CallFn} (hc : CallS D P call) (r : Option Nat) {sz : Nat} {ops : Array Oper} {T T' : List Value} {h h' : AHeap} (hs : aDraw P call sz ops T h = some (T', h'))
  {ρ : Emb} {a : Act} {w : World} {ds : List Deferred} (ha : AR ρ sz T a) (hd : a.defers = ds) (hr : HR ρ h w) {Q : Exit → Act → World → Prop}
  (hQ : ∀ ρ' a' w', AR ρ' sz T' a' → a'.defers = ds → Step D ρ ρ' h h' w w' → Q .normal a' w') : wpAnyIn (W r) 0 P .any ops Q ops.size (Array.replicate ops.size false) a w := by
 unfold aDraw at hs
 split at hs
 ·rename_i hst
  split at hs
  ·rename_i rs T2 h2 htr
   split at hs
   ·rename_i hdyn
    simp only [Option.some.injEq, Prod.mk.injEq] at hs
    obtain ⟨rfl, rfl⟩ := hs
    simp only [staticOK, Bool.and_eq_true, beq_iff_eq, List.all_eq_true, decide_eq_true_eq, List.mem_range, List.contains_eq_mem] at hst
    obtain ⟨⟨⟨⟨⟨s1, s2⟩, s3⟩, s4⟩, s5⟩, s6⟩ := hst
    generalize hl : canon ops = l at *
    obtain ⟨t1, t2, t3, t4⟩ := aTrace_spec _ _ _ _ _ _ htr
    have hcm := cms_spec (ops := ops) ops.toList [] 0 rfl (fun j => by simp) (fun j i hj => by omega)
    have hpw := pairsOK_spec s6
    have hnd := nodupB_spec s4
    have hback := backOK_spec (ops := ops) ops.toList 0 s5 (fun j => by simp)
    have hix : ∀ q, q < ops.size → l[q]? = some (l.getD q 0) := fun q hq => by
     rw [List.getD_eq_getElem?_getD, List.getElem?_eq_getElem (show q < l.length by omega)]; rfl
    have hixlt : ∀ q, q < ops.size → l.getD q 0 < ops.size := fun q hq => s2 _ (List.mem_of_getElem? (hix q hq))
    have hget : ∀ i, i < ops.size → ops[i]? = some (ops.getD i default) := fun i hi => by
     rw [Array.getD_eq_getD_getElem?, Array.getElem?_eq_getElem hi]; rfl
    have hpair : ∀ q q', q < q' → q' < ops.size → pairOK ops (cms ops.toList []) (l.getD q 0) (l.getD q' 0) = true := fun q q' h1 h2 => by
     rw [List.pairwise_iff_getElem] at hpw
     have := hpw q q' (by omega) (by omega) h1
     rw [List.getD_eq_getElem?_getD, List.getD_eq_getElem?_getD, List.getElem?_eq_getElem (show q < l.length by omega), List.getElem?_eq_getElem (show q' < l.length by omega)]
     exact this
    have hrec : ∀ q, q < ops.size → ∃ rc, rs[q]? = some rc := fun q hq => by
     have : q < rs.length := by omega
     exact ⟨rs[q], List.getElem?_eq_getElem this⟩
    have eT : ∀ q rc, rs[q]? = some rc → recT rs T2 q = rc.T := fun q rc hq => by simp [recT, hq]
    have eH : ∀ q rc, rs[q]? = some rc → recH rs h2 q = rc.h := fun q rc hq => by simp [recH, hq]
    let vv : Nat → Value := fun q => match rs[q]? with
     | some rc => rc.v
     | none => undef
    have eV : ∀ q rc, rs[q]? = some rc → vv q = rc.v := fun q rc hq => by simp [vv, hq]
    let bb : Nat → Option ABlk := fun q => match rs[q]? with
     | some rc => if rc.w && isAllocOp (ops.getD (l.getD q 0) default).op then (aAlloc P rc.T (ops.getD (l.getD q 0) default).op).map (·.1) else none
     | none => none
    have eB : ∀ q rc, rs[q]? = some rc → bb q = if rc.w && isAllocOp (ops.getD (l.getD q 0) default).op then (aAlloc P rc.T (ops.getD (l.getD q 0) default).op).map (·.1) else none := fun q rc hq => by simp [bb, hq]
    have pl : Plan D P r ops sz ops.size (fun q => l.getD q 0) (fun q => ops.getD (l.getD q 0) default) (recT rs T2) (recH rs h2) vv (fun q => isChainOp (ops.getD (l.getD q 0) default).op) bb := by
     refine ⟨rfl, fun q hq => hget _ (hixlt q hq), fun q q' h1 h2' he => ?_, fun i hi => ?_, fun q hq d hdd => ?_, fun i o ho e he hb => hback i o (Nat.zero_le _) ho e he hb, fun q hq => ?_, fun q q' h1 h2' h3 => ?_, fun q q' h1 h2' d h3 h4 => ?_, fun q q' h1 h2' d h3 h4 => ?_, fun q hq => ?_, fun q hq => ?_⟩
     ·have e1 := hix q h1
      have e2 := hix q' h2'
      (try simp only at he)
      rw [he] at e1
      exact nodup_inj hnd e1 e2
     ·have := s3 i hi
      (try simp only [decide_eq_true_eq] at this)
      obtain ⟨q, hq⟩ := List.getElem?_of_mem this
      have hql : q < l.length := (List.getElem?_eq_some_iff.1 hq).1
      exact ⟨q, by omega, by (try simp only); rw [List.getD_eq_getElem?_getD, hq]; rfl⟩
     ·obtain ⟨rc, f1, f2, _⟩ := t4 q _ (hix q hq)
      exact dstOK_spec f2 d hdd
     ·obtain ⟨rc, f1, f2, f3, _⟩ := t4 q _ (hix q hq)
      rw [eT q rc f1, eV q rc f1]; exact f3
     ·have := hpair q q' h1 h2'
      simp only [pairOK, Bool.or_eq_true, Bool.and_eq_true, Bool.not_eq_true'] at this
      rcases this with h5 | ⟨h5, _⟩
      ·exact hcm _ _ h5
      ·rw [h3] at h5; cases h5
     ·have := hpair q q' h1 h2'
      simp only [pairOK, Bool.or_eq_true, Bool.and_eq_true, Bool.not_eq_true'] at this
      rcases this with h5 | ⟨_, h5⟩
      ·exact hcm _ _ h5
      ·obtain ⟨g1, g2, g3⟩ := Oper.apart_spec h5
       rcases h4 with h4 | h4
       ·exact absurd h4 (g1 d h3)
       ·exact absurd h4 (g2 d h3)
     ·have := hpair q q' h1 h2'
      simp only [pairOK, Bool.or_eq_true, Bool.and_eq_true, Bool.not_eq_true'] at this
      rcases this with h5 | ⟨_, h5⟩
      ·exact hcm _ _ h5
      ·obtain ⟨g1, g2, g3⟩ := Oper.apart_spec h5
       exact absurd h4 (g3 d h3)
     ·obtain ⟨rc, f1, f2, f3, f4, _⟩ := t4 q _ (hix q hq)
      rw [eH q rc f1]; exact f4
     ·obtain ⟨rc, f1, f2, f3, f4, f5⟩ := t4 q _ (hix q hq)
      (try simp only)
      rw [eT q rc f1, eH q rc f1, eV q rc f1, eB q rc f1]
      rcases f5 with ⟨g1, g2, g3, g4⟩ | ⟨g1, g2, g3⟩
      ·exact .inl ⟨g1, g2, g3, by simp [g4]⟩
      ·right
       by_cases hch : isChainOp (ops.getD (l.getD q 0) default).op = true
       ·left
        refine ⟨g1, hch, ?_, aRun_chain hP hc r sz g3⟩
        rw [chain_notAlloc hch]; simp
       ·right
        have hch' : isChainOp (ops.getD (l.getD q 0) default).op = false := by simpa using hch
        have hrun : aOp P rc.T rc.h (ops.getD (l.getD q 0) default) = some (rc.v, recH rs h2 (q + 1)) := by
         unfold aRun at g3; rw [aReq_quiet hch'] at g3; exact g3
        by_cases hal : isAllocOp (ops.getD (l.getD q 0) default).op = true
        ·left
         refine ⟨g1, hch', ?_⟩
         rw [g2]
         simp only [hal, Bool.and_self, if_true]
         generalize ho : ops.getD (l.getD q 0) default = o at hal hrun
         obtain ⟨dst, op, ty, pos, after, guard⟩ := o
         rw [isAlloc_spec hal] at hrun
         cases hq' : aAlloc P rc.T op with
         | none => rw [hq'] at hrun; cases hrun
         | some bm =>
          obtain ⟨b, m⟩ := bm
          rw [hq'] at hrun
          simp only [Option.some.injEq, Prod.mk.injEq] at hrun
          exact ⟨b, m, rfl, by simp, hrun.1.symm, hrun.2.symm⟩
        ·right
         have hal' : isAllocOp (ops.getD (l.getD q 0) default).op = false := by simpa using hal
         have hsame := quiet_same hch' hal' hrun
         refine ⟨g1, hch', by rw [hal']; simp, hsame, fun p h1 h2' h3 => ?_⟩
         by_cases hrd : readsHeap (ops.getD (l.getD q 0) default).op = true
         ·have hdf := dynOK_spec _ _ hdyn q _ rc (hix q hq) f1 g2 hrd hch'
          have hlen : (later ops (l.drop (q + 1)) (rs.drop (q + 1))).length = ops.size - (q + 1) := by
           rw [later_length _ _ (by simp; omega)]; simp; omega
          rcases dynFrom_spec _ hdf (p - (q + 1)) (by omega) (by
           rcases h3 with h3 | h3
           ·left; omega
           ·rcases Nat.lt_or_ge p ops.size with hpl | hpl
            ·right
             have hlt : p - (q + 1) < (later ops (l.drop (q + 1)) (rs.drop (q + 1))).length := by omega
             refine ⟨_, List.getElem?_eq_getElem hlt, ?_⟩
             obtain ⟨i', r', k1, k2, k3⟩ := later_get _ _ _ _ (List.getElem?_eq_getElem hlt)
             rw [k3]
             simp only
             rw [List.getElem?_drop, show q + 1 + (p - (q + 1)) = p by omega, hix p hpl] at k1
             rw [← Option.some.inj k1]; exact h3
            ·left; omega) with ⟨k, x, k1, k2, k3, k4⟩ | hsr
          ·left
           obtain ⟨i', r', j1, j2, j3⟩ := later_get _ _ _ _ k2
           rw [List.getElem?_drop] at j1
           have hkl : q + 1 + k < ops.size := by have := (List.getElem?_eq_some_iff.1 j1).1; omega
           rw [hix _ hkl] at j1
           have hii := Option.some.inj j1
           refine ⟨q + 1 + k, by omega, by omega, ?_, ?_⟩
           ·rw [j3] at k3; simp only at k3; rw [hii]; exact k3
           ·rw [j3] at k4; simp only at k4
            rw [hii]; exact hcm _ _ k4
          ·right
           have hh : (match (later ops (l.drop (q + 1)) (rs.drop (q + 1)))[p - (q + 1)]? with | some x => x.2.2 | none => h2) = recH rs h2 p := by
            rcases Nat.lt_or_ge p ops.size with hpl | hpl
            ·have hlt : p - (q + 1) < (later ops (l.drop (q + 1)) (rs.drop (q + 1))).length := by omega
             rw [List.getElem?_eq_getElem hlt]
             obtain ⟨i', r', k1, k2, k3⟩ := later_get _ _ _ _ (List.getElem?_eq_getElem hlt)
             simp only
             rw [k3]
             rw [List.getElem?_drop, show q + 1 + (p - (q + 1)) = p by omega] at k2
             rw [eH p r' k2]
            ·rw [List.getElem?_eq_none (by omega)]
             simp only [recH]
             rw [List.getElem?_eq_none (by omega)]
           rw [hh] at hsr
           unfold sameRead at hsr
           split at hsr
           ·rename_i v' h'' hrun'
            have := veq_eq 6 _ _ hsr
            subst this
            rw [hrun', quiet_same hch' hal' hrun']
           ·cases hsr
         ·right
          exact quiet_indep hch' hal' (by simpa using hrd) hrun _
    have h0 : recT rs T2 0 = T := t2
    have h0' : recH rs h2 0 = h := t3
    have hn : recT rs T2 ops.size = T2 := by simp only [recT]; rw [List.getElem?_eq_none (by omega)]
    have hn' : recH rs h2 ops.size = h2 := by simp only [recH]; rw [List.getElem?_eq_none (by omega)]
    have hfalse : ∀ i, (Array.replicate ops.size false).getD i false = false := fun i => by
     rw [Array.getD_eq_getD_getElem?]
     by_cases hi : i < ops.size
     ·simp [hi]
     ·rw [Array.getElem?_eq_none (by simp; omega)]; rfl
    obtain ⟨p', p1, p2, p3, p4⟩ := nextChain (fun q => isChainOp (ops.getD (l.getD q 0) default).op) ops.size ops.size 0 (by omega)
    obtain ⟨st', pd'⟩ := pl.advance (ρ0 := ρ) (ρ := ρ) (w0 := w) (w := w) (S := fun _ => false) (q := 0) (Nat.zero_le _) (by rw [h0']; exact Step.refl hr) (fun k b hk => by omega) p' (Nat.zero_le _) p2 p4
    refine pl.any (ρ0 := ρ) (w0 := w) (ds := ds) (fun ρ' a' w' q1 q2 q3 => hQ ρ' a' w' (by rw [← hn]; exact q1) q2 (by rw [h0', hn'] at q3; exact q3)) ops.size (Array.replicate ops.size false) (List.range ops.size) p' ρ T a w (by simp) ?_ (by simp) (fun i hi _ => List.mem_range.2 hi) ?_
    ·intro j o ho hj
     exact absurd ((hfalse j).symm.trans hj) (by simp)
    ·refine ⟨ha, hd, fun t => .inr ⟨(fun q hq hS => by rw [hfalse] at hS; cases hS), by rw [h0]⟩, p2, p3, fun q hq hcq => ?_, fun q _ _ => hfalse _, st', fun k b h1 _ h3 => pd' k b h1 rfl h3⟩
     rw [p4 q (Nat.zero_le _) hq] at hcq; cases hcq
   ·cases hs
  ·cases hs
 ·cases hs
end
end Go.Ox
