/-
 REASONING ABOUT THE ABSTRACT RUN, part 2: regions as one condition that simp can reckon.
-/
import Derived.Test.YtfcajloeknedeaaGreatOxP
set_option linter.unusedSimpArgs false
set_option linter.unusedVariables false
namespace Go.Ox

def gW : Option Bool → Prop → Prop → Prop
 | some true, A, _ => A
 | some false, _, B => B
 | none, _, _ => False
def gA : Option (Value × AHeap) → (Value → AHeap → Prop) → Prop
 | some (v, h), K => K v h
 | none, _ => False
def gR (P : Program) [Ext P] : Option (Tgt × List Value) → AHeap → (Value → AHeap → Prop) → Prop → Prop
 | some (t, vs), h, K, _ => wpF P t vs h K
 | none, _, _, A => A
def gQ (P : Program) [Ext P] (T : List Value) (h : AHeap) (o : Oper) (K : Value → AHeap → Prop) : Prop := gR P (aReq P T o) h K (gA (aOp P T h o) K)

@[congr] theorem gW_congr {x y : Option Bool} {A B : Prop} (h : x = y) : gW x A B = gW y A B := by rw [h]
@[congr] theorem gA_congr {x y : Option (Value × AHeap)} {K : Value → AHeap → Prop} (h : x = y) : gA x K = gA y K := by rw [h]
@[congr] theorem gR_congr {P : Program} [Ext P] {x y : Option (Tgt × List Value)} {h : AHeap} {K : Value → AHeap → Prop} {A : Prop} (e : x = y) : gR P x h K A = gR P y h K A := by rw [e]
@[congr] theorem wpF_congr {P : Program} [Ext P] {t : Tgt} {vs ws : List Value} {h h' : AHeap} {K : Value → AHeap → Prop} (e : vs = ws) (e' : h = h') : wpF P t vs h K = wpF P t ws h' K := by rw [e, e']
@[congr] theorem wpC_congr {P : Program} [Ext P] {sz : Nat} {r : Bool} {c : Code} {T T' : List Value} {h h' : AHeap} {K : AExit → List Value → AHeap → Prop} (e : T = T') (e' : h = h') : wpC P sz r c T h K = wpC P sz r c T' h' K := by rw [e, e']

section
variable {P : Program} [X : Ext P] {sz : Nat} {rnd : Bool} {ops : Array Oper}

def gO (P : Program) [Ext P] (sz : Nat) (ops : Array Oper) : List Oper → List Value → AHeap → (List Value → AHeap → Prop) → Prop
 | [], T, h, L => L T h
 | o :: os, T, h, L => dstOK sz o.dst = true ∧ gW (aWanted ops T o) (gQ P T h o fun v h' => gO P sz ops os (tputO o.dst v T) h' L) (gO P sz ops os (tputO o.dst undef T) h L)

@[congr] theorem gO_congr {os : List Oper} {T T' : List Value} {h h' : AHeap} {L : List Value → AHeap → Prop} (e : T = T') (e' : h = h') : gO P sz ops os T h L = gO P sz ops os T' h' L := by rw [e, e']

theorem gO_sound {L : List Value → AHeap → Prop} : ∀ (os : List Oper) (T : List Value) (h : AHeap), gO P sz ops os T h L → wpO P sz ops os T h L
 | [], T, h, k => wpO_nil k
 | o :: os, T, h, ⟨k1, k2⟩ => by
  cases hw : aWanted ops T o with
  | none => rw [hw] at k2; exact k2.elim
  | some b =>
   rw [hw] at k2
   cases b with
   | false => exact wpO_pass k1 hw (gO_sound os _ _ k2)
   | true =>
    simp only [gW, gQ] at k2
    cases hr : aReq P T o with
    | some x =>
     obtain ⟨t, vs⟩ := x
     rw [hr] at k2
     exact wpO_call k1 hw hr (wpF_mono k2 fun v h' k => gO_sound os _ _ k)
    | none =>
     rw [hr] at k2
     simp only [gR] at k2
     cases ho : aOp P T h o with
     | none => rw [ho] at k2; exact k2.elim
     | some x =>
      obtain ⟨v, h1⟩ := x
      rw [ho] at k2
      exact wpO_op k1 hw hr ho (gO_sound os _ _ k2)

theorem wpC_reg {id : Nat} {os : List Oper} {T : List Value} {h : AHeap} {K : AExit → List Value → AHeap → Prop} (hw : gO P sz os.toArray os T h (fun T h => K .normal T h)) : wpC P sz rnd (.region id os.toArray false) T h K := wpC_region (gO_sound _ _ _ hw)

/-! ### what a condition tells -/
def gC : Option Value → Prop → Prop → Prop
 | some (.bool t), A, B => if t = true then A else B
 | _, _, _ => False
@[congr] theorem gC_congr {x y : Option Value} {A B : Prop} (h : x = y) : gC x A B = gC y A B := by rw [h]
theorem wpC_if {x : Operand} {a b : Code} {T : List Value} {h : AHeap} {K : AExit → List Value → AHeap → Prop} (hw : gC (aev T x) (wpC P sz rnd a T h K) (wpC P sz rnd b T h K)) : wpC P sz rnd (.cond x a b) T h K := by
 unfold gC at hw
 split at hw
 ·rename_i t e
  refine wpC_cond e ?_
  cases t <;> exact hw
 ·exact hw.elim
theorem gC_of {p : Prop} [Decidable p] {A B : Prop} (h1 : p → A) (h2 : ¬ p → B) : gC (some (.bool (decide p))) A B := by
 by_cases h : p <;> simp [gC, h]
 ·exact h1 h
 ·exact h2 h
theorem gC_bb {t : Bool} {A B : Prop} (h1 : t = true → A) (h2 : t = false → B) : gC (some (.bool t)) A B := by
 cases t
 ·exact h2 rfl
 ·exact h1 rfl

/-! ### drawn regions -/
structure Pd where
 i : Nat
 T : List Value
 v : Value
 stale : Bool
def Pd.old (p : Pd) : Pd := { p with stale := true }

def gP (P : Program) (os : List Oper) (h : AHeap) : List Pd → Prop
 | [] => True
 | p :: ps => (if p.stale = true then sameRead (aOp P p.T h (os.getD p.i default)) p.v = true else True) ∧ gP P os h ps

def gV (b : Bool) (v : Value) : Prop := if b = true then veq 6 v v = true else True

def pend (m i : Nat) (op : Op) (T : List Value) (v : Value) (pd : List Pd) : List Pd :=
 if isChainOp op = true then (pd.filter fun p => !m.testBit p.i).map Pd.old
 else if isAllocOp op = true then pd.map Pd.old
 else if readsHeap op = true then ⟨i, T, v, false⟩ :: pd else pd
def pend0 (m : Nat) (op : Op) (pd : List Pd) : List Pd := if isChainOp op = true then pd.filter fun p => !m.testBit p.i else pd

def gT (P : Program) [Ext P] (sz : Nat) (os : List Oper) : List Nat → List Nat → List Pd → List Value → AHeap → (List Value → AHeap → Prop) → Prop
 | [], _, pd, T, h, L => gP P os h pd ∧ L T h
 | i :: is, ms, pd, T, h, L =>
  dstOK sz (os.getD i default).dst = true ∧ (if isChainOp (os.getD i default).op = true then gP P os h pd else True) ∧
  gW (aWanted os.toArray T (os.getD i default))
   (gQ P T h (os.getD i default) fun v h' => gV (readsHeap (os.getD i default).op && !isChainOp (os.getD i default).op) v ∧ gT P sz os is (ms.drop 1) (pend (ms.headD 0) i (os.getD i default).op T v pd) (tputO (os.getD i default).dst v T) h' L)
   (gT P sz os is (ms.drop 1) (pend0 (ms.headD 0) (os.getD i default).op pd) (tputO (os.getD i default).dst undef T) h L)

@[congr] theorem gT_congr {os : List Oper} {is ms : List Nat} {pd pd' : List Pd} {T T' : List Value} {h h' : AHeap} {L : List Value → AHeap → Prop} (e0 : pd = pd') (e : T = T') (e' : h = h') : gT P sz os is ms pd T h L = gT P sz os is ms pd' T' h' L := by rw [e, e', e0]

end
section
variable {P : Program}
theorem sameRead_self {T : List Value} {h h' : AHeap} {o : Oper} {v : Value} (ho : aOp P T h o = some (v, h')) (hv : veq 6 v v = true) : sameRead (aOp P T h o) v = true := by rw [ho]; exact hv

theorem gP_mem {os : List Oper} {h : AHeap} : ∀ {pd : List Pd}, gP P os h pd → ∀ p ∈ pd, p.stale = true → sameRead (aOp P p.T h (os.getD p.i default)) p.v = true
 | [], _, p, hp, _ => by cases hp
 | q :: qs, ⟨k1, k2⟩, p, hp, hs => by
  rcases List.mem_cons.1 hp with rfl | hp
  ·rw [if_pos hs] at k1; exact k1
  ·exact gP_mem k2 p hp hs

end
section
variable {P : Program} [X : Ext P] {sz : Nat} {rnd : Bool} {ops : Array Oper}
theorem gT_sound {os : List Oper} {cm : List Nat} {L : List Value → AHeap → Prop} : ∀ (is ms : List Nat) (hms : ∀ (q i : Nat), is[q]? = some i → ms[q]?.getD 0 = cm.getD i 0) (pd : List Pd) (T : List Value) (h : AHeap),
  (∀ p ∈ pd, p.stale = false → sameRead (aOp P p.T h (os.getD p.i default)) p.v = true) → gT P sz os is ms pd T h L →
  ∃ rs T' h', (∃ N, ∀ m, N ≤ m → aTrace P (aCall P m) sz os.toArray is T h = some (rs, T', h')) ∧
   (∀ p ∈ pd, dynFrom P cm p.i p.T p.v (os.getD p.i default) h' (later os.toArray is rs) = true) ∧ dynOK P os.toArray cm h' is rs = true ∧ L T' h' := by
 intro is
 have hgd : ∀ j, os.toArray.getD j default = os.getD j default := fun j => by simp [List.getD_eq_getElem?_getD]
 induction is with
 | nil =>
  intro ms hms pd T h hinv hg
  refine ⟨[], T, h, ⟨0, fun m _ => rfl⟩, fun p hp => ?_, rfl, hg.2⟩
  simp only [later, dynFrom]
  cases hs : p.stale with
  | false => exact hinv p hp hs
  | true => exact gP_mem hg.1 p hp hs
 | cons i is ih =>
  intro ms hms pd T h hinv hg
  obtain ⟨g1, g2, g3⟩ := hg
  have hm0 : ms.headD 0 = cm.getD i 0 := by
   have := hms 0 i rfl
   cases ms <;> simpa using this
  have hms' : ∀ q j, is[q]? = some j → (ms.drop 1)[q]?.getD 0 = cm.getD j 0 := fun q j hq => by
   have := hms (q + 1) j (by simpa using hq)
   rw [List.getElem?_drop, Nat.add_comm]; exact this
  -- reads that wait, at this operation
  have now : isChainOp (os.getD i default).op = true → ∀ p ∈ pd, sameRead (aOp P p.T h (os.getD p.i default)) p.v = true := fun hc p hp => by
   rw [if_pos hc] at g2
   cases hs : p.stale with
   | false => exact hinv p hp hs
   | true => exact gP_mem g2 p hp hs
  have step : ∀ (r : Rec) (rs : List Rec) (h' : AHeap), r.h = h → (∀ p ∈ pd, (isChainOp (os.getD i default).op = true → ¬ (cm.getD i 0).testBit p.i = true → dynFrom P cm p.i p.T p.v (os.getD p.i default) h' (later os.toArray is rs) = true) ∧ (isChainOp (os.getD i default).op = false → dynFrom P cm p.i p.T p.v (os.getD p.i default) h' (later os.toArray is rs) = true)) →
    ∀ p ∈ pd, dynFrom P cm p.i p.T p.v (os.getD p.i default) h' (later os.toArray (i :: is) (r :: rs)) = true := fun r rs h' hrh hk p hp => by
   simp only [later, dynFrom, hgd]
   cases hc : isChainOp (os.getD i default).op with
   | false => simpa using (hk p hp).2 hc
   | true =>
    simp only [if_true, Bool.and_eq_true, Bool.or_eq_true]
    refine ⟨by rw [hrh]; exact now hc p hp, ?_⟩
    by_cases hb : (cm.getD i 0).testBit p.i = true
    ·exact .inl hb
    ·exact .inr ((hk p hp).1 hc hb)
  cases hw : aWanted os.toArray T (os.getD i default) with
  | none => rw [hw] at g3; exact g3.elim
  | some b =>
   rw [hw] at g3
   cases b with
   | false =>
    simp only [gW] at g3
    have hinv' : ∀ p ∈ pend0 (ms.headD 0) (os.getD i default).op pd, p.stale = false → sameRead (aOp P p.T h (os.getD p.i default)) p.v = true := fun p hp hs => by
     refine hinv p ?_ hs
     unfold pend0 at hp
     split at hp
     ·exact (List.mem_filter.1 hp).1
     ·exact hp
    obtain ⟨rs, T', h', ⟨N, hN⟩, k2, k3, k4⟩ := ih _ hms' _ _ _ hinv' g3
    refine ⟨⟨T, h, undef, false⟩ :: rs, T', h', ⟨N, fun m hm => ?_⟩, step ⟨T, h, undef, false⟩ rs h' rfl (fun p hp => ⟨fun hc hb => k2 p ?_, fun hc => k2 p ?_⟩), ?_, k4⟩
    ·simp only [aTrace, hgd, g1, if_true, hw, hN m hm]
    ·unfold pend0; rw [if_pos hc, hm0]; exact List.mem_filter.2 ⟨hp, by simpa using hb⟩
    ·unfold pend0; rw [if_neg (by rw [hc]; exact Bool.false_ne_true)]; exact hp
    ·simp only [dynOK, k3, Bool.and_true]; simp
   | true =>
    simp only [gW, gQ] at g3
    cases hr : aReq P T (os.getD i default) with
    | some x =>
     obtain ⟨t, vs⟩ := x
     rw [hr] at g3
     obtain ⟨v, h1, ⟨M, hM⟩, g5, g6⟩ := g3
     have g4 := aCall_next M _ _ _ _ _ (hM M (Nat.le_refl _))
     have hc : isChainOp (os.getD i default).op = true := by
      cases hc : isChainOp (os.getD i default).op with
      | true => rfl
      | false => rw [aReq_quiet hc] at hr; cases hr
     have hinv' : ∀ p ∈ pend (ms.headD 0) i (os.getD i default).op T v pd, p.stale = false → sameRead (aOp P p.T h1 (os.getD p.i default)) p.v = true := fun p hp hs => by
      unfold pend at hp
      rw [if_pos hc] at hp
      obtain ⟨q, _, rfl⟩ := List.mem_map.1 hp
      cases hs
     obtain ⟨rs, T', h', ⟨N, hN⟩, k2, k3, k4⟩ := ih _ hms' _ _ _ hinv' g6
     refine ⟨⟨T, h, v, true⟩ :: rs, T', h', ⟨max M N, fun m hm => ?_⟩, step ⟨T, h, v, true⟩ rs h' rfl (fun p hp => ⟨fun _ hb => k2 p.old ?_, fun hc' => absurd hc (by rw [hc']; exact Bool.false_ne_true)⟩), ?_, k4⟩
     ·simp only [aTrace, hgd, g1, if_true, hw, aRun, hr, hM m (by omega), hN m (by omega)]
      rw [if_neg (by omega)]
     ·unfold pend; rw [if_pos hc, hm0]; exact List.mem_map.2 ⟨p, List.mem_filter.2 ⟨hp, by simpa using hb⟩, rfl⟩
     ·simp only [dynOK, k3, Bool.and_true, hgd, hc]; simp
    | none =>
     rw [hr] at g3
     simp only [gR] at g3
     cases ho : aOp P T h (os.getD i default) with
     | none => rw [ho] at g3; exact g3.elim
     | some x =>
      obtain ⟨v, h1⟩ := x
      rw [ho] at g3
      obtain ⟨g5, g6⟩ := g3
      have g4 := aOp_next ho
      have hinv' : ∀ p ∈ pend (ms.headD 0) i (os.getD i default).op T v pd, p.stale = false → sameRead (aOp P p.T h1 (os.getD p.i default)) p.v = true := fun p hp hs => by
       unfold pend at hp
       split at hp
       ·obtain ⟨q, _, rfl⟩ := List.mem_map.1 hp
        cases hs
       ·rename_i hc
        split at hp
        ·obtain ⟨q, _, rfl⟩ := List.mem_map.1 hp
         cases hs
        ·rename_i hal
         have hh : h1 = h := quiet_same (by simpa using hc) (by simpa using hal) ho
         subst hh
         split at hp
         ·rename_i hrd
          rcases List.mem_cons.1 hp with rfl | hp
          ·refine sameRead_self ho ?_
           unfold gV at g5
           rw [if_pos (by rw [hrd]; cases h9 : isChainOp (os.getD i default).op <;> simp_all)] at g5
           exact g5
          ·exact hinv p hp hs
         ·exact hinv p hp hs
      obtain ⟨rs, T', h', ⟨N, hN⟩, k2, k3, k4⟩ := ih _ hms' _ _ _ hinv' g6
      refine ⟨⟨T, h, v, true⟩ :: rs, T', h', ⟨N, fun m hm => ?_⟩, step ⟨T, h, v, true⟩ rs h' rfl (fun p hp => ⟨fun hc hb => k2 p.old ?_, fun hc => ?_⟩), ?_, k4⟩
      ·simp only [aTrace, hgd, g1, if_true, hw, aRun, hr, ho, hN m (by omega)]
       rw [if_neg (by omega)]
      ·unfold pend; rw [if_pos hc, hm0]; exact List.mem_map.2 ⟨p, List.mem_filter.2 ⟨hp, by simpa using hb⟩, rfl⟩
      ·cases hal : isAllocOp (os.getD i default).op with
       | true => exact k2 p.old (by unfold pend; rw [if_neg (by rw [hc]; exact Bool.false_ne_true), if_pos hal]; exact List.mem_map.2 ⟨p, hp, rfl⟩)
       | false =>
        refine k2 p ?_
        unfold pend; rw [if_neg (by rw [hc]; exact Bool.false_ne_true), if_neg (by rw [hal]; exact Bool.false_ne_true)]
        split
        ·exact List.mem_cons_of_mem _ hp
        ·exact hp
      ·simp only [dynOK, k3, Bool.and_true, hgd]
       by_cases hq : isChainOp (os.getD i default).op = false ∧ readsHeap (os.getD i default).op = true
       ·have hal : isAllocOp (os.getD i default).op = false := by
         obtain ⟨_, hq⟩ := hq
         cases hop : (os.getD i default).op <;> rw [hop] at hq <;> first | rfl | (simp [readsHeap] at hq; done)
        have := k2 ⟨i, T, v, false⟩ (by unfold pend; rw [if_neg (by rw [hq.1]; exact Bool.false_ne_true), if_neg (by rw [hal]; exact Bool.false_ne_true), if_pos hq.2]; exact List.mem_cons_self)
        simp only at this
        rw [this]; simp
       ·revert hq
        cases isChainOp (os.getD i default).op <;> cases readsHeap (os.getD i default).op <;> simp

theorem wpC_draw {id : Nat} {os : List Oper} (is ms : List Nat) (hi : canon os.toArray = is) (hs : staticOK os.toArray = true) (hms : is.map (fun i => (cms os []).getD i 0) = ms) {T : List Value} {h : AHeap} {K : AExit → List Value → AHeap → Prop}
  (hw : gT P sz os is ms [] T h (fun T h => K .normal T h)) : wpC P sz rnd (.region id os.toArray true) T h K := by
 obtain ⟨rs, T', h', ⟨N, hN⟩, k2, k3, k4⟩ := gT_sound (cm := cms os []) is ms (fun q i hq => by subst hms; simp [hq]) [] T h (fun p hp => by cases hp) hw
 refine ⟨.normal, T', h', ⟨N + 1, fun n hn m hm => ?_⟩, k4⟩
 cases n with
 | zero => omega
 | succ n =>
  have : aDraw P (aCall P m) sz os.toArray T h = some (T', h') := by
   unfold aDraw
   rw [if_pos hs, hi, hN m (by omega)]
   simp only [k3, if_true]
  simp only [aCode, if_true, this]

theorem wpF_fun {f : FuncId} {fn : Func} {c : Code} {args : List Value} {h : AHeap} {K : Value → AHeap → Prop} (s : Nat) (rs : List ResultVar) (hf : P.funcs[f]? = some fn) (hb : fn.body = some c) (hs : args.length + (fn.ntmps - args.length) = s) (hr : fn.results.toList = rs) (hx : (X.fs.contains f && args.isEmpty || X.xs.contains f) = false)
  (hw : wpC P s false c args h (AExit.out P rs K)) : wpF P (.fn f) args h K := by
 subst hr; exact wpF_fn hf hb hs hx hw

theorem wpC_seqr {id : Nat} {os : List Oper} {b : Code} {T : List Value} {h : AHeap} {K : AExit → List Value → AHeap → Prop} (hw : gO P sz os.toArray os T h (fun T h => wpC P sz rnd b T h K)) : wpC P sz rnd (.seq (.region id os.toArray false) b) T h K := wpC_seq (wpC_reg hw)
theorem wpC_seqd {id : Nat} {os : List Oper} {b : Code} (is ms : List Nat) (hi : canon os.toArray = is) (hs : staticOK os.toArray = true) (hms : is.map (fun i => (cms os []).getD i 0) = ms) {T : List Value} {h : AHeap} {K : AExit → List Value → AHeap → Prop}
  (hw : gT P sz os is ms [] T h (fun T h => wpC P sz rnd b T h K)) : wpC P sz rnd (.seq (.region id os.toArray true) b) T h K := wpC_seq (wpC_draw is ms hi hs hms hw)
theorem go_normal {N : List Value → AHeap → Prop} {K : AExit → List Value → AHeap → Prop} {T : List Value} {h : AHeap} : AExit.go N K .normal T h = N T h := rfl
theorem go_exit {N : List Value → AHeap → Prop} {K : AExit → List Value → AHeap → Prop} {T : List Value} {h : AHeap} (i : Nat) : AExit.go N K (.exit i) T h = K (.exit i) T h := rfl
theorem go_ret {N : List Value → AHeap → Prop} {K : AExit → List Value → AHeap → Prop} {T : List Value} {h : AHeap} : AExit.go N K .ret T h = K .ret T h := rfl
theorem blk_normal {i : Nat} {K : AExit → List Value → AHeap → Prop} {T : List Value} {h : AHeap} : AExit.blk i K .normal T h = K .normal T h := rfl
theorem blk_ret {i : Nat} {K : AExit → List Value → AHeap → Prop} {T : List Value} {h : AHeap} : AExit.blk i K .ret T h = K .ret T h := rfl
theorem blk_exit {i j : Nat} {K : AExit → List Value → AHeap → Prop} {T : List Value} {h : AHeap} : AExit.blk i K (.exit j) T h = if j = i then K .normal T h else K (.exit j) T h := rfl
end
section
variable {P : Program}
end
section
variable {P : Program} [X : Ext P] {sz : Nat} {rnd : Bool} {ops : Array Oper}
theorem gA_some (v : Value) (h : AHeap) (K : Value → AHeap → Prop) : gA (some (v, h)) K = K v h := congrArg id rfl
theorem gW_t (A B : Prop) : gW (some true) A B = A := congrArg id rfl
theorem gW_f (A B : Prop) : gW (some false) A B = B := congrArg id rfl
theorem gR_some (t : Tgt) (vs : List Value) (h : AHeap) (K : Value → AHeap → Prop) (A : Prop) : gR P (some (t, vs)) h K A = wpF P t vs h K := congrArg id rfl
theorem gR_none (h : AHeap) (K : Value → AHeap → Prop) (A : Prop) : gR P none h K A = A := congrArg id rfl
end
section
variable {P : Program}
theorem gP_nil (os : List Oper) (h : AHeap) : gP P os h [] = True := congrArg id rfl
theorem gP_cons (os : List Oper) (h : AHeap) (p : Pd) (ps : List Pd) : gP P os h (p :: ps) = ((if p.stale = true then sameRead (aOp P p.T h (os.getD p.i default)) p.v = true else True) ∧ gP P os h ps) := congrArg id rfl
end
section
variable {P : Program} [X : Ext P] {sz : Nat} {rnd : Bool} {ops : Array Oper}
theorem gV_t (v : Value) : gV true v = (veq 6 v v = true) := congrArg id rfl
theorem gV_f (v : Value) : gV false v = True := congrArg id rfl
theorem gO_nil (T : List Value) (h : AHeap) (L : List Value → AHeap → Prop) : gO P sz ops [] T h L = L T h := congrArg id rfl
theorem gO_cons (o : Oper) (os : List Oper) (T : List Value) (h : AHeap) (L : List Value → AHeap → Prop) : gO P sz ops (o :: os) T h L = (dstOK sz o.dst = true ∧ gW (aWanted ops T o) (gR P (aReq P T o) h (fun v h' => gO P sz ops os (tputO o.dst v T) h' L) (gA (aOp P T h o) fun v h' => gO P sz ops os (tputO o.dst v T) h' L)) (gO P sz ops os (tputO o.dst undef T) h L)) := congrArg id rfl
theorem gT_nil (os : List Oper) (ms : List Nat) (pd : List Pd) (T : List Value) (h : AHeap) (L : List Value → AHeap → Prop) : gT P sz os [] ms pd T h L = (gP P os h pd ∧ L T h) := congrArg id rfl
theorem gT_cons (os : List Oper) (i : Nat) (is : List Nat) (m : Nat) (ms : List Nat) (pd : List Pd) (T : List Value) (h : AHeap) (L : List Value → AHeap → Prop) : gT P sz os (i :: is) (m :: ms) pd T h L =
  (dstOK sz (os.getD i default).dst = true ∧ (if isChainOp (os.getD i default).op = true then gP P os h pd else True) ∧
  gW (aWanted os.toArray T (os.getD i default))
   (gR P (aReq P T (os.getD i default)) h (fun v h' => gV (readsHeap (os.getD i default).op && !isChainOp (os.getD i default).op) v ∧ gT P sz os is ms (pend m i (os.getD i default).op T v pd) (tputO (os.getD i default).dst v T) h' L) (gA (aOp P T h (os.getD i default)) fun v h' => gV (readsHeap (os.getD i default).op && !isChainOp (os.getD i default).op) v ∧ gT P sz os is ms (pend m i (os.getD i default).op T v pd) (tputO (os.getD i default).dst v T) h' L))
   (gT P sz os is ms (pend0 m (os.getD i default).op pd) (tputO (os.getD i default).dst undef T) h L)) := congrArg id rfl
end
end Go.Ox
