/-
 REASONING ABOUT THE ABSTRACT RUN: drawn regions whose operations go in their own order, read off the list itself.
-/
import Derived.Test.YtfcajloeknedeaaGreatOxX
set_option linter.unusedSimpArgs false
set_option linter.unusedVariables false
namespace Go.Ox
/-- A call, held so that simp leaves alone what follows it. -/
inductive Tag {α : Type} (a : α) : Type where
 | mk : Tag a
def wpG (P : Program) [Ext P] (t : Tgt) (vs : List Value) (h : AHeap) (K : Value → AHeap → Prop) (_ : Tag K) : Prop := wpF P t vs h K
theorem gR_held {P : Program} [Ext P] (t : Tgt) (vs : List Value) (h : AHeap) (K : Value → AHeap → Prop) (A : Prop) : gR P (some (t, vs)) h K A = wpG P t vs h K Tag.mk := congrArg id rfl
structure Pe where
 i : Nat
 o : Oper
 T : List Value
 v : Value
 stale : Bool
def Pe.pd (p : Pe) : Pd := ⟨p.i, p.T, p.v, p.stale⟩
def Pe.old (p : Pe) : Pe := { p with stale := true }
theorem Pe.old_eq (i : Nat) (o : Oper) (T : List Value) (v : Value) (s : Bool) : Pe.old ⟨i, o, T, v, s⟩ = ⟨i, o, T, v, true⟩ := congrArg id rfl
def gPe (P : Program) (h : AHeap) : List Pe → Prop
 | [] => True
 | p :: ps => (if p.stale = true then sameRead (aOp P p.T h p.o) p.v = true else True) ∧ gPe P h ps
theorem gPe_nil (P : Program) (h : AHeap) : gPe P h [] = True := congrArg id rfl
theorem gPe_cons (P : Program) (h : AHeap) (i : Nat) (o : Oper) (T : List Value) (v : Value) (s : Bool) (ps : List Pe) : gPe P h (⟨i, o, T, v, s⟩ :: ps) = ((if s = true then sameRead (aOp P T h o) v = true else True) ∧ gPe P h ps) := congrArg id rfl
theorem gPe_gP {P : Program} {os : List Oper} {h : AHeap} : ∀ (pd : List Pe), (∀ p ∈ pd, p.o = os.getD p.i default) → gPe P h pd → gP P os h (pd.map Pe.pd)
 | [], _, _ => trivial
 | p :: ps, hp, ⟨h1, h2⟩ => ⟨by
   have := hp p (by simp)
   simp only [Pe.pd]
   rw [← this]; exact h1, gPe_gP ps (fun q hq => hp q (by simp [hq])) h2⟩

def wantD (ds : List (Option Nat)) (T : List Value) (o : Oper) : Option Bool := match o.guard with
 | none => some true
 | some (j, w) => wD T (ds.getD j none) w
theorem wantD_none {ds : List (Option Nat)} {T : List Value} {dst : Option Nat} {op : Op} {ty : TypeId} {pos : String} {af : Array Edge} : wantD ds T ⟨dst, op, ty, pos, af, none⟩ = some true := congrArg id rfl
theorem wantD_some {ds : List (Option Nat)} {T : List Value} {dst : Option Nat} {op : Op} {ty : TypeId} {pos : String} {af : Array Edge} (j : Nat) (w : Bool) : wantD ds T ⟨dst, op, ty, pos, af, some (j, w)⟩ = wD T (ds.getD j none) w := congrArg id rfl
theorem want_eq {os : List Oper} {T : List Value} (o : Oper) : aWanted os.toArray T o = wantD (os.map (·.dst)) T o := by
 obtain ⟨dst, op, ty, pos, af, gu⟩ := o
 cases gu with
 | none => rfl
 | some x =>
  obtain ⟨j, w⟩ := x
  rw [aW_some, wantD_some, ← dstAt_eq]
  congr 1
  simp only [List.getD_eq_getElem?_getD, List.getElem?_map]
  cases os[j]? <;> rfl

def pendU (m i : Nat) (o : Oper) (T : List Value) (v : Value) (pd : List Pe) : List Pe :=
 if isChainOp o.op = true then (pd.filter fun p => !m.testBit p.i).map Pe.old
 else if isAllocOp o.op = true then pd.map Pe.old
 else if readsHeap o.op = true then ⟨i, o, T, v, false⟩ :: pd else pd
def pendU0 (m : Nat) (o : Oper) (pd : List Pe) : List Pe := if isChainOp o.op = true then pd.filter fun p => !m.testBit p.i else pd
theorem pendU_pd (m i : Nat) (o : Oper) (T : List Value) (v : Value) (pd : List Pe) : (pendU m i o T v pd).map Pe.pd = pend m i o.op T v (pd.map Pe.pd) := by
 unfold pendU pend
 split
 ·simp only [List.map_map, List.filter_map]; rfl
 ·split
  ·simp only [List.map_map]; rfl
  ·split <;> rfl
theorem pendU0_pd (m : Nat) (o : Oper) (pd : List Pe) : (pendU0 m o pd).map Pe.pd = pend0 m o.op (pd.map Pe.pd) := by
 unfold pendU0 pend0
 split
 ·simp only [List.filter_map]; rfl
 ·rfl

section
variable {P : Program} [X : Ext P] {sz : Nat}
def gU (P : Program) [Ext P] (sz : Nat) (ds : List (Option Nat)) : List Oper → Nat → List Nat → List Pe → List Value → AHeap → (List Value → AHeap → Prop) → Prop
 | [], _, _, pd, T, h, L => gPe P h pd ∧ L T h
 | o :: os, k, ms, pd, T, h, L => dstOK sz o.dst = true ∧ (if isChainOp o.op = true then gPe P h pd else True) ∧
  gW (wantD ds T o)
   (gR P (aReq P T o) h (fun v h' => gV (readsHeap o.op && !isChainOp o.op) v ∧ gU P sz ds os (k + 1) (ms.drop 1) (pendU (ms.headD 0) k o T v pd) (tputO o.dst v T) h' L)
    (gA (aOp P T h o) fun v h' => gV (readsHeap o.op && !isChainOp o.op) v ∧ gU P sz ds os (k + 1) (ms.drop 1) (pendU (ms.headD 0) k o T v pd) (tputO o.dst v T) h' L))
   (gU P sz ds os (k + 1) (ms.drop 1) (pendU0 (ms.headD 0) o pd) (tputO o.dst undef T) h L)
@[congr] theorem gU_congr {ds : List (Option Nat)} {os : List Oper} {k k' : Nat} {ms : List Nat} {pd pd' : List Pe} {T T' : List Value} {h h' : AHeap} {L : List Value → AHeap → Prop} (ek : k = k') (e0 : pd = pd') (e : T = T') (e' : h = h') : gU P sz ds os k ms pd T h L = gU P sz ds os k' ms pd' T' h' L := by rw [ek, e, e', e0]
theorem gU_nil (ds : List (Option Nat)) (k : Nat) (ms : List Nat) (pd : List Pe) (T : List Value) (h : AHeap) (L : List Value → AHeap → Prop) : gU P sz ds [] k ms pd T h L = (gPe P h pd ∧ L T h) := congrArg id rfl
theorem gU_cons (ds : List (Option Nat)) (o : Oper) (os : List Oper) (k m : Nat) (ms : List Nat) (pd : List Pe) (T : List Value) (h : AHeap) (L : List Value → AHeap → Prop) : gU P sz ds (o :: os) k (m :: ms) pd T h L = (dstOK sz o.dst = true ∧ (if isChainOp o.op = true then gPe P h pd else True) ∧
  gW (wantD ds T o)
   (gR P (aReq P T o) h (fun v h' => gV (readsHeap o.op && !isChainOp o.op) v ∧ gU P sz ds os (k + 1) ms (pendU m k o T v pd) (tputO o.dst v T) h' L)
    (gA (aOp P T h o) fun v h' => gV (readsHeap o.op && !isChainOp o.op) v ∧ gU P sz ds os (k + 1) ms (pendU m k o T v pd) (tputO o.dst v T) h' L))
   (gU P sz ds os (k + 1) ms (pendU0 m o pd) (tputO o.dst undef T) h L)) := congrArg id rfl

theorem gU_anil (ds : List (Option Nat)) (os : List Oper) (k : Nat) (ms : List Nat) (pd : List Pe) (T : List Value) (h : AHeap) (L : List Value → AHeap → Prop) : gU P sz ds (List.append [] os) k ms pd T h L = gU P sz ds os k ms pd T h L := congrArg id rfl
theorem gU_acons (ds : List (Option Nat)) (o : Oper) (os oz : List Oper) (k m : Nat) (ms : List Nat) (pd : List Pe) (T : List Value) (h : AHeap) (L : List Value → AHeap → Prop) : gU P sz ds (List.append (o :: os) oz) k (m :: ms) pd T h L = (dstOK sz o.dst = true ∧ (if isChainOp o.op = true then gPe P h pd else True) ∧
  gW (wantD ds T o)
   (gR P (aReq P T o) h (fun v h' => gV (readsHeap o.op && !isChainOp o.op) v ∧ gU P sz ds (List.append os oz) (k + 1) ms (pendU m k o T v pd) (tputO o.dst v T) h' L)
    (gA (aOp P T h o) fun v h' => gV (readsHeap o.op && !isChainOp o.op) v ∧ gU P sz ds (List.append os oz) (k + 1) ms (pendU m k o T v pd) (tputO o.dst v T) h' L))
   (gU P sz ds (List.append os oz) (k + 1) ms (pendU0 m o pd) (tputO o.dst undef T) h L)) := congrArg id rfl

theorem gU_aassoc (ds : List (Option Nat)) (a b c : List Oper) (k : Nat) (ms : List Nat) (pd : List Pe) (T : List Value) (h : AHeap) (L : List Value → AHeap → Prop) : gU P sz ds (List.append (List.append a b) c) k ms pd T h L = gU P sz ds (List.append a (List.append b c)) k ms pd T h L := by
 have : List.append (List.append a b) c = List.append a (List.append b c) := List.append_assoc a b c
 rw [this]

theorem gU_gT {os : List Oper} {L : List Value → AHeap → Prop} : ∀ (suf pre : List Oper) (k : Nat) (ms : List Nat) (pd : List Pe) (T : List Value) (h : AHeap), os = pre ++ suf → k = pre.length → (∀ p ∈ pd, p.o = os.getD p.i default) →
  gU P sz (os.map (·.dst)) suf k ms pd T h L → gT P sz os (List.range' k suf.length) ms (pd.map Pe.pd) T h L
 | [], _, _, _, pd, T, h, _, _, hp, hg => ⟨gPe_gP pd hp hg.1, hg.2⟩
 | o :: suf, pre, k, ms, pd, T, h, ho, hk, hp, ⟨g1, g2, g3⟩ => by
  have hd : os.getD k default = o := by
   rw [ho, hk, List.getD_eq_getElem?_getD, List.getElem?_append_right (Nat.le_refl _)]; simp
  have ih := fun (pd : List Pe) T h hp' (hg : gU P sz (os.map (·.dst)) suf (k + 1) (ms.drop 1) pd T h L) => gU_gT suf (pre ++ [o]) (k + 1) (ms.drop 1) pd T h (by rw [ho]; simp) (by simp [hk]) hp' hg
  have hU : ∀ v, ∀ p ∈ pendU (ms.headD 0) k o T v pd, p.o = os.getD p.i default := fun v p hpp => by
   unfold pendU at hpp
   split at hpp
   ·obtain ⟨q, hq, rfl⟩ := List.mem_map.1 hpp
    exact hp q (List.mem_filter.1 hq).1
   ·split at hpp
    ·obtain ⟨q, hq, rfl⟩ := List.mem_map.1 hpp
     exact hp q hq
    ·split at hpp
     ·rcases List.mem_cons.1 hpp with rfl | hpp
      ·exact hd.symm
      ·exact hp p hpp
     ·exact hp p hpp
  have hU0 : ∀ p ∈ pendU0 (ms.headD 0) o pd, p.o = os.getD p.i default := fun p hpp => by
   unfold pendU0 at hpp
   split at hpp
   ·exact hp p (List.mem_filter.1 hpp).1
   ·exact hp p hpp
  rw [List.length_cons, List.range'_succ]
  simp only [gT, hd]
  refine ⟨g1, ?_, ?_⟩
  ·by_cases hc : isChainOp o.op = true
   ·rw [if_pos hc] at g2 ⊢; exact gPe_gP pd hp g2
   ·rw [if_neg hc]; trivial
  ·rw [want_eq]
   cases hw : wantD (os.map (·.dst)) T o with
   | none => rw [hw] at g3; exact g3.elim
   | some b =>
    rw [hw] at g3
    cases b with
    | false =>
     simp only [gW] at g3 ⊢
     rw [← pendU0_pd]
     exact ih _ _ _ hU0 g3
    | true =>
     simp only [gW, gQ] at g3 ⊢
     cases hr : aReq P T o with
     | some x =>
      obtain ⟨t, vs⟩ := x
      rw [hr] at g3
      refine wpF_mono g3 fun v h' ⟨a2, a3⟩ => ⟨a2, ?_⟩
      rw [← pendU_pd]; exact ih _ _ _ (hU v) a3
     | none =>
      rw [hr] at g3
      simp only [gR] at g3 ⊢
      cases ha : aOp P T h o with
      | none => rw [ha] at g3; exact g3.elim
      | some x =>
       obtain ⟨v, h'⟩ := x
       rw [ha] at g3
       obtain ⟨a2, a3⟩ := g3
       refine ⟨a2, ?_⟩
       rw [← pendU_pd]; exact ih _ _ _ (hU v) a3

variable {rnd : Bool} {id : Nat} {os : List Oper} {b : Code} {T : List Value} {h : AHeap} {K : AExit → List Value → AHeap → Prop}
theorem su (ds : List (Option Nat)) (n : Nat) (ms : List Nat) (hl : os.length = n) (hd : os.map (·.dst) = ds) (hi : canon os.toArray = List.range' 0 n) (hs : staticOK os.toArray = true) (hms : (List.range' 0 n).map (fun i => (cms os []).getD i 0) = ms)
  (hw : ∀ L : List Value → AHeap → Prop, (∀ T h, wpC P sz rnd b T h K → L T h) → gU P sz ds os 0 ms [] T h L) : wpC P sz rnd (.seq (.region id os.toArray true) b) T h K := by
 subst hl; subst hd
 exact wpC_seqd (List.range' 0 os.length) ms hi hs hms (gU_gT os [] 0 ms [] T h rfl rfl (fun _ k => by cases k) (hw _ fun _ _ k => k))
theorem du (ds : List (Option Nat)) (n : Nat) (ms : List Nat) (hl : os.length = n) (hd : os.map (·.dst) = ds) (hi : canon os.toArray = List.range' 0 n) (hs : staticOK os.toArray = true) (hms : (List.range' 0 n).map (fun i => (cms os []).getD i 0) = ms)
  (hw : ∀ L : List Value → AHeap → Prop, (∀ T h, K .normal T h → L T h) → gU P sz ds os 0 ms [] T h L) : wpC P sz rnd (.region id os.toArray true) T h K := by
 subst hl; subst hd
 exact wpC_draw (List.range' 0 os.length) ms hi hs hms (gU_gT os [] 0 ms [] T h rfl rfl (fun _ k => by cases k) (hw _ fun _ _ k => k))
end
end Go.Ox
