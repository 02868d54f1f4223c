/-
 REGIONS THAT DRAW THEIR ORDER, part 3: as a computation.
-/
import Derived.Test.YtfcajloeknedeaaGreatOxJ
set_option linter.unusedSimpArgs false
set_option linter.unusedVariables false
namespace Go.Ox

def isChainOp : Op → Bool
 | .store .. | .mapUpdate .. | .insert .. => true
 | .call { callee := .builtin b, .. } => match b with
  | .len | .min | .max => false
  | _ => true
 | .call _ => true
 | _ => false

def isAllocOp : Op → Bool
 | .alloc _ | .box .. | .buildSlice .. | .makeMap .. | .makeSlice .. => true
 | _ => false

def readsHeap : Op → Bool
 | .load .. | .lookup .. | .slice .. | .call _ => true
 | _ => false

def dmask (o : Oper) : Nat := o.after.toList.foldl (fun s e => if Region.binds .any e then s ||| 2 ^ e.on else s) 0

def canonGo (info : List (Nat × Nat × Bool)) : Nat → Nat → List Nat
 | 0, _ => []
 | n + 1, L =>
  let ready := info.filter fun x => !L.testBit x.1 && (x.2.1 &&& L == x.2.1)
  match ready.find? fun x => !x.2.2 with
  | some x => x.1 :: canonGo info n (L ||| 2 ^ x.1)
  | none => match ready with
   | x :: _ => x.1 :: canonGo info n (L ||| 2 ^ x.1)
   | [] => []

/-- The order in which the abstract side goes: what acts as late as it may. -/
def canon (ops : Array Oper) : List Nat := canonGo (ops.toList.zipIdx.map fun x => (x.2, dmask x.1, isChainOp x.1.op)) ops.size 0

def cmask (o : Oper) (acc : List Nat) : Nat := o.after.toList.foldl (fun s e => if Region.binds .any e then s ||| 2 ^ e.on ||| acc.getD e.on 0 else s) 0
def cms : List Oper → List Nat → List Nat
 | [], acc => acc
 | o :: os, acc => cms os (acc ++ [cmask o acc])

def pairOK (ops : Array Oper) (cm : List Nat) (i j : Nat) : Bool :=
 (cm.getD j 0).testBit i || (!isChainOp (ops.getD i default).op && (ops.getD i default).apart ops (ops.getD j default))

def pairsOK (ops : Array Oper) (cm : List Nat) : List Nat → Bool
 | [] => true
 | i :: rest => rest.all (pairOK ops cm i) && pairsOK ops cm rest

def nodupB : List Nat → Bool
 | [] => true
 | i :: rest => !rest.contains i && nodupB rest

def backOK : List Oper → Nat → Bool
 | [], _ => true
 | o :: os, k => o.after.all (fun e => !Region.binds .any e || decide (e.on < k)) && backOK os (k + 1)

def staticOK (ops : Array Oper) : Bool :=
 let l := canon ops
 l.length == ops.size && l.all (fun i => decide (i < ops.size)) && (List.range ops.size).all (fun i => l.contains i) && nodupB l && backOK ops.toList 0 && pairsOK ops (cms ops.toList []) l

theorem or_fold {l : List Edge} {f : Edge → Nat} {g : Edge → Nat} {i : Nat} : ∀ {s : Nat}, (l.foldl (fun s e => if Region.binds .any e then s ||| f e ||| g e else s) s).testBit i = true →
  s.testBit i = true ∨ ∃ e ∈ l, Region.binds .any e = true ∧ ((f e).testBit i = true ∨ (g e).testBit i = true) := by
 induction l with
 | nil => intro s h; exact .inl h
 | cons e l ih =>
  intro s h
  simp only [List.foldl_cons] at h
  rcases ih h with h1 | ⟨e', h1, h2, h3⟩
  ·split at h1
   ·rename_i hb
    simp only [Nat.testBit_or, Bool.or_eq_true] at h1
    rcases h1 with (h1 | h1) | h1
    ·exact .inl h1
    ·exact .inr ⟨e, by simp, hb, .inl h1⟩
    ·exact .inr ⟨e, by simp, hb, .inr h1⟩
   ·exact .inl h1
  ·exact .inr ⟨e', by simp [h1], h2, h3⟩

theorem cms_spec {ops : Array Oper} : ∀ (os : List Oper) (acc : List Nat) (k : Nat), acc.length = k → (∀ j, os[j]? = ops[k + j]?) → (∀ j i, j < k → (acc.getD j 0).testBit i = true → Pre ops i j) →
  ∀ j i, ((cms os acc).getD j 0).testBit i = true → Pre ops i j := by
 intro os
 induction os with
 | nil =>
  intro acc k hk _ h j i hb
  simp only [cms] at hb
  rcases Nat.lt_or_ge j k with h1 | h1
  ·exact h j i h1 hb
  ·rw [List.getD_eq_getElem?_getD, List.getElem?_eq_none (by omega)] at hb; simp at hb
 | cons o os ih =>
  intro acc k hk hos h
  have h0 : ops[k]? = some o := by simpa using (hos 0).symm
  refine ih (acc ++ [cmask o acc]) (k + 1) (by simp [hk]) (fun j => by have := hos (j + 1); simpa [Nat.add_assoc, Nat.add_comm 1 j] using this) (fun j i hj hb => ?_)
  rcases Nat.lt_or_ge j k with h1 | h1
  ·rw [List.getD_eq_getElem?_getD, List.getElem?_append_left (by omega), ← List.getD_eq_getElem?_getD] at hb
   exact h j i h1 hb
  ·have hjk : j = k := by omega
   subst hjk
   rw [List.getD_eq_getElem?_getD, List.getElem?_append_right (by omega)] at hb
   rw [hk, Nat.sub_self] at hb
   simp only [List.getElem?_cons_zero, Option.getD_some] at hb
   rcases or_fold hb with h2 | ⟨e, h2, h3, h4⟩
   ·simp at h2
   ·intro S hS hj'
    have hon := hS j o h0 hj' e (by simpa using h2) h3
    rcases h4 with h4 | h4
    ·rw [Nat.testBit_two_pow] at h4
     have : e.on = i := by simpa using h4
     rw [← this]; exact hon
    ·by_cases hlt : e.on < j
     ·exact h e.on i hlt h4 S hS hon
     ·rw [List.getD_eq_getElem?_getD, List.getElem?_eq_none (by omega)] at h4; simp at h4

theorem backOK_spec {ops : Array Oper} : ∀ (os : List Oper) (k : Nat), backOK os k = true → (∀ j, os[j]? = ops[k + j]?) → ∀ i o, k ≤ i → ops[i]? = some o → ∀ e ∈ o.after, Region.binds .any e = true → e.on < i := by
 intro os
 induction os with
 | nil =>
  intro k _ hos i o hk ho
  have := hos (i - k)
  rw [show k + (i - k) = i by omega, ho] at this; simp at this
 | cons q os ih =>
  intro k hb hos i o hk ho e he hbi
  simp only [backOK, Bool.and_eq_true] at hb
  by_cases hik : i = k
  ·subst hik
   have h0 : ops[i]? = some q := by simpa using (hos 0).symm
   rw [ho] at h0; obtain rfl := Option.some.inj h0
   have := Array.all_eq_true_iff_forall_mem.1 hb.1 e he
   rw [hbi] at this; simpa using this
  ·exact ih (k + 1) hb.2 (fun j => by have := hos (j + 1); simpa [Nat.add_assoc, Nat.add_comm 1 j] using this) i o (by omega) ho e he hbi

theorem nodupB_spec : ∀ {l : List Nat}, nodupB l = true → l.Nodup
 | [], _ => List.nodup_nil
 | i :: l, h => by
  simp only [nodupB, Bool.and_eq_true, Bool.not_eq_true', List.contains_eq_mem, decide_eq_false_iff_not] at h
  exact List.nodup_cons.2 ⟨h.1, nodupB_spec h.2⟩

theorem pairsOK_spec {ops : Array Oper} {cm : List Nat} : ∀ {l : List Nat}, pairsOK ops cm l = true → l.Pairwise fun i j => pairOK ops cm i j = true
 | [], _ => List.Pairwise.nil
 | i :: l, h => by
  simp only [pairsOK, Bool.and_eq_true, List.all_eq_true] at h
  exact List.pairwise_cons.2 ⟨h.1, pairsOK_spec h.2⟩

/-! ### The run along that order -/
structure Rec where
 T : List Value
 h : AHeap
 v : Value
 w : Bool

section
variable {P : Program}

def aTrace (P : Program) (call : CallFn) (sz : Nat) (ops : Array Oper) : List Nat → List Value → AHeap → Option (List Rec × List Value × AHeap)
 | [], T, h => some ([], T, h)
 | i :: is, T, h =>
  let o := ops.getD i default
  if dstOK sz o.dst then
   match aWanted ops T o with
   | some true => match aRun P call T h o with
    | some (v, h') => if h'.next < h.next then none else match aTrace P call sz ops is (tputO o.dst v T) h' with
     | some (rs, T', h'') => some (⟨T, h, v, true⟩ :: rs, T', h'')
     | none => none
    | none => none
   | some false => match aTrace P call sz ops is (tputO o.dst undef T) h with
    | some (rs, T', h'') => some (⟨T, h, undef, false⟩ :: rs, T', h'')
    | none => none
   | none => none
  else none

def recT (rs : List Rec) (T : List Value) (q : Nat) : List Value := match rs[q]? with
 | some r => r.T
 | none => T
def recH (rs : List Rec) (h : AHeap) (q : Nat) : AHeap := match rs[q]? with
 | some r => r.h
 | none => h

theorem aTrace_spec {call : CallFn} {sz : Nat} {ops : Array Oper} : ∀ (is : List Nat) (T : List Value) (h : AHeap) (rs : List Rec) (T' : List Value) (h' : AHeap), aTrace P call sz ops is T h = some (rs, T', h') →
  rs.length = is.length ∧ recT rs T' 0 = T ∧ recH rs h' 0 = h ∧ ∀ q i, is[q]? = some i → ∃ r, rs[q]? = some r ∧ dstOK sz (ops.getD i default).dst = true ∧ recT rs T' (q + 1) = tputO (ops.getD i default).dst r.v r.T ∧ r.h.next ≤ (recH rs h' (q + 1)).next ∧
   ((aWanted ops r.T (ops.getD i default) = some false ∧ r.v = undef ∧ recH rs h' (q + 1) = r.h ∧ r.w = false) ∨ (aWanted ops r.T (ops.getD i default) = some true ∧ r.w = true ∧ aRun P call r.T r.h (ops.getD i default) = some (r.v, recH rs h' (q + 1)))) := by
 intro is
 induction is with
 | nil =>
  intro T h rs T' h' hs
  simp only [aTrace, Option.some.injEq, Prod.mk.injEq] at hs
  obtain ⟨rfl, rfl, rfl⟩ := hs
  exact ⟨rfl, rfl, rfl, fun q i hq => by simp at hq⟩
 | cons i is ih =>
  intro T h rs T' h' hs
  simp only [aTrace] at hs
  have shiftT : ∀ (r : Rec) (rs : List Rec) (q : Nat), recT (r :: rs) T' (q + 1) = recT rs T' q := fun r rs q => by simp [recT]
  have shiftH : ∀ (r : Rec) (rs : List Rec) (q : Nat), recH (r :: rs) h' (q + 1) = recH rs h' q := fun r rs q => by simp [recH]
  split at hs
  ·rename_i hdst
   split at hs
   ·rename_i hw
    split at hs
    ·rename_i v h1 hrun
     split at hs
     ·cases hs
     rename_i hmono
     split at hs
     ·rename_i rs' T2 h2 htr
      simp only [Option.some.injEq, Prod.mk.injEq] at hs
      obtain ⟨rfl, rfl, rfl⟩ := hs
      obtain ⟨k1, k2, k3, k4⟩ := ih _ _ _ _ _ htr
      refine ⟨by simp [k1], rfl, rfl, fun q j hq => ?_⟩
      cases q with
      | zero =>
       simp at hq; subst hq
       refine ⟨⟨T, h, v, true⟩, rfl, hdst, by rw [shiftT]; exact k2, by rw [shiftH, k3]; simp only; omega, .inr ⟨hw, rfl, ?_⟩⟩
       rw [shiftH, k3]; exact hrun
      | succ q =>
       simp only [List.getElem?_cons_succ] at hq
       obtain ⟨r, f1, f2, f3, f4, f5⟩ := k4 q j hq
       refine ⟨r, by simpa using f1, f2, by rw [shiftT]; exact f3, by rw [shiftH]; exact f4, ?_⟩
       rw [shiftH]; exact f5
     ·cases hs
    ·cases hs
   ·rename_i hw
    split at hs
    ·rename_i rs' T2 h2 htr
     simp only [Option.some.injEq, Prod.mk.injEq] at hs
     obtain ⟨rfl, rfl, rfl⟩ := hs
     obtain ⟨k1, k2, k3, k4⟩ := ih _ _ _ _ _ htr
     refine ⟨by simp [k1], rfl, rfl, fun q j hq => ?_⟩
     cases q with
     | zero =>
      simp at hq; subst hq
      exact ⟨⟨T, h, undef, false⟩, rfl, hdst, by rw [shiftT]; exact k2, by rw [shiftH, k3]; exact Nat.le_refl _, .inl ⟨hw, rfl, by rw [shiftH, k3], rfl⟩⟩
     | succ q =>
      simp only [List.getElem?_cons_succ] at hq
      obtain ⟨r, f1, f2, f3, f4, f5⟩ := k4 q j hq
      refine ⟨r, by simpa using f1, f2, by rw [shiftT]; exact f3, by rw [shiftH]; exact f4, ?_⟩
      rw [shiftH]; exact f5
    ·cases hs
   ·cases hs
  ·cases hs

/-! ### The same value -/
def veq : Nat → Value → Value → Bool
 | _, .int k a, .int j b => decide (k = j) && decide (a = b)
 | _, .bool a, .bool b => decide (a = b)
 | _, .string a, .string b => decide (a = b)
 | _, .pointer a, .pointer b => decide (a = b)
 | _, .slice a l c, .slice b m d => decide (a = b) && decide (l = m) && decide (c = d)
 | _, .map a, .map b => decide (a = b)
 | _, .chan a, .chan b => decide (a = b)
 | _, .nilFunc, .nilFunc => true
 | _, .nilIface, .nilIface => true
 | n + 1, .iface t v, .iface u w => decide (t = u) && veq n v w
 | n + 1, .agg a, .agg b => decide (a.toList.length = b.toList.length) && (a.toList.zip b.toList).all fun p => veq n p.1 p.2
 | n + 1, .tuple a, .tuple b => decide (a.toList.length = b.toList.length) && (a.toList.zip b.toList).all fun p => veq n p.1 p.2
 | n + 1, .func f a b, .func g c d => decide (f = g) && decide (a.toList.length = c.toList.length) && decide (b.toList.length = d.toList.length) &&
   ((a.toList.zip c.toList).all fun p => veq n p.1 p.2) && (b.toList.zip d.toList).all fun p => veq n p.1 p.2
 | _, _, _ => false

theorem veqs_eq {n : Nat} (ih : ∀ a b, veq n a b = true → a = b) : ∀ {xs ys : List Value}, xs.length = ys.length → (xs.zip ys).all (fun p => veq n p.1 p.2) = true → xs = ys
 | [], [], _, _ => rfl
 | [], _ :: _, h, _ => by simp at h
 | _ :: _, [], h, _ => by simp at h
 | x :: xs, y :: ys, h, h' => by
  simp only [List.zip_cons_cons, List.all_cons, Bool.and_eq_true] at h'
  rw [ih x y h'.1, veqs_eq ih (by simpa using h) h'.2]

theorem veq_eq : ∀ (n : Nat) (a b : Value), veq n a b = true → a = b := by
 intro n
 induction n with
 | zero => intro a b h; cases a <;> cases b <;> simp_all [veq]
 | succ n ih =>
  intro a b h
  cases a <;> cases b <;> simp only [veq, Bool.and_eq_true, decide_eq_true_eq, Bool.false_eq_true] at h <;> try first | rfl | (simp_all; done)
  case func.func f a b g c d =>
   obtain ⟨⟨⟨⟨rfl, h1⟩, h2⟩, h3⟩, h4⟩ := h
   rw [Array.toList_inj.1 (veqs_eq ih h1 h3), Array.toList_inj.1 (veqs_eq ih h2 h4)]
  case iface.iface t v u w => rw [h.1, ih v w h.2]
  case agg.agg a b => rw [Array.toList_inj.1 (veqs_eq ih h.1 h.2)]
  case tuple.tuple a b => rw [Array.toList_inj.1 (veqs_eq ih h.1 h.2)]

def sameRead (r : Option (Value × AHeap)) (v : Value) : Bool := match r with
 | some (v', _) => veq 6 v' v
 | none => false

def dynFrom (P : Program) (cm : List Nat) (i : Nat) (T : List Value) (v : Value) (o : Oper) (hN : AHeap) : List (Nat × Bool × AHeap) → Bool
 | [] => sameRead (aOp P T hN o) v
 | (k, ch, hk) :: rest =>
  if ch then sameRead (aOp P T hk o) v && ((cm.getD k 0).testBit i || dynFrom P cm i T v o hN rest)
  else dynFrom P cm i T v o hN rest

def later (ops : Array Oper) : List Nat → List Rec → List (Nat × Bool × AHeap)
 | i :: is, r :: rs => (i, isChainOp (ops.getD i default).op, r.h) :: later ops is rs
 | _, _ => []

def dynOK (P : Program) (ops : Array Oper) (cm : List Nat) (hN : AHeap) : List Nat → List Rec → Bool
 | i :: is, r :: rs =>
  let o := ops.getD i default
  (!(r.w && readsHeap o.op && !isChainOp o.op) || dynFrom P cm i r.T r.v o hN (later ops is rs)) && dynOK P ops cm hN is rs
 | _, _ => true

def aDraw (P : Program) (call : CallFn) (sz : Nat) (ops : Array Oper) (T : List Value) (h : AHeap) : Option (List Value × AHeap) :=
 if staticOK ops then
  match aTrace P call sz ops (canon ops) T h with
  | some (rs, T', h') => if dynOK P ops (cms ops.toList []) h' (canon ops) rs then some (T', h') else none
  | none => none
 else none
end
end Go.Ox
