/-
 REASONING ABOUT THE ABSTRACT RUN, part 3: what operations come to, one law each (for simp).
-/
import Derived.Test.YtfcajloeknedeaaGreatOxQ
set_option linter.unusedSimpArgs false
set_option linter.unusedVariables false
namespace Go.Ox

/-! ### slots -/
theorem tget_zero (x : Value) (xs : List Value) : tget (x :: xs) 0 = x := congrArg id rfl
theorem tget_succ (x : Value) (xs : List Value) (n : Nat) : tget (x :: xs) (n + 1) = tget xs n := congrArg id rfl
theorem tput_zero (x v : Value) (xs : List Value) : tput (x :: xs) 0 v = v :: xs := congrArg id rfl
theorem tput_succ (x v : Value) (xs : List Value) (n : Nat) : tput (x :: xs) (n + 1) v = x :: tput xs n v := congrArg id rfl
theorem tput_nil_zero (v : Value) : tput [] 0 v = [v] := congrArg id rfl
theorem tput_nil_succ (v : Value) (n : Nat) : tput [] (n + 1) v = undef :: tput [] n v := congrArg id rfl
theorem tputO_some (d : Nat) (v : Value) (T : List Value) : tputO (some d) v T = tput T d v := congrArg id rfl
theorem tputO_none (v : Value) (T : List Value) : tputO none v T = T := congrArg id rfl
theorem dstOK_some (sz d : Nat) : dstOK sz (some d) = decide (d < sz) := congrArg id rfl
theorem dstOK_none (sz : Nat) : dstOK sz none = true := congrArg id rfl

/-! ### operands -/
section
variable {P : Program} {T : List Value} {h : AHeap} {dst : Option Tmp} {ty : TypeId} {pos : String} {af : Array Edge} {gu : Option (Nat × Bool)}
theorem aev_tmp (t : Nat) : aev T (.tmp t) = some (tget T t) := congrArg id rfl
theorem aev_fn (f : FuncId) : aev T (.func f) = some (.func (.func f) #[] #[]) := congrArg id rfl
theorem aev_int (k : IntKind) (n : Int) : aev T (.const (.int k n)) = some (.int k n) := congrArg id rfl
theorem aev_bool (b : Bool) : aev T (.const (.bool b)) = some (.bool b) := congrArg id rfl
theorem aev_str (s : ByteArray) : aev T (.const (.string s)) = some (.string s) := congrArg id rfl
theorem aev_pnil : aev T (.const (.pointer none)) = some (.pointer none) := congrArg id rfl
theorem aev_snil (l c : Nat) : aev T (.const (.slice none l c)) = some (.slice none l c) := congrArg id rfl
theorem aev_mnil : aev T (.const (.map none)) = some (.map none) := congrArg id rfl
theorem aev_fnil : aev T (.const .nilFunc) = some .nilFunc := congrArg id rfl
theorem aev_inil : aev T (.const .nilIface) = some .nilIface := congrArg id rfl

def oc {α : Type} : Option α → Option (List α) → Option (List α)
 | some a, some b => some (a :: b)
 | _, _ => none
theorem oc_some {α : Type} (a : α) (b : List α) : oc (some a) (some b) = some (a :: b) := congrArg id rfl
theorem aevs_nil : aevs T [] = some [] := congrArg id rfl
theorem aevs_cons (x : Operand) (xs : List Operand) : aevs T (x :: xs) = oc (aev T x) (aevs T xs) := by
 unfold oc
 conv => lhs; unfold aevs
 cases aev T x <;> cases aevs T xs <;> rfl
theorem aevp_nil : aevp T [] = some [] := congrArg id rfl
theorem aevp_cons (i : Nat) (x : Operand) (xs : List (Nat × Operand)) : aevp T ((i, x) :: xs) = oc ((aev T x).map fun v => (i, v)) (aevp T xs) := by
 unfold oc
 conv => lhs; unfold aevp
 cases aev T x <;> cases aevp T xs <;> rfl
theorem aevo_none : aevo T none = some none := congrArg id rfl
theorem aevo_some (x : Operand) : aevo T (some x) = (aev T x).map some := by
 simp only [aevo]
 cases aev T x <;> rfl

/-! ### is it wanted -/
def wB : Value → Bool → Option Bool
 | .bool b, w => some (b == w)
 | .tuple _, _ => some false
 | _, _ => none
theorem wB_bool (b w : Bool) : wB (.bool b) w = some (b == w) := congrArg id rfl
theorem wB_undef (w : Bool) : wB undef w = some false := congrArg id rfl
def wD (T : List Value) : Option Nat → Bool → Option Bool
 | some d, w => wB (tget T d) w
 | none, _ => some false
theorem wD_some (d : Nat) (w : Bool) : wD T (some d) w = wB (tget T d) w := congrArg id rfl
def dstAt : List Oper → Nat → Option Nat
 | [], _ => none
 | o :: _, 0 => o.dst
 | _ :: os, n + 1 => dstAt os n
theorem dstAt_eq : ∀ (os : List Oper) (n : Nat), (os[n]?).bind (·.dst) = dstAt os n
 | [], n => rfl
 | o :: os, 0 => rfl
 | o :: os, n + 1 => by simp only [List.getElem?_cons_succ, dstAt]; exact dstAt_eq os n
theorem dstAt_zero {op : Op} (os : List Oper) : dstAt (⟨dst, op, ty, pos, af, gu⟩ :: os) 0 = dst := congrArg id rfl
theorem dstAt_succ {o : Oper} (os : List Oper) (n : Nat) : dstAt (o :: os) (n + 1) = dstAt os n := congrArg id rfl
theorem aW_none {ops : Array Oper} {op : Op} : aWanted ops T ⟨dst, op, ty, pos, af, none⟩ = some true := congrArg id rfl
theorem aW_some {os : List Oper} {op : Op} (j : Nat) (w : Bool) : aWanted os.toArray T ⟨dst, op, ty, pos, af, some (j, w)⟩ = wD T (dstAt os j) w := by
 unfold aWanted
 simp only [List.getElem?_toArray, dstAt_eq]
 cases dstAt os j with
 | none => rfl
 | some d => simp only [wD]; cases tget T d <;> rfl

/-! ### calls -/
def rqV : Option Value → Option (List Value) → Option (Tgt × List Value)
 | some (.func (.func g) xs us), some vs => some (.fn g, xs.toList ++ vs ++ us.toList)
 | some (.func (.yield β) xs us), some vs => if xs.size = 0 ∧ us.size = 0 then some (.yield β, vs) else none
 | _, _ => none
theorem rqV_fn (g : FuncId) (xs us vs : List Value) : rqV (some (.func (.func g) xs.toArray us.toArray)) (some vs) = some (.fn g, xs ++ vs ++ us) := congrArg id rfl
theorem aReq_call (f : Operand) (as : List Operand) (ts : Array TypeId) : aReq P T ⟨dst, .call ⟨.value f, as.toArray, ts⟩, ty, pos, af, gu⟩ = rqV (aev T f) (aevs T as) := congrArg id rfl
theorem aReq_bi (b : Builtin) (as : Array Operand) (ts : Array TypeId) : aReq P T ⟨dst, .call ⟨.builtin b, as, ts⟩, ty, pos, af, gu⟩ = none := congrArg id rfl
theorem aReq_move (x : Operand) : aReq P T ⟨dst, .move x, ty, pos, af, gu⟩ = none := congrArg id rfl
theorem aReq_assign (x : Operand) : aReq P T ⟨dst, .assign x, ty, pos, af, gu⟩ = none := congrArg id rfl
theorem aReq_pick (x y z : Operand) : aReq P T ⟨dst, .pick x y z, ty, pos, af, gu⟩ = none := congrArg id rfl
theorem aReq_alloc (t : TypeId) : aReq P T ⟨dst, .alloc t, ty, pos, af, gu⟩ = none := congrArg id rfl
theorem aReq_box (t : TypeId) (x : Operand) : aReq P T ⟨dst, .box t x, ty, pos, af, gu⟩ = none := congrArg id rfl
theorem aReq_build (t : TypeId) (x : Array (Nat × Operand)) : aReq P T ⟨dst, .build t x, ty, pos, af, gu⟩ = none := congrArg id rfl
theorem aReq_buildSlice (t : TypeId) (n : Nat) (x : Array (Nat × Operand)) : aReq P T ⟨dst, .buildSlice t n x, ty, pos, af, gu⟩ = none := congrArg id rfl
theorem aReq_insert (t : TypeId) (x y z : Operand) : aReq P T ⟨dst, .insert t x y z, ty, pos, af, gu⟩ = none := congrArg id rfl
theorem aReq_load (t : TypeId) (x : Operand) : aReq P T ⟨dst, .load t x, ty, pos, af, gu⟩ = none := congrArg id rfl
theorem aReq_store (t : TypeId) (x y : Operand) : aReq P T ⟨dst, .store t x y, ty, pos, af, gu⟩ = none := congrArg id rfl
theorem aReq_nilCheck (x : Operand) : aReq P T ⟨dst, .nilCheck x, ty, pos, af, gu⟩ = none := congrArg id rfl
theorem aReq_bin (o : BinOp) (t u : TypeId) (x y : Operand) : aReq P T ⟨dst, .binOp o t x y u, ty, pos, af, gu⟩ = none := congrArg id rfl
theorem aReq_un (o : UnOp) (t : TypeId) (x : Operand) : aReq P T ⟨dst, .unOp o t x, ty, pos, af, gu⟩ = none := congrArg id rfl
theorem aReq_conv (t u : TypeId) (x : Operand) : aReq P T ⟨dst, .convert t u x, ty, pos, af, gu⟩ = none := congrArg id rfl
theorem aReq_mkI (t : TypeId) (x : Operand) : aReq P T ⟨dst, .makeInterface t x, ty, pos, af, gu⟩ = none := congrArg id rfl
theorem aReq_mkF (f : Fn) (x y : Array Operand) : aReq P T ⟨dst, .makeFunc f x y, ty, pos, af, gu⟩ = none := congrArg id rfl
theorem aReq_mkM (t : TypeId) (r : Option Operand) : aReq P T ⟨dst, .makeMap t r, ty, pos, af, gu⟩ = none := congrArg id rfl
theorem aReq_mkS (t : TypeId) (x y : Operand) : aReq P T ⟨dst, .makeSlice t x y, ty, pos, af, gu⟩ = none := congrArg id rfl
theorem aReq_slice (t : TypeId) (x : Operand) (a b c : Option Operand) : aReq P T ⟨dst, .slice t x a b c, ty, pos, af, gu⟩ = none := congrArg id rfl
theorem aReq_fa (t : TypeId) (x : Operand) (f : Nat) : aReq P T ⟨dst, .fieldAddr t x f, ty, pos, af, gu⟩ = none := congrArg id rfl
theorem aReq_fv (t : TypeId) (x : Operand) (f : Nat) : aReq P T ⟨dst, .field t x f, ty, pos, af, gu⟩ = none := congrArg id rfl
theorem aReq_ia (t : TypeId) (x i : Operand) : aReq P T ⟨dst, .indexAddr t x i, ty, pos, af, gu⟩ = none := congrArg id rfl
theorem aReq_ix (t : TypeId) (x i : Operand) : aReq P T ⟨dst, .index t x i, ty, pos, af, gu⟩ = none := congrArg id rfl
theorem aReq_lookup (t : TypeId) (x i : Operand) (b : Bool) : aReq P T ⟨dst, .lookup t x i b, ty, pos, af, gu⟩ = none := congrArg id rfl
theorem aReq_mu (t : TypeId) (x y z : Operand) : aReq P T ⟨dst, .mapUpdate t x y z, ty, pos, af, gu⟩ = none := congrArg id rfl
theorem aReq_ext (x : Operand) (i : Nat) : aReq P T ⟨dst, .extract x i, ty, pos, af, gu⟩ = none := congrArg id rfl

/-! ### operations -/
def o1 (f : Value → Option (Value × AHeap)) : Option Value → Option (Value × AHeap)
 | some a => f a
 | none => none
def o2 (f : Value → Value → Option (Value × AHeap)) : Option Value → Option Value → Option (Value × AHeap)
 | some a, some b => f a b
 | _, _ => none
def o3 (f : Value → Value → Value → Option (Value × AHeap)) : Option Value → Option Value → Option Value → Option (Value × AHeap)
 | some a, some b, some c => f a b c
 | _, _, _ => none
def oL {α : Type} (f : List α → Option (Value × AHeap)) : Option (List α) → Option (Value × AHeap)
 | some a => f a
 | none => none
theorem o1_some (f : Value → Option (Value × AHeap)) (a : Value) : o1 f (some a) = f a := congrArg id rfl
theorem o2_some (f : Value → Value → Option (Value × AHeap)) (a b : Value) : o2 f (some a) (some b) = f a b := congrArg id rfl
theorem o3_some (f : Value → Value → Value → Option (Value × AHeap)) (a b c : Value) : o3 f (some a) (some b) (some c) = f a b c := congrArg id rfl
theorem oL_some {α : Type} (f : List α → Option (Value × AHeap)) (a : List α) : oL f (some a) = f a := congrArg id rfl
def nw (h : AHeap) : Option (ABlk × (Nat → Value)) → Option (Value × AHeap)
 | some (b, mk) => some (mk h.next, h.push b)
 | none => none
theorem nw_some (b : ABlk) (mk : Nat → Value) : nw h (some (b, mk)) = some (mk h.next, h.push b) := congrArg id rfl
theorem still_eq (v : Value) : still h (some v) = some (v, h) := congrArg id rfl
theorem skips_eq : skips (some h) = some (undef, h) := congrArg id rfl

theorem aOp_move (x : Operand) : aOp P T h ⟨dst, .move x, ty, pos, af, gu⟩ = still h (aev T x) := congrArg id rfl
theorem aOp_assign (x : Operand) : aOp P T h ⟨dst, .assign x, ty, pos, af, gu⟩ = still h (aev T x) := congrArg id rfl
def pk (h : AHeap) : Option Value → Option Value → Option Value → Option (Value × AHeap)
 | some (.bool t), a, b => still h (if t = true then a else b)
 | _, _, _ => none
theorem pk_eq (t : Bool) (a b : Option Value) : pk h (some (.bool t)) a b = still h (if t = true then a else b) := congrArg id rfl
theorem aOp_pick (x y z : Operand) : aOp P T h ⟨dst, .pick x y z, ty, pos, af, gu⟩ = pk h (aev T x) (aev T y) (aev T z) := by
 simp only [aOp, pk]
 split <;> first | (rename_i t e; rw [e]; cases t <;> rfl) | (split <;> simp_all)
def alc (P : Program) (t : TypeId) : Option (ABlk × (Nat → Value)) := (P.info? t).bind fun i => i.zero.bind fun z => if plain 6 z then some (.cells false 0 z.cells.toList t, ptrTo) else none
theorem aOp_alloc (t : TypeId) : aOp P T h ⟨dst, .alloc t, ty, pos, af, gu⟩ = nw h (alc P t) := by
 simp only [aOp, aAlloc, alc]
 cases P.info? t with
 | none => rfl
 | some i => cases hz : i.zero with
  | none => simp [hz, nw]
  | some z => simp only [hz, Option.bind_some]; by_cases hp : plain 6 z = true <;> simp [hp, nw]
theorem aOp_box (t : TypeId) (x : Operand) : aOp P T h ⟨dst, .box t x, ty, pos, af, gu⟩ = o1 (fun v => some (ptrTo h.next, h.push (.cells false 0 v.cells.toList t))) (aev T x) := by
 simp only [aOp, aAlloc]; cases aev T x <;> rfl
theorem aOp_build (t : TypeId) (ps : List (Nat × Operand)) : aOp P T h ⟨dst, .build t ps.toArray, ty, pos, af, gu⟩ = oL (fun vs => still h (aBuild P t vs)) (aevp T ps) := by
 simp only [aOp]; cases aevp T ps <;> rfl
theorem aOp_buildSlice (t : TypeId) (n : Nat) (ps : List (Nat × Operand)) : aOp P T h ⟨dst, .buildSlice t n ps.toArray, ty, pos, af, gu⟩ = oL (fun vs => nw h (bBuildSlice P t n vs)) (aevp T ps) := by
 simp only [aOp, aAlloc]
 cases aevp T ps with
 | none => rfl
 | some vs => simp only [oL]; cases bBuildSlice P t n vs <;> rfl
theorem aOp_makeMap (t : TypeId) (r : Option Operand) : aOp P T h ⟨dst, .makeMap t r, ty, pos, af, gu⟩ = match aevo T r with
  | some r => nw h (bMakeMap P t r)
  | none => none := by
 simp only [aOp, aAlloc]
 cases aevo T r with
 | none => rfl
 | some vs => simp only []; cases bMakeMap P t vs <;> rfl
theorem aOp_makeSlice (t : TypeId) (x y : Operand) : aOp P T h ⟨dst, .makeSlice t x y, ty, pos, af, gu⟩ = o2 (fun a b => nw h (bMakeSlice P t a b)) (aev T x) (aev T y) := by
 simp only [aOp, aAlloc]
 cases aev T x with
 | none => rfl
 | some a => cases aev T y with
  | none => rfl
  | some b => simp only [o2]; cases bMakeSlice P t a b <;> rfl
def ld (P : Program) (h : AHeap) (t : TypeId) : Value → Option (Value × AHeap)
 | .pointer (some a) => still h (aLoad P h t a)
 | _ => none
theorem ld_eq (t : TypeId) (a : Addr) : ld P h t (.pointer (some a)) = still h (aLoad P h t a) := congrArg id rfl
theorem aOp_load (t : TypeId) (x : Operand) : aOp P T h ⟨dst, .load t x, ty, pos, af, gu⟩ = o1 (ld P h t) (aev T x) := by
 simp only [aOp]
 cases aev T x with
 | none => rfl
 | some v => cases v <;> first | rfl | (rename_i a; cases a <;> rfl)
def st (P : Program) (h : AHeap) (t : TypeId) : Value → Value → Option (Value × AHeap)
 | .pointer (some a), v => skips (aStore P h t a v)
 | _, _ => none
theorem st_eq (t : TypeId) (a : Addr) (v : Value) : st P h t (.pointer (some a)) v = skips (aStore P h t a v) := congrArg id rfl
theorem aOp_store (t : TypeId) (x y : Operand) : aOp P T h ⟨dst, .store t x y, ty, pos, af, gu⟩ = o2 (st P h t) (aev T x) (aev T y) := by
 simp only [aOp]
 cases aev T x with
 | none => rfl
 | some v => cases aev T y with
  | none => cases v <;> first | rfl | (rename_i a; cases a <;> rfl)
  | some u => cases v <;> first | rfl | (rename_i a; cases a <;> rfl)
def nc (h : AHeap) : Value → Option (Value × AHeap)
 | .pointer (some a) => some (.pointer (some a), h)
 | .func (.func f) xs us => some (.func (.func f) xs us, h)
 | .iface t v => some (.iface t v, h)
 | _ => none
theorem nc_ptr (a : Addr) : nc h (.pointer (some a)) = some (.pointer (some a), h) := congrArg id rfl
theorem nc_fn (f : FuncId) (xs us : Array Value) : nc h (.func (.func f) xs us) = some (.func (.func f) xs us, h) := congrArg id rfl
theorem nc_iface (t : TypeId) (v : Value) : nc h (.iface t v) = some (.iface t v, h) := congrArg id rfl
theorem aOp_nilCheck (x : Operand) : aOp P T h ⟨dst, .nilCheck x, ty, pos, af, gu⟩ = o1 (nc h) (aev T x) := by
 simp only [aOp]
 cases aev T x with
 | none => rfl
 | some v => cases v <;> first | rfl | (rename_i a; cases a <;> rfl) | (rename_i a b c; cases a <;> rfl)
theorem aOp_bin (o : BinOp) (t u : TypeId) (x y : Operand) : aOp P T h ⟨dst, .binOp o t x y u, ty, pos, af, gu⟩ = o2 (fun a b => still h (aBin P o t x y a b)) (aev T x) (aev T y) := by
 simp only [aOp]; cases aev T x <;> cases aev T y <;> rfl
theorem aOp_un (o : UnOp) (t : TypeId) (x : Operand) : aOp P T h ⟨dst, .unOp o t x, ty, pos, af, gu⟩ = o1 (fun a => still h (aUn o a)) (aev T x) := by
 simp only [aOp]; cases aev T x <;> rfl
theorem aOp_conv (t u : TypeId) (x : Operand) : aOp P T h ⟨dst, .convert t u x, ty, pos, af, gu⟩ = o1 (fun a => still h (aConv P t u a)) (aev T x) := by
 simp only [aOp]; cases aev T x <;> rfl
theorem aOp_mkF (f : FuncId) (xs us : List Operand) : aOp P T h ⟨dst, .makeFunc (.func f) xs.toArray us.toArray, ty, pos, af, gu⟩ = oL (fun a => oL (fun b => some (.func (.func f) a.toArray b.toArray, h)) (aevs T us)) (aevs T xs) := by
 simp only [aOp]; cases aevs T xs <;> cases aevs T us <;> rfl
theorem aOp_slice (t : TypeId) (x : Operand) (a b c : Option Operand) : aOp P T h ⟨dst, .slice t x a b c, ty, pos, af, gu⟩ = match aev T x, aevo T a, aevo T b, aevo T c with
  | some a, some b, some c, some d => still h (aSlice P h t a b c d)
  | _, _, _, _ => none := rfl
theorem aOp_fa (t : TypeId) (x : Operand) (f : Nat) : aOp P T h ⟨dst, .fieldAddr t x f, ty, pos, af, gu⟩ = o1 (fun a => still h (aField P t f a)) (aev T x) := by
 simp only [aOp]; cases aev T x <;> rfl
theorem aOp_fv (t : TypeId) (x : Operand) (f : Nat) : aOp P T h ⟨dst, .field t x f, ty, pos, af, gu⟩ = o1 (fun a => still h (aFieldV P t f a)) (aev T x) := by
 simp only [aOp]; cases aev T x <;> rfl
theorem aOp_ia (t : TypeId) (x i : Operand) : aOp P T h ⟨dst, .indexAddr t x i, ty, pos, af, gu⟩ = o2 (fun a b => still h (aIndexAddr P t a b)) (aev T x) (aev T i) := by
 simp only [aOp]; cases aev T x <;> cases aev T i <;> rfl
theorem aOp_ix (t : TypeId) (x i : Operand) : aOp P T h ⟨dst, .index t x i, ty, pos, af, gu⟩ = o2 (fun a b => still h (aIndex P t a b)) (aev T x) (aev T i) := by
 simp only [aOp]; cases aev T x <;> cases aev T i <;> rfl
theorem aOp_lookup (t : TypeId) (x i : Operand) (ok : Bool) : aOp P T h ⟨dst, .lookup t x i ok, ty, pos, af, gu⟩ = o2 (fun a b => still h (aLookup P h t a b ok)) (aev T x) (aev T i) := by
 simp only [aOp]; cases aev T x <;> cases aev T i <;> rfl
theorem aOp_mu (t : TypeId) (x y z : Operand) : aOp P T h ⟨dst, .mapUpdate t x y z, ty, pos, af, gu⟩ = o3 (fun a b c => skips (aMapSet P h t a b c)) (aev T x) (aev T y) (aev T z) := by
 simp only [aOp]; cases aev T x <;> cases aev T y <;> cases aev T z <;> rfl
theorem aOp_ins (t : TypeId) (x y z : Operand) : aOp P T h ⟨dst, .insert t x y z, ty, pos, af, gu⟩ = o3 (fun a b c => skips (aMapSet P h t a b c)) (aev T x) (aev T y) (aev T z) := by
 simp only [aOp]; cases aev T x <;> cases aev T y <;> cases aev T z <;> rfl
def xt (h : AHeap) (i : Nat) : Value → Option (Value × AHeap)
 | .tuple vs => still h vs.toList[i]?
 | _ => none
theorem xt_eq (i : Nat) (vs : List Value) : xt h i (.tuple vs.toArray) = still h vs[i]? := congrArg id rfl
theorem aOp_ext (x : Operand) (i : Nat) : aOp P T h ⟨dst, .extract x i, ty, pos, af, gu⟩ = o1 (xt h i) (aev T x) := by
 simp only [aOp]
 cases aev T x with
 | none => rfl
 | some v => cases v <;> rfl
theorem aOp_bi (b : Builtin) (as : List Operand) (ts : Array TypeId) : aOp P T h ⟨dst, .call ⟨.builtin b, as.toArray, ts⟩, ty, pos, af, gu⟩ = oL (aBuiltin P h b ts) (aevs T as) := by
 simp only [aOp]; cases aevs T as <;> rfl
theorem bi_len (t : TypeId) (ts : List TypeId) (x : Value) : aBuiltin P h .len (t :: ts).toArray [x] = still h (aLen P h t x) := by
 simp only [aBuiltin, List.getElem?_toArray, List.getElem?_cons_zero]; cases aLen P h t x <;> rfl
theorem bi_min (k l : IntKind) (ts : Array TypeId) (x y : Int) : aBuiltin P h .min ts [.int k x, .int l y] = some (.int k (if y < x then y else x), h) := congrArg id rfl
theorem bi_max (k l : IntKind) (ts : Array TypeId) (x y : Int) : aBuiltin P h .max ts [.int k x, .int l y] = some (.int k (if y > x then y else x), h) := congrArg id rfl
def un (h : Option AHeap) : Option (Value × AHeap) := h.map fun h => (.tuple #[], h)
theorem un_some : un (some h) = some (.tuple #[], h) := congrArg id rfl
theorem bi_copy (t : TypeId) (ts : List TypeId) (x y : Value) : aBuiltin P h .copy (t :: ts).toArray [x, y] = aCopy P h t x y := congrArg id rfl
theorem bi_clear {d : TypeDesc} (t : TypeId) (ts : List TypeId) (x : Value) (hd : P.underlying t = some d) : aBuiltin P h .clear (t :: ts).toArray [x] = un (aClear P h t x) := by
 simp only [aBuiltin, List.getElem?_toArray, List.getElem?_cons_zero, hd]; cases aClear P h t x <;> rfl
theorem bi_delete (t : TypeId) (ts : List TypeId) (x y : Value) : aBuiltin P h .delete (t :: ts).toArray [x, y] = un (aDelete P h t x y) := by
 simp only [aBuiltin, List.getElem?_toArray, List.getElem?_cons_zero]; cases aDelete P h t x y <;> rfl
theorem bi_append {e : TypeId} (t u : TypeId) (ts : List TypeId) (x y : Value) (hu : P.underlying u = some (.slice e)) : aBuiltin P h .append (t :: u :: ts).toArray [x, y] = aAppend P h t x y := by
 simp only [aBuiltin, List.getElem?_toArray, List.getElem?_cons_zero, List.getElem?_cons_succ, hu]

/-! ### numbers -/
theorem aBin_int (o : BinOp) (t : TypeId) (x y : Operand) (k l : IntKind) (a b : Int) : aBin P o t x y (.int k a) (.int l b) = aInt o k a l b := congrArg id rfl
theorem aInt_add (k : IntKind) (a b : Int) : aInt .add k a k b = some (.int k (k.wrap (a + b))) := by simp [aInt]
theorem aInt_sub (k : IntKind) (a b : Int) : aInt .sub k a k b = some (.int k (k.wrap (a - b))) := by simp [aInt]
theorem aInt_mul (k : IntKind) (a b : Int) : aInt .mul k a k b = some (.int k (k.wrap (a * b))) := by simp [aInt]
theorem aInt_quo (k : IntKind) (a b : Int) : aInt .quo k a k b = if b = 0 then none else some (.int k (k.wrap (a.tdiv b))) := by simp [aInt]
theorem aInt_rem (k : IntKind) (a b : Int) : aInt .rem k a k b = if b = 0 then none else some (.int k (a.tmod b)) := by simp [aInt]
theorem aInt_eql (k : IntKind) (a b : Int) : aInt .eql k a k b = some (.bool (decide (a = b))) := by simp [aInt]; rfl
theorem aInt_neq (k : IntKind) (a b : Int) : aInt .neq k a k b = some (.bool (decide (a ≠ b))) := by
 simp only [aInt, ne_eq, not_true_eq_false, if_false]; by_cases h : a = b <;> simp [h]
theorem aInt_lss (k : IntKind) (a b : Int) : aInt .lss k a k b = some (.bool (decide (a < b))) := by simp [aInt]
theorem aInt_leq (k : IntKind) (a b : Int) : aInt .leq k a k b = some (.bool (decide (a ≤ b))) := by simp [aInt]
theorem aInt_gtr (k : IntKind) (a b : Int) : aInt .gtr k a k b = some (.bool (decide (b < a))) := by simp [aInt]
theorem aInt_geq (k : IntKind) (a b : Int) : aInt .geq k a k b = some (.bool (decide (b ≤ a))) := by simp [aInt]
theorem aUn_not (b : Bool) : aUn .not (.bool b) = some (.bool !b) := congrArg id rfl
theorem aUn_neg (k : IntKind) (n : Int) : aUn .neg (.int k n) = some (.int k (k.wrap (0 - n))) := congrArg id rfl
theorem wrap_i64 {n : Int} (h1 : -9223372036854775808 ≤ n) (h2 : n < 9223372036854775808) : IntKind.i64.wrap n = n := by
 have e : IntKind.i64.wrap n = if n % 18446744073709551616 ≥ 9223372036854775808 then n % 18446744073709551616 - 18446744073709551616 else n % 18446744073709551616 := by
  simp [IntKind.wrap, IntKind.bits, IntKind.signed]
 rw [e]
 split <;> omega

/-! ### nil -/
/-! ### cells -/
def gCell (off : Nat) : Option ABlk → Option Value
 | some (.cells _ _ c _) => c[off]?
 | _ => none
def gCells (off n : Nat) : Option ABlk → Option (List Value)
 | some (.cells _ _ c _) => if off + n ≤ c.length then some ((c.drop off).take n) else none
 | _ => none
theorem gCell_eq (off : Nat) (ro : Bool) (sz : Nat) (c : List Value) (e : TypeId) : gCell off (some (.cells ro sz c e)) = c[off]? := congrArg id rfl
theorem gCells_eq (off n : Nat) (ro : Bool) (sz : Nat) (c : List Value) (e : TypeId) : gCells off n (some (.cells ro sz c e)) = if off + n ≤ c.length then some ((c.drop off).take n) else none := congrArg id rfl
def gPut (h : AHeap) (b off : Nat) (vs : List Value) : Option ABlk → Option AHeap
 | some (.cells false sz c T) => if off + vs.length ≤ c.length ∧ vs.all Value.oneCell' = true then some (h.set b (.cells false sz (splice c off vs) T)) else none
 | _ => none
theorem gPut_eq (b off : Nat) (vs : List Value) (sz : Nat) (c : List Value) (e : TypeId) : gPut h b off vs (some (.cells false sz c e)) = if off + vs.length ≤ c.length ∧ vs.all Value.oneCell' = true then some (h.set b (.cells false sz (splice c off vs) e)) else none := congrArg id rfl
theorem load_eq (b off n : Nat) : h.load ⟨b, off, none⟩ n = gCells off n (h.get b) := by
 simp only [AHeap.load, gCells]
 cases h.get b with
 | none => rfl
 | some k => cases k <;> simp
theorem store_eq (b off : Nat) (vs : List Value) : h.store ⟨b, off, none⟩ vs = gPut h b off vs (h.get b) := by
 simp only [AHeap.store, gPut]
 cases h.get b with
 | none => rfl
 | some k => cases k with
  | cells ro sz c T => cases ro <;> simp
  | _ => rfl
theorem aLoad_s {t : TypeId} {d : TypeDesc} (hu : P.underlying t = some d) (ha : agg? d = false) (b off : Nat) : aLoad P h t ⟨b, off, none⟩ = gCell off (h.get b) := by
 simp only [aLoad, hu, ha, load_eq, Bool.false_eq_true, if_false]
 cases h.get b with
 | none => rfl
 | some k => cases k with
  | cells ro sz c T =>
   simp only [gCells, gCell]
   by_cases hl : off + 1 ≤ c.length
   ·have e : (c.drop off).take 1 = [c[off]'(by omega)] := by
     rw [List.drop_eq_getElem_cons (by omega)]; rfl
    simp [hl, e, List.getElem?_eq_getElem (show off < c.length by omega)]
   ·have : c.length ≤ off := by omega
    simp [hl, List.getElem?_eq_none this]
  | _ => rfl
theorem aLoad_a {t : TypeId} {d : TypeDesc} {i : TypeInfo} (hu : P.underlying t = some d) (ha : agg? d = true) (hi : P.info? t = some i) {n : Nat} (hn : i.size = n) (b off : Nat) : aLoad P h t ⟨b, off, none⟩ = (gCells off n (h.get b)).map fun xs => .agg xs.toArray := by
 subst hn
 simp only [aLoad, hu, ha, hi, if_true, load_eq]
def stN (h : AHeap) (a : Addr) (cs : Array Value) (n : Nat) : Option AHeap := if cs.size = n then h.store a cs.toList else none
theorem aStore_n {t : TypeId} {i : TypeInfo} (hi : P.info? t = some i) {n : Nat} (hn : i.size = n) (a : Addr) (v : Value) : aStore P h t a v = stN h a v.cells n := by
 subst hn; simp only [aStore, hi, stN]
theorem stN_eq (b off : Nat) (cs : List Value) (n : Nat) : stN h ⟨b, off, none⟩ cs.toArray n = if cs.length = n then gPut h b off cs (h.get b) else none := by
 simp only [stN, List.size_toArray, store_eq]
theorem cells_int (k : IntKind) (n : Int) : (Value.int k n).cells = [Value.int k n].toArray := congrArg id rfl
theorem cells_bool (b : Bool) : (Value.bool b).cells = [Value.bool b].toArray := congrArg id rfl
theorem cells_str (s : ByteArray) : (Value.string s).cells = [Value.string s].toArray := congrArg id rfl
theorem cells_ptr (a : Option Addr) : (Value.pointer a).cells = [Value.pointer a].toArray := congrArg id rfl
theorem cells_slice (a : Option Addr) (l c : Nat) : (Value.slice a l c).cells = [Value.slice a l c].toArray := congrArg id rfl
theorem cells_map (a : Option Nat) : (Value.map a).cells = [Value.map a].toArray := congrArg id rfl
theorem cells_nilF : (Value.nilFunc).cells = [Value.nilFunc].toArray := congrArg id rfl
theorem cells_fn (f : Fn) (a b : Array Value) : (Value.func f a b).cells = [Value.func f a b].toArray := congrArg id rfl
theorem cells_agg (a : Array Value) : (Value.agg a).cells = a := congrArg id rfl
theorem oc_int (k : IntKind) (n : Int) : (Value.int k n).oneCell' = true := congrArg id rfl
theorem oc_bool (b : Bool) : (Value.bool b).oneCell' = true := congrArg id rfl
theorem oc_str (s : ByteArray) : (Value.string s).oneCell' = true := congrArg id rfl
theorem oc_ptr (a : Option Addr) : (Value.pointer a).oneCell' = true := congrArg id rfl
theorem oc_slice (a : Option Addr) (l c : Nat) : (Value.slice a l c).oneCell' = true := congrArg id rfl
theorem oc_map (a : Option Nat) : (Value.map a).oneCell' = true := congrArg id rfl
theorem oc_nilF : (Value.nilFunc).oneCell' = true := congrArg id rfl
theorem oc_fn (f : Fn) (a b : Array Value) : (Value.func f a b).oneCell' = true := congrArg id rfl
theorem splice_succ (x : Value) (xs vs : List Value) (n : Nat) : splice (x :: xs) (n + 1) vs = x :: splice xs n vs := by
 simp only [splice, List.take_succ_cons, List.cons_append, List.cons.injEq, true_and, Nat.add_right_comm n 1, List.drop_succ_cons]
theorem splice_zero (xs vs : List Value) : splice xs 0 vs = vs ++ xs.drop vs.length := by simp [splice]

/-! ### same -/
theorem veq_int (n : Nat) (k : IntKind) (a : Int) : veq n (.int k a) (.int k a) = true := by cases n <;> simp [veq]
theorem veq_bool (n : Nat) (b : Bool) : veq n (.bool b) (.bool b) = true := by cases n <;> simp [veq]
theorem veq_str (n : Nat) (b : ByteArray) : veq n (.string b) (.string b) = true := by cases n <;> simp [veq]
theorem veq_ptr (n : Nat) (a : Option Addr) : veq n (.pointer a) (.pointer a) = true := by cases n <;> simp [veq]
theorem veq_slice (n : Nat) (a : Option Addr) (l c : Nat) : veq n (.slice a l c) (.slice a l c) = true := by cases n <;> simp [veq]
theorem veq_map (n : Nat) (a : Option Nat) : veq n (.map a) (.map a) = true := by cases n <;> simp [veq]
theorem veq_top (n : Nat) (a : Option Nat) : veq n (.chan a) (.chan a) = true := by cases n <;> simp [veq]
theorem veq_nilF (n : Nat) : veq n .nilFunc .nilFunc = true := by cases n <;> simp [veq]
theorem veq_fn (n : Nat) (f : FuncId) : veq (n + 1) (.func (.func f) #[] #[]) (.func (.func f) #[] #[]) = true := by simp [veq]
theorem veq_aggs (n : Nat) (xs : List Value) : veq (n + 1) (.agg xs.toArray) (.agg xs.toArray) = xs.all fun x => veq n x x := by
 have h : ∀ (l : List Value), ((l.zip l).all fun p => veq n p.1 p.2) = l.all fun x => veq n x x := by
  intro l
  induction l with
  | nil => rfl
  | cons y l ih => simp [ih]
 simp only [veq, decide_true, Bool.true_and, h]
theorem sameRead_some (v u : Value) : sameRead (some (v, h)) u = veq 6 v u := congrArg id rfl

/-! ### results -/
def gF (P : Program) (rs : List ResultVar) (K : Value → AHeap → Prop) (T : List Value) (h : AHeap) : Prop := match aResults P h T rs with
 | some vs => K (oneOf vs) h
 | none => False
theorem out_normal {rs : List ResultVar} {K : Value → AHeap → Prop} {T : List Value} {h : AHeap} (k : gF P rs K T h) : AExit.out P rs K .normal T h := by
 simp only [gF] at k
 split at k
 ·rename_i vs e; exact ⟨vs, e, k⟩
 ·exact k.elim
theorem out_ret {rs : List ResultVar} {K : Value → AHeap → Prop} {T : List Value} {h : AHeap} (k : gF P rs K T h) : AExit.out P rs K .ret T h := by
 simp only [gF] at k
 split at k
 ·rename_i vs e; exact ⟨vs, e, k⟩
 ·exact k.elim
def gFF (K : Value → AHeap → Prop) (h : AHeap) : Option (List Value) → Prop
 | some vs => K (oneOf vs) h
 | none => False
theorem gF_eq {rs : List ResultVar} {K : Value → AHeap → Prop} {T : List Value} {h : AHeap} : gF P rs K T h = gFF K h (aResults P h T rs) := by
 unfold gF gFF; cases aResults P h T rs <;> rfl
theorem gFF_some (K : Value → AHeap → Prop) (h : AHeap) (vs : List Value) : gFF K h (some vs) = K (oneOf vs) h := congrArg id rfl
def rsC (P : Program) (h : AHeap) (t : TypeId) : Value → Option Value
 | .pointer (some a) => aLoad P h t a
 | _ => none
theorem rsC_ptr (t : TypeId) (a : Addr) : rsC P h t (.pointer (some a)) = aLoad P h t a := congrArg id rfl
theorem aRs_nil : aResults P h T [] = some [] := congrArg id rfl
theorem aRs_tmp (t : Tmp) (rs : List ResultVar) : aResults P h T (.tmp t :: rs) = oc (some (tget T t)) (aResults P h T rs) := by
 simp only [aResults]; cases aResults P h T rs <;> rfl
theorem aRs_cell (a : Tmp) (t : TypeId) (rs : List ResultVar) : aResults P h T (.cell a t :: rs) = oc (rsC P h t (tget T a)) (aResults P h T rs) := by
 simp only [aResults]
 generalize tget T a = v
 cases v with
 | pointer x =>
  cases x with
  | none => rfl
  | some x => simp only [rsC]; cases aLoad P h t x <;> cases aResults P h T rs <;> rfl
 | _ => rfl
theorem oneOf_nil : oneOf [] = .tuple #[] := congrArg id rfl
theorem oneOf_one (v : Value) : oneOf [v] = v := congrArg id rfl
theorem oneOf_two (v w : Value) (vs : List Value) : oneOf (v :: w :: vs) = .tuple (v :: w :: vs).toArray := congrArg id rfl
end
end Go.Ox
