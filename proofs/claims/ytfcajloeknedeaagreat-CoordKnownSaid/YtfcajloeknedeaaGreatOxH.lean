/-
 REGIONS THAT DRAW THEIR ORDER: one order serves all.
-/
import Derived.Test.YtfcajloeknedeaaGreatOxG
set_option linter.unusedSimpArgs false
set_option linter.unusedVariables false
namespace Go.Ox

/-- The fence that lets all in, within a round or not. -/
def W (r : Option Nat) : Fence := { Fence.wide with round := r }

def tputO (d : Option Nat) (v : Value) (T : List Value) : List Value :=
 match d with
 | some d => tput T d v
 | none => T

theorem AR.putO {ρ : Emb} {n : Nat} {T : List Value} {a : Act} (h : AR ρ n T a) {d : Option Nat} (hd : ∀ k, d = some k → k < n) {v x : Value} (hv : VR ρ v x) : AR ρ n (tputO d v T) (a.put d x) := by
 cases d with
 | none => exact h
 | some d => exact h.put (hd d rfl) hv

theorem tget_tputO (d : Option Nat) (v : Value) (T : List Value) (j : Nat) : tget (tputO d v T) j = if d = some j then v else tget T j := by
 cases d with
 | none => simp [tputO]
 | some d =>
  simp only [tputO, tget_tput, Option.some.injEq]
  by_cases h : j = d
  ·subst h; simp
  ·rw [if_neg h, if_neg (fun e => h e.symm)]

def aWanted (ops : Array Oper) (T : List Value) (o : Oper) : Option Bool :=
 match o.guard with
 | none => some true
 | some (j, want) => match (ops[j]?).bind (·.dst) with
  | none => some false
  | some d => match tget T d with
   | .bool b => some (b == want)
   | .tuple _ => some false
   | _ => none

theorem AR.congr {ρ : Emb} {n : Nat} {T T' : List Value} {a : Act} (h : AR ρ n T a) (he : ∀ t, tget T' t = tget T t) : AR ρ n T' a := ⟨h.size, fun t => by rw [he]; exact h.slot t⟩

theorem aWanted_sound {ρ : Emb} {n : Nat} {T : List Value} {a : Act} (h : AR ρ n T a) {ops : Array Oper} {o : Oper} {b : Bool} (hs : aWanted ops T o = some b) : Region.wanted o (yielded ops a.tmps) = b := by
 unfold aWanted at hs
 unfold Region.wanted
 split at hs
 ·rename_i hg; rw [hg]; simpa using hs
 ·rename_i j want hg
  rw [hg]
  simp only
  unfold yielded
  split at hs
  ·rename_i hd
   rw [hd]; simp at hs; simp [← hs]
  ·rename_i d hd
   rw [hd]
   simp only [Option.bind_some]
   have hv := h.slot d
   rw [Array.getD_eq_getD_getElem?] at hv
   split at hs
   ·rename_i c hc
    rw [hc] at hv
    have := hv.bool_inv
    cases hq : a.tmps[d]? with
    | none => rw [hq] at this; simp [undef] at this
    | some y => rw [hq] at this; simp at this; subst this; simp at hs ⊢; exact hs
   ·rename_i c hc
    rw [hc] at hv
    obtain ⟨ys, hy, _⟩ := hv.tuple_inv
    simp at hs
    cases hq : a.tmps[d]? with
    | none => simp [← hs]
    | some y => rw [hq] at hy; simp at hy; subst hy; simp [← hs]
   ·cases hs

theorem aev_congr {T T' : List Value} {x : Operand} (h : ∀ t, x = .tmp t → tget T t = tget T' t) : aev T x = aev T' x := by
 cases x with
 | tmp t => simp [aev, h t rfl]
 | _ => rfl

theorem aevs_congr {T T' : List Value} : ∀ {xs : List Operand}, (∀ x ∈ xs, aev T x = aev T' x) → aevs T xs = aevs T' xs
 | [], _ => rfl
 | x :: xs, h => by simp only [aevs, h x (by simp), aevs_congr (xs := xs) (fun y hy => h y (by simp [hy]))]

theorem aevp_congr {T T' : List Value} : ∀ {xs : List (Nat × Operand)}, (∀ x ∈ xs.map (·.2), aev T x = aev T' x) → aevp T xs = aevp T' xs
 | [], _ => rfl
 | (i, x) :: xs, h => by simp only [aevp, h x (by simp), aevp_congr (xs := xs) (fun y hy => h y (by simp at hy ⊢; exact .inr hy))]

theorem aevo_congr {T T' : List Value} {x : Option Operand} (h : ∀ y ∈ x.toArray, aev T y = aev T' y) : aevo T x = aevo T' x := by
 cases x with
 | none => rfl
 | some y => simp only [aevo, h y (by simp)]

section
variable {P : Program}

theorem aAlloc_congr {T T' : List Value} {op : Op} (h : ∀ x ∈ op.operands, aev T x = aev T' x) : aAlloc P T op = aAlloc P T' op := by
 cases op <;> simp only [Op.operands] at h <;> simp only [aAlloc]
 case box t x => rw [h x (by simp)]
 case buildSlice t n ps => rw [aevp_congr (T' := T') fun x hx => h x (by simpa using hx)]
 case makeMap t r => rw [aevo_congr (T' := T') h]
 case makeSlice t l c => rw [h l (by simp), h c (by simp)]

theorem aOp_congr {T T' : List Value} {h : AHeap} {o : Oper} (hx : ∀ x ∈ o.op.operands, aev T x = aev T' x) : aOp P T h o = aOp P T' h o := by
 obtain ⟨dst, op, ty, pos, after, guard⟩ := o
 cases op <;> simp only at hx <;> simp only [aOp]
 case alloc => rw [aAlloc_congr hx]
 case box => rw [aAlloc_congr hx]
 case buildSlice => rw [aAlloc_congr hx]
 case makeMap => rw [aAlloc_congr hx]
 case makeSlice => rw [aAlloc_congr hx]
 case move x => rw [hx x (by simp [Op.operands])]
 case assign x => rw [hx x (by simp [Op.operands])]
 case pick c x y =>
  rw [hx c (by simp [Op.operands])]
  split
  ·rename_i t _
   cases t
   ·simp only [Bool.false_eq_true, if_false]; rw [hx y (by simp [Op.operands])]
   ·simp only [if_true]; rw [hx x (by simp [Op.operands])]
  ·rfl
 case build t ps => rw [aevp_congr (T' := T') fun x h => hx x (by simpa [Op.operands] using h)]
 case load t x => rw [hx x (by simp [Op.operands])]
 case store t x y => rw [hx x (by simp [Op.operands]), hx y (by simp [Op.operands])]
 case nilCheck x => rw [hx x (by simp [Op.operands])]
 case binOp op t x y yt => rw [hx x (by simp [Op.operands]), hx y (by simp [Op.operands])]
 case unOp op t x => rw [hx x (by simp [Op.operands])]
 case convert s d x => rw [hx x (by simp [Op.operands])]
 case makeInterface t x => rw [hx x (by simp [Op.operands])]
 case makeFunc fn xs us =>
  cases fn with
  | func f =>
   simp only [aOp]
   rw [aevs_congr (T' := T') fun x h => hx x (by simp [Op.operands]; exact .inl (by simpa using h)), aevs_congr (T' := T') fun x h => hx x (by simp [Op.operands]; exact .inr (by simpa using h))]
  | _ => rfl
 case slice t x lo hi mx =>
  rw [hx x (by simp [Op.operands]), aevo_congr (T' := T') fun y h => hx y (by simp [Op.operands]; simp at h; simp [h]), aevo_congr (T' := T') fun y h => hx y (by simp [Op.operands]; simp at h; simp [h]),
   aevo_congr (T' := T') fun y h => hx y (by simp [Op.operands]; simp at h; simp [h])]
 case fieldAddr s x f => rw [hx x (by simp [Op.operands])]
 case field t x f => rw [hx x (by simp [Op.operands])]
 case indexAddr t x i => rw [hx x (by simp [Op.operands]), hx i (by simp [Op.operands])]
 case index t x i => rw [hx x (by simp [Op.operands]), hx i (by simp [Op.operands])]
 case lookup t x i ok => rw [hx x (by simp [Op.operands]), hx i (by simp [Op.operands])]
 case mapUpdate t m k x => rw [hx m (by simp [Op.operands]), hx k (by simp [Op.operands]), hx x (by simp [Op.operands])]
 case insert t m k x => rw [hx m (by simp [Op.operands]), hx k (by simp [Op.operands]), hx x (by simp [Op.operands])]
 case extract t i => rw [hx t (by simp [Op.operands])]
 case call c =>
  obtain ⟨callee, args, ts⟩ := c
  cases callee with
  | builtin b => simp only; rw [aevs_congr (T' := T') fun x h => hx x (by simp [Op.operands, Call.operands]; simpa using h)]
  | _ => rfl
end
end Go.Ox
