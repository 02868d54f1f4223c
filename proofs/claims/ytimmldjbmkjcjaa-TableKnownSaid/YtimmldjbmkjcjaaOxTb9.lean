/-
  A table with rows laid: the law's own helper; rows that are handed in. CONDITIONS: none.
-/
import Derived.Test.YtimmldjbmkjcjaaOxTb8
import Derived.Test.YtimmldjbmkjcjaaOxExT
import Derived.Test.YtimmldjbmkjcjaaOxAr
set_option linter.unusedSimpArgs false
set_option linter.unusedVariables false
namespace Go.Proofs
open Go Go.Ox
set_option maxRecDepth 100000
set_option maxHeartbeats 1000000
theorem tbX : TbX oxExt := ⟨by unfold Out; decide, rfl, rfl, fun _ _ => rfl⟩
theorem tlay_len (M : Tb) (l : List Rw) : (tlay M l).length ≤ M.length + l.length := by
  induction l generalizing M with
  | nil => exact Nat.le_refl _
  | cons r l ih =>
    have h1 := ih (tpt M r.1 r.2)
    have h2 := tpt_len M r.1 r.2
    show (tlay (tpt M r.1 r.2) l).length ≤ _
    simp only [List.length_cons]
    omega
theorem ne_pn (x y : Operand) (b : Nat) : aBin Try.prog .eql 24 x y (.pointer (some ⟨b, 0, none⟩)) (.pointer none) = some (.bool false) := congrArg id (by rfl)
/-- A slice that may be cut: nil, or from its block's beginning. -/
def Ct (a : Option Addr) (c : Nat) (n : Nat) : Prop := (a = none ∧ n = 0 ∧ c = 0) ∨ ((∃ b, a = some ⟨b, 0, none⟩) ∧ n ≤ capN c)
theorem laid_ok {h0 : AHeap} {F : List Asn} (g : Int) (a : Option Addr) (c : Nat) (L : List Rw) (h : AHeap) (s : St h0 h F) (r : Rd h0 F rcell 3 a L) (hl : L.length < 17592186044000) (hc : Ct a c L.length) (K : Value → AHeap → Prop)
    (hk : ∀ β h', St h0 h' (tbA β g (tlay [] (L.take 200)) :: F) → K (.pointer (some ⟨β, 0, none⟩)) h') : wpF Try.prog (.fn 8) [.int .i64 g, .slice a L.length c] h K := by
  refine wpF_fun 20 [.tmp 4] Try.func8 rfl rfl rfl rfl ?_
  refine sr (fun LL hLL => ?_)
  simp only [ptrTo, pend, pend0, Pd.old, pendU, pendU0, oxA0, oxA1, oxA2, oxA3, oxA4, oxA5, oxA6, oxA7, oxA8, oxA9, oxA10, oxL0, oxL1, oxTy0, oxTy1, ↓reduceIte, Nat.reduceAdd, Nat.reduceLeDiff, Nat.reduceLT, Nat.reduceEqDiff, Nat.reduceMul, Nat.reduceSub, Int.reduceEq, Int.reduceLT, Int.reduceLE, Int.reduceAdd, Int.reduceNeg, Int.reduceNe, Int.reduceToNat, Nat.testBit, Nat.reduceShiftRight, Nat.reduceAnd, Nat.reduceBneDiff, Nat.reduceBEq, gR_some]
  refine hLL _ _ ?_
  refine sr (fun LL hLL => ?_)
  simp only [ptrTo, pend, pend0, Pd.old, pendU, pendU0, oxA0, oxA1, oxA2, oxA3, oxA4, oxA5, oxA6, oxA7, oxA8, oxA9, oxA10, oxL0, oxL1, oxTy0, oxTy1, ↓reduceIte, Nat.reduceAdd, Nat.reduceLeDiff, Nat.reduceLT, Nat.reduceEqDiff, Nat.reduceMul, Nat.reduceSub, Int.reduceEq, Int.reduceLT, Int.reduceLE, Int.reduceAdd, Int.reduceNeg, Int.reduceNe, Int.reduceToNat, Nat.testBit, Nat.reduceShiftRight, Nat.reduceAnd, Nat.reduceBneDiff, Nat.reduceBEq, gR_some]
  refine new_ok tbX g _ s _ fun β h1 s1 => ?_
  refine hLL _ _ ?_
  refine wpC_seq (sr fun LL hLL => ?_)
  simp only [ptrTo, pend, pend0, Pd.old, pendU, pendU0, oxA0, oxA1, oxA2, oxA3, oxA4, oxA5, oxA6, oxA7, oxA8, oxA9, oxA10, oxL0, oxL1, oxTy0, oxTy1, ↓reduceIte, Nat.reduceAdd, Nat.reduceLeDiff, Nat.reduceLT, Nat.reduceEqDiff, Nat.reduceMul, Nat.reduceSub, Int.reduceEq, Int.reduceLT, Int.reduceLE, Int.reduceAdd, Int.reduceNeg, Int.reduceNe, Int.reduceToNat, Nat.testBit, Nat.reduceShiftRight, Nat.reduceAnd, Nat.reduceBneDiff, Nat.reduceBEq, gR_some]
  refine hLL _ _ ?_
  refine wpC_if ?_
  simp only [ptrTo, pend, pend0, Pd.old, pendU, pendU0, oxA0, oxA1, oxA2, oxA3, oxA4, oxA5, oxA6, oxA7, oxA8, oxA9, oxA10, oxL0, oxL1, oxTy0, oxTy1, ↓reduceIte, Nat.reduceAdd, Nat.reduceLeDiff, Nat.reduceLT, Nat.reduceEqDiff, Nat.reduceMul, Nat.reduceSub, Int.reduceEq, Int.reduceLT, Int.reduceLE, Int.reduceAdd, Int.reduceNeg, Int.reduceNe, Int.reduceToNat, Nat.testBit, Nat.reduceShiftRight, Nat.reduceAnd, Nat.reduceBneDiff, Nat.reduceBEq, gR_some]
  refine wpC_skip ?_
  simp only [ptrTo, pend, pend0, Pd.old, pendU, pendU0, oxA0, oxA1, oxA2, oxA3, oxA4, oxA5, oxA6, oxA7, oxA8, oxA9, oxA10, oxL0, oxL1, oxTy0, oxTy1, ↓reduceIte, Nat.reduceAdd, Nat.reduceLeDiff, Nat.reduceLT, Nat.reduceEqDiff, Nat.reduceMul, Nat.reduceSub, Int.reduceEq, Int.reduceLT, Int.reduceLE, Int.reduceAdd, Int.reduceNeg, Int.reduceNe, Int.reduceToNat, Nat.testBit, Nat.reduceShiftRight, Nat.reduceAnd, Nat.reduceBneDiff, Nat.reduceBEq, gR_some]
  have hm : (if (200 : Int) < (L.length : Int) then (200 : Int) else (L.length : Int)) = ((L.take 200).length : Int) := by
    rw [List.length_take]; split <;> omega
  have hle : (L.take 200).length ≤ L.length := by rw [List.length_take]; omega
  refine sr (fun LL hLL => ?_)
  simp only [ptrTo, pend, pend0, Pd.old, pendU, pendU0, oxA0, oxA1, oxA2, oxA3, oxA4, oxA5, oxA6, oxA7, oxA8, oxA9, oxA10, oxL0, oxL1, oxTy0, oxTy1, ↓reduceIte, Nat.reduceAdd, Nat.reduceLeDiff, Nat.reduceLT, Nat.reduceEqDiff, Nat.reduceMul, Nat.reduceSub, Int.reduceEq, Int.reduceLT, Int.reduceLE, Int.reduceAdd, Int.reduceNeg, Int.reduceNe, Int.reduceToNat, Nat.testBit, Nat.reduceShiftRight, Nat.reduceAnd, Nat.reduceBneDiff, Nat.reduceBEq, gR_some, hm]
  refine hLL _ _ ?_
  have hsl : aSlice Try.prog h1 22 (.slice a L.length c) none (some (.int .i64 ((L.take 200).length : Nat))) none = some (.slice a (L.take 200).length c) := by
    rcases hc with ⟨rfl, h2, rfl⟩ | ⟨⟨b, rfl⟩, h2⟩
    · have e : L = [] := List.length_eq_zero_iff.1 h2
      subst e
      exact sl_nil_to (kk := .i64) Try.underlying22 (by rfl)
    · exact sl_to (kk := .i64) Try.underlying22 (by rfl) (by omega) h2
  have r2 : Rd h0 F rcell 3 a (L.take 200) := fun h' s' => (r h' s').take rcell.len 200
  refine sr (fun LL hLL => ?_)
  simp only [ptrTo, pend, pend0, Pd.old, pendU, pendU0, oxA0, oxA1, oxA2, oxA3, oxA4, oxA5, oxA6, oxA7, oxA8, oxA9, oxA10, oxL0, oxL1, oxTy0, oxTy1, ↓reduceIte, Nat.reduceAdd, Nat.reduceLeDiff, Nat.reduceLT, Nat.reduceEqDiff, Nat.reduceMul, Nat.reduceSub, Int.reduceEq, Int.reduceLT, Int.reduceLE, Int.reduceAdd, Int.reduceNeg, Int.reduceNe, Int.reduceToNat, Nat.testBit, Nat.reduceShiftRight, Nat.reduceAnd, Nat.reduceBneDiff, Nat.reduceBEq, gR_some, hsl]
  refine lay_ok tbX a c _ _ s1 r2 (by omega) _ fun h2 s2 => ?_
  refine hLL _ _ ?_
  refine sr (fun LL hLL => ?_)
  simp only [ptrTo, pend, pend0, Pd.old, pendU, pendU0, oxA0, oxA1, oxA2, oxA3, oxA4, oxA5, oxA6, oxA7, oxA8, oxA9, oxA10, oxL0, oxL1, oxTy0, oxTy1, ↓reduceIte, Nat.reduceAdd, Nat.reduceLeDiff, Nat.reduceLT, Nat.reduceEqDiff, Nat.reduceMul, Nat.reduceSub, Int.reduceEq, Int.reduceLT, Int.reduceLE, Int.reduceAdd, Int.reduceNeg, Int.reduceNe, Int.reduceToNat, Nat.testBit, Nat.reduceShiftRight, Nat.reduceAnd, Nat.reduceBneDiff, Nat.reduceBEq, gR_some]
  refine hLL _ _ ?_
  refine wpC_ret (out_ret ?_)
  simp only [ptrTo, pend, pend0, Pd.old, pendU, pendU0, oxA0, oxA1, oxA2, oxA3, oxA4, oxA5, oxA6, oxA7, oxA8, oxA9, oxA10, oxL0, oxL1, oxTy0, oxTy1, ↓reduceIte, Nat.reduceAdd, Nat.reduceLeDiff, Nat.reduceLT, Nat.reduceEqDiff, Nat.reduceMul, Nat.reduceSub, Int.reduceEq, Int.reduceLT, Int.reduceLE, Int.reduceAdd, Int.reduceNeg, Int.reduceNe, Int.reduceToNat, Nat.testBit, Nat.reduceShiftRight, Nat.reduceAnd, Nat.reduceBneDiff, Nat.reduceBEq, gR_some]
  exact hk _ _ s2
def RwR (_ : AHeap) (xs : List Value) (a : Rw) : Prop := xs = rcell a ∧ (Lit.int .i64 a.1).wf = true
section
variable {H : Type} {enc : TypeId × Value → H} {W : World}
theorem wfOf {n : Int} (h : InK .i64 n) : (Lit.int .i64 n).wf = true := by
  obtain ⟨h1, h2⟩ := h
  simp only [Lit.wf, Bool.and_eq_true, decide_eq_true_eq]
  exact ⟨h1, h2⟩
theorem impRw : IsImp enc Try.prog W 29 RwR := by
  refine IsImp.conv (IsImp.flat (n := 9) (s := [true, true, true]) (by decide +kernel)) ?_ (fun _ _ _ _ h _ => h)
  rintro h xs ns ⟨rfl, hl, hk⟩
  match ns, hl, hk with
  | [a, b, c], _, hk => exact ⟨(a, (b, c)), rfl, wfOf (hk a (by simp))⟩
theorem impRws : IsImpW enc Try.prog W 22 (SlRb Try.prog RwR 29) := IsImpW.slice (k := 2) (by rfl) (by rfl) impRw.toW
theorem impI : IsImpW enc Try.prog W 3 (IntR .i64) := (IsImp.int (by rfl)).toW
def ClR (_ : AHeap) (xs : List Value) (a : Cl) : Prop := xs = [.int .i64 a.1, .int .i64 a.2]
theorem impCl : IsImpW enc Try.prog W 27 ClR := by
  refine IsImp.toW (IsImp.conv (IsImp.flat (n := 9) (s := [true, true]) (by decide +kernel)) ?_ (fun _ _ _ _ h _ => h))
  rintro h xs ns ⟨rfl, hl, hk⟩
  match ns, hl with
  | [a, b], _ => exact ⟨(a, b), rfl⟩
end
theorem bytesRow : Try.prog.bytesOf 29 = 24 := by decide +kernel
theorem sl_each {α : Type} {R : AHeap → List Value → α → Prop} {e : TypeId} {h : AHeap} {xs : List Value} {A : List α} (hA : SlR R e h xs A) : ∀ x ∈ A, ∃ ys, R h ys x := by
  obtain ⟨a, cap, _, _, _, h2, _⟩ := hA
  intro x hx
  rcases h2 with rfl | ⟨b, rows, _, _, _, h6, h7⟩
  · cases hx
  · obtain ⟨i, hi⟩ := List.getElem?_of_mem hx
    have hi2 := (List.getElem?_eq_some_iff.1 hi).1
    exact ⟨_, h7 i _ x (List.getElem?_eq_getElem (by omega)) hi⟩
theorem rows_arg {h : AHeap} {x : Value} {A : List Rw} (hA : SlRb Try.prog RwR 29 h [x] A) : ∃ a c, x = .slice a A.length c ∧ Rs rcell 3 h a A ∧ Ct a c A.length ∧ A.length < 5864062014805 ∧ ∀ r ∈ A, (Lit.int .i64 r.1).wf = true := by
  obtain ⟨h1, h2⟩ := hA
  rw [bytesRow] at h2
  simp only [reachBytes] at h2
  obtain ⟨a, c, k1, k2, k3, k4, k5, k6⟩ := sl_rs (f := rcell) rcell.len (fun _ _ _ k => k.1) h1
  refine ⟨a, c, k1, k2, ?_, by omega, fun r hr => (sl_each h1 r hr).elim fun _ k => k.2⟩
  cases a with
  | none => obtain ⟨rfl, rfl⟩ := k3 rfl; exact .inl ⟨rfl, rfl, rfl⟩
  | some y =>
    obtain ⟨b, rfl⟩ := k6 y rfl
    refine .inr ⟨⟨b, rfl⟩, ?_⟩
    unfold capN
    rw [if_pos (by unfold big; omega)]
    exact k4
end Go.Proofs
