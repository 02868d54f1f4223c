/-
  The document's sink. CONDITIONS: none.
-/
import Derived.Test.YtoacnhfpapmomaaOxK13
set_option linter.unusedSimpArgs false
set_option linter.unusedVariables false
namespace Go.Proofs
open Go Go.Ox
set_option maxRecDepth 100000
set_option maxHeartbeats 4000000
theorem wsucc {i : Nat} (h : i < 9223372036854775807) : IntKind.i64.wrap ((i : Int) + 1) = ((i + 1 : Nat) : Int) := by rw [wrap_i64 (by omega) (by omega)]; omega
structure Pc where
  no : Int
  v : Sv
def Pc.cells (x : Pc) : List Value := [.int .i64 x.no, .slice x.v.a x.v.len x.v.cap]
theorem Pc.len (x : Pc) : x.cells.length = 2 := rfl
theorem Pc.oc (x : Pc) : x.cells.all Value.oneCell' = true := rfl
structure RkX where
  aL : Option Addr
  cL : Nat
  aP : Option Addr
  cP : Nat
  PS : List Pc
abbrev PL := List (Int × List Rc)
def rkL (p : Nat) (L : List Rc) (PP : PL) (lst : Int) (any : Bool) (x : RkX) : List Asn :=
  [fact (x.PS.map Pc.no = PP.map (·.1) ∧ (x.PS.map Pc.v).map Sv.len = (PP.map (·.2)).map List.length), own p (.cells false 0 [.slice x.aL L.length x.cL, .slice x.aP PP.length x.cP, .int .i64 lst, .bool any] 53), wn Rc.cells 2 29 x.aL x.cL L, wn Pc.cells 2 59 x.aP x.cP x.PS, star (wns Rc.cells 2 29 (x.PS.map Pc.v) (PP.map (·.2)))]
def rk (p : Nat) (L : List Rc) (PP : PL) (lst : Int) (any : Bool) : Asn := exs fun x => star (rkL p L PP lst any x)
section
variable {h0 h : AHeap} {F : List Asn} {p : Nat} {L : List Rc} {PP : PL} {lst : Int} {any : Bool}
theorem rk_out (s : St h0 h (rk p L PP lst any :: F)) : ∃ aL cL aP cP PS, PS.map Pc.no = PP.map (·.1) ∧ (PS.map Pc.v).map Sv.len = (PP.map (·.2)).map List.length ∧
    St h0 h (own p (.cells false 0 [.slice aL L.length cL, .slice aP PP.length cP, .int .i64 lst, .bool any] 53) :: wn Rc.cells 2 29 aL cL L :: wn Pc.cells 2 59 aP cP PS :: star (wns Rc.cells 2 29 (PS.map Pc.v) (PP.map (·.2))) :: F) := by
  obtain ⟨x, s⟩ := s.ex_out
  obtain ⟨k, s⟩ := (s.star_out : St h0 h (fact _ :: _ :: _ :: _ :: _ :: F)).fact_out
  exact ⟨x.aL, x.cL, x.aP, x.cP, x.PS, k.1, k.2, s⟩
theorem rk_in {aL aP : Option Addr} {cL cP : Nat} {PS : List Pc} (h1 : PS.map Pc.no = PP.map (·.1)) (h2 : (PS.map Pc.v).map Sv.len = (PP.map (·.2)).map List.length)
    (s : St h0 h (own p (.cells false 0 [.slice aL L.length cL, .slice aP PP.length cP, .int .i64 lst, .bool any] 53) :: wn Rc.cells 2 29 aL cL L :: wn Pc.cells 2 59 aP cP PS :: star (wns Rc.cells 2 29 (PS.map Pc.v) (PP.map (·.2))) :: F)) : St h0 h (rk p L PP lst any :: F) :=
  St.ex_in (⟨aL, cL, aP, cP, PS⟩ : RkX) (St.star_in (l := rkL p L PP lst any ⟨aL, cL, aP, cP, PS⟩) (s.fact_in ⟨h1, h2⟩))

theorem rNew (h : AHeap) (K : Value → AHeap → Prop) (s : St h0 h F) (hk : ∀ p h', St h0 h' (rk p [] [] 0 false :: F) → K (.pointer (some ⟨p, 0, none⟩)) h') : wpF Try.prog (.fn 9) [] h K := by
  refine wpF_fun 3 [.tmp 0] Try.func9 rfl rfl rfl rfl ?_
  refine sr (fun LL hLL => ?_)
  simp only [ptrTo, pend, pend0, Pd.old, pendU, pendU0, oxA0, oxA1, oxA2, oxA3, oxA4, oxA5, oxA6, oxA7, oxA8, oxA9, oxA10, oxL0, oxL1, oxTy0, oxTy1, oxTy2, ↓reduceIte, Nat.reduceAdd, Nat.reduceLeDiff, Nat.reduceLT, Nat.reduceEqDiff, Nat.reduceMul, Nat.reduceSub, Int.reduceEq, Int.reduceLT, Int.reduceLE, Int.reduceAdd, Int.reduceNeg, Int.reduceNe, Int.reduceToNat, Nat.testBit, Nat.reduceShiftRight, Nat.reduceAnd, Nat.reduceBneDiff, Nat.reduceBEq, gR_some]
  refine hLL _ _ ?_
  refine sr (fun LL hLL => ?_)
  simp only [ptrTo, pend, pend0, Pd.old, pendU, pendU0, oxA0, oxA1, oxA2, oxA3, oxA4, oxA5, oxA6, oxA7, oxA8, oxA9, oxA10, oxL0, oxL1, oxTy0, oxTy1, oxTy2, ↓reduceIte, Nat.reduceAdd, Nat.reduceLeDiff, Nat.reduceLT, Nat.reduceEqDiff, Nat.reduceMul, Nat.reduceSub, Int.reduceEq, Int.reduceLT, Int.reduceLE, Int.reduceAdd, Int.reduceNeg, Int.reduceNe, Int.reduceToNat, Nat.testBit, Nat.reduceShiftRight, Nat.reduceAnd, Nat.reduceBneDiff, Nat.reduceBEq, gR_some]
  refine hLL _ _ ?_
  refine wpC_ret (out_ret ?_)
  simp only [ptrTo, pend, pend0, Pd.old, pendU, pendU0, oxA0, oxA1, oxA2, oxA3, oxA4, oxA5, oxA6, oxA7, oxA8, oxA9, oxA10, oxL0, oxL1, oxTy0, oxTy1, oxTy2, ↓reduceIte, Nat.reduceAdd, Nat.reduceLeDiff, Nat.reduceLT, Nat.reduceEqDiff, Nat.reduceMul, Nat.reduceSub, Int.reduceEq, Int.reduceLT, Int.reduceLE, Int.reduceAdd, Int.reduceNeg, Int.reduceNe, Int.reduceToNat, Nat.testBit, Nat.reduceShiftRight, Nat.reduceAnd, Nat.reduceBneDiff, Nat.reduceBEq, gR_some]
  have s1 := (((s.wn_nil (f := Rc.cells) (k := 2) (e := 29)).wn_nil (f := Pc.cells) (k := 2) (e := 59)).star_nil).push (.cells false 0 [.slice none 0 0, .slice none 0 0, .int .i64 0, .bool false] 53)
  have s2 := (s1).sel 4 [0, 3, 2, 1]
  simp only [List.filterMap_cons, List.filterMap_nil, List.getElem?_cons_succ, List.getElem?_cons_zero, List.drop_succ_cons, List.drop_zero, List.cons_append, List.nil_append] at s2
  exact hk _ _ (rk_in (PS := []) rfl rfl s2)
theorem rOpen (h : AHeap) (K : Value → AHeap → Prop) (s : St h0 h (rk p L PP lst any :: F)) (hk : K (.int .i64 (L.length : Nat)) h) : wpF Try.prog (.fn 21) [.pointer (some ⟨p, 0, none⟩)] h K := by
  obtain ⟨aL, cL, aP, cP, PS, e1, e2, s1⟩ := rk_out s
  refine wpF_fun 8 [.tmp 2] Try.func21 rfl rfl rfl rfl ?_
  refine sr (fun LL hLL => ?_)
  simp only [ptrTo, pend, pend0, Pd.old, pendU, pendU0, oxA0, oxA1, oxA2, oxA3, oxA4, oxA5, oxA6, oxA7, oxA8, oxA9, oxA10, oxL0, oxL1, oxTy0, oxTy1, oxTy2, ↓reduceIte, Nat.reduceAdd, Nat.reduceLeDiff, Nat.reduceLT, Nat.reduceEqDiff, Nat.reduceMul, Nat.reduceSub, Int.reduceEq, Int.reduceLT, Int.reduceLE, Int.reduceAdd, Int.reduceNeg, Int.reduceNe, Int.reduceToNat, Nat.testBit, Nat.reduceShiftRight, Nat.reduceAnd, Nat.reduceBneDiff, Nat.reduceBEq, gR_some]
  refine hLL _ _ ?_
  refine sr (fun LL hLL => ?_)
  simp only [ptrTo, pend, pend0, Pd.old, pendU, pendU0, oxA0, oxA1, oxA2, oxA3, oxA4, oxA5, oxA6, oxA7, oxA8, oxA9, oxA10, oxL0, oxL1, oxTy0, oxTy1, oxTy2, ↓reduceIte, Nat.reduceAdd, Nat.reduceLeDiff, Nat.reduceLT, Nat.reduceEqDiff, Nat.reduceMul, Nat.reduceSub, Int.reduceEq, Int.reduceLT, Int.reduceLE, Int.reduceAdd, Int.reduceNeg, Int.reduceNe, Int.reduceToNat, Nat.testBit, Nat.reduceShiftRight, Nat.reduceAnd, Nat.reduceBneDiff, Nat.reduceBEq, gR_some, s1.get]
  refine hLL _ _ ?_
  refine wpC_ret (out_ret ?_)
  simp only [ptrTo, pend, pend0, Pd.old, pendU, pendU0, oxA0, oxA1, oxA2, oxA3, oxA4, oxA5, oxA6, oxA7, oxA8, oxA9, oxA10, oxL0, oxL1, oxTy0, oxTy1, oxTy2, ↓reduceIte, Nat.reduceAdd, Nat.reduceLeDiff, Nat.reduceLT, Nat.reduceEqDiff, Nat.reduceMul, Nat.reduceSub, Int.reduceEq, Int.reduceLT, Int.reduceLE, Int.reduceAdd, Int.reduceNeg, Int.reduceNe, Int.reduceToNat, Nat.testBit, Nat.reduceShiftRight, Nat.reduceAnd, Nat.reduceBneDiff, Nat.reduceBEq, gR_some]
  exact hk
theorem rTake (x : Rc) (h : AHeap) (K : Value → AHeap → Prop) (s : St h0 h (rk p L PP lst any :: F)) (hl : L.length < 1000000) (hk : ∀ h', St h0 h' (rk p (L ++ [x]) PP lst any :: F) → K (.tuple #[]) h') : wpF Try.prog (.fn 18) [.pointer (some ⟨p, 0, none⟩), .agg x.cells.toArray] h K := by
  obtain ⟨aL, cL, aP, cP, PS, e1, e2, s1⟩ := rk_out s
  have hcl : x.cells = [.int .i64 x.key, .int .i64 x.val] := rfl
  have va : (x.cells.all fun y => veq 5 y y) = true := by simp [Rc.cells, veq]
  refine wpF_fun 14 [] Try.func18 rfl rfl rfl rfl ?_
  refine sr (fun LL hLL => ?_)
  simp only [ptrTo, pend, pend0, Pd.old, pendU, pendU0, oxA0, oxA1, oxA2, oxA3, oxA4, oxA5, oxA6, oxA7, oxA8, oxA9, oxA10, oxL0, oxL1, oxTy0, oxTy1, oxTy2, ↓reduceIte, Nat.reduceAdd, Nat.reduceLeDiff, Nat.reduceLT, Nat.reduceEqDiff, Nat.reduceMul, Nat.reduceSub, Int.reduceEq, Int.reduceLT, Int.reduceLE, Int.reduceAdd, Int.reduceNeg, Int.reduceNe, Int.reduceToNat, Nat.testBit, Nat.reduceShiftRight, Nat.reduceAnd, Nat.reduceBneDiff, Nat.reduceBEq, gR_some, hcl]
  refine hLL _ _ ?_
  have s2 := s1.push (.cells false 0 [.int .i64 x.key, .int .i64 x.val] 29)
  obtain ⟨cA, hcA⟩ : ∃ c, c = h.next := ⟨_, rfl⟩
  obtain ⟨h1, eh1⟩ : ∃ h1, h1 = h.push (.cells false 0 [.int .i64 x.key, .int .i64 x.val] 29) := ⟨_, rfl⟩
  rw [← eh1, ← hcA] at s2 ⊢
  obtain ⟨aE, cE, h2, y1, y2⟩ := (s2.mv 2).app1 (bytes := 16) x Rc.len Rc.oc (by omega) (by omega)
  rw [hcl] at y1 va
  have g1 := s2.get
  have gp := (s2.mv 1).get
  have s3 := s2.push (.cells false 2 [.int .i64 x.key, .int .i64 x.val] 29)
  have g1' := (s3.mv 1).get
  have gp' := (s3.mv 2).get
  have gp2 := (y2.mv 2).get
  have zz : aZeros [.int .i64 0, .int .i64 0] 1 = [.int .i64 0, .int .i64 0] := rfl
  have v1 : ∀ (a : Option Addr) (m n : Nat), veq 6 (.slice a m n) (.slice a m n) = true := by intro a m n; simp [veq]
  refine du [some 4, some 5, some 6, some 7, some 8, some 9, some 10, some 11, some 12, some 13, none] 11 [0, 0, 2, 6, 14, 0, 32, 126, 255, 511, 1023] (by rfl) (by rfl) (by decide +kernel) (by decide +kernel) (by decide +kernel) (fun LL hLL => ?_)
  simp only [ptrTo, pend, pend0, Pd.old, pendU, pendU0, oxA0, oxA1, oxA2, oxA3, oxA4, oxA5, oxA6, oxA7, oxA8, oxA9, oxA10, oxL0, oxL1, oxTy0, oxTy1, oxTy2, ↓reduceIte, Nat.reduceAdd, Nat.reduceLeDiff, Nat.reduceLT, Nat.reduceEqDiff, Nat.reduceMul, Nat.reduceSub, Int.reduceEq, Int.reduceLT, Int.reduceLE, Int.reduceAdd, Int.reduceNeg, Int.reduceNe, Int.reduceToNat, Nat.testBit, Nat.reduceShiftRight, Nat.reduceAnd, Nat.reduceBneDiff, Nat.reduceBEq, gR_some, g1, gp, g1', gp', gp2, zz, v1, va, y1]
  refine hLL _ _ ?_
  refine out_normal ?_
  simp only [ptrTo, pend, pend0, Pd.old, pendU, pendU0, oxA0, oxA1, oxA2, oxA3, oxA4, oxA5, oxA6, oxA7, oxA8, oxA9, oxA10, oxL0, oxL1, oxTy0, oxTy1, oxTy2, ↓reduceIte, Nat.reduceAdd, Nat.reduceLeDiff, Nat.reduceLT, Nat.reduceEqDiff, Nat.reduceMul, Nat.reduceSub, Int.reduceEq, Int.reduceLT, Int.reduceLE, Int.reduceAdd, Int.reduceNeg, Int.reduceNe, Int.reduceToNat, Nat.testBit, Nat.reduceShiftRight, Nat.reduceAnd, Nat.reduceBneDiff, Nat.reduceBEq, gR_some]
  have s4 := (y2.mv 2).set (.cells false 0 [.slice aE (L.length + 1) cE, .slice aP PP.length cP, .int .i64 lst, .bool any] 53)
  refine hk _ (rk_in (aL := aE) (cL := cE) (aP := aP) (cP := cP) e1 e2 ?_)
  rw [List.length_append]
  exact s4.sel 5 [0, 1, 3, 4]
end
end Go.Proofs
