/-
  A table: what its functions do, under whatever summaries that hold the sorted keys'. CONDITIONS: none.
-/
import Derived.Test.YtimmldjbmkjcjaaOxTb2
import Derived.Test.YtimmldjbmkjcjaaOxTm
import Derived.Test.YtimmldjbmkjcjaaOxNs
import Derived.Test.YtimmldjbmkjcjaaOxVn
set_option linter.unusedSimpArgs false
set_option linter.unusedVariables false
namespace Go.Proofs
open Go Go.Ox
set_option maxRecDepth 100000
set_option maxHeartbeats 1000000
def icell (n : Int) : List Value := [.int .i64 n]
theorem icell.len (x : Int) : (icell x).length = 1 := rfl
theorem icell.oc (x : Int) : (icell x).all Value.oneCell' = true := rfl
def rcell (x : Rw) : List Value := [.int .i64 x.1, .int .i64 x.2.1, .int .i64 x.2.2]
theorem rcell.len (x : Rw) : (rcell x).length = 3 := rfl
theorem rcell.oc (x : Rw) : (rcell x).all Value.oneCell' = true := rfl
theorem wsucc {i : Nat} (h : i < 9223372036854775807) : IntKind.i64.wrap ((i : Int) + 1) = ((i + 1 : Nat) : Int) := by rw [wrap_i64 (by omega) (by omega)]; omega
/-- The summaries: that of the sorted keys, and none of a table's functions. -/
structure TbX (X : Ext Try.prog) : Prop where
  out : Out X [16, 15, 10, 11, 18, 19, 9, 17, 20, 21, 24, 28, 12, 32, 26, 25, 23, 27, 33]
  s : X.xs.contains skNo.s = true
  nf : X.fs.contains skNo.s = false
  app : ∀ args h, X.app skNo.s args h = skApp skNo skNo.s args h
/-- A table in the heap. -/
def tbA (β : Nat) (g : Int) (M : Tb) : Asn := exs fun r : Nat => star [own β (.cells false 0 [.int .i64 g, .map (some r)] 47), own r (.map (tbV M))]
theorem tbA_out {h0 h : AHeap} {F : List Asn} {β : Nat} {g : Int} {M : Tb} (s : St h0 h (tbA β g M :: F)) : ∃ r, St h0 h (own β (.cells false 0 [.int .i64 g, .map (some r)] 47) :: own r (.map (tbV M)) :: F) := by
  obtain ⟨r, s1⟩ := s.ex_out
  exact ⟨r, s1.star_out⟩
theorem tbA_in {h0 h : AHeap} {F : List Asn} {β r : Nat} {g : Int} {M : Tb} (s : St h0 h (own β (.cells false 0 [.int .i64 g, .map (some r)] 47) :: own r (.map (tbV M)) :: F)) : St h0 h (tbA β g M :: F) := St.ex_in r (St.star_in (l := [_, _]) s)
theorem clEq (a b c d : Int) : allEq [a, b] [c, d] = decide (((a, b) : Cl) = (c, d)) := by
  have h := @allEq_iff [a, b] [c, d] rfl
  by_cases e : ((a, b) : Cl) = (c, d)
  · rw [decide_eq_true e, h]; cases e; rfl
  · rw [decide_eq_false e, ← Bool.not_eq_true, h]
    intro e2; apply e; simp at e2; simp [e2]
theorem eqCl (x y : Operand) (a b c d : Int) : aBin Try.prog .eql 27 x y (.agg #[.int .i64 a, .int .i64 b]) (.agg #[.int .i64 c, .int .i64 d]) = some (.bool (decide (((a, b) : Cl) = (c, d)))) := by
  have h := (aBin_nums (P := Try.prog) Try.underlying27 (by decide +kernel) (by decide +kernel) (by rfl) x y [a, b] [c, d] rfl rfl).2
  rw [clEq] at h
  exact h
theorem neCl (x y : Operand) (a b c d : Int) : aBin Try.prog .neq 27 x y (.agg #[.int .i64 a, .int .i64 b]) (.agg #[.int .i64 c, .int .i64 d]) = some (.bool (!decide (((a, b) : Cl) = (c, d)))) := by
  have h := (aBin_nums (P := Try.prog) Try.underlying27 (by decide +kernel) (by decide +kernel) (by rfl) x y [a, b] [c, d] rfl rfl).1
  rw [clEq] at h
  exact h
theorem rwEq (a b c d e f : Int) : allEq [a, b, c] [d, e, f] = decide (((a, (b, c)) : Rw) = (d, (e, f))) := by
  have h := @allEq_iff [a, b, c] [d, e, f] rfl
  by_cases e : ((a, (b, c)) : Rw) = (d, (e, f))
  · rw [decide_eq_true e, h]; cases e; rfl
  · rw [decide_eq_false e, ← Bool.not_eq_true, h]
    intro e2; apply e; simp at e2; simp [e2]
theorem neRw (x y : Operand) (a b : Rw) : aBin Try.prog .neq 29 x y (.agg (rcell a).toArray) (.agg (rcell b).toArray) = some (.bool (!decide (a = b))) := by
  have h := (aBin_nest (P := Try.prog) (u := 27) Try.underlying29 (by decide +kernel) (by decide +kernel) (by decide) (by rfl) Try.underlying3 (by rfl) (by decide) (by rfl) Try.underlying27 (by decide +kernel) (by rfl) (fun a l h => by
    match l, h with
    | [c, d], _ => rfl) x y a.1 b.1 [a.2.1, a.2.2] [b.2.1, b.2.2] rfl rfl).1
  rw [rwEq] at h
  exact h
theorem new_ok [X : Ext Try.prog] (tX : TbX X) {h0 : AHeap} {F : List Asn} (g : Int) (h : AHeap) (s : St h0 h F) (K : Value → AHeap → Prop) (hk : ∀ β h', St h0 h' (tbA β g [] :: F) → K (.pointer (some ⟨β, 0, none⟩)) h') : wpF Try.prog (.fn 16) [.int .i64 g] h K := by
  have hX := tX.out
  refine wpF_fun 7 [.tmp 2] Try.func16 rfl rfl rfl (hX.no (f := 16) (by decide)) ?_
  refine sr (fun LL hLL => ?_)
  simp only [ptrTo, pend, pend0, Pd.old, pendU, pendU0, oxA0, oxA1, oxA2, oxA3, oxA4, oxA5, oxA6, oxA7, oxA8, oxA9, oxA10, oxL0, oxL1, oxTy0, oxTy1, ↓reduceIte, Nat.reduceAdd, Nat.reduceLeDiff, Nat.reduceLT, Nat.reduceEqDiff, Nat.reduceMul, Nat.reduceSub, Int.reduceEq, Int.reduceLT, Int.reduceLE, Int.reduceAdd, Int.reduceNeg, Int.reduceNe, Int.reduceToNat, Nat.testBit, Nat.reduceShiftRight, Nat.reduceAnd, Nat.reduceBneDiff, Nat.reduceBEq, gR_some]
  refine hLL _ _ ?_
  refine sr (fun LL hLL => ?_)
  simp only [ptrTo, pend, pend0, Pd.old, pendU, pendU0, oxA0, oxA1, oxA2, oxA3, oxA4, oxA5, oxA6, oxA7, oxA8, oxA9, oxA10, oxL0, oxL1, oxTy0, oxTy1, ↓reduceIte, Nat.reduceAdd, Nat.reduceLeDiff, Nat.reduceLT, Nat.reduceEqDiff, Nat.reduceMul, Nat.reduceSub, Int.reduceEq, Int.reduceLT, Int.reduceLE, Int.reduceAdd, Int.reduceNeg, Int.reduceNe, Int.reduceToNat, Nat.testBit, Nat.reduceShiftRight, Nat.reduceAnd, Nat.reduceBneDiff, Nat.reduceBEq, gR_some]
  refine hLL _ _ ?_
  refine wpC_ret (out_ret ?_)
  simp only [ptrTo, pend, pend0, Pd.old, pendU, pendU0, oxA0, oxA1, oxA2, oxA3, oxA4, oxA5, oxA6, oxA7, oxA8, oxA9, oxA10, oxL0, oxL1, oxTy0, oxTy1, ↓reduceIte, Nat.reduceAdd, Nat.reduceLeDiff, Nat.reduceLT, Nat.reduceEqDiff, Nat.reduceMul, Nat.reduceSub, Int.reduceEq, Int.reduceLT, Int.reduceLE, Int.reduceAdd, Int.reduceNeg, Int.reduceNe, Int.reduceToNat, Nat.testBit, Nat.reduceShiftRight, Nat.reduceAnd, Nat.reduceBneDiff, Nat.reduceBEq, gR_some]
  have s1 := (s.push (.map [])).push (.cells false 0 [.int .i64 g, .map (some h.next)] 47)
  exact hk _ _ (tbA_in (M := []) s1)
theorem put_ok [X : Ext Try.prog] (tX : TbX X) {h0 : AHeap} {F : List Asn} {β : Nat} {g : Int} {M : Tb} (k : Int) (c : Cl) (h : AHeap) (s : St h0 h (tbA β g M :: F)) (K : Value → AHeap → Prop) (hk : ∀ h', St h0 h' (tbA β g (tpt M k c) :: F) → K (.tuple #[]) h') : wpF Try.prog (.fn 15) [.pointer (some ⟨β, 0, none⟩), .int .i64 k, clV c] h K := by
  have hX := tX.out
  obtain ⟨r, s1⟩ := tbA_out s
  obtain ⟨c1, c2⟩ := c
  unfold clV
  refine wpF_fun 20 [] Try.func15 rfl rfl rfl (hX.no (f := 15) (by decide)) ?_
  refine sr (fun LL hLL => ?_)
  simp only [ptrTo, pend, pend0, Pd.old, pendU, pendU0, oxA0, oxA1, oxA2, oxA3, oxA4, oxA5, oxA6, oxA7, oxA8, oxA9, oxA10, oxL0, oxL1, oxTy0, oxTy1, ↓reduceIte, Nat.reduceAdd, Nat.reduceLeDiff, Nat.reduceLT, Nat.reduceEqDiff, Nat.reduceMul, Nat.reduceSub, Int.reduceEq, Int.reduceLT, Int.reduceLE, Int.reduceAdd, Int.reduceNeg, Int.reduceNe, Int.reduceToNat, Nat.testBit, Nat.reduceShiftRight, Nat.reduceAnd, Nat.reduceBneDiff, Nat.reduceBEq, gR_some]
  refine hLL _ _ ?_
  have s2 := s1.push (.cells false 0 [.int .i64 c1, .int .i64 c2] 27)
  obtain ⟨h6, e6⟩ : ∃ h6, h6 = h.push (.cells false 0 [.int .i64 c1, .int .i64 c2] 27) := ⟨_, rfl⟩
  rw [← e6] at s2
  rw [← e6]
  have g1 := s2.get
  have g2 := (s2.mv 1).get
  have g3 := (s2.mv 2).get
  by_cases hc : ((c1, c2) : Cl) = (0, 0)
  · have ep : tpt M k (c1, c2) = tdel M k := by unfold tpt; rw [if_pos hc]
    rw [ep] at hk
    refine wpC_seq (sr fun LL hLL => ?_)
    simp only [ptrTo, pend, pend0, Pd.old, pendU, pendU0, oxA0, oxA1, oxA2, oxA3, oxA4, oxA5, oxA6, oxA7, oxA8, oxA9, oxA10, oxL0, oxL1, oxTy0, oxTy1, ↓reduceIte, Nat.reduceAdd, Nat.reduceLeDiff, Nat.reduceLT, Nat.reduceEqDiff, Nat.reduceMul, Nat.reduceSub, Int.reduceEq, Int.reduceLT, Int.reduceLE, Int.reduceAdd, Int.reduceNeg, Int.reduceNe, Int.reduceToNat, Nat.testBit, Nat.reduceShiftRight, Nat.reduceAnd, Nat.reduceBneDiff, Nat.reduceBEq, gR_some, g1, eqCl, decide_eq_true hc]
    refine hLL _ _ ?_
    refine wpC_if ?_
    simp only [ptrTo, pend, pend0, Pd.old, pendU, pendU0, oxA0, oxA1, oxA2, oxA3, oxA4, oxA5, oxA6, oxA7, oxA8, oxA9, oxA10, oxL0, oxL1, oxTy0, oxTy1, ↓reduceIte, Nat.reduceAdd, Nat.reduceLeDiff, Nat.reduceLT, Nat.reduceEqDiff, Nat.reduceMul, Nat.reduceSub, Int.reduceEq, Int.reduceLT, Int.reduceLE, Int.reduceAdd, Int.reduceNeg, Int.reduceNe, Int.reduceToNat, Nat.testBit, Nat.reduceShiftRight, Nat.reduceAnd, Nat.reduceBneDiff, Nat.reduceBEq, gR_some]
    obtain ⟨h7, d1, s7⟩ := (s2.mv 2).tb_del Try.underlying45 Try.underlying3 k
    refine sr (fun LL hLL => ?_)
    simp only [ptrTo, pend, pend0, Pd.old, pendU, pendU0, oxA0, oxA1, oxA2, oxA3, oxA4, oxA5, oxA6, oxA7, oxA8, oxA9, oxA10, oxL0, oxL1, oxTy0, oxTy1, ↓reduceIte, Nat.reduceAdd, Nat.reduceLeDiff, Nat.reduceLT, Nat.reduceEqDiff, Nat.reduceMul, Nat.reduceSub, Int.reduceEq, Int.reduceLT, Int.reduceLE, Int.reduceAdd, Int.reduceNeg, Int.reduceNe, Int.reduceToNat, Nat.testBit, Nat.reduceShiftRight, Nat.reduceAnd, Nat.reduceBneDiff, Nat.reduceBEq, gR_some, g2, d1]
    refine hLL _ _ ?_
    refine wpC_ret (out_ret ?_)
    simp only [ptrTo, pend, pend0, Pd.old, pendU, pendU0, oxA0, oxA1, oxA2, oxA3, oxA4, oxA5, oxA6, oxA7, oxA8, oxA9, oxA10, oxL0, oxL1, oxTy0, oxTy1, ↓reduceIte, Nat.reduceAdd, Nat.reduceLeDiff, Nat.reduceLT, Nat.reduceEqDiff, Nat.reduceMul, Nat.reduceSub, Int.reduceEq, Int.reduceLT, Int.reduceLE, Int.reduceAdd, Int.reduceNeg, Int.reduceNe, Int.reduceToNat, Nat.testBit, Nat.reduceShiftRight, Nat.reduceAnd, Nat.reduceBneDiff, Nat.reduceBEq, gR_some]
    refine hk _ (tbA_in (r := r) ?_)
    have s8 := (s7).sel 3 [2, 0]
    simp only [List.filterMap_cons, List.filterMap_nil, List.getElem?_cons_succ, List.getElem?_cons_zero, List.drop_succ_cons, List.drop_zero, List.cons_append, List.nil_append] at s8
    exact s8
  · have ep : tpt M k (c1, c2) = tset M k (c1, c2) := by unfold tpt; rw [if_neg hc]
    rw [ep] at hk
    refine wpC_seq (sr fun LL hLL => ?_)
    simp only [ptrTo, pend, pend0, Pd.old, pendU, pendU0, oxA0, oxA1, oxA2, oxA3, oxA4, oxA5, oxA6, oxA7, oxA8, oxA9, oxA10, oxL0, oxL1, oxTy0, oxTy1, ↓reduceIte, Nat.reduceAdd, Nat.reduceLeDiff, Nat.reduceLT, Nat.reduceEqDiff, Nat.reduceMul, Nat.reduceSub, Int.reduceEq, Int.reduceLT, Int.reduceLE, Int.reduceAdd, Int.reduceNeg, Int.reduceNe, Int.reduceToNat, Nat.testBit, Nat.reduceShiftRight, Nat.reduceAnd, Nat.reduceBneDiff, Nat.reduceBEq, gR_some, g1, eqCl, decide_eq_false hc]
    refine hLL _ _ ?_
    refine wpC_if ?_
    simp only [ptrTo, pend, pend0, Pd.old, pendU, pendU0, oxA0, oxA1, oxA2, oxA3, oxA4, oxA5, oxA6, oxA7, oxA8, oxA9, oxA10, oxL0, oxL1, oxTy0, oxTy1, ↓reduceIte, Nat.reduceAdd, Nat.reduceLeDiff, Nat.reduceLT, Nat.reduceEqDiff, Nat.reduceMul, Nat.reduceSub, Int.reduceEq, Int.reduceLT, Int.reduceLE, Int.reduceAdd, Int.reduceNeg, Int.reduceNe, Int.reduceToNat, Nat.testBit, Nat.reduceShiftRight, Nat.reduceAnd, Nat.reduceBneDiff, Nat.reduceBEq, gR_some]
    refine wpC_skip ?_
    simp only [ptrTo, pend, pend0, Pd.old, pendU, pendU0, oxA0, oxA1, oxA2, oxA3, oxA4, oxA5, oxA6, oxA7, oxA8, oxA9, oxA10, oxL0, oxL1, oxTy0, oxTy1, ↓reduceIte, Nat.reduceAdd, Nat.reduceLeDiff, Nat.reduceLT, Nat.reduceEqDiff, Nat.reduceMul, Nat.reduceSub, Int.reduceEq, Int.reduceLT, Int.reduceLE, Int.reduceAdd, Int.reduceNeg, Int.reduceNe, Int.reduceToNat, Nat.testBit, Nat.reduceShiftRight, Nat.reduceAnd, Nat.reduceBneDiff, Nat.reduceBEq, gR_some]
    have tp := tb_put h6 r M k (c1, c2)
    unfold clV at tp
    refine du [some 14, some 15, some 16, some 17, some 18, some 19, none] 7 [0, 1, 3, 7, 0, 0, 63] (by rfl) (by rfl) (by decide +kernel) (by decide +kernel) (by decide +kernel) (fun LL hLL => ?_)
    simp only [ptrTo, pend, pend0, Pd.old, pendU, pendU0, oxA0, oxA1, oxA2, oxA3, oxA4, oxA5, oxA6, oxA7, oxA8, oxA9, oxA10, oxL0, oxL1, oxTy0, oxTy1, ↓reduceIte, Nat.reduceAdd, Nat.reduceLeDiff, Nat.reduceLT, Nat.reduceEqDiff, Nat.reduceMul, Nat.reduceSub, Int.reduceEq, Int.reduceLT, Int.reduceLE, Int.reduceAdd, Int.reduceNeg, Int.reduceNe, Int.reduceToNat, Nat.testBit, Nat.reduceShiftRight, Nat.reduceAnd, Nat.reduceBneDiff, Nat.reduceBEq, gR_some, g1, g2, g3, tp]
    refine hLL _ _ ?_
    refine out_normal ?_
    simp only [ptrTo, pend, pend0, Pd.old, pendU, pendU0, oxA0, oxA1, oxA2, oxA3, oxA4, oxA5, oxA6, oxA7, oxA8, oxA9, oxA10, oxL0, oxL1, oxTy0, oxTy1, ↓reduceIte, Nat.reduceAdd, Nat.reduceLeDiff, Nat.reduceLT, Nat.reduceEqDiff, Nat.reduceMul, Nat.reduceSub, Int.reduceEq, Int.reduceLT, Int.reduceLE, Int.reduceAdd, Int.reduceNeg, Int.reduceNe, Int.reduceToNat, Nat.testBit, Nat.reduceShiftRight, Nat.reduceAnd, Nat.reduceBneDiff, Nat.reduceBEq, gR_some]
    have s7 := (s2.mv 2).set (.map (tbV (tset M k (c1, c2))))
    refine hk _ (tbA_in (r := r) ?_)
    have s8 := (s7).sel 3 [2, 0]
    simp only [List.filterMap_cons, List.filterMap_nil, List.getElem?_cons_succ, List.getElem?_cons_zero, List.drop_succ_cons, List.drop_zero, List.cons_append, List.nil_append] at s8
    exact s8
theorem get_ok [X : Ext Try.prog] (tX : TbX X) {h0 : AHeap} {F : List Asn} {β : Nat} {g : Int} {M : Tb} (k : Int) (h : AHeap) (s : St h0 h (tbA β g M :: F)) (K : Value → AHeap → Prop) (hk : ∀ h', St h0 h' (tbA β g M :: F) → K (clV (tgt M k)) h') : wpF Try.prog (.fn 10) [.pointer (some ⟨β, 0, none⟩), .int .i64 k] h K := by
  have hX := tX.out
  obtain ⟨r, s1⟩ := tbA_out s
  refine wpF_fun 11 [.cell 4 27] Try.func10 rfl rfl rfl (hX.no (f := 10) (by decide)) ?_
  refine sr (fun LL hLL => ?_)
  simp only [ptrTo, pend, pend0, Pd.old, pendU, pendU0, oxA0, oxA1, oxA2, oxA3, oxA4, oxA5, oxA6, oxA7, oxA8, oxA9, oxA10, oxL0, oxL1, oxTy0, oxTy1, ↓reduceIte, Nat.reduceAdd, Nat.reduceLeDiff, Nat.reduceLT, Nat.reduceEqDiff, Nat.reduceMul, Nat.reduceSub, Int.reduceEq, Int.reduceLT, Int.reduceLE, Int.reduceAdd, Int.reduceNeg, Int.reduceNe, Int.reduceToNat, Nat.testBit, Nat.reduceShiftRight, Nat.reduceAnd, Nat.reduceBneDiff, Nat.reduceBEq, gR_some]
  refine hLL _ _ ?_
  have s2 := s1.push (.cells false 0 [.int .i64 0, .int .i64 0] 27)
  obtain ⟨h6, e6⟩ : ∃ h6, h6 = h.push (.cells false 0 [.int .i64 0, .int .i64 0] 27) := ⟨_, rfl⟩
  rw [← e6] at s2
  rw [← e6]
  have g1 := s2.get
  have g2 := (s2.mv 1).get
  have g3 := (s2.mv 2).get
  have tl := tb_lookup M k
  unfold clV at tl
  refine sr (fun LL hLL => ?_)
  simp only [ptrTo, pend, pend0, Pd.old, pendU, pendU0, oxA0, oxA1, oxA2, oxA3, oxA4, oxA5, oxA6, oxA7, oxA8, oxA9, oxA10, oxL0, oxL1, oxTy0, oxTy1, ↓reduceIte, Nat.reduceAdd, Nat.reduceLeDiff, Nat.reduceLT, Nat.reduceEqDiff, Nat.reduceMul, Nat.reduceSub, Int.reduceEq, Int.reduceLT, Int.reduceLE, Int.reduceAdd, Int.reduceNeg, Int.reduceNe, Int.reduceToNat, Nat.testBit, Nat.reduceShiftRight, Nat.reduceAnd, Nat.reduceBneDiff, Nat.reduceBEq, gR_some, g1, g2, g3, tl]
  have s3 := s2.set (.cells false 0 [.int .i64 (tgt M k).1, .int .i64 (tgt M k).2] 27)
  have g4 := s3.get
  refine hLL _ _ ?_
  refine wpC_ret (out_ret ?_)
  simp only [ptrTo, pend, pend0, Pd.old, pendU, pendU0, oxA0, oxA1, oxA2, oxA3, oxA4, oxA5, oxA6, oxA7, oxA8, oxA9, oxA10, oxL0, oxL1, oxTy0, oxTy1, ↓reduceIte, Nat.reduceAdd, Nat.reduceLeDiff, Nat.reduceLT, Nat.reduceEqDiff, Nat.reduceMul, Nat.reduceSub, Int.reduceEq, Int.reduceLT, Int.reduceLE, Int.reduceAdd, Int.reduceNeg, Int.reduceNe, Int.reduceToNat, Nat.testBit, Nat.reduceShiftRight, Nat.reduceAnd, Nat.reduceBneDiff, Nat.reduceBEq, gR_some]
  simp only [g4, ptrTo, pend, pend0, Pd.old, pendU, pendU0, oxA0, oxA1, oxA2, oxA3, oxA4, oxA5, oxA6, oxA7, oxA8, oxA9, oxA10, oxL0, oxL1, oxTy0, oxTy1, ↓reduceIte, Nat.reduceAdd, Nat.reduceLeDiff, Nat.reduceLT, Nat.reduceEqDiff, Nat.reduceMul, Nat.reduceSub, Int.reduceEq, Int.reduceLT, Int.reduceLE, Int.reduceAdd, Int.reduceNeg, Int.reduceNe, Int.reduceToNat, Nat.testBit, Nat.reduceShiftRight, Nat.reduceAnd, Nat.reduceBneDiff, Nat.reduceBEq, gR_some]
  exact hk _ (tbA_in s3.drop)
theorem len_ok [X : Ext Try.prog] (tX : TbX X) {h0 : AHeap} {F : List Asn} {β : Nat} {g : Int} {M : Tb} (h : AHeap) (s : St h0 h (tbA β g M :: F)) (K : Value → AHeap → Prop) (hk : K (.int .i64 M.length) h) : wpF Try.prog (.fn 11) [.pointer (some ⟨β, 0, none⟩)] h K := by
  have hX := tX.out
  obtain ⟨r, s1⟩ := tbA_out s
  refine wpF_fun 8 [.tmp 2] Try.func11 rfl rfl rfl (hX.no (f := 11) (by decide)) ?_
  refine sr (fun LL hLL => ?_)
  simp only [ptrTo, pend, pend0, Pd.old, pendU, pendU0, oxA0, oxA1, oxA2, oxA3, oxA4, oxA5, oxA6, oxA7, oxA8, oxA9, oxA10, oxL0, oxL1, oxTy0, oxTy1, ↓reduceIte, Nat.reduceAdd, Nat.reduceLeDiff, Nat.reduceLT, Nat.reduceEqDiff, Nat.reduceMul, Nat.reduceSub, Int.reduceEq, Int.reduceLT, Int.reduceLE, Int.reduceAdd, Int.reduceNeg, Int.reduceNe, Int.reduceToNat, Nat.testBit, Nat.reduceShiftRight, Nat.reduceAnd, Nat.reduceBneDiff, Nat.reduceBEq, gR_some]
  refine hLL _ _ ?_
  have g1 := s1.get
  have g2 := (s1.mv 1).get
  refine sr (fun LL hLL => ?_)
  simp only [ptrTo, pend, pend0, Pd.old, pendU, pendU0, oxA0, oxA1, oxA2, oxA3, oxA4, oxA5, oxA6, oxA7, oxA8, oxA9, oxA10, oxL0, oxL1, oxTy0, oxTy1, ↓reduceIte, Nat.reduceAdd, Nat.reduceLeDiff, Nat.reduceLT, Nat.reduceEqDiff, Nat.reduceMul, Nat.reduceSub, Int.reduceEq, Int.reduceLT, Int.reduceLE, Int.reduceAdd, Int.reduceNeg, Int.reduceNe, Int.reduceToNat, Nat.testBit, Nat.reduceShiftRight, Nat.reduceAnd, Nat.reduceBneDiff, Nat.reduceBEq, gR_some, g1, g2, tbV_len]
  refine hLL _ _ ?_
  refine wpC_ret (out_ret ?_)
  simp only [ptrTo, pend, pend0, Pd.old, pendU, pendU0, oxA0, oxA1, oxA2, oxA3, oxA4, oxA5, oxA6, oxA7, oxA8, oxA9, oxA10, oxL0, oxL1, oxTy0, oxTy1, ↓reduceIte, Nat.reduceAdd, Nat.reduceLeDiff, Nat.reduceLT, Nat.reduceEqDiff, Nat.reduceMul, Nat.reduceSub, Int.reduceEq, Int.reduceLT, Int.reduceLE, Int.reduceAdd, Int.reduceNeg, Int.reduceNe, Int.reduceToNat, Nat.testBit, Nat.reduceShiftRight, Nat.reduceAnd, Nat.reduceBneDiff, Nat.reduceBEq, gR_some]
  exact hk
end Go.Proofs
