/-
  The document's sink: Commit. CONDITIONS: none.
-/
import Derived.Test.YtoacnhfpapmomaaOxK15
set_option linter.unusedSimpArgs false
set_option linter.unusedVariables false
namespace Go.Proofs
open Go Go.Ox
set_option maxRecDepth 100000
set_option maxHeartbeats 4000000
theorem StG_sub {g : Nat → Option ABlk} {l m : List Asn} (hs : m.Sublist l) : ∀ {U : List Nat}, StG g l U → ∃ V, (∀ b ∈ V, b ∈ U) ∧ StG g m V := by
  induction hs with
  | slnil => intro U h; exact ⟨U, fun _ k => k, h⟩
  | cons A _ ih =>
    rintro U ⟨B, V, rfl, _, _, h4⟩
    obtain ⟨W, k1, k2⟩ := ih h4
    exact ⟨W, fun b hb => by simp [k1 b hb], k2⟩
  | cons_cons A _ ih =>
    rintro U ⟨B, V, rfl, h2, h3, h4⟩
    obtain ⟨W, k1, k2⟩ := ih h4
    exact ⟨B ++ W, fun b hb => (List.mem_append.1 hb).elim (fun k => by simp [k]) (fun k => by simp [k1 b k]), B, W, rfl, h2, fun b hb hc => h3 b hb (k1 b hc), k2⟩
section
variable {h0 h : AHeap} {F : List Asn} {p : Nat} {L : List Rc} {PP : PL} {lst : Int} {any : Bool}
theorem St_sub {l m : List Asn} (hs : m.Sublist l) (s : St h0 h (star l :: F)) : St h0 h (star m :: F) := by
  obtain ⟨U, ⟨B, V, rfl, k2, k3, k4⟩, hb⟩ := s.use
  obtain ⟨W, q1, q2⟩ := StG_sub hs k2
  exact ⟨s.base, W ++ V, ⟨W, V, rfl, q2, fun b k => k3 b (q1 b k), k4⟩, fun b k => hb b ((List.mem_append.1 k).elim (fun k => by simp [q1 b k]) (fun k => by simp [k]))⟩
theorem wns_filter (no : Int) : ∀ (PS : List Pc) (PP : PL), PS.map Pc.no = PP.map (·.1) →
    (wns Rc.cells 2 29 ((PS.filter (fun x => decide (no < x.no))).map Pc.v) ((PP.filter (fun x => decide (no < x.1))).map (·.2))).Sublist (wns Rc.cells 2 29 (PS.map Pc.v) (PP.map (·.2))) ∧
    (PS.filter (fun x => decide (no < x.no))).map Pc.no = (PP.filter (fun x => decide (no < x.1))).map (·.1) ∧
    ((PS.map Pc.v).map Sv.len = (PP.map (·.2)).map List.length → ((PS.filter (fun x => decide (no < x.no))).map Pc.v).map Sv.len = ((PP.filter (fun x => decide (no < x.1))).map (·.2)).map List.length)
  | [], [], _ => ⟨by simp [wns], rfl, fun _ => rfl⟩
  | [], _ :: _, h => by simp at h
  | _ :: _, [], h => by simp at h
  | x :: PS, y :: PP, h => by
    simp only [List.map_cons, List.cons.injEq] at h
    obtain ⟨h1, h2⟩ := h
    obtain ⟨k1, k2, k3⟩ := wns_filter no PS PP h2
    by_cases hx : no < x.no
    · have hy : no < y.1 := by rw [← h1]; exact hx
      rw [List.filter_cons_of_pos (by simpa using hx), List.filter_cons_of_pos (by simpa using hy)]
      refine ⟨?_, by simp [h1, k2], fun k => ?_⟩
      · simp only [wns, List.map_cons, List.zipWith_cons_cons] at k1 ⊢
        exact k1.cons_cons _
      · simp only [List.map_cons, List.cons.injEq] at k ⊢
        exact ⟨k.1, k3 k.2⟩
    · have hy : ¬ no < y.1 := by rw [← h1]; exact hx
      rw [List.filter_cons_of_neg (by simpa using hx), List.filter_cons_of_neg (by simpa using hy)]
      refine ⟨?_, k2, fun k => ?_⟩
      · simp only [wns, List.map_cons, List.zipWith_cons_cons] at k1 ⊢
        exact k1.cons _
      · simp only [List.map_cons, List.cons.injEq] at k
        exact k3 k.2
theorem rCommit (no : Int) (h : AHeap) (K : Value → AHeap → Prop) (s : St h0 h (rk p L PP lst any :: F)) (hP : PP.length < 1000000)
    (hk : ∀ h', St h0 h' (rk p L (PP.filter (fun x => decide (no < x.1))) (if any = true ∧ no ≤ lst then lst else no) true :: F) → K (.tuple #[]) h') : wpF Try.prog (.fn 16) [.pointer (some ⟨p, 0, none⟩), .int .i64 no] h K := by
  obtain ⟨aL, cL, aP, cP, PS, e1, e2, s0⟩ := rk_out s
  have hPl := ps_len e1
  have gp := s0.get
  obtain ⟨lst', hlst⟩ : ∃ l, l = (if any = true ∧ no ≤ lst then lst else no) := ⟨_, rfl⟩
  rw [← hlst] at hk
  refine wpF_fun 59 [] Try.func16 rfl rfl rfl rfl ?_
  refine sm (fun T1 h1 => ∃ R : List Value, St h0 h1 (own p (.cells false 0 [.slice aL L.length cL, .slice aP PP.length cP, .int .i64 lst', .bool any] 53) :: wn Rc.cells 2 29 aL cL L :: wn Pc.cells 2 59 aP cP PS :: star (wns Rc.cells 2 29 (PS.map Pc.v) (PP.map (·.2))) :: F) ∧
    T1 = .pointer (some ⟨p, 0, none⟩) :: .int .i64 no :: undef :: undef :: undef :: undef :: R) ?_ ?_
  · by_cases hb : any = true ∧ no ≤ lst
    · rw [if_pos hb] at hlst
      obtain ⟨rfl, hno⟩ := hb
      have hno' : ¬ lst < no := by omega
      refine sr (fun LL hLL => ?_)
      simp only [ptrTo, pend, pend0, Pd.old, pendU, pendU0, oxA0, oxA1, oxA2, oxA3, oxA4, oxA5, oxA6, oxA7, oxA8, oxA9, oxA10, oxL0, oxL1, oxTy0, oxTy1, oxTy2, ↓reduceIte, Nat.reduceAdd, Nat.reduceLeDiff, Nat.reduceLT, Nat.reduceEqDiff, Nat.reduceMul, Nat.reduceSub, Int.reduceEq, Int.reduceLT, Int.reduceLE, Int.reduceAdd, Int.reduceNeg, Int.reduceNe, Int.reduceToNat, Nat.testBit, Nat.reduceShiftRight, Nat.reduceAnd, Nat.reduceBneDiff, Nat.reduceBEq, gR_some, gp, gt_iff_lt, eq_false hno']
      refine hLL _ _ ?_
      refine wpC_if ?_
      simp only [ptrTo, pend, pend0, Pd.old, pendU, pendU0, oxA0, oxA1, oxA2, oxA3, oxA4, oxA5, oxA6, oxA7, oxA8, oxA9, oxA10, oxL0, oxL1, oxTy0, oxTy1, oxTy2, ↓reduceIte, Nat.reduceAdd, Nat.reduceLeDiff, Nat.reduceLT, Nat.reduceEqDiff, Nat.reduceMul, Nat.reduceSub, Int.reduceEq, Int.reduceLT, Int.reduceLE, Int.reduceAdd, Int.reduceNeg, Int.reduceNe, Int.reduceToNat, Nat.testBit, Nat.reduceShiftRight, Nat.reduceAnd, Nat.reduceBneDiff, Nat.reduceBEq, gR_some]
      refine wpC_skip ?_
      simp only [ptrTo, pend, pend0, Pd.old, pendU, pendU0, oxA0, oxA1, oxA2, oxA3, oxA4, oxA5, oxA6, oxA7, oxA8, oxA9, oxA10, oxL0, oxL1, oxTy0, oxTy1, oxTy2, ↓reduceIte, Nat.reduceAdd, Nat.reduceLeDiff, Nat.reduceLT, Nat.reduceEqDiff, Nat.reduceMul, Nat.reduceSub, Int.reduceEq, Int.reduceLT, Int.reduceLE, Int.reduceAdd, Int.reduceNeg, Int.reduceNe, Int.reduceToNat, Nat.testBit, Nat.reduceShiftRight, Nat.reduceAnd, Nat.reduceBneDiff, Nat.reduceBEq, gR_some]
      rw [hlst]
      exact ⟨_, s0, rfl⟩
    · rw [if_neg hb] at hlst
      by_cases ha : any = true
      · subst ha
        have hno : lst < no := by
          have : ¬ no ≤ lst := fun k => hb ⟨rfl, k⟩
          omega
        refine sr (fun LL hLL => ?_)
        simp only [ptrTo, pend, pend0, Pd.old, pendU, pendU0, oxA0, oxA1, oxA2, oxA3, oxA4, oxA5, oxA6, oxA7, oxA8, oxA9, oxA10, oxL0, oxL1, oxTy0, oxTy1, oxTy2, ↓reduceIte, Nat.reduceAdd, Nat.reduceLeDiff, Nat.reduceLT, Nat.reduceEqDiff, Nat.reduceMul, Nat.reduceSub, Int.reduceEq, Int.reduceLT, Int.reduceLE, Int.reduceAdd, Int.reduceNeg, Int.reduceNe, Int.reduceToNat, Nat.testBit, Nat.reduceShiftRight, Nat.reduceAnd, Nat.reduceBneDiff, Nat.reduceBEq, gR_some, gp, gt_iff_lt, eq_true hno]
        refine hLL _ _ ?_
        refine wpC_if ?_
        simp only [ptrTo, pend, pend0, Pd.old, pendU, pendU0, oxA0, oxA1, oxA2, oxA3, oxA4, oxA5, oxA6, oxA7, oxA8, oxA9, oxA10, oxL0, oxL1, oxTy0, oxTy1, oxTy2, ↓reduceIte, Nat.reduceAdd, Nat.reduceLeDiff, Nat.reduceLT, Nat.reduceEqDiff, Nat.reduceMul, Nat.reduceSub, Int.reduceEq, Int.reduceLT, Int.reduceLE, Int.reduceAdd, Int.reduceNeg, Int.reduceNe, Int.reduceToNat, Nat.testBit, Nat.reduceShiftRight, Nat.reduceAnd, Nat.reduceBneDiff, Nat.reduceBEq, gR_some]
        refine rg (fun LL hLL => ?_)
        simp only [ptrTo, pend, pend0, Pd.old, pendU, pendU0, oxA0, oxA1, oxA2, oxA3, oxA4, oxA5, oxA6, oxA7, oxA8, oxA9, oxA10, oxL0, oxL1, oxTy0, oxTy1, oxTy2, ↓reduceIte, Nat.reduceAdd, Nat.reduceLeDiff, Nat.reduceLT, Nat.reduceEqDiff, Nat.reduceMul, Nat.reduceSub, Int.reduceEq, Int.reduceLT, Int.reduceLE, Int.reduceAdd, Int.reduceNeg, Int.reduceNe, Int.reduceToNat, Nat.testBit, Nat.reduceShiftRight, Nat.reduceAnd, Nat.reduceBneDiff, Nat.reduceBEq, gR_some, gp]
        refine hLL _ _ ?_
        simp only [ptrTo, pend, pend0, Pd.old, pendU, pendU0, oxA0, oxA1, oxA2, oxA3, oxA4, oxA5, oxA6, oxA7, oxA8, oxA9, oxA10, oxL0, oxL1, oxTy0, oxTy1, oxTy2, ↓reduceIte, Nat.reduceAdd, Nat.reduceLeDiff, Nat.reduceLT, Nat.reduceEqDiff, Nat.reduceMul, Nat.reduceSub, Int.reduceEq, Int.reduceLT, Int.reduceLE, Int.reduceAdd, Int.reduceNeg, Int.reduceNe, Int.reduceToNat, Nat.testBit, Nat.reduceShiftRight, Nat.reduceAnd, Nat.reduceBneDiff, Nat.reduceBEq, gR_some]
        rw [hlst]
        exact ⟨_, s0.set _, rfl⟩
      · have ha' : any = false := by simpa using ha
        subst ha'
        refine sr (fun LL hLL => ?_)
        simp only [ptrTo, pend, pend0, Pd.old, pendU, pendU0, oxA0, oxA1, oxA2, oxA3, oxA4, oxA5, oxA6, oxA7, oxA8, oxA9, oxA10, oxL0, oxL1, oxTy0, oxTy1, oxTy2, ↓reduceIte, Nat.reduceAdd, Nat.reduceLeDiff, Nat.reduceLT, Nat.reduceEqDiff, Nat.reduceMul, Nat.reduceSub, Int.reduceEq, Int.reduceLT, Int.reduceLE, Int.reduceAdd, Int.reduceNeg, Int.reduceNe, Int.reduceToNat, Nat.testBit, Nat.reduceShiftRight, Nat.reduceAnd, Nat.reduceBneDiff, Nat.reduceBEq, gR_some, gp]
        refine hLL _ _ ?_
        refine wpC_if ?_
        simp only [ptrTo, pend, pend0, Pd.old, pendU, pendU0, oxA0, oxA1, oxA2, oxA3, oxA4, oxA5, oxA6, oxA7, oxA8, oxA9, oxA10, oxL0, oxL1, oxTy0, oxTy1, oxTy2, ↓reduceIte, Nat.reduceAdd, Nat.reduceLeDiff, Nat.reduceLT, Nat.reduceEqDiff, Nat.reduceMul, Nat.reduceSub, Int.reduceEq, Int.reduceLT, Int.reduceLE, Int.reduceAdd, Int.reduceNeg, Int.reduceNe, Int.reduceToNat, Nat.testBit, Nat.reduceShiftRight, Nat.reduceAnd, Nat.reduceBneDiff, Nat.reduceBEq, gR_some]
        refine rg (fun LL hLL => ?_)
        simp only [ptrTo, pend, pend0, Pd.old, pendU, pendU0, oxA0, oxA1, oxA2, oxA3, oxA4, oxA5, oxA6, oxA7, oxA8, oxA9, oxA10, oxL0, oxL1, oxTy0, oxTy1, oxTy2, ↓reduceIte, Nat.reduceAdd, Nat.reduceLeDiff, Nat.reduceLT, Nat.reduceEqDiff, Nat.reduceMul, Nat.reduceSub, Int.reduceEq, Int.reduceLT, Int.reduceLE, Int.reduceAdd, Int.reduceNeg, Int.reduceNe, Int.reduceToNat, Nat.testBit, Nat.reduceShiftRight, Nat.reduceAnd, Nat.reduceBneDiff, Nat.reduceBEq, gR_some, gp]
        refine hLL _ _ ?_
        simp only [ptrTo, pend, pend0, Pd.old, pendU, pendU0, oxA0, oxA1, oxA2, oxA3, oxA4, oxA5, oxA6, oxA7, oxA8, oxA9, oxA10, oxL0, oxL1, oxTy0, oxTy1, oxTy2, ↓reduceIte, Nat.reduceAdd, Nat.reduceLeDiff, Nat.reduceLT, Nat.reduceEqDiff, Nat.reduceMul, Nat.reduceSub, Int.reduceEq, Int.reduceLT, Int.reduceLE, Int.reduceAdd, Int.reduceNeg, Int.reduceNe, Int.reduceToNat, Nat.testBit, Nat.reduceShiftRight, Nat.reduceAnd, Nat.reduceBneDiff, Nat.reduceBEq, gR_some]
        rw [hlst]
        exact ⟨_, s0.set _, rfl⟩
  rintro T1 h1 ⟨R, s1, rfl⟩
  have gp1 := s1.get
  refine sr (fun LL hLL => ?_)
  simp only [ptrTo, pend, pend0, Pd.old, pendU, pendU0, oxA0, oxA1, oxA2, oxA3, oxA4, oxA5, oxA6, oxA7, oxA8, oxA9, oxA10, oxL0, oxL1, oxTy0, oxTy1, oxTy2, ↓reduceIte, Nat.reduceAdd, Nat.reduceLeDiff, Nat.reduceLT, Nat.reduceEqDiff, Nat.reduceMul, Nat.reduceSub, Int.reduceEq, Int.reduceLT, Int.reduceLE, Int.reduceAdd, Int.reduceNeg, Int.reduceNe, Int.reduceToNat, Nat.testBit, Nat.reduceShiftRight, Nat.reduceAnd, Nat.reduceBneDiff, Nat.reduceBEq, gR_some, gp1]
  refine hLL _ _ ?_
  refine fg6 (fun R => ?_)
  have s2 := s1.set (.cells false 0 [.slice aL L.length cL, .slice aP PP.length cP, .int .i64 lst', .bool true] 53)
  obtain ⟨h2, eh2⟩ : ∃ h2, h2 = h1.set p (.cells false 0 [.slice aL L.length cL, .slice aP PP.length cP, .int .i64 lst', .bool true] 53) := ⟨_, rfl⟩
  rw [← eh2] at s2 ⊢
  refine sr (fun LL hLL => ?_)
  simp only [ptrTo, pend, pend0, Pd.old, pendU, pendU0, oxA0, oxA1, oxA2, oxA3, oxA4, oxA5, oxA6, oxA7, oxA8, oxA9, oxA10, oxL0, oxL1, oxTy0, oxTy1, oxTy2, ↓reduceIte, Nat.reduceAdd, Nat.reduceLeDiff, Nat.reduceLT, Nat.reduceEqDiff, Nat.reduceMul, Nat.reduceSub, Int.reduceEq, Int.reduceLT, Int.reduceLE, Int.reduceAdd, Int.reduceNeg, Int.reduceNe, Int.reduceToNat, Nat.testBit, Nat.reduceShiftRight, Nat.reduceAnd, Nat.reduceBneDiff, Nat.reduceBEq, gR_some]
  refine hLL _ _ ?_
  refine wpC_seq ?_
  refine sr (fun LL hLL => ?_)
  simp only [ptrTo, pend, pend0, Pd.old, pendU, pendU0, oxA0, oxA1, oxA2, oxA3, oxA4, oxA5, oxA6, oxA7, oxA8, oxA9, oxA10, oxL0, oxL1, oxTy0, oxTy1, oxTy2, ↓reduceIte, Nat.reduceAdd, Nat.reduceLeDiff, Nat.reduceLT, Nat.reduceEqDiff, Nat.reduceMul, Nat.reduceSub, Int.reduceEq, Int.reduceLT, Int.reduceLE, Int.reduceAdd, Int.reduceNeg, Int.reduceNe, Int.reduceToNat, Nat.testBit, Nat.reduceShiftRight, Nat.reduceAnd, Nat.reduceBneDiff, Nat.reduceBEq, gR_some]
  refine hLL _ _ ?_
  refine fg6 (fun R => ?_)
  refine wpC_block ?_
  refine wpC_loop (fun k T h' => ∃ (i : Nat) (b : Option Addr) (d : Nat) (t2 t3 : Value) (R : List Value), k + i = PP.length ∧
    St h0 h' (wn Pc.cells 2 59 b d ((PS.take i).filter (fun x => decide (no < x.no))) :: own p (.cells false 0 [.slice aL L.length cL, .slice aP PP.length cP, .int .i64 lst', .bool true] 53) :: wn Rc.cells 2 29 aL cL L :: wn Pc.cells 2 59 aP cP PS :: star (wns Rc.cells 2 29 (PS.map Pc.v) (PP.map (·.2))) :: F) ∧
    T = .pointer (some ⟨p, 0, none⟩) :: .int .i64 no :: t2 :: t3 :: .slice b ((PS.take i).filter (fun x => decide (no < x.no))).length d :: .int .i64 i :: R) ?_ PP.length _ _ ⟨0, _, _, _, _, R, by omega, s2.wn_nil, rfl⟩
  rintro k T h' ⟨i, b, d, t2, t3, R, hi, s3, rfl⟩
  have gp := (s3.mv 1).get
  refine wpC_seq (sr fun LL hLL => ?_)
  simp only [ptrTo, pend, pend0, Pd.old, pendU, pendU0, oxA0, oxA1, oxA2, oxA3, oxA4, oxA5, oxA6, oxA7, oxA8, oxA9, oxA10, oxL0, oxL1, oxTy0, oxTy1, oxTy2, ↓reduceIte, Nat.reduceAdd, Nat.reduceLeDiff, Nat.reduceLT, Nat.reduceEqDiff, Nat.reduceMul, Nat.reduceSub, Int.reduceEq, Int.reduceLT, Int.reduceLE, Int.reduceAdd, Int.reduceNeg, Int.reduceNe, Int.reduceToNat, Nat.testBit, Nat.reduceShiftRight, Nat.reduceAnd, Nat.reduceBneDiff, Nat.reduceBEq, gR_some, gp]
  refine hLL _ _ ?_
  refine wpC_if ?_
  simp only [ptrTo, pend, pend0, Pd.old, pendU, pendU0, oxA0, oxA1, oxA2, oxA3, oxA4, oxA5, oxA6, oxA7, oxA8, oxA9, oxA10, oxL0, oxL1, oxTy0, oxTy1, oxTy2, ↓reduceIte, Nat.reduceAdd, Nat.reduceLeDiff, Nat.reduceLT, Nat.reduceEqDiff, Nat.reduceMul, Nat.reduceSub, Int.reduceEq, Int.reduceLT, Int.reduceLE, Int.reduceAdd, Int.reduceNeg, Int.reduceNe, Int.reduceToNat, Nat.testBit, Nat.reduceShiftRight, Nat.reduceAnd, Nat.reduceBneDiff, Nat.reduceBEq, gR_some]
  refine gC_of (fun hc => ?_) (fun hc => ?_)
  · refine wpC_skip ?_
    simp only [ptrTo, pend, pend0, Pd.old, pendU, pendU0, oxA0, oxA1, oxA2, oxA3, oxA4, oxA5, oxA6, oxA7, oxA8, oxA9, oxA10, oxL0, oxL1, oxTy0, oxTy1, oxTy2, ↓reduceIte, Nat.reduceAdd, Nat.reduceLeDiff, Nat.reduceLT, Nat.reduceEqDiff, Nat.reduceMul, Nat.reduceSub, Int.reduceEq, Int.reduceLT, Int.reduceLE, Int.reduceAdd, Int.reduceNeg, Int.reduceNe, Int.reduceToNat, Nat.testBit, Nat.reduceShiftRight, Nat.reduceAnd, Nat.reduceBneDiff, Nat.reduceBEq, gR_some]
    refine fg6 (fun R => ?_)
    have hi' : i < PP.length := by omega
    have hiS : i < PS.length := by omega
    have hni : PS[i].no = PP[i].1 := ps_no e1 i hiS hi'
    obtain ⟨b1, o1, ro1, sz1, C1, e1', rfl, p1, g1, r1, q1⟩ := ((s3.mv 3).rs Pc.len).resolve_left (by rintro rfl; simp at hiS)
    have w1 : C1[o1 + i * 2 + 0]? = some (.int .i64 PS[i].no) := Rs.cell Pc.len r1 q1 i hiS 0 (by omega)
    rw [Nat.add_zero] at w1
    obtain ⟨w2, x2⟩ := Rs.row Pc.len r1 q1 i hiS
    have hcl : PS[i].cells = [.int .i64 PS[i].no, .slice PS[i].v.a PS[i].v.len PS[i].v.cap] := rfl
    have va : (PS[i].cells.all fun y => veq 5 y y) = true := by simp [Pc.cells, veq]
    have zz : aZeros [.int .i64 0, .slice none 0 0] 1 = [.int .i64 0, .slice none 0 0] := rfl
    have ht : PS.take (i + 1) = PS.take i ++ [PS[i]] := List.take_succ_eq_append_getElem hiS
    have hfl : ((PS.take i).filter (fun x => decide (no < x.no))).length < 1000000 := Nat.lt_of_le_of_lt (List.length_filter_le _ _) (by simp; omega)
    refine wpC_seq (wpC_block ?_)
    by_cases hn : no < PS[i].no
    · have hf : (PS.take (i + 1)).filter (fun x => decide (no < x.no)) = (PS.take i).filter (fun x => decide (no < x.no)) ++ [PS[i]] := by rw [ht, List.filter_append, List.filter_cons_of_pos (by simpa using hn), List.filter_nil]
      obtain ⟨aE, cE, h7, y1, y2⟩ := s3.app1 (bytes := 32) PS[i] Pc.len Pc.oc (by omega) (by omega)
      rw [← hf] at y2
      refine sr (fun LL hLL => ?_)
      simp only [ptrTo, pend, pend0, Pd.old, pendU, pendU0, oxA0, oxA1, oxA2, oxA3, oxA4, oxA5, oxA6, oxA7, oxA8, oxA9, oxA10, oxL0, oxL1, oxTy0, oxTy1, oxTy2, ↓reduceIte, Nat.reduceAdd, Nat.reduceLeDiff, Nat.reduceLT, Nat.reduceEqDiff, Nat.reduceMul, Nat.reduceSub, Int.reduceEq, Int.reduceLT, Int.reduceLE, Int.reduceAdd, Int.reduceNeg, Int.reduceNe, Int.reduceToNat, Nat.testBit, Nat.reduceShiftRight, Nat.reduceAnd, Nat.reduceBneDiff, Nat.reduceBEq, gR_some, ixF hi', gp, g1, w1, gt_iff_lt, eq_true hn]
      refine hLL _ _ ?_
      refine wpC_if ?_
      simp only [ptrTo, pend, pend0, Pd.old, pendU, pendU0, oxA0, oxA1, oxA2, oxA3, oxA4, oxA5, oxA6, oxA7, oxA8, oxA9, oxA10, oxL0, oxL1, oxTy0, oxTy1, oxTy2, ↓reduceIte, Nat.reduceAdd, Nat.reduceLeDiff, Nat.reduceLT, Nat.reduceEqDiff, Nat.reduceMul, Nat.reduceSub, Int.reduceEq, Int.reduceLT, Int.reduceLE, Int.reduceAdd, Int.reduceNeg, Int.reduceNe, Int.reduceToNat, Nat.testBit, Nat.reduceShiftRight, Nat.reduceAnd, Nat.reduceBneDiff, Nat.reduceBEq, gR_some]
      refine fg6 (fun R => ?_)
      refine rg (fun LL hLL => ?_)
      simp only [ptrTo, pend, pend0, Pd.old, pendU, pendU0, oxA0, oxA1, oxA2, oxA3, oxA4, oxA5, oxA6, oxA7, oxA8, oxA9, oxA10, oxL0, oxL1, oxTy0, oxTy1, oxTy2, ↓reduceIte, Nat.reduceAdd, Nat.reduceLeDiff, Nat.reduceLT, Nat.reduceEqDiff, Nat.reduceMul, Nat.reduceSub, Int.reduceEq, Int.reduceLT, Int.reduceLE, Int.reduceAdd, Int.reduceNeg, Int.reduceNe, Int.reduceToNat, Nat.testBit, Nat.reduceShiftRight, Nat.reduceAnd, Nat.reduceBneDiff, Nat.reduceBEq, gR_some, ixF hi', gp, g1, w2, eq_true x2, va, hcl, zz]
      rw [hcl] at y1
      rw [y1]
      simp only [ptrTo, pend, pend0, Pd.old, pendU, pendU0, oxA0, oxA1, oxA2, oxA3, oxA4, oxA5, oxA6, oxA7, oxA8, oxA9, oxA10, oxL0, oxL1, oxTy0, oxTy1, oxTy2, ↓reduceIte, Nat.reduceAdd, Nat.reduceLeDiff, Nat.reduceLT, Nat.reduceEqDiff, Nat.reduceMul, Nat.reduceSub, Int.reduceEq, Int.reduceLT, Int.reduceLE, Int.reduceAdd, Int.reduceNeg, Int.reduceNe, Int.reduceToNat, Nat.testBit, Nat.reduceShiftRight, Nat.reduceAnd, Nat.reduceBneDiff, Nat.reduceBEq, gR_some]
      refine hLL _ _ ?_
      simp only [ptrTo, pend, pend0, Pd.old, pendU, pendU0, oxA0, oxA1, oxA2, oxA3, oxA4, oxA5, oxA6, oxA7, oxA8, oxA9, oxA10, oxL0, oxL1, oxTy0, oxTy1, oxTy2, ↓reduceIte, Nat.reduceAdd, Nat.reduceLeDiff, Nat.reduceLT, Nat.reduceEqDiff, Nat.reduceMul, Nat.reduceSub, Int.reduceEq, Int.reduceLT, Int.reduceLE, Int.reduceAdd, Int.reduceNeg, Int.reduceNe, Int.reduceToNat, Nat.testBit, Nat.reduceShiftRight, Nat.reduceAnd, Nat.reduceBneDiff, Nat.reduceBEq, gR_some]
      refine fg6 (fun R => ?_)
      refine rg (fun LL hLL => ?_)
      simp only [ptrTo, pend, pend0, Pd.old, pendU, pendU0, oxA0, oxA1, oxA2, oxA3, oxA4, oxA5, oxA6, oxA7, oxA8, oxA9, oxA10, oxL0, oxL1, oxTy0, oxTy1, oxTy2, ↓reduceIte, Nat.reduceAdd, Nat.reduceLeDiff, Nat.reduceLT, Nat.reduceEqDiff, Nat.reduceMul, Nat.reduceSub, Int.reduceEq, Int.reduceLT, Int.reduceLE, Int.reduceAdd, Int.reduceNeg, Int.reduceNe, Int.reduceToNat, Nat.testBit, Nat.reduceShiftRight, Nat.reduceAnd, Nat.reduceBneDiff, Nat.reduceBEq, gR_some, wsucc (show i < 9223372036854775807 by omega)]
      refine hLL _ _ ?_
      simp only [ptrTo, pend, pend0, Pd.old, pendU, pendU0, oxA0, oxA1, oxA2, oxA3, oxA4, oxA5, oxA6, oxA7, oxA8, oxA9, oxA10, oxL0, oxL1, oxTy0, oxTy1, oxTy2, ↓reduceIte, Nat.reduceAdd, Nat.reduceLeDiff, Nat.reduceLT, Nat.reduceEqDiff, Nat.reduceMul, Nat.reduceSub, Int.reduceEq, Int.reduceLT, Int.reduceLE, Int.reduceAdd, Int.reduceNeg, Int.reduceNe, Int.reduceToNat, Nat.testBit, Nat.reduceShiftRight, Nat.reduceAnd, Nat.reduceBneDiff, Nat.reduceBEq, gR_some]
      exact ⟨k - 1, by omega, i + 1, aE, cE, _, _, _, by omega, y2, by rw [hf, List.length_append]; rfl⟩
    · have hf : (PS.take (i + 1)).filter (fun x => decide (no < x.no)) = (PS.take i).filter (fun x => decide (no < x.no)) := by rw [ht, List.filter_append, List.filter_cons_of_neg (by simpa using hn), List.filter_nil, List.append_nil]
      refine sr (fun LL hLL => ?_)
      simp only [ptrTo, pend, pend0, Pd.old, pendU, pendU0, oxA0, oxA1, oxA2, oxA3, oxA4, oxA5, oxA6, oxA7, oxA8, oxA9, oxA10, oxL0, oxL1, oxTy0, oxTy1, oxTy2, ↓reduceIte, Nat.reduceAdd, Nat.reduceLeDiff, Nat.reduceLT, Nat.reduceEqDiff, Nat.reduceMul, Nat.reduceSub, Int.reduceEq, Int.reduceLT, Int.reduceLE, Int.reduceAdd, Int.reduceNeg, Int.reduceNe, Int.reduceToNat, Nat.testBit, Nat.reduceShiftRight, Nat.reduceAnd, Nat.reduceBneDiff, Nat.reduceBEq, gR_some, ixF hi', gp, g1, w1, gt_iff_lt, eq_false hn]
      refine hLL _ _ ?_
      refine wpC_if ?_
      simp only [ptrTo, pend, pend0, Pd.old, pendU, pendU0, oxA0, oxA1, oxA2, oxA3, oxA4, oxA5, oxA6, oxA7, oxA8, oxA9, oxA10, oxL0, oxL1, oxTy0, oxTy1, oxTy2, ↓reduceIte, Nat.reduceAdd, Nat.reduceLeDiff, Nat.reduceLT, Nat.reduceEqDiff, Nat.reduceMul, Nat.reduceSub, Int.reduceEq, Int.reduceLT, Int.reduceLE, Int.reduceAdd, Int.reduceNeg, Int.reduceNe, Int.reduceToNat, Nat.testBit, Nat.reduceShiftRight, Nat.reduceAnd, Nat.reduceBneDiff, Nat.reduceBEq, gR_some]
      refine wpC_skip ?_
      simp only [ptrTo, pend, pend0, Pd.old, pendU, pendU0, oxA0, oxA1, oxA2, oxA3, oxA4, oxA5, oxA6, oxA7, oxA8, oxA9, oxA10, oxL0, oxL1, oxTy0, oxTy1, oxTy2, ↓reduceIte, Nat.reduceAdd, Nat.reduceLeDiff, Nat.reduceLT, Nat.reduceEqDiff, Nat.reduceMul, Nat.reduceSub, Int.reduceEq, Int.reduceLT, Int.reduceLE, Int.reduceAdd, Int.reduceNeg, Int.reduceNe, Int.reduceToNat, Nat.testBit, Nat.reduceShiftRight, Nat.reduceAnd, Nat.reduceBneDiff, Nat.reduceBEq, gR_some]
      refine fg6 (fun R => ?_)
      refine rg (fun LL hLL => ?_)
      simp only [ptrTo, pend, pend0, Pd.old, pendU, pendU0, oxA0, oxA1, oxA2, oxA3, oxA4, oxA5, oxA6, oxA7, oxA8, oxA9, oxA10, oxL0, oxL1, oxTy0, oxTy1, oxTy2, ↓reduceIte, Nat.reduceAdd, Nat.reduceLeDiff, Nat.reduceLT, Nat.reduceEqDiff, Nat.reduceMul, Nat.reduceSub, Int.reduceEq, Int.reduceLT, Int.reduceLE, Int.reduceAdd, Int.reduceNeg, Int.reduceNe, Int.reduceToNat, Nat.testBit, Nat.reduceShiftRight, Nat.reduceAnd, Nat.reduceBneDiff, Nat.reduceBEq, gR_some, wsucc (show i < 9223372036854775807 by omega)]
      refine hLL _ _ ?_
      simp only [ptrTo, pend, pend0, Pd.old, pendU, pendU0, oxA0, oxA1, oxA2, oxA3, oxA4, oxA5, oxA6, oxA7, oxA8, oxA9, oxA10, oxL0, oxL1, oxTy0, oxTy1, oxTy2, ↓reduceIte, Nat.reduceAdd, Nat.reduceLeDiff, Nat.reduceLT, Nat.reduceEqDiff, Nat.reduceMul, Nat.reduceSub, Int.reduceEq, Int.reduceLT, Int.reduceLE, Int.reduceAdd, Int.reduceNeg, Int.reduceNe, Int.reduceToNat, Nat.testBit, Nat.reduceShiftRight, Nat.reduceAnd, Nat.reduceBneDiff, Nat.reduceBEq, gR_some]
      exact ⟨k - 1, by omega, i + 1, b, d, _, _, _, by omega, by rw [hf]; exact s3, by rw [hf]⟩
  · have hil : i = PP.length := by omega
    subst hil
    rw [List.take_of_length_le (by omega)] at s3 ⊢
    obtain ⟨k1, k2, k3⟩ := wns_filter no PS PP e1
    have hpl := ps_len k2
    refine wpC_exit ?_
    simp only [ptrTo, pend, pend0, Pd.old, pendU, pendU0, oxA0, oxA1, oxA2, oxA3, oxA4, oxA5, oxA6, oxA7, oxA8, oxA9, oxA10, oxL0, oxL1, oxTy0, oxTy1, oxTy2, ↓reduceIte, Nat.reduceAdd, Nat.reduceLeDiff, Nat.reduceLT, Nat.reduceEqDiff, Nat.reduceMul, Nat.reduceSub, Int.reduceEq, Int.reduceLT, Int.reduceLE, Int.reduceAdd, Int.reduceNeg, Int.reduceNe, Int.reduceToNat, Nat.testBit, Nat.reduceShiftRight, Nat.reduceAnd, Nat.reduceBneDiff, Nat.reduceBEq, gR_some]
    refine fg6 (fun R => ?_)
    refine rg (fun LL hLL => ?_)
    simp only [ptrTo, pend, pend0, Pd.old, pendU, pendU0, oxA0, oxA1, oxA2, oxA3, oxA4, oxA5, oxA6, oxA7, oxA8, oxA9, oxA10, oxL0, oxL1, oxTy0, oxTy1, oxTy2, ↓reduceIte, Nat.reduceAdd, Nat.reduceLeDiff, Nat.reduceLT, Nat.reduceEqDiff, Nat.reduceMul, Nat.reduceSub, Int.reduceEq, Int.reduceLT, Int.reduceLE, Int.reduceAdd, Int.reduceNeg, Int.reduceNe, Int.reduceToNat, Nat.testBit, Nat.reduceShiftRight, Nat.reduceAnd, Nat.reduceBneDiff, Nat.reduceBEq, gR_some, gp]
    refine hLL _ _ ?_
    refine out_normal ?_
    simp only [ptrTo, pend, pend0, Pd.old, pendU, pendU0, oxA0, oxA1, oxA2, oxA3, oxA4, oxA5, oxA6, oxA7, oxA8, oxA9, oxA10, oxL0, oxL1, oxTy0, oxTy1, oxTy2, ↓reduceIte, Nat.reduceAdd, Nat.reduceLeDiff, Nat.reduceLT, Nat.reduceEqDiff, Nat.reduceMul, Nat.reduceSub, Int.reduceEq, Int.reduceLT, Int.reduceLE, Int.reduceAdd, Int.reduceNeg, Int.reduceNe, Int.reduceToNat, Nat.testBit, Nat.reduceShiftRight, Nat.reduceAnd, Nat.reduceBneDiff, Nat.reduceBEq, gR_some]
    have s4 := ((s3.mv 1).set (.cells false 0 [.slice aL L.length cL, .slice b (PS.filter (fun x => decide (no < x.no))).length d, .int .i64 lst', .bool true] 53))
    rw [hpl] at s4
    have s5 := St_sub k1 (s4.mv 4)
    refine hk _ (rk_in (aL := aL) (cL := cL) (aP := b) (cP := d) k2 (k3 e2) ?_)
    rw [hpl]
    exact s5.sel 5 [1, 3, 2, 0]
end
end Go.Proofs
