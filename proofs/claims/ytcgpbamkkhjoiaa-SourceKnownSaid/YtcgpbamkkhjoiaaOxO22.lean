/-
  SourceKnown's body. CONDITIONS: none.
-/
import Derived.Test.YtcgpbamkkhjoiaaOxO18
set_option linter.unusedSimpArgs false
set_option linter.unusedVariables false
namespace Go.Proofs
open Go Go.Ox
set_option maxRecDepth 100000
set_option maxHeartbeats 4000000
def NL : List Int := [-9223372036854775808, -1, 0, 1, 2, 3, 4, 5, 9223372036854775807]
def PL : List (List Rc) := [[⟨1, 1⟩, ⟨1, 2⟩], [], [⟨2, 3⟩], [⟨3, 4⟩, ⟨3, 5⟩, ⟨3, 6⟩]]
theorem RsN.take {h : AHeap} {a : Option Addr} {A : List (List Rc)} (r : RsN Rc.cells 2 h a A) (n : Nat) : RsN Rc.cells 2 h a (A.take n) := by
  obtain ⟨S, hS, h1, h2⟩ := r
  refine ⟨S.take n, by rw [List.map_take, List.map_take, hS], h1.take Sv.len1 n, fun i hi hj => ?_⟩
  simp only [List.length_take] at hi hj
  simp only [List.getElem_take]
  exact h2 i (by omega) (by omega)
theorem tells_len (A : List (List Rc)) (O Q : List Int) (a b e : Option Addr) (c d g nA nO nQ : Nat) (hA : A.length = nA) (hO' : O.length = nO) (hQ' : Q.length = nQ) (h : AHeap) (K : Value → AHeap → Prop) (rA : RsN Rc.cells 2 h a A) (rO : Rs icell 1 h b O) (rQ : Rs icell 1 h e Q) (hl : A.length < 9223372036854775808) (hb : ∀ L ∈ A, L.length < 8796093022208)
    (hO : O.length < 17592186044000) (hQ : Q.length < 9223372036854775808) (hk : ∀ h', Fr h h' [] → K (.bool true) h') : wpF Try.prog (.fn 3) [.slice a nA c, .slice b nO d, .slice e nQ g] h K := by
  subst hA hO' hQ'; exact tells_body A O Q a b e c d g h K rA rO rQ hl hb hO hQ hk
theorem fairly_len (A : List (List Rc)) (Q : List Int) (which rnd : Int) (a b : Option Addr) (c d nA nQ : Nat) (hA : A.length = nA) (hQ' : Q.length = nQ) (h : AHeap) (K : Value → AHeap → Prop) (rA : RsN Rc.cells 2 h a A) (rQ : Rs icell 1 h b Q) (hl : A.length < 9223372036854775808) (hb : ∀ L ∈ A, L.length < 8796093022208)
    (hQ : Q.length < 9223372036854775808) (hk : ∀ h', Fr h h' [] → K (.bool true) h') : wpF Try.prog (.fn 5) [.slice a nA c, .slice b nQ d, .int .i64 which, .int .i64 rnd] h K := by
  subst hA hQ'; exact fairly_body A Q which rnd a b c d h K rA rQ hl hb hQ hk
theorem PL_small : ∀ L ∈ PL, L.length < 8796093022208 := by decide
theorem take_small {A : List (List Rc)} {m : Nat} (n : Nat) (h : ∀ L ∈ A, L.length < m) : ∀ L ∈ A.take n, L.length < m := fun L hL => h L (List.mem_of_mem_take hL)
theorem known_body (h : AHeap) (K : Value → AHeap → Prop) (hk : ∀ h', K (.bool true) h') : wpF Try.prog (.fn 7) [] h K := by
  refine wpF_fun 109 [.tmp 0] Try.func7 rfl rfl rfl rfl ?_
  refine sr (fun LL hLL => ?_)
  simp only [ptrTo, pend, pend0, Pd.old, pendU, pendU0, oxA0, oxA1, oxA2, oxA3, oxA4, oxA5, oxA6, oxA7, oxA8, oxA9, oxA10, oxL0, oxL1, oxTy0, oxTy1, ↓reduceIte, Nat.reduceAdd, Nat.reduceLeDiff, Nat.reduceLT, Nat.reduceEqDiff, Nat.reduceMul, Nat.reduceSub, Int.reduceEq, Int.reduceLT, Int.reduceLE, Int.reduceAdd, Int.reduceNeg, Int.reduceNe, Int.reduceToNat, Nat.testBit, Nat.reduceShiftRight, Nat.reduceAnd, Nat.reduceBneDiff, Nat.reduceBEq, gR_some]
  refine hLL _ _ ?_
  have z9 : aZeros [.int .i64 0] 9 = [.int .i64 0, .int .i64 0, .int .i64 0, .int .i64 0, .int .i64 0, .int .i64 0, .int .i64 0, .int .i64 0, .int .i64 0] := rfl
  have y1 : aZeros [.int .i64 0, .int .i64 0] 1 = [.int .i64 0, .int .i64 0] := rfl
  have y2 : aZeros [.int .i64 0, .int .i64 0] 2 = [.int .i64 0, .int .i64 0, .int .i64 0, .int .i64 0] := rfl
  have y3 : aZeros [.int .i64 0, .int .i64 0] 3 = [.int .i64 0, .int .i64 0, .int .i64 0, .int .i64 0, .int .i64 0, .int .i64 0] := rfl
  have x4 : aZeros [.slice none 0 0] 4 = [.slice none 0 0, .slice none 0 0, .slice none 0 0, .slice none 0 0] := rfl
  refine sr (fun LL hLL => ?_)
  simp only [ptrTo, pend, pend0, Pd.old, pendU, pendU0, oxA0, oxA1, oxA2, oxA3, oxA4, oxA5, oxA6, oxA7, oxA8, oxA9, oxA10, oxL0, oxL1, oxTy0, oxTy1, ↓reduceIte, Nat.reduceAdd, Nat.reduceLeDiff, Nat.reduceLT, Nat.reduceEqDiff, Nat.reduceMul, Nat.reduceSub, Int.reduceEq, Int.reduceLT, Int.reduceLE, Int.reduceAdd, Int.reduceNeg, Int.reduceNe, Int.reduceToNat, Nat.testBit, Nat.reduceShiftRight, Nat.reduceAnd, Nat.reduceBneDiff, Nat.reduceBEq, gR_some, z9]
  refine hLL _ _ ?_
  refine sr (fun LL hLL => ?_)
  simp only [ptrTo, pend, pend0, Pd.old, pendU, pendU0, oxA0, oxA1, oxA2, oxA3, oxA4, oxA5, oxA6, oxA7, oxA8, oxA9, oxA10, oxL0, oxL1, oxTy0, oxTy1, ↓reduceIte, Nat.reduceAdd, Nat.reduceLeDiff, Nat.reduceLT, Nat.reduceEqDiff, Nat.reduceMul, Nat.reduceSub, Int.reduceEq, Int.reduceLT, Int.reduceLE, Int.reduceAdd, Int.reduceNeg, Int.reduceNe, Int.reduceToNat, Nat.testBit, Nat.reduceShiftRight, Nat.reduceAnd, Nat.reduceBneDiff, Nat.reduceBEq, gR_some, y1, y2, y3, x4]
  refine hLL _ _ ?_
  refine wpC_seq ?_
  refine sr (fun LL hLL => ?_)
  simp only [ptrTo, pend, pend0, Pd.old, pendU, pendU0, oxA0, oxA1, oxA2, oxA3, oxA4, oxA5, oxA6, oxA7, oxA8, oxA9, oxA10, oxL0, oxL1, oxTy0, oxTy1, ↓reduceIte, Nat.reduceAdd, Nat.reduceLeDiff, Nat.reduceLT, Nat.reduceEqDiff, Nat.reduceMul, Nat.reduceSub, Int.reduceEq, Int.reduceLT, Int.reduceLE, Int.reduceAdd, Int.reduceNeg, Int.reduceNe, Int.reduceToNat, Nat.testBit, Nat.reduceShiftRight, Nat.reduceAnd, Nat.reduceBneDiff, Nat.reduceBEq, gR_some]
  refine hLL _ _ ?_
  refine fg6 (fun R => ?_)
  obtain ⟨bN, hbN⟩ : ∃ b, b = h.next := ⟨_, rfl⟩
  obtain ⟨b1, hb1⟩ : ∃ b, b = bN + 1 := ⟨_, rfl⟩
  obtain ⟨b3, hb3⟩ : ∃ b, b = b1 + 1 := ⟨_, rfl⟩
  obtain ⟨b4, hb4⟩ : ∃ b, b = b3 + 1 := ⟨_, rfl⟩
  obtain ⟨bP, hbP⟩ : ∃ b, b = b4 + 1 := ⟨_, rfl⟩
  have s0 := ((((St.init h).push (.cells false 1 (NL.flatMap icell) 3)).push (.cells false 2 ((⟨1, 1⟩ :: ⟨1, 2⟩ :: [] : List Rc).flatMap Rc.cells) 37)).push (.cells false 2 ((⟨2, 3⟩ :: [] : List Rc).flatMap Rc.cells) 37)).push (.cells false 2 ((⟨3, 4⟩ :: ⟨3, 5⟩ :: ⟨3, 6⟩ :: [] : List Rc).flatMap Rc.cells) 37)
  simp only [AHeap.next_push, ← hbN, ← hb1, ← hb3, ← hb4, ← hbP] at s0 ⊢
  have t1 := s0.wn_own (f := Rc.cells) [⟨3, 4⟩, ⟨3, 5⟩, ⟨3, 6⟩] rfl
  have t2 := (t1.mv 1).wn_own (f := Rc.cells) [⟨2, 3⟩] rfl
  have t3 := (t2.mv 2).wn_own (f := Rc.cells) [⟨1, 1⟩, ⟨1, 2⟩] rfl
  have t4 := (t3.mv 3).wn_own (f := icell) NL rfl
  have t5 := t4.wn_nil (f := Rc.cells) (k := 2) (e := 37)
  obtain ⟨SL, hSL⟩ : ∃ SL : List Sv, SL = [⟨some ⟨b1, 0, none⟩, 2, 2⟩, ⟨none, 0, 0⟩, ⟨some ⟨b3, 0, none⟩, 1, 1⟩, ⟨some ⟨b4, 0, none⟩, 3, 3⟩] := ⟨_, rfl⟩
  have t6 := (t5.push (.cells false 1 (SL.flatMap Sv.cells) 46)).wn_own SL rfl
  simp only [AHeap.next_push, ← hbN, ← hb1, ← hb3, ← hb4, ← hbP] at t6
  have t7 := (t6).sel 6 [3, 1, 4, 5, 0, 2]
  simp only [List.filterMap_cons, List.filterMap_nil, List.getElem?_cons_succ, List.getElem?_cons_zero, List.drop_succ_cons, List.drop_zero, List.cons_append, List.nil_append] at t7
  rw [hSL] at t7
  have t8 := St.star_in (l := [_, _, _, _]) t7
  have t9 := St.nest_in (f := Rc.cells) (k := 2) (e := 37) (LL := PL) (S := [⟨some ⟨b1, 0, none⟩, 2, 2⟩, ⟨none, 0, 0⟩, ⟨some ⟨b3, 0, none⟩, 1, 1⟩, ⟨some ⟨b4, 0, none⟩, 3, 3⟩]) rfl (t8.mv 1)
  refine wpC_block ?_
  refine wpC_loop (fun k T h' => ∃ (i : Nat) (t4 t5 : Value) (R : List Value), k + i = 9 ∧ St h h' [nest Rc.cells 2 37 46 (some ⟨bP, 0, none⟩) 4 PL, wn icell 1 3 (some ⟨bN, 0, none⟩) 9 NL] ∧
    T = .bool false :: .slice (some ⟨bN, 0, none⟩) 9 9 :: .slice (some ⟨bP, 0, none⟩) 4 4 :: .int .i64 i :: t4 :: t5 :: R) ?_ 9 _ _ ⟨0, _, _, _, by omega, t9, rfl⟩
  rintro k T h' ⟨i, t4', t5', R, hi, s, rfl⟩
  by_cases hi9 : i < 9
  · refine wpC_seq (sr fun LL hLL => ?_)
    simp only [ptrTo, pend, pend0, Pd.old, pendU, pendU0, oxA0, oxA1, oxA2, oxA3, oxA4, oxA5, oxA6, oxA7, oxA8, oxA9, oxA10, oxL0, oxL1, oxTy0, oxTy1, ↓reduceIte, Nat.reduceAdd, Nat.reduceLeDiff, Nat.reduceLT, Nat.reduceEqDiff, Nat.reduceMul, Nat.reduceSub, Int.reduceEq, Int.reduceLT, Int.reduceLE, Int.reduceAdd, Int.reduceNeg, Int.reduceNe, Int.reduceToNat, Nat.testBit, Nat.reduceShiftRight, Nat.reduceAnd, Nat.reduceBneDiff, Nat.reduceBEq, gR_some, eq_true (show (i : Int) < ((9 : Nat) : Int) by omega)]
    refine hLL _ _ ?_
    refine wpC_if ?_
    simp only [ptrTo, pend, pend0, Pd.old, pendU, pendU0, oxA0, oxA1, oxA2, oxA3, oxA4, oxA5, oxA6, oxA7, oxA8, oxA9, oxA10, oxL0, oxL1, oxTy0, oxTy1, ↓reduceIte, Nat.reduceAdd, Nat.reduceLeDiff, Nat.reduceLT, Nat.reduceEqDiff, Nat.reduceMul, Nat.reduceSub, Int.reduceEq, Int.reduceLT, Int.reduceLE, Int.reduceAdd, Int.reduceNeg, Int.reduceNe, Int.reduceToNat, Nat.testBit, Nat.reduceShiftRight, Nat.reduceAnd, Nat.reduceBneDiff, Nat.reduceBEq, gR_some]
    refine wpC_skip ?_
    simp only [ptrTo, pend, pend0, Pd.old, pendU, pendU0, oxA0, oxA1, oxA2, oxA3, oxA4, oxA5, oxA6, oxA7, oxA8, oxA9, oxA10, oxL0, oxL1, oxTy0, oxTy1, ↓reduceIte, Nat.reduceAdd, Nat.reduceLeDiff, Nat.reduceLT, Nat.reduceEqDiff, Nat.reduceMul, Nat.reduceSub, Int.reduceEq, Int.reduceLT, Int.reduceLE, Int.reduceAdd, Int.reduceNeg, Int.reduceNe, Int.reduceToNat, Nat.testBit, Nat.reduceShiftRight, Nat.reduceAnd, Nat.reduceBneDiff, Nat.reduceBEq, gR_some]
    refine fg6 (fun R => ?_)
    refine wpC_seq (wpC_block ?_)
    refine sr (fun LL hLL => ?_)
    simp only [ptrTo, pend, pend0, Pd.old, pendU, pendU0, oxA0, oxA1, oxA2, oxA3, oxA4, oxA5, oxA6, oxA7, oxA8, oxA9, oxA10, oxL0, oxL1, oxTy0, oxTy1, ↓reduceIte, Nat.reduceAdd, Nat.reduceLeDiff, Nat.reduceLT, Nat.reduceEqDiff, Nat.reduceMul, Nat.reduceSub, Int.reduceEq, Int.reduceLT, Int.reduceLE, Int.reduceAdd, Int.reduceNeg, Int.reduceNe, Int.reduceToNat, Nat.testBit, Nat.reduceShiftRight, Nat.reduceAnd, Nat.reduceBneDiff, Nat.reduceBEq, gR_some]
    refine hLL _ _ ?_
    refine fg6 (fun R => ?_)
    refine wpC_block ?_
    refine wpC_loop (fun k' T h' => ∃ (j : Nat) (t5 : Value) (R : List Value), k' + j = 9 ∧ St h h' [nest Rc.cells 2 37 46 (some ⟨bP, 0, none⟩) 4 PL, wn icell 1 3 (some ⟨bN, 0, none⟩) 9 NL] ∧
      T = .bool false :: .slice (some ⟨bN, 0, none⟩) 9 9 :: .slice (some ⟨bP, 0, none⟩) 4 4 :: .int .i64 i :: .int .i64 j :: t5 :: R) ?_ 9 _ _ ⟨0, _, _, by omega, s, rfl⟩
    rintro k' T h' ⟨j, t5', R, hj, s, rfl⟩
    by_cases hj9 : j < 9
    · refine wpC_seq (sr fun LL hLL => ?_)
      simp only [ptrTo, pend, pend0, Pd.old, pendU, pendU0, oxA0, oxA1, oxA2, oxA3, oxA4, oxA5, oxA6, oxA7, oxA8, oxA9, oxA10, oxL0, oxL1, oxTy0, oxTy1, ↓reduceIte, Nat.reduceAdd, Nat.reduceLeDiff, Nat.reduceLT, Nat.reduceEqDiff, Nat.reduceMul, Nat.reduceSub, Int.reduceEq, Int.reduceLT, Int.reduceLE, Int.reduceAdd, Int.reduceNeg, Int.reduceNe, Int.reduceToNat, Nat.testBit, Nat.reduceShiftRight, Nat.reduceAnd, Nat.reduceBneDiff, Nat.reduceBEq, gR_some, eq_true (show (j : Int) < ((9 : Nat) : Int) by omega)]
      refine hLL _ _ ?_
      refine wpC_if ?_
      simp only [ptrTo, pend, pend0, Pd.old, pendU, pendU0, oxA0, oxA1, oxA2, oxA3, oxA4, oxA5, oxA6, oxA7, oxA8, oxA9, oxA10, oxL0, oxL1, oxTy0, oxTy1, ↓reduceIte, Nat.reduceAdd, Nat.reduceLeDiff, Nat.reduceLT, Nat.reduceEqDiff, Nat.reduceMul, Nat.reduceSub, Int.reduceEq, Int.reduceLT, Int.reduceLE, Int.reduceAdd, Int.reduceNeg, Int.reduceNe, Int.reduceToNat, Nat.testBit, Nat.reduceShiftRight, Nat.reduceAnd, Nat.reduceBneDiff, Nat.reduceBEq, gR_some]
      refine wpC_skip ?_
      simp only [ptrTo, pend, pend0, Pd.old, pendU, pendU0, oxA0, oxA1, oxA2, oxA3, oxA4, oxA5, oxA6, oxA7, oxA8, oxA9, oxA10, oxL0, oxL1, oxTy0, oxTy1, ↓reduceIte, Nat.reduceAdd, Nat.reduceLeDiff, Nat.reduceLT, Nat.reduceEqDiff, Nat.reduceMul, Nat.reduceSub, Int.reduceEq, Int.reduceLT, Int.reduceLE, Int.reduceAdd, Int.reduceNeg, Int.reduceNe, Int.reduceToNat, Nat.testBit, Nat.reduceShiftRight, Nat.reduceAnd, Nat.reduceBneDiff, Nat.reduceBEq, gR_some]
      refine fg6 (fun R => ?_)
      have hiN : i < NL.length := hi9
      have hjN : j < NL.length := hj9
      have hmN : (i + j) % 9 < NL.length := Nat.mod_lt _ (by omega)
      obtain ⟨bq, oq, roq, szq, Cq, eq, q0, pq, gq, rq, qq⟩ := ((s.mv 1).rs icell.len).resolve_left (by intro k; cases k)
      simp only [Option.some.injEq, Addr.mk.injEq, and_true] at q0
      obtain ⟨rfl, rfl⟩ := q0
      have wi : Cq[0 + i * 1]? = some (.int .i64 NL[i]) := Rs.cell icell.len rq qq i hiN 0 (by omega)
      have wj : Cq[0 + j * 1]? = some (.int .i64 NL[j]) := Rs.cell icell.len rq qq j hjN 0 (by omega)
      have wm : Cq[0 + ((i + j) % 9) * 1]? = some (.int .i64 NL[(i + j) % 9]) := Rs.cell icell.len rq qq _ hmN 0 (by omega)
      rw [Nat.zero_add] at wi wj wm
      have hw : IntKind.i64.wrap ((i : Int) + (j : Int)) = (i : Int) + (j : Int) := wrap_i64 (by omega) (by omega)
      have hm : ((i : Int) + (j : Int)).tmod ((9 : Nat) : Int) = (((i + j) % 9 : Nat) : Int) := by rw [Int.tmod_eq_emod_of_nonneg (by omega)]; omega
      have e9 : ∀ m : Nat, m < 9 → (0 ≤ (m : Int)) = True ∧ ((m : Int) < ((9 : Nat) : Int)) = True ∧ (m : Int).toNat = m := fun m hm => ⟨by simp, eq_true (by omega), Int.toNat_natCast m⟩
      have z5 : aZeros [.int .i64 0] 5 = [.int .i64 0, .int .i64 0, .int .i64 0, .int .i64 0, .int .i64 0] := rfl
      obtain ⟨OL, hOL⟩ : ∃ OL : List Int, OL = [NL[i], NL[j], NL[(i + j) % 9], NL[j], NL[i]] := ⟨_, rfl⟩
      have gq1 : (h'.push (.cells false 1 [.int .i64 NL[i], .int .i64 NL[j], .int .i64 NL[(i + j) % 9], .int .i64 NL[j], .int .i64 NL[i]] 3)).get bN = some (.cells roq szq Cq eq) := by
        rw [AHeap.get_push, if_neg (by omega)]; exact gq
      refine wpC_seq (wpC_block ?_)
      refine su [some 29, some 30, some 31, some 32, some 33, some 34, some 35, some 36, some 37, some 38, some 39, some 40, some 41, some 42, some 43, some 44, some 45, some 46, some 47, some 48, some 49, some 50, some 51, some 52, some 53, some 54, some 5] 27 [0, 0, 3, 7, 0, 0, 48, 112, 0, 0, 0, 1536, 0, 4096, 15872, 32512, 65280, 0, 0, 393216, 917504, 0, 0, 6291456, 14680064, 33554431, 67108863] (by rfl) (by rfl) (by decide +kernel) (by decide +kernel) (by decide +kernel) (fun LL hLL => ?_)
      simp only [ptrTo, pend, pend0, Pd.old, pendU, pendU0, oxA0, oxA1, oxA2, oxA3, oxA4, oxA5, oxA6, oxA7, oxA8, oxA9, oxA10, oxL0, oxL1, oxTy0, oxTy1, ↓reduceIte, Nat.reduceAdd, Nat.reduceLeDiff, Nat.reduceLT, Nat.reduceEqDiff, Nat.reduceMul, Nat.reduceSub, Int.reduceEq, Int.reduceLT, Int.reduceLE, Int.reduceAdd, Int.reduceNeg, Int.reduceNe, Int.reduceToNat, Nat.testBit, Nat.reduceShiftRight, Nat.reduceAnd, Nat.reduceBneDiff, Nat.reduceBEq, gR_some, e9 i hi9, e9 j hj9, e9 ((i + j) % 9) (Nat.mod_lt _ (by omega)), gq, gq1, wi, wj, wm, hw, hm, z5, eq_false (show ¬ ((9 : Nat) : Int) = 0 by omega)]
      refine hLL _ _ ?_
      refine fg6 (fun R => ?_)
      have s1 := (s.push (.cells false 1 [.int .i64 NL[i], .int .i64 NL[j], .int .i64 NL[(i + j) % 9], .int .i64 NL[j], .int .i64 NL[i]] 3)).wn_own (f := icell) OL (by rw [hOL]; rfl)
      obtain ⟨bO, hbO⟩ : ∃ b, b = h'.next := ⟨_, rfl⟩
      obtain ⟨h2, eh2⟩ : ∃ h2, h2 = h'.push (.cells false 1 [.int .i64 NL[i], .int .i64 NL[j], .int .i64 NL[(i + j) % 9], .int .i64 NL[j], .int .i64 NL[i]] 3) := ⟨_, rfl⟩
      rw [← eh2, ← hbO] at s1 ⊢
      have hOl : OL.length = 5 := by rw [hOL]; rfl
      rw [hOl] at s1
      have hOt : (OL.take (j / 2)).length = j / 2 := by rw [List.length_take]; omega
      have hNt : (NL.take (i / 2)).length = i / 2 := by rw [List.length_take, show NL.length = 9 from rfl]; omega
      have hPt : (PL.take (i / 2 % 4)).length = i / 2 % 4 := by rw [List.length_take, show PL.length = 4 from rfl]; omega
      have d1 : ((j : Int)).tdiv 2 = ((j / 2 : Nat) : Int) := by rw [Int.tdiv_eq_ediv_of_nonneg (by omega)]; omega
      have d2 : ((i : Int)).tdiv 2 = ((i / 2 : Nat) : Int) := by rw [Int.tdiv_eq_ediv_of_nonneg (by omega)]; omega
      have d3 : (((i / 2 : Nat) : Int)).tmod 4 = ((i / 2 % 4 : Nat) : Int) := by rw [Int.tmod_eq_emod_of_nonneg (by omega)]; omega
      have hbig : capN 5 = 5 := by simp [capN, big]
      have hbig9 : capN 9 = 9 := by simp [capN, big]
      have hbig4 : capN 4 = 4 := by simp [capN, big]
      have l1 : ∀ h : AHeap, aSlice Try.prog h 23 (.slice (some ⟨bO, 0, none⟩) 5 5) none (some (.int .i64 ((j / 2 : Nat) : Int))) none = some (.slice (some ⟨bO, 0, none⟩) (j / 2) 5) := fun h => sl_to (by rfl) (by rfl) (by rw [hbig]; omega) (by rw [hbig]; omega)
      have l2 : ∀ h : AHeap, aSlice Try.prog h 23 (.slice (some ⟨bN, 0, none⟩) 9 9) none (some (.int .i64 ((i / 2 : Nat) : Int))) none = some (.slice (some ⟨bN, 0, none⟩) (i / 2) 9) := fun h => sl_to (by rfl) (by rfl) (by rw [hbig9]; omega) (by rw [hbig9]; omega)
      have l3 : ∀ h : AHeap, aSlice Try.prog h 22 (.slice (some ⟨bP, 0, none⟩) 4 4) none (some (.int .i64 ((i / 2 % 4 : Nat) : Int))) none = some (.slice (some ⟨bP, 0, none⟩) (i / 2 % 4) 4) := fun h => sl_to (by rfl) (by rfl) (by rw [hbig4]; omega) (by rw [hbig4]; omega)
      refine su [some 55, some 56, some 57, some 58, some 59, some 60, some 61, some 62, some 63, some 64, some 65, some 66, some 67, some 68, some 69, some 70, some 71, some 72, some 73, some 74, some 75, some 76, some 77, some 78, some 79, some 80, some 81, some 82, some 83, some 84, some 85, some 86, some 87, some 88, some 89, some 90, some 91, some 92, some 93, some 94, some 95, some 96, some 97, some 98, some 99, some 100, some 101, some 102, some 103, some 104, some 105, some 106, some 107] 53 [0, 0, 0, 7, 15, 31, 63, 63, 63, 319, 959, 63, 4095, 8191, 16383, 32767, 65535, 65535, 65535, 65535, 1048575, 2097151, 4194303, 8388607, 16777215, 16777215, 16777215, 83886079, 251658239, 16777215, 16777215, 16777215, 3238002687, 7532969983, 17179869183, 34359738367, 68719476735, 137438953471, 274877906943, 274877906943, 1099511627775, 2199023255551, 4398046511103, 8796093022207, 17592186044415, 17592186044415, 52776558133247, 123145302310911, 281474976710655, 17592186044415, 1125899906842623, 2251799813685247, 4503599627370495] (by rfl) (by rfl) (by decide +kernel) (by decide +kernel) (by decide +kernel) (fun LL hLL => ?_)
      simp only [ptrTo, pend, pend0, Pd.old, pendU, pendU0, oxA0, oxA1, oxA2, oxA3, oxA4, oxA5, oxA6, oxA7, oxA8, oxA9, oxA10, oxL0, oxL1, oxTy0, oxTy1, ↓reduceIte, Nat.reduceAdd, Nat.reduceLeDiff, Nat.reduceLT, Nat.reduceEqDiff, Nat.reduceMul, Nat.reduceSub, Int.reduceEq, Int.reduceLT, Int.reduceLE, Int.reduceAdd, Int.reduceNeg, Int.reduceNe, Int.reduceToNat, Nat.testBit, Nat.reduceShiftRight, Nat.reduceAnd, Nat.reduceBneDiff, Nat.reduceBEq, gR_held]
      refine tells_len PL OL NL (some ⟨bP, 0, none⟩) (some ⟨bO, 0, none⟩) (some ⟨bN, 0, none⟩) 4 5 9 4 5 9 rfl hOl rfl _ _ ((s1.mv 1).rsn Rc.len) (s1.rs icell.len) ((s1.mv 2).rs icell.len) (by decide) PL_small (by omega) (by decide) fun h3 f3 => ?_
      have v1 : ∀ (a : Option Addr) (m n : Nat), veq 6 (.slice a m n) (.slice a m n) = true := by intro a m n; simp [veq]
      have hw1 : IntKind.i64.wrap ((j : Int).tdiv 2) = ((j / 2 : Nat) : Int) := by rw [d1, wrap_i64 (by omega) (by omega)]
      have hw2 : IntKind.i64.wrap ((i : Int).tdiv 2) = ((i / 2 : Nat) : Int) := by rw [d2, wrap_i64 (by omega) (by omega)]
      have s3 := s1.fr f3
      simp only [ptrTo, pend, pend0, Pd.old, pendU, pendU0, oxA0, oxA1, oxA2, oxA3, oxA4, oxA5, oxA6, oxA7, oxA8, oxA9, oxA10, oxL0, oxL1, oxTy0, oxTy1, ↓reduceIte, Nat.reduceAdd, Nat.reduceLeDiff, Nat.reduceLT, Nat.reduceEqDiff, Nat.reduceMul, Nat.reduceSub, Int.reduceEq, Int.reduceLT, Int.reduceLE, Int.reduceAdd, Int.reduceNeg, Int.reduceNe, Int.reduceToNat, Nat.testBit, Nat.reduceShiftRight, Nat.reduceAnd, Nat.reduceBneDiff, Nat.reduceBEq, gR_held, hw1, l1, v1]
      refine tells_len PL (OL.take (j / 2)) NL (some ⟨bP, 0, none⟩) (some ⟨bO, 0, none⟩) (some ⟨bN, 0, none⟩) 4 5 9 4 (j / 2) 9 rfl hOt rfl _ _ ((s3.mv 1).rsn Rc.len) ((s3.rs icell.len).take icell.len _) ((s3.mv 2).rs icell.len) (by decide) PL_small (by omega) (by decide) fun h4 f4 => ?_
      have s4 := s3.fr f4
      simp only [ptrTo, pend, pend0, Pd.old, pendU, pendU0, oxA0, oxA1, oxA2, oxA3, oxA4, oxA5, oxA6, oxA7, oxA8, oxA9, oxA10, oxL0, oxL1, oxTy0, oxTy1, ↓reduceIte, Nat.reduceAdd, Nat.reduceLeDiff, Nat.reduceLT, Nat.reduceEqDiff, Nat.reduceMul, Nat.reduceSub, Int.reduceEq, Int.reduceLT, Int.reduceLE, Int.reduceAdd, Int.reduceNeg, Int.reduceNe, Int.reduceToNat, Nat.testBit, Nat.reduceShiftRight, Nat.reduceAnd, Nat.reduceBneDiff, Nat.reduceBEq, gR_held, hw1, l1, v1]
      refine replays_body PL NL NL (j : Int) (some ⟨bP, 0, none⟩) (some ⟨bN, 0, none⟩) (some ⟨bN, 0, none⟩) 4 9 9 _ _ ((s4.mv 1).rsn Rc.len) ((s4.mv 2).rs icell.len) ((s4.mv 2).rs icell.len) (by decide) PL_small (by decide) (by decide) fun h5 f5 => ?_
      have s5 := s4.fr f5
      obtain ⟨bq5, oq5, roq5, szq5, Cq5, eq5, q05, pq5, gq5, rq5, qq5⟩ := ((s5.mv 2).rs icell.len).resolve_left (by intro k; cases k)
      simp only [Option.some.injEq, Addr.mk.injEq, and_true] at q05
      obtain ⟨rfl, rfl⟩ := q05
      have wi5 : Cq5[0 + i * 1]? = some (.int .i64 NL[i]) := Rs.cell icell.len rq5 qq5 i hiN 0 (by omega)
      rw [Nat.zero_add] at wi5
      simp only [ptrTo, pend, pend0, Pd.old, pendU, pendU0, oxA0, oxA1, oxA2, oxA3, oxA4, oxA5, oxA6, oxA7, oxA8, oxA9, oxA10, oxL0, oxL1, oxTy0, oxTy1, ↓reduceIte, Nat.reduceAdd, Nat.reduceLeDiff, Nat.reduceLT, Nat.reduceEqDiff, Nat.reduceMul, Nat.reduceSub, Int.reduceEq, Int.reduceLT, Int.reduceLE, Int.reduceAdd, Int.reduceNeg, Int.reduceNe, Int.reduceToNat, Nat.testBit, Nat.reduceShiftRight, Nat.reduceAnd, Nat.reduceBneDiff, Nat.reduceBEq, gR_held, hw1, hw2, l1, l2, v1, gq5, wi5, e9 i hi9]
      refine fairly_len PL (NL.take (i / 2)) (j : Int) NL[i] (some ⟨bP, 0, none⟩) (some ⟨bN, 0, none⟩) 4 9 4 (i / 2) rfl hNt _ _ ((s5.mv 1).rsn Rc.len) (((s5.mv 2).rs icell.len).take icell.len _) (by decide) PL_small (by omega) fun h6 f6 => ?_
      have s6 := s5.fr f6
      have gq6 := f6.at gq5 pq5 (by simp)
      simp only [ptrTo, pend, pend0, Pd.old, pendU, pendU0, oxA0, oxA1, oxA2, oxA3, oxA4, oxA5, oxA6, oxA7, oxA8, oxA9, oxA10, oxL0, oxL1, oxTy0, oxTy1, ↓reduceIte, Nat.reduceAdd, Nat.reduceLeDiff, Nat.reduceLT, Nat.reduceEqDiff, Nat.reduceMul, Nat.reduceSub, Int.reduceEq, Int.reduceLT, Int.reduceLE, Int.reduceAdd, Int.reduceNeg, Int.reduceNe, Int.reduceToNat, Nat.testBit, Nat.reduceShiftRight, Nat.reduceAnd, Nat.reduceBneDiff, Nat.reduceBEq, gR_held, hw1, hw2, l1, l2, v1, gq6, wi5, e9 i hi9]
      refine tells_len [] OL NL none (some ⟨bO, 0, none⟩) (some ⟨bN, 0, none⟩) 0 5 9 0 5 9 rfl hOl rfl _ _ ⟨[], rfl, .inl rfl, fun i hi => by simp at hi⟩ (s6.rs icell.len) ((s6.mv 2).rs icell.len) (by decide) (by simp) (by omega) (by decide) fun h7 f7 => ?_
      have s7 := s6.fr f7
      have gq7 := f7.at gq6 (Nat.lt_of_lt_of_le pq5 f6.next) (by simp)
      have hw4 : ((i / 2 : Nat) : Int).tmod 4 = ((i / 2 % 4 : Nat) : Int) := d3
      simp only [ptrTo, pend, pend0, Pd.old, pendU, pendU0, oxA0, oxA1, oxA2, oxA3, oxA4, oxA5, oxA6, oxA7, oxA8, oxA9, oxA10, oxL0, oxL1, oxTy0, oxTy1, ↓reduceIte, Nat.reduceAdd, Nat.reduceLeDiff, Nat.reduceLT, Nat.reduceEqDiff, Nat.reduceMul, Nat.reduceSub, Int.reduceEq, Int.reduceLT, Int.reduceLE, Int.reduceAdd, Int.reduceNeg, Int.reduceNe, Int.reduceToNat, Nat.testBit, Nat.reduceShiftRight, Nat.reduceAnd, Nat.reduceBneDiff, Nat.reduceBEq, gR_held, hw1, hw2, hw4, l1, l2, l3, v1, gq7, wi5, e9 i hi9]
      refine tells_len (PL.take (i / 2 % 4)) [] NL (some ⟨bP, 0, none⟩) none (some ⟨bN, 0, none⟩) 4 0 9 (i / 2 % 4) 0 9 hPt rfl rfl _ _ (RsN.take ((s7.mv 1).rsn Rc.len) _) (.inl rfl) ((s7.mv 2).rs icell.len) (by omega) (take_small _ PL_small) (by decide) (by decide) fun h8 f8 => ?_
      have s8 := s7.fr f8
      have gq8 := f8.at gq7 (Nat.lt_of_lt_of_le (Nat.lt_of_lt_of_le pq5 f6.next) f7.next) (by simp)
      simp only [ptrTo, pend, pend0, Pd.old, pendU, pendU0, oxA0, oxA1, oxA2, oxA3, oxA4, oxA5, oxA6, oxA7, oxA8, oxA9, oxA10, oxL0, oxL1, oxTy0, oxTy1, ↓reduceIte, Nat.reduceAdd, Nat.reduceLeDiff, Nat.reduceLT, Nat.reduceEqDiff, Nat.reduceMul, Nat.reduceSub, Int.reduceEq, Int.reduceLT, Int.reduceLE, Int.reduceAdd, Int.reduceNeg, Int.reduceNe, Int.reduceToNat, Nat.testBit, Nat.reduceShiftRight, Nat.reduceAnd, Nat.reduceBneDiff, Nat.reduceBEq, gR_held, hw1, hw2, hw4, l1, l2, l3, v1, gq8, wi5, e9 i hi9]
      refine hLL _ _ ?_
      refine wpC_if ?_
      simp only [ptrTo, pend, pend0, Pd.old, pendU, pendU0, oxA0, oxA1, oxA2, oxA3, oxA4, oxA5, oxA6, oxA7, oxA8, oxA9, oxA10, oxL0, oxL1, oxTy0, oxTy1, ↓reduceIte, Nat.reduceAdd, Nat.reduceLeDiff, Nat.reduceLT, Nat.reduceEqDiff, Nat.reduceMul, Nat.reduceSub, Int.reduceEq, Int.reduceLT, Int.reduceLE, Int.reduceAdd, Int.reduceNeg, Int.reduceNe, Int.reduceToNat, Nat.testBit, Nat.reduceShiftRight, Nat.reduceAnd, Nat.reduceBneDiff, Nat.reduceBEq, gR_some]
      refine wpC_skip ?_
      simp only [ptrTo, pend, pend0, Pd.old, pendU, pendU0, oxA0, oxA1, oxA2, oxA3, oxA4, oxA5, oxA6, oxA7, oxA8, oxA9, oxA10, oxL0, oxL1, oxTy0, oxTy1, ↓reduceIte, Nat.reduceAdd, Nat.reduceLeDiff, Nat.reduceLT, Nat.reduceEqDiff, Nat.reduceMul, Nat.reduceSub, Int.reduceEq, Int.reduceLT, Int.reduceLE, Int.reduceAdd, Int.reduceNeg, Int.reduceNe, Int.reduceToNat, Nat.testBit, Nat.reduceShiftRight, Nat.reduceAnd, Nat.reduceBneDiff, Nat.reduceBEq, gR_some]
      refine fg6 (fun R => ?_)
      refine rg (fun LL hLL => ?_)
      simp only [ptrTo, pend, pend0, Pd.old, pendU, pendU0, oxA0, oxA1, oxA2, oxA3, oxA4, oxA5, oxA6, oxA7, oxA8, oxA9, oxA10, oxL0, oxL1, oxTy0, oxTy1, ↓reduceIte, Nat.reduceAdd, Nat.reduceLeDiff, Nat.reduceLT, Nat.reduceEqDiff, Nat.reduceMul, Nat.reduceSub, Int.reduceEq, Int.reduceLT, Int.reduceLE, Int.reduceAdd, Int.reduceNeg, Int.reduceNe, Int.reduceToNat, Nat.testBit, Nat.reduceShiftRight, Nat.reduceAnd, Nat.reduceBneDiff, Nat.reduceBEq, gR_some, wsucc (show j < 9223372036854775807 by omega)]
      refine hLL _ _ ?_
      simp only [ptrTo, pend, pend0, Pd.old, pendU, pendU0, oxA0, oxA1, oxA2, oxA3, oxA4, oxA5, oxA6, oxA7, oxA8, oxA9, oxA10, oxL0, oxL1, oxTy0, oxTy1, ↓reduceIte, Nat.reduceAdd, Nat.reduceLeDiff, Nat.reduceLT, Nat.reduceEqDiff, Nat.reduceMul, Nat.reduceSub, Int.reduceEq, Int.reduceLT, Int.reduceLE, Int.reduceAdd, Int.reduceNeg, Int.reduceNe, Int.reduceToNat, Nat.testBit, Nat.reduceShiftRight, Nat.reduceAnd, Nat.reduceBneDiff, Nat.reduceBEq, gR_some]
      exact ⟨k' - 1, by omega, j + 1, _, _, by omega, s8.sel 3 [1, 2], rfl⟩
    · refine wpC_seq (sr fun LL hLL => ?_)
      simp only [ptrTo, pend, pend0, Pd.old, pendU, pendU0, oxA0, oxA1, oxA2, oxA3, oxA4, oxA5, oxA6, oxA7, oxA8, oxA9, oxA10, oxL0, oxL1, oxTy0, oxTy1, ↓reduceIte, Nat.reduceAdd, Nat.reduceLeDiff, Nat.reduceLT, Nat.reduceEqDiff, Nat.reduceMul, Nat.reduceSub, Int.reduceEq, Int.reduceLT, Int.reduceLE, Int.reduceAdd, Int.reduceNeg, Int.reduceNe, Int.reduceToNat, Nat.testBit, Nat.reduceShiftRight, Nat.reduceAnd, Nat.reduceBneDiff, Nat.reduceBEq, gR_some, eq_false (show ¬ (j : Int) < ((9 : Nat) : Int) by omega)]
      refine hLL _ _ ?_
      refine wpC_if ?_
      simp only [ptrTo, pend, pend0, Pd.old, pendU, pendU0, oxA0, oxA1, oxA2, oxA3, oxA4, oxA5, oxA6, oxA7, oxA8, oxA9, oxA10, oxL0, oxL1, oxTy0, oxTy1, ↓reduceIte, Nat.reduceAdd, Nat.reduceLeDiff, Nat.reduceLT, Nat.reduceEqDiff, Nat.reduceMul, Nat.reduceSub, Int.reduceEq, Int.reduceLT, Int.reduceLE, Int.reduceAdd, Int.reduceNeg, Int.reduceNe, Int.reduceToNat, Nat.testBit, Nat.reduceShiftRight, Nat.reduceAnd, Nat.reduceBneDiff, Nat.reduceBEq, gR_some]
      refine wpC_exit ?_
      simp only [ptrTo, pend, pend0, Pd.old, pendU, pendU0, oxA0, oxA1, oxA2, oxA3, oxA4, oxA5, oxA6, oxA7, oxA8, oxA9, oxA10, oxL0, oxL1, oxTy0, oxTy1, ↓reduceIte, Nat.reduceAdd, Nat.reduceLeDiff, Nat.reduceLT, Nat.reduceEqDiff, Nat.reduceMul, Nat.reduceSub, Int.reduceEq, Int.reduceLT, Int.reduceLE, Int.reduceAdd, Int.reduceNeg, Int.reduceNe, Int.reduceToNat, Nat.testBit, Nat.reduceShiftRight, Nat.reduceAnd, Nat.reduceBneDiff, Nat.reduceBEq, gR_some]
      refine fg6 (fun R => ?_)
      refine rg (fun LL hLL => ?_)
      simp only [ptrTo, pend, pend0, Pd.old, pendU, pendU0, oxA0, oxA1, oxA2, oxA3, oxA4, oxA5, oxA6, oxA7, oxA8, oxA9, oxA10, oxL0, oxL1, oxTy0, oxTy1, ↓reduceIte, Nat.reduceAdd, Nat.reduceLeDiff, Nat.reduceLT, Nat.reduceEqDiff, Nat.reduceMul, Nat.reduceSub, Int.reduceEq, Int.reduceLT, Int.reduceLE, Int.reduceAdd, Int.reduceNeg, Int.reduceNe, Int.reduceToNat, Nat.testBit, Nat.reduceShiftRight, Nat.reduceAnd, Nat.reduceBneDiff, Nat.reduceBEq, gR_some, wsucc (show i < 9223372036854775807 by omega)]
      refine hLL _ _ ?_
      simp only [ptrTo, pend, pend0, Pd.old, pendU, pendU0, oxA0, oxA1, oxA2, oxA3, oxA4, oxA5, oxA6, oxA7, oxA8, oxA9, oxA10, oxL0, oxL1, oxTy0, oxTy1, ↓reduceIte, Nat.reduceAdd, Nat.reduceLeDiff, Nat.reduceLT, Nat.reduceEqDiff, Nat.reduceMul, Nat.reduceSub, Int.reduceEq, Int.reduceLT, Int.reduceLE, Int.reduceAdd, Int.reduceNeg, Int.reduceNe, Int.reduceToNat, Nat.testBit, Nat.reduceShiftRight, Nat.reduceAnd, Nat.reduceBneDiff, Nat.reduceBEq, gR_some]
      exact ⟨k - 1, by omega, i + 1, _, _, _, by omega, s, rfl⟩
  · refine wpC_seq (sr fun LL hLL => ?_)
    simp only [ptrTo, pend, pend0, Pd.old, pendU, pendU0, oxA0, oxA1, oxA2, oxA3, oxA4, oxA5, oxA6, oxA7, oxA8, oxA9, oxA10, oxL0, oxL1, oxTy0, oxTy1, ↓reduceIte, Nat.reduceAdd, Nat.reduceLeDiff, Nat.reduceLT, Nat.reduceEqDiff, Nat.reduceMul, Nat.reduceSub, Int.reduceEq, Int.reduceLT, Int.reduceLE, Int.reduceAdd, Int.reduceNeg, Int.reduceNe, Int.reduceToNat, Nat.testBit, Nat.reduceShiftRight, Nat.reduceAnd, Nat.reduceBneDiff, Nat.reduceBEq, gR_some, eq_false (show ¬ (i : Int) < ((9 : Nat) : Int) by omega)]
    refine hLL _ _ ?_
    refine wpC_if ?_
    simp only [ptrTo, pend, pend0, Pd.old, pendU, pendU0, oxA0, oxA1, oxA2, oxA3, oxA4, oxA5, oxA6, oxA7, oxA8, oxA9, oxA10, oxL0, oxL1, oxTy0, oxTy1, ↓reduceIte, Nat.reduceAdd, Nat.reduceLeDiff, Nat.reduceLT, Nat.reduceEqDiff, Nat.reduceMul, Nat.reduceSub, Int.reduceEq, Int.reduceLT, Int.reduceLE, Int.reduceAdd, Int.reduceNeg, Int.reduceNe, Int.reduceToNat, Nat.testBit, Nat.reduceShiftRight, Nat.reduceAnd, Nat.reduceBneDiff, Nat.reduceBEq, gR_some]
    refine wpC_exit ?_
    simp only [ptrTo, pend, pend0, Pd.old, pendU, pendU0, oxA0, oxA1, oxA2, oxA3, oxA4, oxA5, oxA6, oxA7, oxA8, oxA9, oxA10, oxL0, oxL1, oxTy0, oxTy1, ↓reduceIte, Nat.reduceAdd, Nat.reduceLeDiff, Nat.reduceLT, Nat.reduceEqDiff, Nat.reduceMul, Nat.reduceSub, Int.reduceEq, Int.reduceLT, Int.reduceLE, Int.reduceAdd, Int.reduceNeg, Int.reduceNe, Int.reduceToNat, Nat.testBit, Nat.reduceShiftRight, Nat.reduceAnd, Nat.reduceBneDiff, Nat.reduceBEq, gR_some]
    refine fg6 (fun R => ?_)
    refine sr (fun LL hLL => ?_)
    simp only [ptrTo, pend, pend0, Pd.old, pendU, pendU0, oxA0, oxA1, oxA2, oxA3, oxA4, oxA5, oxA6, oxA7, oxA8, oxA9, oxA10, oxL0, oxL1, oxTy0, oxTy1, ↓reduceIte, Nat.reduceAdd, Nat.reduceLeDiff, Nat.reduceLT, Nat.reduceEqDiff, Nat.reduceMul, Nat.reduceSub, Int.reduceEq, Int.reduceLT, Int.reduceLE, Int.reduceAdd, Int.reduceNeg, Int.reduceNe, Int.reduceToNat, Nat.testBit, Nat.reduceShiftRight, Nat.reduceAnd, Nat.reduceBneDiff, Nat.reduceBEq, gR_some]
    refine wpF_ext rfl ?_
    refine hLL _ _ ?_
    refine wpC_ret (out_ret ?_)
    simp only [ptrTo, pend, pend0, Pd.old, pendU, pendU0, oxA0, oxA1, oxA2, oxA3, oxA4, oxA5, oxA6, oxA7, oxA8, oxA9, oxA10, oxL0, oxL1, oxTy0, oxTy1, ↓reduceIte, Nat.reduceAdd, Nat.reduceLeDiff, Nat.reduceLT, Nat.reduceEqDiff, Nat.reduceMul, Nat.reduceSub, Int.reduceEq, Int.reduceLT, Int.reduceLE, Int.reduceAdd, Int.reduceNeg, Int.reduceNe, Int.reduceToNat, Nat.testBit, Nat.reduceShiftRight, Nat.reduceAnd, Nat.reduceBneDiff, Nat.reduceBEq, gR_some]
    exact hk _
theorem oxLaw7 (h : AHeap) : wpF Try.prog (.fn 7) [] h fun v _ => v = .bool true := known_body h _ fun _ => rfl
end Go.Proofs
