/-
  The source: how it is held; New. CONDITIONS: none.
-/
import Derived.Test.YtcgpbamkkhjoiaaOxO3
set_option linter.unusedSimpArgs false
set_option linter.unusedVariables false
namespace Go.Proofs
open Go Go.Ox
set_option maxRecDepth 100000
set_option maxHeartbeats 2000000
structure SrcX where
  aP : Option Addr
  cP : Nat
  aO : Option Addr
  cO : Nat
/-- A source: its struct, its partitions, where they stand. -/
def srcL (T : TypeId) (p : Nat) (A : List (List Rc)) (O : List Int) (x : SrcX) : List Asn :=
  [own p (.cells false 0 [.slice x.aP A.length x.cP, .slice x.aO O.length x.cO] T), nest Rc.cells 2 37 46 x.aP x.cP A, wn icell 1 3 x.aO x.cO O]
def srcT (T : TypeId) (p : Nat) (A : List (List Rc)) (O : List Int) : Asn := exs fun x => star (srcL T p A O x)
abbrev src (p : Nat) (A : List (List Rc)) (O : List Int) : Asn := srcT 52 p A O
section
variable {h0 h : AHeap} {F : List Asn} {T : TypeId} {p : Nat} {A : List (List Rc)} {O : List Int}
theorem src_out (s : St h0 h (srcT T p A O :: F)) : ∃ aP cP aO cO, St h0 h (own p (.cells false 0 [.slice aP A.length cP, .slice aO O.length cO] T) :: nest Rc.cells 2 37 46 aP cP A :: wn icell 1 3 aO cO O :: F) := by
  obtain ⟨x, s⟩ := s.ex_out
  exact ⟨x.aP, x.cP, x.aO, x.cO, s.star_out⟩
theorem src_in {aP aO : Option Addr} {cP cO : Nat} (s : St h0 h (own p (.cells false 0 [.slice aP A.length cP, .slice aO O.length cO] T) :: nest Rc.cells 2 37 46 aP cP A :: wn icell 1 3 aO cO O :: F)) : St h0 h (srcT T p A O :: F) :=
  St.ex_in (⟨aP, cP, aO, cO⟩ : SrcX) (St.star_in (l := srcL T p A O ⟨aP, cP, aO, cO⟩) s)
end

def clampV (n : Nat) (o : Option Int) : Int := match o with
  | none => 0
  | some x => min (max x 0) n
def offs (A : List (List Rc)) (O : List Int) : List Int := (List.range A.length).map fun i => clampV (A.getD i []).length O[i]?
theorem offs_len (A : List (List Rc)) (O : List Int) : (offs A O).length = A.length := by simp [offs]
theorem offs_at (A : List (List Rc)) (O : List Int) (i : Nat) (hi : i < A.length) (hj : i < (offs A O).length) : (offs A O)[i] = clampV A[i].length O[i]? := by
  simp [offs, List.getD_eq_getElem?_getD, List.getElem?_eq_getElem hi]
theorem offs_take (A : List (List Rc)) (O : List Int) (i : Nat) (hi : i < A.length) : (offs A O).take (i + 1) = (offs A O).take i ++ [clampV A[i].length O[i]?] := by
  have hj : i < (offs A O).length := by rw [offs_len]; exact hi
  rw [List.take_succ_eq_append_getElem hj, offs_at A O i hi hj]
theorem maxI (a b : Int) : (if a < b then b else a) = max a b := by omega
theorem minI (a b : Int) : (if b < a then b else a) = min a b := by omega

theorem New_any {h0 : AHeap} {F : List Asn} (a b : Option Addr) (c d : Nat) (A : List (List Rc)) (O : List Int) (h : AHeap) (K : Value → AHeap → Prop) (s : St h0 h F) (rA : RdN h0 F Rc.cells 2 a A) (rO : Rd h0 F icell 1 b O) (hl : A.length < 1000000) (hb : ∀ L ∈ A, L.length < 1000000)
    (hO : O.length < 9223372036854775808) (hk : ∀ p h', St h0 h' (src p A (offs A O) :: F) → K (.pointer (some ⟨p, 0, none⟩)) h') : wpF Try.prog (.fn 12) [.slice a A.length c, .slice b O.length d] h K := by
  obtain ⟨S, hS, rS, rI⟩ := rA
  have hSl := lens hS
  refine wpF_fun 53 [.tmp 4] Try.func12 rfl rfl rfl rfl ?_
  refine sr (fun LL hLL => ?_)
  simp only [ptrTo, pend, pend0, Pd.old, pendU, pendU0, oxA0, oxA1, oxA2, oxA3, oxA4, oxA5, oxA6, oxA7, oxA8, oxA9, oxA10, oxL0, oxL1, oxTy0, oxTy1, ↓reduceIte, Nat.reduceAdd, Nat.reduceLeDiff, Nat.reduceLT, Nat.reduceEqDiff, Nat.reduceMul, Nat.reduceSub, Int.reduceEq, Int.reduceLT, Int.reduceLE, Int.reduceAdd, Int.reduceNeg, Int.reduceNe, Int.reduceToNat, Nat.testBit, Nat.reduceShiftRight, Nat.reduceAnd, Nat.reduceBneDiff, Nat.reduceBEq, gR_some]
  refine hLL _ _ ?_
  refine sr (fun LL hLL => ?_)
  simp only [ptrTo, pend, pend0, Pd.old, pendU, pendU0, oxA0, oxA1, oxA2, oxA3, oxA4, oxA5, oxA6, oxA7, oxA8, oxA9, oxA10, oxL0, oxL1, oxTy0, oxTy1, ↓reduceIte, Nat.reduceAdd, Nat.reduceLeDiff, Nat.reduceLT, Nat.reduceEqDiff, Nat.reduceMul, Nat.reduceSub, Int.reduceEq, Int.reduceLT, Int.reduceLE, Int.reduceAdd, Int.reduceNeg, Int.reduceNe, Int.reduceToNat, Nat.testBit, Nat.reduceShiftRight, Nat.reduceAnd, Nat.reduceBneDiff, Nat.reduceBEq, gR_some]
  refine hLL _ _ ?_
  obtain ⟨p, hp⟩ : ∃ p, p = h.next := ⟨_, rfl⟩
  obtain ⟨h1, e1⟩ : ∃ h1, h1 = h.push (.cells false 0 [.slice none 0 0, .slice none 0 0] 52) := ⟨_, rfl⟩
  have s1 := s.push (.cells false 0 [.slice none 0 0, .slice none 0 0] 52)
  rw [← e1, ← hp] at s1 ⊢
  refine wpC_seq ?_
  refine sr (fun LL hLL => ?_)
  simp only [ptrTo, pend, pend0, Pd.old, pendU, pendU0, oxA0, oxA1, oxA2, oxA3, oxA4, oxA5, oxA6, oxA7, oxA8, oxA9, oxA10, oxL0, oxL1, oxTy0, oxTy1, ↓reduceIte, Nat.reduceAdd, Nat.reduceLeDiff, Nat.reduceLT, Nat.reduceEqDiff, Nat.reduceMul, Nat.reduceSub, Int.reduceEq, Int.reduceLT, Int.reduceLE, Int.reduceAdd, Int.reduceNeg, Int.reduceNe, Int.reduceToNat, Nat.testBit, Nat.reduceShiftRight, Nat.reduceAnd, Nat.reduceBneDiff, Nat.reduceBEq, gR_some]
  refine hLL _ _ ?_
  refine fg14 (fun R => ?_)
  refine wpC_block ?_
  refine wpC_loop (fun k T h' => ∃ (i : Nat) (aP aO : Option Addr) (cP cO : Nat) (t2 t3 t4 t6 t7 t8 t9 t10 : Value) (R : List Value), k + i = A.length ∧
    St h0 h' (own p (.cells false 0 [.slice aP i cP, .slice aO i cO] 52) :: nest Rc.cells 2 37 46 aP cP (A.take i) :: wn icell 1 3 aO cO ((offs A O).take i) :: F) ∧
    T = .slice a A.length c :: .slice b O.length d :: t2 :: t3 :: t4 :: .pointer (some ⟨p, 0, none⟩) :: t6 :: t7 :: t8 :: t9 :: t10 :: .slice a A.length c :: .int .i64 A.length :: .int .i64 i :: R) ?_ A.length _ _ ⟨0, none, none, 0, 0, _, _, _, _, _, _, _, _, R, by omega, ?_, rfl⟩
  rotate_left
  · exact (s1.nest_nil.wn_nil (f := icell)).mv 2 |>.mv 0 |> fun s => (s.perm (by exact .cons _ (.swap _ _ _)))
  rintro k T h' ⟨i, aP, aO, cP, cO, t2, t3, t4, t6, t7, t8, t9, t10, R, hi, s2, rfl⟩
  refine sr (fun LL hLL => ?_)
  simp only [ptrTo, pend, pend0, Pd.old, pendU, pendU0, oxA0, oxA1, oxA2, oxA3, oxA4, oxA5, oxA6, oxA7, oxA8, oxA9, oxA10, oxL0, oxL1, oxTy0, oxTy1, ↓reduceIte, Nat.reduceAdd, Nat.reduceLeDiff, Nat.reduceLT, Nat.reduceEqDiff, Nat.reduceMul, Nat.reduceSub, Int.reduceEq, Int.reduceLT, Int.reduceLE, Int.reduceAdd, Int.reduceNeg, Int.reduceNe, Int.reduceToNat, Nat.testBit, Nat.reduceShiftRight, Nat.reduceAnd, Nat.reduceBneDiff, Nat.reduceBEq, gR_some]
  refine hLL _ _ ?_
  refine wpC_seq ?_
  refine wpC_if ?_
  simp only [ptrTo, pend, pend0, Pd.old, pendU, pendU0, oxA0, oxA1, oxA2, oxA3, oxA4, oxA5, oxA6, oxA7, oxA8, oxA9, oxA10, oxL0, oxL1, oxTy0, oxTy1, ↓reduceIte, Nat.reduceAdd, Nat.reduceLeDiff, Nat.reduceLT, Nat.reduceEqDiff, Nat.reduceMul, Nat.reduceSub, Int.reduceEq, Int.reduceLT, Int.reduceLE, Int.reduceAdd, Int.reduceNeg, Int.reduceNe, Int.reduceToNat, Nat.testBit, Nat.reduceShiftRight, Nat.reduceAnd, Nat.reduceBneDiff, Nat.reduceBEq, gR_some]
  refine gC_of (fun hc => ?_) (fun hc => ?_)
  · refine wpC_skip ?_
    simp only [ptrTo, pend, pend0, Pd.old, pendU, pendU0, oxA0, oxA1, oxA2, oxA3, oxA4, oxA5, oxA6, oxA7, oxA8, oxA9, oxA10, oxL0, oxL1, oxTy0, oxTy1, ↓reduceIte, Nat.reduceAdd, Nat.reduceLeDiff, Nat.reduceLT, Nat.reduceEqDiff, Nat.reduceMul, Nat.reduceSub, Int.reduceEq, Int.reduceLT, Int.reduceLE, Int.reduceAdd, Int.reduceNeg, Int.reduceNe, Int.reduceToNat, Nat.testBit, Nat.reduceShiftRight, Nat.reduceAnd, Nat.reduceBneDiff, Nat.reduceBEq, gR_some]
    refine fg14 (fun R => ?_)
    have hi' : i < A.length := by omega
    have hiS : i < S.length := by omega
    obtain ⟨b1, o1, ro1, sz1, C1, e1, rfl, p1, g1, r1, q1⟩ := (rS _ s2.drop.drop.drop).resolve_left (by rintro rfl; simp at hiS)
    have w1 : C1[o1 + i * 1]? = some (.slice S[i].a S[i].len S[i].cap) := Rs.cell Sv.len1 r1 q1 i hiS 0 (by omega)
    rw [lens_at hS i hiS hi'] at w1
    refine wpC_seq (wpC_block ?_)
    refine sr (fun LL hLL => ?_)
    simp only [ptrTo, pend, pend0, Pd.old, pendU, pendU0, oxA0, oxA1, oxA2, oxA3, oxA4, oxA5, oxA6, oxA7, oxA8, oxA9, oxA10, oxL0, oxL1, oxTy0, oxTy1, ↓reduceIte, Nat.reduceAdd, Nat.reduceLeDiff, Nat.reduceLT, Nat.reduceEqDiff, Nat.reduceMul, Nat.reduceSub, Int.reduceEq, Int.reduceLT, Int.reduceLE, Int.reduceAdd, Int.reduceNeg, Int.reduceNe, Int.reduceToNat, Nat.testBit, Nat.reduceShiftRight, Nat.reduceAnd, Nat.reduceBneDiff, Nat.reduceBEq, gR_some, ixF hi', g1, w1]
    refine hLL _ _ ?_
    refine sr (fun LL hLL => ?_)
    simp only [ptrTo, pend, pend0, Pd.old, pendU, pendU0, oxA0, oxA1, oxA2, oxA3, oxA4, oxA5, oxA6, oxA7, oxA8, oxA9, oxA10, oxL0, oxL1, oxTy0, oxTy1, ↓reduceIte, Nat.reduceAdd, Nat.reduceLeDiff, Nat.reduceLT, Nat.reduceEqDiff, Nat.reduceMul, Nat.reduceSub, Int.reduceEq, Int.reduceLT, Int.reduceLE, Int.reduceAdd, Int.reduceNeg, Int.reduceNe, Int.reduceToNat, Nat.testBit, Nat.reduceShiftRight, Nat.reduceAnd, Nat.reduceBneDiff, Nat.reduceBEq, gR_some]
    refine hLL _ _ ?_
    refine fg14 (fun R => ?_)
    refine sm (fun T1 h1 => ∃ (t2 t3 t4 t9 t10 : Value) (R : List Value), h1 = h' ∧ T1 = .slice (some ⟨b1, o1, none⟩) A.length c :: .slice b O.length d :: t2 :: t3 :: t4 :: .pointer (some ⟨p, 0, none⟩) :: .int .i64 i :: .slice S[i].a A[i].length S[i].cap :: .int .i64 (clampV A[i].length O[i]?) :: t9 :: t10 :: .slice (some ⟨b1, o1, none⟩) A.length c :: .int .i64 A.length :: .int .i64 i :: R) ?_ ?_
    · by_cases hio : i < O.length
      · refine sr (fun LL hLL => ?_)
        simp only [ptrTo, pend, pend0, Pd.old, pendU, pendU0, oxA0, oxA1, oxA2, oxA3, oxA4, oxA5, oxA6, oxA7, oxA8, oxA9, oxA10, oxL0, oxL1, oxTy0, oxTy1, ↓reduceIte, Nat.reduceAdd, Nat.reduceLeDiff, Nat.reduceLT, Nat.reduceEqDiff, Nat.reduceMul, Nat.reduceSub, Int.reduceEq, Int.reduceLT, Int.reduceLE, Int.reduceAdd, Int.reduceNeg, Int.reduceNe, Int.reduceToNat, Nat.testBit, Nat.reduceShiftRight, Nat.reduceAnd, Nat.reduceBneDiff, Nat.reduceBEq, gR_some, eq_true (show (i : Int) < (O.length : Int) by omega)]
        refine hLL _ _ ?_
        refine wpC_if ?_
        simp only [ptrTo, pend, pend0, Pd.old, pendU, pendU0, oxA0, oxA1, oxA2, oxA3, oxA4, oxA5, oxA6, oxA7, oxA8, oxA9, oxA10, oxL0, oxL1, oxTy0, oxTy1, ↓reduceIte, Nat.reduceAdd, Nat.reduceLeDiff, Nat.reduceLT, Nat.reduceEqDiff, Nat.reduceMul, Nat.reduceSub, Int.reduceEq, Int.reduceLT, Int.reduceLE, Int.reduceAdd, Int.reduceNeg, Int.reduceNe, Int.reduceToNat, Nat.testBit, Nat.reduceShiftRight, Nat.reduceAnd, Nat.reduceBneDiff, Nat.reduceBEq, gR_some]
        obtain ⟨b2, o2, ro2, sz2, C2, e2, rfl, p2, g2, r2, q2⟩ := (rO _ s2.drop.drop.drop).resolve_left (by rintro rfl; simp at hio)
        have w2 : C2[o2 + i * 1]? = some (.int .i64 O[i]) := Rs.cell icell.len r2 q2 i hio 0 (by omega)
        refine rg (fun LL hLL => ?_)
        simp only [ptrTo, pend, pend0, Pd.old, pendU, pendU0, oxA0, oxA1, oxA2, oxA3, oxA4, oxA5, oxA6, oxA7, oxA8, oxA9, oxA10, oxL0, oxL1, oxTy0, oxTy1, ↓reduceIte, Nat.reduceAdd, Nat.reduceLeDiff, Nat.reduceLT, Nat.reduceEqDiff, Nat.reduceMul, Nat.reduceSub, Int.reduceEq, Int.reduceLT, Int.reduceLE, Int.reduceAdd, Int.reduceNeg, Int.reduceNe, Int.reduceToNat, Nat.testBit, Nat.reduceShiftRight, Nat.reduceAnd, Nat.reduceBneDiff, Nat.reduceBEq, gR_some, ixF hio, g2, w2]
        refine hLL _ _ ?_
        simp only [ptrTo, pend, pend0, Pd.old, pendU, pendU0, oxA0, oxA1, oxA2, oxA3, oxA4, oxA5, oxA6, oxA7, oxA8, oxA9, oxA10, oxL0, oxL1, oxTy0, oxTy1, ↓reduceIte, Nat.reduceAdd, Nat.reduceLeDiff, Nat.reduceLT, Nat.reduceEqDiff, Nat.reduceMul, Nat.reduceSub, Int.reduceEq, Int.reduceLT, Int.reduceLE, Int.reduceAdd, Int.reduceNeg, Int.reduceNe, Int.reduceToNat, Nat.testBit, Nat.reduceShiftRight, Nat.reduceAnd, Nat.reduceBneDiff, Nat.reduceBEq, gR_some]
        have hcl : clampV A[i].length O[i]? = (if (A[i].length : Int) < (if 0 > O[i] then 0 else O[i]) then (A[i].length : Int) else if 0 > O[i] then 0 else O[i]) := by
          rw [List.getElem?_eq_getElem hio]
          show min (max O[i] 0) _ = _
          split <;> split <;> omega
        exact ⟨_, _, _, _, _, _, by rw [hcl]⟩
      · refine sr (fun LL hLL => ?_)
        simp only [ptrTo, pend, pend0, Pd.old, pendU, pendU0, oxA0, oxA1, oxA2, oxA3, oxA4, oxA5, oxA6, oxA7, oxA8, oxA9, oxA10, oxL0, oxL1, oxTy0, oxTy1, ↓reduceIte, Nat.reduceAdd, Nat.reduceLeDiff, Nat.reduceLT, Nat.reduceEqDiff, Nat.reduceMul, Nat.reduceSub, Int.reduceEq, Int.reduceLT, Int.reduceLE, Int.reduceAdd, Int.reduceNeg, Int.reduceNe, Int.reduceToNat, Nat.testBit, Nat.reduceShiftRight, Nat.reduceAnd, Nat.reduceBneDiff, Nat.reduceBEq, gR_some, eq_false (show ¬ (i : Int) < (O.length : Int) by omega)]
        refine hLL _ _ ?_
        refine wpC_if ?_
        simp only [ptrTo, pend, pend0, Pd.old, pendU, pendU0, oxA0, oxA1, oxA2, oxA3, oxA4, oxA5, oxA6, oxA7, oxA8, oxA9, oxA10, oxL0, oxL1, oxTy0, oxTy1, ↓reduceIte, Nat.reduceAdd, Nat.reduceLeDiff, Nat.reduceLT, Nat.reduceEqDiff, Nat.reduceMul, Nat.reduceSub, Int.reduceEq, Int.reduceLT, Int.reduceLE, Int.reduceAdd, Int.reduceNeg, Int.reduceNe, Int.reduceToNat, Nat.testBit, Nat.reduceShiftRight, Nat.reduceAnd, Nat.reduceBneDiff, Nat.reduceBEq, gR_some]
        refine wpC_skip ?_
        simp only [ptrTo, pend, pend0, Pd.old, pendU, pendU0, oxA0, oxA1, oxA2, oxA3, oxA4, oxA5, oxA6, oxA7, oxA8, oxA9, oxA10, oxL0, oxL1, oxTy0, oxTy1, ↓reduceIte, Nat.reduceAdd, Nat.reduceLeDiff, Nat.reduceLT, Nat.reduceEqDiff, Nat.reduceMul, Nat.reduceSub, Int.reduceEq, Int.reduceLT, Int.reduceLE, Int.reduceAdd, Int.reduceNeg, Int.reduceNe, Int.reduceToNat, Nat.testBit, Nat.reduceShiftRight, Nat.reduceAnd, Nat.reduceBneDiff, Nat.reduceBEq, gR_some]
        exact ⟨_, _, _, _, _, _, by rw [List.getElem?_eq_none (by omega)]; rfl⟩
    rintro T3 h3 ⟨t2, t3, t4, t9, t10, R, rfl, rfl⟩
    have gp := s2.get
    have zI : aZeros [.int .i64 0] 1 = [.int .i64 0] := rfl
    have zS : aZeros [.slice none 0 0] 1 = [.slice none 0 0] := rfl
    have v1 : ∀ (a : Option Addr) (m n : Nat), veq 6 (.slice a m n) (.slice a m n) = true := by intro a m n; simp [veq]
    have n0 := s2.next
    refine dw [0, 1, 2, 3, 4, 5, 6, 10, 11, 12, 13, 14, 15, 7, 8, 9, 16, 17, 18, 19, 20, 21, 22] [0, 0, 0, 4, 12, 28, 0, 0, 1024, 3072, 7168, 0, 16384, 64, 192, 508, 65532, 131069, 262141, 524285, 1048575, 2097151, 4194303] (by decide +kernel) (by decide +kernel) (by decide +kernel) (fun LL hLL => ?_)
    simp only [ptrTo, pend, pend0, Pd.old, pendU, pendU0, oxA0, oxA1, oxA2, oxA3, oxA4, oxA5, oxA6, oxA7, oxA8, oxA9, oxA10, oxL0, oxL1, oxTy0, oxTy1, ↓reduceIte, Nat.reduceAdd, Nat.reduceLeDiff, Nat.reduceLT, Nat.reduceEqDiff, Nat.reduceMul, Nat.reduceSub, Int.reduceEq, Int.reduceLT, Int.reduceLE, Int.reduceAdd, Int.reduceNeg, Int.reduceNe, Int.reduceToNat, Nat.testBit, Nat.reduceShiftRight, Nat.reduceAnd, Nat.reduceBneDiff, Nat.reduceBEq, gR_some, gp, zI, zS]
    obtain ⟨cl, hcl⟩ : ∃ cl, cl = clampV A[i].length O[i]? := ⟨_, rfl⟩
    rw [← hcl]
    obtain ⟨h4, e4⟩ : ∃ h4, h4 = h3.push (.cells false 1 [.int .i64 cl] 3) := ⟨_, rfl⟩
    have s4 := s2.push (.cells false 1 [.int .i64 cl] 3)
    obtain ⟨bI, hbI⟩ : ∃ b, b = h3.next := ⟨_, rfl⟩
    rw [← e4, ← hbI] at s4 ⊢
    have gp4 := (s4.mv 1).get
    simp only [ptrTo, pend, pend0, Pd.old, pendU, pendU0, oxA0, oxA1, oxA2, oxA3, oxA4, oxA5, oxA6, oxA7, oxA8, oxA9, oxA10, oxL0, oxL1, oxTy0, oxTy1, ↓reduceIte, Nat.reduceAdd, Nat.reduceLeDiff, Nat.reduceLT, Nat.reduceEqDiff, Nat.reduceMul, Nat.reduceSub, Int.reduceEq, Int.reduceLT, Int.reduceLE, Int.reduceAdd, Int.reduceNeg, Int.reduceNe, Int.reduceToNat, Nat.testBit, Nat.reduceShiftRight, Nat.reduceAnd, Nat.reduceBneDiff, Nat.reduceBEq, gR_some, gp4, v1]
    refine cloneR _ _ A[i] _ _ s4 ((rI i hiS hi').1 _ s4.drop.drop.drop.drop) (rI i hiS hi').2 (hb _ (List.getElem_mem hi')) fun a2 c2 h5 s5 => ?_
    have hli : (A.take i).length = i := by simp; omega
    obtain ⟨M, hM, s6⟩ := (s5.mv 3).nest_out
    have hMl := lens hM
    have hMi : M.length = i := by rw [hMl, hli]
    simp only [ptrTo, pend, pend0, Pd.old, pendU, pendU0, oxA0, oxA1, oxA2, oxA3, oxA4, oxA5, oxA6, oxA7, oxA8, oxA9, oxA10, oxL0, oxL1, oxTy0, oxTy1, ↓reduceIte, Nat.reduceAdd, Nat.reduceLeDiff, Nat.reduceLT, Nat.reduceEqDiff, Nat.reduceMul, Nat.reduceSub, Int.reduceEq, Int.reduceLT, Int.reduceLE, Int.reduceAdd, Int.reduceNeg, Int.reduceNe, Int.reduceToNat, Nat.testBit, Nat.reduceShiftRight, Nat.reduceAnd, Nat.reduceBneDiff, Nat.reduceBEq, gR_some, zS]
    obtain ⟨h7, e7⟩ : ∃ h7, h7 = h5.push (.cells false 1 [.slice a2 A[i].length c2] 46) := ⟨_, rfl⟩
    have s7 := s6.push (.cells false 1 [.slice a2 A[i].length c2] 46)
    rw [← e7] at s7 ⊢
    have gp7 := (s7.mv 5).get
    simp only [ptrTo, pend, pend0, Pd.old, pendU, pendU0, oxA0, oxA1, oxA2, oxA3, oxA4, oxA5, oxA6, oxA7, oxA8, oxA9, oxA10, oxL0, oxL1, oxTy0, oxTy1, ↓reduceIte, Nat.reduceAdd, Nat.reduceLeDiff, Nat.reduceLT, Nat.reduceEqDiff, Nat.reduceMul, Nat.reduceSub, Int.reduceEq, Int.reduceLT, Int.reduceLE, Int.reduceAdd, Int.reduceNeg, Int.reduceNe, Int.reduceToNat, Nat.testBit, Nat.reduceShiftRight, Nat.reduceAnd, Nat.reduceBneDiff, Nat.reduceBEq, gR_some, gp7, v1]
    obtain ⟨aE, cE, h8, y1, y2⟩ := (s7.mv 1).app (M := [⟨a2, A[i].length, c2⟩]) (bytes := 24) (d := 1) (s' := some ⟨h5.next, 0, none⟩) Sv.len1 Sv.oc (fst_all s7.get rfl) (by simp; omega) (by simp; omega)
    rw [hMi] at y1
    rw [show ([⟨a2, A[i].length, c2⟩] : List Sv).length = 1 from rfl] at y1
    rw [y1]
    have gp8 := (y2.mv 5).get
    simp only [ptrTo, pend, pend0, Pd.old, pendU, pendU0, oxA0, oxA1, oxA2, oxA3, oxA4, oxA5, oxA6, oxA7, oxA8, oxA9, oxA10, oxL0, oxL1, oxTy0, oxTy1, ↓reduceIte, Nat.reduceAdd, Nat.reduceLeDiff, Nat.reduceLT, Nat.reduceEqDiff, Nat.reduceMul, Nat.reduceSub, Int.reduceEq, Int.reduceLT, Int.reduceLE, Int.reduceAdd, Int.reduceNeg, Int.reduceNe, Int.reduceToNat, Nat.testBit, Nat.reduceShiftRight, Nat.reduceAnd, Nat.reduceBneDiff, Nat.reduceBEq, gR_some, gp8, v1]
    have ot := offs_take A O i hi'
    rw [← hcl] at ot
    have hlo : ((offs A O).take i).length = i := by rw [List.length_take, offs_len]; omega
    obtain ⟨aF, cF, h9, z1, z2⟩ := (y2.mv 6).app (M := [cl]) (bytes := 8) (d := 1) (s' := some ⟨bI, 0, none⟩) icell.len icell.oc (fst_all (y2.mv 4).get rfl) (by simp; omega) (by simp; omega)
    rw [hlo] at z1
    rw [show ([cl] : List Int).length = 1 from rfl] at z1
    rw [z1]
    have s9 : St h0 h9 (own p (.cells false 0 [.slice aP i cP, .slice aO i cO] 52) :: nest Rc.cells 2 37 46 aE cE (A.take (i + 1)) :: wn icell 1 3 aF cF ((offs A O).take (i + 1)) :: F) := by
      rw [← ot] at z2
      have q1 := (z2).sel 7 [3, 4, 1, 6, 0]
      simp only [List.filterMap_cons, List.filterMap_nil, List.getElem?_cons_succ, List.getElem?_cons_zero, List.drop_succ_cons, List.drop_zero, List.cons_append, List.nil_append] at q1
      have q2 := q1.star_snoc
      have ht : A.take (i + 1) = A.take i ++ [A[i]] := List.take_succ_eq_append_getElem hi'
      have ew := wns_snoc (f := Rc.cells) (k := 2) (e := 37) (S := M) (s := ⟨a2, A[i].length, c2⟩) (LL := A.take i) (L := A[i]) (by rw [hMi, hli])
      rw [← ew, ← ht] at q2
      have q3 : St h0 h9 (nest Rc.cells 2 37 46 aE cE (A.take (i + 1)) :: _) := St.nest_in (by rw [List.map_append, hM, ht, List.map_append]; rfl) (q2.mv 1)
      exact q3.mv 1
    have gp9 := s9.get
    simp only [ptrTo, pend, pend0, Pd.old, pendU, pendU0, oxA0, oxA1, oxA2, oxA3, oxA4, oxA5, oxA6, oxA7, oxA8, oxA9, oxA10, oxL0, oxL1, oxTy0, oxTy1, ↓reduceIte, Nat.reduceAdd, Nat.reduceLeDiff, Nat.reduceLT, Nat.reduceEqDiff, Nat.reduceMul, Nat.reduceSub, Int.reduceEq, Int.reduceLT, Int.reduceLE, Int.reduceAdd, Int.reduceNeg, Int.reduceNe, Int.reduceToNat, Nat.testBit, Nat.reduceShiftRight, Nat.reduceAnd, Nat.reduceBneDiff, Nat.reduceBEq, gR_some, gp9, AHeap.get_set, AHeap.get_push, AHeap.get_del, AHeap.next_set, AHeap.next_push, AHeap.next_del, if_true]
    have hl1 : (M ++ [(⟨a2, A[i].length, c2⟩ : Sv)]).length = i + 1 := by simp [hMi]
    have hl2 : ((offs A O).take i ++ [cl]).length = i + 1 := by rw [List.length_append, hlo]; rfl
    rw [hl1, hl2]
    have s10 := (s9.set (.cells false 0 [.slice aE (i + 1) cE, .slice aO i cO] 52)).set (.cells false 0 [.slice aE (i + 1) cE, .slice aF (i + 1) cF] 52)
    refine hLL _ _ ?_
    simp only [ptrTo, pend, pend0, Pd.old, pendU, pendU0, oxA0, oxA1, oxA2, oxA3, oxA4, oxA5, oxA6, oxA7, oxA8, oxA9, oxA10, oxL0, oxL1, oxTy0, oxTy1, ↓reduceIte, Nat.reduceAdd, Nat.reduceLeDiff, Nat.reduceLT, Nat.reduceEqDiff, Nat.reduceMul, Nat.reduceSub, Int.reduceEq, Int.reduceLT, Int.reduceLE, Int.reduceAdd, Int.reduceNeg, Int.reduceNe, Int.reduceToNat, Nat.testBit, Nat.reduceShiftRight, Nat.reduceAnd, Nat.reduceBneDiff, Nat.reduceBEq, gR_some]
    refine fg14 (fun R => ?_)
    refine rg (fun LL hLL => ?_)
    simp only [ptrTo, pend, pend0, Pd.old, pendU, pendU0, oxA0, oxA1, oxA2, oxA3, oxA4, oxA5, oxA6, oxA7, oxA8, oxA9, oxA10, oxL0, oxL1, oxTy0, oxTy1, ↓reduceIte, Nat.reduceAdd, Nat.reduceLeDiff, Nat.reduceLT, Nat.reduceEqDiff, Nat.reduceMul, Nat.reduceSub, Int.reduceEq, Int.reduceLT, Int.reduceLE, Int.reduceAdd, Int.reduceNeg, Int.reduceNe, Int.reduceToNat, Nat.testBit, Nat.reduceShiftRight, Nat.reduceAnd, Nat.reduceBneDiff, Nat.reduceBEq, gR_some, wsucc (show i < 9223372036854775807 by omega)]
    refine hLL _ _ ?_
    simp only [ptrTo, pend, pend0, Pd.old, pendU, pendU0, oxA0, oxA1, oxA2, oxA3, oxA4, oxA5, oxA6, oxA7, oxA8, oxA9, oxA10, oxL0, oxL1, oxTy0, oxTy1, ↓reduceIte, Nat.reduceAdd, Nat.reduceLeDiff, Nat.reduceLT, Nat.reduceEqDiff, Nat.reduceMul, Nat.reduceSub, Int.reduceEq, Int.reduceLT, Int.reduceLE, Int.reduceAdd, Int.reduceNeg, Int.reduceNe, Int.reduceToNat, Nat.testBit, Nat.reduceShiftRight, Nat.reduceAnd, Nat.reduceBneDiff, Nat.reduceBEq, gR_some]
    exact ⟨k - 1, by omega, i + 1, aE, aF, cE, cF, _, _, _, _, _, _, _, _, _, by omega, s10, rfl⟩
  · have hil : i = A.length := by omega
    subst hil
    refine wpC_exit ?_
    simp only [ptrTo, pend, pend0, Pd.old, pendU, pendU0, oxA0, oxA1, oxA2, oxA3, oxA4, oxA5, oxA6, oxA7, oxA8, oxA9, oxA10, oxL0, oxL1, oxTy0, oxTy1, ↓reduceIte, Nat.reduceAdd, Nat.reduceLeDiff, Nat.reduceLT, Nat.reduceEqDiff, Nat.reduceMul, Nat.reduceSub, Int.reduceEq, Int.reduceLT, Int.reduceLE, Int.reduceAdd, Int.reduceNeg, Int.reduceNe, Int.reduceToNat, Nat.testBit, Nat.reduceShiftRight, Nat.reduceAnd, Nat.reduceBneDiff, Nat.reduceBEq, gR_some]
    refine fg14 (fun R => ?_)
    refine sr (fun LL hLL => ?_)
    simp only [ptrTo, pend, pend0, Pd.old, pendU, pendU0, oxA0, oxA1, oxA2, oxA3, oxA4, oxA5, oxA6, oxA7, oxA8, oxA9, oxA10, oxL0, oxL1, oxTy0, oxTy1, ↓reduceIte, Nat.reduceAdd, Nat.reduceLeDiff, Nat.reduceLT, Nat.reduceEqDiff, Nat.reduceMul, Nat.reduceSub, Int.reduceEq, Int.reduceLT, Int.reduceLE, Int.reduceAdd, Int.reduceNeg, Int.reduceNe, Int.reduceToNat, Nat.testBit, Nat.reduceShiftRight, Nat.reduceAnd, Nat.reduceBneDiff, Nat.reduceBEq, gR_some]
    refine hLL _ _ ?_
    refine wpC_ret (out_ret ?_)
    simp only [ptrTo, pend, pend0, Pd.old, pendU, pendU0, oxA0, oxA1, oxA2, oxA3, oxA4, oxA5, oxA6, oxA7, oxA8, oxA9, oxA10, oxL0, oxL1, oxTy0, oxTy1, ↓reduceIte, Nat.reduceAdd, Nat.reduceLeDiff, Nat.reduceLT, Nat.reduceEqDiff, Nat.reduceMul, Nat.reduceSub, Int.reduceEq, Int.reduceLT, Int.reduceLE, Int.reduceAdd, Int.reduceNeg, Int.reduceNe, Int.reduceToNat, Nat.testBit, Nat.reduceShiftRight, Nat.reduceAnd, Nat.reduceBneDiff, Nat.reduceBEq, gR_some]
    rw [List.take_length, List.take_of_length_le (by rw [offs_len]; exact Nat.le_refl _)] at s2
    refine hk _ _ (src_in (aP := aP) (cP := cP) (aO := aO) (cO := cO) ?_)
    rw [offs_len]
    exact s2
end Go.Proofs
