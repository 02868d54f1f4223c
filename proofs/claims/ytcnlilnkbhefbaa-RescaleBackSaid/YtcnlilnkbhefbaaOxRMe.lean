/-
  A part of the proof: what functions of the program do on an abstract heap. CONDITIONS: none.
-/
import Derived.Test.YtcnlilnkbhefbaaOxRMd
set_option linter.unusedSimpArgs false
set_option linter.unusedVariables false
namespace Go.Proofs
open Go Go.Ox
set_option maxRecDepth 100000
set_option maxHeartbeats 8000000
theorem rdnSub {α : Type} {f : α → List Value} {k : Nat} {h0 : AHeap} {F : List Asn} {a : Option Addr} {LI : List (List α)} {A : Asn} (r : RdN h0 F f k a LI) : RdN h0 (A :: F) f k a LI :=
  let ⟨S, h1, h2, h3⟩ := r
  ⟨S, h1, fun h s => h2 h s.drop, fun i hi hj => ⟨fun h s => (h3 i hi hj).1 h s.drop, (h3 i hi hj).2⟩⟩
theorem done_ok {h0 : AHeap} {F : List Asn} {g : Nat} (hg : 1 ≤ g) (h64 : g ≤ 64) (a : Option Addr) (c : Nat) (L : List OpX) (hn : L.length ≤ 12) (m : MfX) (pa2 : Option Addr) (pc2 : Nat) (P2 : List Int) (h : AHeap)
    (sp : SpR h0 a L) (mr : MfD h0 F m) (mb : MfB m) (rp : Rd h0 F icell 1 pa2 P2) (np : pa2 = none → P2 = [] ∧ pc2 = 0) (hp1 : m.P.length = L.length) (hp2 : P2.length = L.length)
    (hO : ∀ x ∈ m.P, 1 ≤ x ∧ x ≤ 8 ∧ x ≤ (g : Int)) (hP : ∀ x ∈ P2, 1 ≤ x ∧ x ≤ 8 ∧ x ≤ (g : Int)) (hs : MfS m) (hw : ∀ l ∈ m.RR, ∀ r ∈ l, (Lit.int .i64 r.1).wf = true) (s : St h0 h F) (K : Value → AHeap → Prop)
    (hk : ∀ qa qc ka kc ra rc h', St h0 h' (wn icell 1 3 qa qc P2 :: nest icell 1 3 25 ka kc m.LI :: nest rcell 3 46 42 ra rc (outR g L m.RR) :: F) →
      K (.tuple #[.agg #[.int .i64 (IntKind.i64.wrap (m.id + 1)), .slice qa P2.length qc, .slice ka m.LI.length kc, .slice ra (outR g L m.RR).length rc, .slice none 0 0], .bool true]) h') :
    wpF Try.prog (.fn 9) [.agg #[.int .i64 g, .slice a L.length c], .agg m.cells.toArray, .slice pa2 P2.length pc2] h K := by
  refine wpF_fun 29 [.cell 6 30, .tmp 7] Try.func9 rfl rfl rfl rfl ?_
  obtain ⟨bs, ebs⟩ : ∃ b, b = h.next := ⟨_, rfl⟩
  obtain ⟨bm, ebm⟩ : ∃ b, b = bs + 1 := ⟨_, rfl⟩
  obtain ⟨b6, eb6⟩ : ∃ b, b = bm + 1 := ⟨_, rfl⟩
  have s1 := ((s.push (spB g a L.length c)).push (.cells false 0 m.cells 30)).push (.cells false 0 [.int .i64 0, .slice none 0 0, .slice none 0 0, .slice none 0 0, .slice none 0 0] 30)
  simp only [AHeap.next_push, ← ebs, ← ebm, ← eb6] at s1
  obtain ⟨h1, e1⟩ : ∃ h1, h1 = ((h.push (spB g a L.length c)).push (.cells false 0 m.cells 30)).push (.cells false 0 [.int .i64 0, .slice none 0 0, .slice none 0 0, .slice none 0 0, .slice none 0 0] 30) := ⟨_, rfl⟩
  rw [← e1] at s1
  refine sr (fun LL hLL => ?_)
  simp only [ptrTo, oxq, ↓reduceIte, simprocAttr, gR_some, AHeap.next_push, ← ebs, ← ebm, ← eb6, ← e1, MfX.len]
  refine hLL _ _ ?_
  have gm := (s1.mv 1).get
  have gs := (s1.mv 2).get
  refine sr (fun LL hLL => ?_)
  simp only [ptrTo, pend, pend0, Pd.old, pendU, pendU0, oxq, Nat.testBit, ↓reduceIte, simprocAttr, gR_held, gm, gs, MfX.len]
  refine new_run hg h64 a c L hn m pa2 pc2 P2 _ sp ⟨fun h s => mr.p h s.drop.drop.drop, rdnSub (rdnSub (rdnSub mr.l)), rdnSub (rdnSub (rdnSub mr.r))⟩ mb (fun h s => rp h s.drop.drop.drop) np hp1 hp2 hO hP hs hw s1 _ fun rb tb S TT Q za zc ka kc ma mc h6 hJ s6 => ?_
  simp only [ptrTo, pend, pend0, Pd.old, pendU, pendU0, oxq, Nat.testBit, ↓reduceIte, simprocAttr, gR_held]
  refine hLL _ _ ?_
  refine fg9 (fun R => ?_)
  rw [← mvV_zero] at s6
  have s7 : St h0 h6 (runS rb tb g m.id P2 m.LI S TT za zc ka kc ma mc Q 0 _) := s6
  have hQ : Q.length ≤ 180 := by have := hJ.few; omega
  refine wpC_seq (sr fun LL hLL => ?_)
  simp only [ptrTo, oxq, ↓reduceIte, simprocAttr, gR_some]
  refine hLL _ _ ?_
  refine wpC_if ?_
  simp only [ptrTo, oxq, ↓reduceIte, simprocAttr, gR_some]
  refine wpC_skip ?_
  simp only [ptrTo, oxq, ↓reduceIte, simprocAttr, gR_some]
  refine fg9 (fun R => ?_)
  obtain ⟨F7, eF7⟩ : ∃ F7, F7 = own b6 (.cells false 0 [.int .i64 0, .slice none 0 0, .slice none 0 0, .slice none 0 0, .slice none 0 0] 30) :: own bm (.cells false 0 m.cells 30) :: own bs (spB g a L.length c) :: F := ⟨_, rfl⟩
  rw [← eF7] at s7
  refine sm (fun T h' => ∃ (TT : List (List (Nat × Tb))) (u0 u1 u2 u3 u4 u5 u7 : Value) (R : List Value), RunK g L P2 m.RR S TT (Q.drop Q.length) ∧ St h0 h' (runS rb tb g m.id P2 m.LI S TT za zc ka kc ma mc Q Q.length F7) ∧
    T = u0 :: u1 :: u2 :: u3 :: u4 :: u5 :: .pointer (some ⟨b6, 0, none⟩) :: u7 :: .pointer (some ⟨rb, 0, none⟩) :: R) ?_ ?_
  · refine sr (fun LL hLL => ?_)
    simp only [ptrTo, oxq, ↓reduceIte, simprocAttr, gR_some]
    refine hLL _ _ ?_
    refine xp9 1 (by repeat (first | exact tput_le _ _ _ _ (.inr (by omega)) | refine tput_le _ _ _ _ (.inl ?_))) (fun R => ?_)
    simp only [ptrTo, oxq, ↓reduceIte, simprocAttr, gR_some, show List.range 1 = [0] from rfl]
    refine fg10 (fun R => ?_)
    refine wpC_block ?_
    refine wpC_loop (fun n T h' => ∃ (k : Nat) (TT : List (List (Nat × Tb))) (u0 u1 u2 u3 u4 u5 u7 : Value) (R : List Value), n + k = Q.length ∧ RunK g L P2 m.RR S TT (Q.drop k) ∧ St h0 h' (runS rb tb g m.id P2 m.LI S TT za zc ka kc ma mc Q k F7) ∧
      T = u0 :: u1 :: u2 :: u3 :: u4 :: u5 :: .pointer (some ⟨b6, 0, none⟩) :: u7 :: .pointer (some ⟨rb, 0, none⟩) :: .int .i64 k :: R) ?_ Q.length _ _ ⟨0, TT, _, _, _, _, _, _, _, _, by omega, hJ.toK, s7, rfl⟩
    rintro n T h' ⟨k, TT, u0, u1, u2, u3, u4, u5, u7, R, hnk, hK, s8, rfl⟩
    by_cases hkQ : k < Q.length
    · refine wpC_seq (sr fun LL hLL => ?_)
      simp only [ptrTo, pend, pend0, Pd.old, pendU, pendU0, oxq, Nat.testBit, ↓reduceIte, simprocAttr, gR_held, eq_true (show (k : Int) < 300 by omega)]
      refine step_ok hp2 hs.r1 hw hK hkQ (by omega) _ s8 _ fun TT' h9 hK' s9 => ?_
      simp only [ptrTo, pend, pend0, Pd.old, pendU, pendU0, oxq, Nat.testBit, ↓reduceIte, simprocAttr, gR_held]
      refine hLL _ _ ?_
      refine wpC_if ?_
      simp only [ptrTo, oxq, ↓reduceIte, simprocAttr, gR_some]
      refine wpC_skip ?_
      simp only [ptrTo, oxq, ↓reduceIte, simprocAttr, gR_some]
      refine fg10 (fun R => ?_)
      refine wpC_seq (wpC_block (wpC_skip ?_))
      simp only [ptrTo, oxq, ↓reduceIte, simprocAttr, gR_some]
      refine rg (fun LL hLL => ?_)
      simp only [ptrTo, oxq, ↓reduceIte, simprocAttr, gR_some, wsucc (show k < 9223372036854775807 by omega)]
      refine hLL _ _ ?_
      simp only [ptrTo, oxq, ↓reduceIte, simprocAttr, gR_some]
      exact ⟨n - 1, by omega, k + 1, TT', _, _, _, _, _, _, _, _, by omega, hK', s9, rfl⟩
    · have hkl : k = Q.length := by omega
      subst hkl
      refine wpC_seq (sr fun LL hLL => ?_)
      simp only [ptrTo, pend, pend0, Pd.old, pendU, pendU0, oxq, Nat.testBit, ↓reduceIte, simprocAttr, gR_held, eq_true (show ((Q.length : Nat) : Int) < 300 by omega)]
      refine step_no _ s8 (Nat.le_refl _) _ ?_
      simp only [ptrTo, pend, pend0, Pd.old, pendU, pendU0, oxq, Nat.testBit, ↓reduceIte, simprocAttr, gR_held]
      refine hLL _ _ ?_
      refine wpC_if ?_
      simp only [ptrTo, oxq, ↓reduceIte, simprocAttr, gR_some]
      refine wpC_exit ?_
      simp only [ptrTo, oxq, ↓reduceIte, simprocAttr, gR_some]
      exact ⟨TT, _, _, _, _, _, _, _, _, hK, s8, rfl⟩
  rintro T h' ⟨TT, u0, u1, u2, u3, u4, u5, u7, R, hK, s8, rfl⟩
  refine sr (fun LL hLL => ?_)
  simp only [ptrTo, pend, pend0, Pd.old, pendU, pendU0, oxq, Nat.testBit, ↓reduceIte, simprocAttr, gR_held]
  refine man_ok hn hg h64 hp2 hP (by have := hs.n; omega) hs.l1 hs.r1 hw hK (Nat.le_refl _) _ s8 _ fun wa wc va vc ga gc h9 s9 => ?_
  rw [eF7] at s9
  have g6 := (s9.mv 10).get
  have s10 := (s9.mv 10).set (.cells false 0 [.int .i64 (IntKind.i64.wrap (m.id + 1)), .slice wa P2.length wc, .slice va m.LI.length vc, .slice ga (outR g L m.RR).length gc, .slice none 0 0] 30)
  have g10 := s10.get
  simp only [ptrTo, pend, pend0, Pd.old, pendU, pendU0, oxq, Nat.testBit, ↓reduceIte, simprocAttr, gR_held, g6]
  refine hLL _ _ ?_
  refine wpC_ret (out_ret ?_)
  simp only [ptrTo, oxq, ↓reduceIte, simprocAttr, gR_some]
  simp only [g10]
  have s11 := (s10).sel 13 [1, 2, 3]
  simp only [List.filterMap_cons, List.filterMap_nil, List.getElem?_cons_succ, List.getElem?_cons_zero, List.drop_succ_cons, List.drop_zero, List.cons_append, List.nil_append] at s11
  exact hk _ _ _ _ _ _ _ s11
end Go.Proofs

namespace Go.Proofs
open Go Go.Ox
set_option maxRecDepth 100000
set_option maxHeartbeats 1000000
theorem sameInts_ok (L M : List Int) (a b : Option Addr) (c d : Nat) (h : AHeap) (K : Value → AHeap → Prop) (ra : Rs icell 1 h a L) (rb : Rs icell 1 h b M) (hl : L.length < 17592186045000) (hk : K (.bool (decide (L = M))) h) :
    wpF Try.prog (.fn 10) [.slice a L.length c, .slice b M.length d] h K := by
  refine wpF_fun 26 [.tmp 4] Try.func10 rfl rfl rfl rfl ?_
  refine sr (fun LL hLL => ?_)
  simp only [ptrTo, oxq, ↓reduceIte, simprocAttr, gR_some]
  refine hLL _ _ ?_
  by_cases hlen : L.length = M.length
  · refine wpC_seq (sr fun LL hLL => ?_)
    simp only [ptrTo, oxq, ↓reduceIte, simprocAttr, gR_some, eq_false (show ¬ ((L.length : Int) ≠ (M.length : Int)) by omega)]
    refine hLL _ _ ?_
    refine wpC_if ?_
    simp only [ptrTo, oxq, ↓reduceIte, simprocAttr, gR_some]
    refine wpC_skip ?_
    simp only [ptrTo, oxq, ↓reduceIte, simprocAttr, gR_some]
    refine wpC_seq ?_
    refine sr (fun LL hLL => ?_)
    simp only [ptrTo, oxq, ↓reduceIte, simprocAttr, gR_some]
    refine hLL _ _ ?_
    refine fg6 (fun R => ?_)
    refine wpC_block ?_
    refine wpC_loop (fun k T h' => ∃ (i : Nat) (u2 u3 u4 : Value) (R : List Value), h' = h ∧ k + i = L.length ∧ L.take i = M.take i ∧ T = .slice a L.length c :: .slice b M.length d :: u2 :: u3 :: u4 :: .int .i64 i :: R) ?_ L.length _ _ ⟨0, _, _, _, R, rfl, by omega, by simp, rfl⟩
    rintro k T h' ⟨i, u2, u3, u4, R, rfl, hki, he, rfl⟩
    refine wpC_seq (sr fun LL hLL => ?_)
    simp only [ptrTo, oxq, ↓reduceIte, simprocAttr, gR_some]
    refine hLL _ _ ?_
    refine wpC_if ?_
    simp only [ptrTo, oxq, ↓reduceIte, simprocAttr, gR_some]
    refine gC_of (fun hc => ?_) (fun hc => ?_)
    · refine wpC_skip ?_
      simp only [ptrTo, oxq, ↓reduceIte, simprocAttr, gR_some]
      have hi : i < L.length := by omega
      have hi' : i < M.length := by omega
      have hne : L ≠ [] := by rintro rfl; simp at hi
      have hne' : M ≠ [] := by rintro rfl; simp at hi'
      obtain ⟨b1, o1, ro1, sz1, C1, e1, rfl, p1, g1, r1, q1⟩ := ra.resolve_left hne
      obtain ⟨b2, o2, ro2, sz2, C2, e2, rfl, p2, g2, r2, q2⟩ := rb.resolve_left hne'
      have w1 : C1[o1 + i * 1]? = some (.int .i64 L[i]) := Rs.cell icell.len r1 q1 i hi 0 (by omega)
      have w2 : C2[o2 + i * 1]? = some (.int .i64 M[i]) := Rs.cell icell.len r2 q2 i hi' 0 (by omega)
      refine wpC_seq (wpC_block ?_)
      refine wpC_seq ?_
      by_cases hx : L[i] = M[i]
      · refine du [some 17, some 18, some 19, some 20, some 21, some 22, some 23, some 24, some 25] 9 [0, 0, 3, 7, 0, 0, 48, 112, 255] (by rfl) (by rfl) (by decide +kernel) (by decide +kernel) (by decide +kernel) (fun LL hLL => ?_)
        simp only [ptrTo, pend, pend0, Pd.old, pendU, pendU0, oxq, Nat.testBit, ↓reduceIte, simprocAttr, gR_some, ixF hi, ixF hi', g1, g2, w1, w2, eq_true hx, not_true_eq_false]
        refine hLL _ _ ?_
        refine wpC_if ?_
        simp only [ptrTo, oxq, ↓reduceIte, simprocAttr, gR_some]
        refine wpC_skip ?_
        simp only [ptrTo, oxq, ↓reduceIte, simprocAttr, gR_some]
        refine fg6 (fun R => ?_)
        refine rg (fun LL hLL => ?_)
        simp only [ptrTo, oxq, ↓reduceIte, simprocAttr, gR_some, wsucc (show i < 9223372036854775807 by omega)]
        refine hLL _ _ ?_
        simp only [ptrTo, oxq, ↓reduceIte, simprocAttr, gR_some]
        exact ⟨k - 1, by omega, i + 1, _, _, _, _, by omega, by rw [List.take_succ_eq_append_getElem hi, List.take_succ_eq_append_getElem hi', he, hx], rfl⟩
      · refine du [some 17, some 18, some 19, some 20, some 21, some 22, some 23, some 24, some 25] 9 [0, 0, 3, 7, 0, 0, 48, 112, 255] (by rfl) (by rfl) (by decide +kernel) (by decide +kernel) (by decide +kernel) (fun LL hLL => ?_)
        simp only [ptrTo, pend, pend0, Pd.old, pendU, pendU0, oxq, Nat.testBit, ↓reduceIte, simprocAttr, gR_some, ixF hi, ixF hi', g1, g2, w1, w2, eq_false hx, not_false_eq_true]
        refine hLL _ _ ?_
        refine wpC_if ?_
        simp only [ptrTo, oxq, ↓reduceIte, simprocAttr, gR_some]
        refine sr (fun LL hLL => ?_)
        simp only [ptrTo, oxq, ↓reduceIte, simprocAttr, gR_some]
        refine hLL _ _ ?_
        refine wpC_ret (out_ret ?_)
        simp only [ptrTo, oxq, ↓reduceIte, simprocAttr, gR_some]
        rw [decide_eq_false (fun e => hx (by subst e; rfl))] at hk
        exact hk
    · have hil : i = L.length := by omega
      subst hil
      refine wpC_exit ?_
      simp only [ptrTo, oxq, ↓reduceIte, simprocAttr, gR_some]
      refine fg6 (fun R => ?_)
      refine sr (fun LL hLL => ?_)
      simp only [ptrTo, oxq, ↓reduceIte, simprocAttr, gR_some]
      refine hLL _ _ ?_
      refine wpC_ret (out_ret ?_)
      simp only [ptrTo, oxq, ↓reduceIte, simprocAttr, gR_some]
      rw [List.take_length, List.take_of_length_le (by omega)] at he
      rw [decide_eq_true he] at hk
      exact hk
  · refine wpC_seq (sr fun LL hLL => ?_)
    simp only [ptrTo, oxq, ↓reduceIte, simprocAttr, gR_some, eq_true (show ((L.length : Int) ≠ (M.length : Int)) by omega)]
    refine hLL _ _ ?_
    refine wpC_if ?_
    simp only [ptrTo, oxq, ↓reduceIte, simprocAttr, gR_some]
    refine sr (fun LL hLL => ?_)
    simp only [ptrTo, oxq, ↓reduceIte, simprocAttr, gR_some]
    refine hLL _ _ ?_
    refine wpC_ret (out_ret ?_)
    simp only [ptrTo, oxq, ↓reduceIte, simprocAttr, gR_some]
    rw [decide_eq_false (fun e => hlen (by rw [e]))] at hk
    exact hk
end Go.Proofs

namespace Go.Proofs
open Go Go.Ox
set_option maxRecDepth 100000
set_option maxHeartbeats 1000000
theorem sameIntLists_ok (L M : List (List Int)) (a b : Option Addr) (c d : Nat) (h : AHeap) (K : Value → AHeap → Prop) (ra : RsN icell 1 h a L) (rb : RsN icell 1 h b M) (hl : L.length < 17592186045000) (hl1 : ∀ x ∈ L, x.length < 17592186045000) (hk : K (.bool (decide (L = M))) h) :
    wpF Try.prog (.fn 11) [.slice a L.length c, .slice b M.length d] h K := by
  refine wpF_fun 27 [.tmp 4] Try.func11 rfl rfl rfl rfl ?_
  refine sr (fun LL hLL => ?_)
  simp only [ptrTo, oxq, ↓reduceIte, simprocAttr, gR_some]
  refine hLL _ _ ?_
  by_cases hlen : L.length = M.length
  · refine wpC_seq (sr fun LL hLL => ?_)
    simp only [ptrTo, oxq, ↓reduceIte, simprocAttr, gR_some, eq_false (show ¬ ((L.length : Int) ≠ (M.length : Int)) by omega)]
    refine hLL _ _ ?_
    refine wpC_if ?_
    simp only [ptrTo, oxq, ↓reduceIte, simprocAttr, gR_some]
    refine wpC_skip ?_
    simp only [ptrTo, oxq, ↓reduceIte, simprocAttr, gR_some]
    refine wpC_seq ?_
    refine sr (fun LL hLL => ?_)
    simp only [ptrTo, oxq, ↓reduceIte, simprocAttr, gR_some]
    refine hLL _ _ ?_
    refine fg6 (fun R => ?_)
    refine wpC_block ?_
    refine wpC_loop (fun k T h' => ∃ (i : Nat) (u2 u3 u4 : Value) (R : List Value), h' = h ∧ k + i = L.length ∧ L.take i = M.take i ∧ T = .slice a L.length c :: .slice b M.length d :: u2 :: u3 :: u4 :: .int .i64 i :: R) ?_ L.length _ _ ⟨0, _, _, _, R, rfl, by omega, by simp, rfl⟩
    rintro k T h' ⟨i, u2, u3, u4, R, rfl, hki, he, rfl⟩
    refine wpC_seq (sr fun LL hLL => ?_)
    simp only [ptrTo, oxq, ↓reduceIte, simprocAttr, gR_some]
    refine hLL _ _ ?_
    refine wpC_if ?_
    simp only [ptrTo, oxq, ↓reduceIte, simprocAttr, gR_some]
    refine gC_of (fun hc => ?_) (fun hc => ?_)
    · refine wpC_skip ?_
      simp only [ptrTo, oxq, ↓reduceIte, simprocAttr, gR_some]
      have hi : i < L.length := by omega
      have hi' : i < M.length := by omega
      obtain ⟨b1, o1, ro1, sz1, C1, T1, a1, c1, rfl, p1, g1, v1, r1, n1⟩ := rsnAt ra i hi
      obtain ⟨b2, o2, ro2, sz2, C2, T2, a2, c2, rfl, p2, g2, v2, r2, n2⟩ := rsnAt rb i hi'
      refine wpC_seq (wpC_block ?_)
      refine su [some 17, some 18, some 19, some 20, some 21, some 22, some 23, some 24, some 25, some 26] 10 [0, 0, 3, 7, 0, 0, 48, 112, 255, 511] (by rfl) (by rfl) (by decide +kernel) (by decide +kernel) (by decide +kernel) (fun LL hLL => ?_)
      simp only [ptrTo, pend, pend0, Pd.old, pendU, pendU0, oxq, Nat.testBit, ↓reduceIte, simprocAttr, gR_held, ixF hi, ixF hi', g1, g2, v1, v2]
      refine sameInts_ok L[i] M[i] a1 a2 c1 c2 h' _ r1 r2 (hl1 _ (List.getElem_mem hi)) ?_
      by_cases hx : L[i] = M[i]
      · simp only [ptrTo, pend, pend0, Pd.old, pendU, pendU0, oxq, Nat.testBit, ↓reduceIte, simprocAttr, gR_held, ixF hi, ixF hi', g1, g2, v1, v2, decide_eq_true hx, Bool.not_true]
        refine hLL _ _ ?_
        refine wpC_if ?_
        simp only [ptrTo, oxq, ↓reduceIte, simprocAttr, gR_some]
        refine wpC_skip ?_
        simp only [ptrTo, oxq, ↓reduceIte, simprocAttr, gR_some]
        refine fg6 (fun R => ?_)
        refine rg (fun LL hLL => ?_)
        simp only [ptrTo, oxq, ↓reduceIte, simprocAttr, gR_some, wsucc (show i < 9223372036854775807 by omega)]
        refine hLL _ _ ?_
        simp only [ptrTo, oxq, ↓reduceIte, simprocAttr, gR_some]
        exact ⟨k - 1, by omega, i + 1, _, _, _, _, by omega, by rw [List.take_succ_eq_append_getElem hi, List.take_succ_eq_append_getElem hi', he, hx], rfl⟩
      · simp only [ptrTo, pend, pend0, Pd.old, pendU, pendU0, oxq, Nat.testBit, ↓reduceIte, simprocAttr, gR_held, ixF hi, ixF hi', g1, g2, v1, v2, decide_eq_false hx, Bool.not_false]
        refine hLL _ _ ?_
        refine wpC_if ?_
        simp only [ptrTo, oxq, ↓reduceIte, simprocAttr, gR_some]
        refine sr (fun LL hLL => ?_)
        simp only [ptrTo, oxq, ↓reduceIte, simprocAttr, gR_some]
        refine hLL _ _ ?_
        refine wpC_ret (out_ret ?_)
        simp only [ptrTo, oxq, ↓reduceIte, simprocAttr, gR_some]
        rw [decide_eq_false (fun e => hx (by subst e; rfl))] at hk
        exact hk
    · have hil : i = L.length := by omega
      subst hil
      refine wpC_exit ?_
      simp only [ptrTo, oxq, ↓reduceIte, simprocAttr, gR_some]
      refine fg6 (fun R => ?_)
      refine sr (fun LL hLL => ?_)
      simp only [ptrTo, oxq, ↓reduceIte, simprocAttr, gR_some]
      refine hLL _ _ ?_
      refine wpC_ret (out_ret ?_)
      simp only [ptrTo, oxq, ↓reduceIte, simprocAttr, gR_some]
      rw [List.take_length, List.take_of_length_le (by omega)] at he
      rw [decide_eq_true he] at hk
      exact hk
  · refine wpC_seq (sr fun LL hLL => ?_)
    simp only [ptrTo, oxq, ↓reduceIte, simprocAttr, gR_some, eq_true (show ((L.length : Int) ≠ (M.length : Int)) by omega)]
    refine hLL _ _ ?_
    refine wpC_if ?_
    simp only [ptrTo, oxq, ↓reduceIte, simprocAttr, gR_some]
    refine sr (fun LL hLL => ?_)
    simp only [ptrTo, oxq, ↓reduceIte, simprocAttr, gR_some]
    refine hLL _ _ ?_
    refine wpC_ret (out_ret ?_)
    simp only [ptrTo, oxq, ↓reduceIte, simprocAttr, gR_some]
    rw [decide_eq_false (fun e => hlen (by rw [e]))] at hk
    exact hk
theorem ahead_ok (x y g : Int) (h : AHeap) (K : Value → AHeap → Prop) (hk : K (.bool (decide (grp x g < grp y g ∨ (grp x g = grp y g ∧ x < y)))) h) : wpF Try.prog (.fn 13) [.int .i64 x, .int .i64 y, .int .i64 g] h K := by
  refine wpF_fun 28 [.tmp 6] Try.func13 rfl rfl rfl rfl ?_
  refine sr (fun LL hLL => ?_)
  simp only [ptrTo, oxq, ↓reduceIte, simprocAttr, gR_some]
  refine hLL _ _ ?_
  refine sr (fun LL hLL => ?_)
  simp only [ptrTo, pend, pend0, Pd.old, pendU, pendU0, oxq, Nat.testBit, ↓reduceIte, simprocAttr, gR_held]
  refine of_ok (by unfold Out; decide) x g _ _ ?_
  simp only [ptrTo, pend, pend0, Pd.old, pendU, pendU0, oxq, Nat.testBit, ↓reduceIte, simprocAttr, gR_held]
  refine hLL _ _ ?_
  refine fg9 (fun R => ?_)
  refine sr (fun LL hLL => ?_)
  simp only [ptrTo, pend, pend0, Pd.old, pendU, pendU0, oxq, Nat.testBit, ↓reduceIte, simprocAttr, gR_held]
  refine of_ok (by unfold Out; decide) y g _ _ ?_
  simp only [ptrTo, pend, pend0, Pd.old, pendU, pendU0, oxq, Nat.testBit, ↓reduceIte, simprocAttr, gR_held]
  refine hLL _ _ ?_
  refine fg9 (fun R => ?_)
  by_cases h1 : grp x g < grp y g
  · refine sr (fun LL hLL => ?_)
    simp only [ptrTo, oxq, ↓reduceIte, simprocAttr, gR_some, eq_true h1]
    refine hLL _ _ ?_
    refine wpC_ret (out_ret ?_)
    simp only [ptrTo, oxq, ↓reduceIte, simprocAttr, gR_some]
    rw [decide_eq_true (Or.inl h1)] at hk
    exact hk
  · by_cases h2 : grp x g = grp y g
    · by_cases h3 : x < y
      · refine sr (fun LL hLL => ?_)
        simp only [ptrTo, oxq, ↓reduceIte, simprocAttr, gR_some, eq_false h1, eq_true h2, eq_true h3]
        refine hLL _ _ ?_
        refine wpC_ret (out_ret ?_)
        simp only [ptrTo, oxq, ↓reduceIte, simprocAttr, gR_some]
        rw [decide_eq_true (Or.inr ⟨h2, h3⟩)] at hk
        exact hk
      · refine sr (fun LL hLL => ?_)
        simp only [ptrTo, oxq, ↓reduceIte, simprocAttr, gR_some, eq_false h1, eq_true h2, eq_false h3]
        refine hLL _ _ ?_
        refine wpC_ret (out_ret ?_)
        simp only [ptrTo, oxq, ↓reduceIte, simprocAttr, gR_some]
        rw [decide_eq_false (by rintro (h | ⟨_, h⟩); exact h1 h; exact h3 h)] at hk
        exact hk
    · refine sr (fun LL hLL => ?_)
      simp only [ptrTo, oxq, ↓reduceIte, simprocAttr, gR_some, eq_false h1, eq_false h2]
      refine hLL _ _ ?_
      refine wpC_ret (out_ret ?_)
      simp only [ptrTo, oxq, ↓reduceIte, simprocAttr, gR_some]
      rw [decide_eq_false (by rintro (h | ⟨h, _⟩); exact h1 h; exact h2 h)] at hk
      exact hk
end Go.Proofs

namespace Go.Proofs
open Go Go.Ox
set_option maxRecDepth 100000
set_option maxHeartbeats 1000000
theorem at_ok {h0 : AHeap} {F : List Asn} (L : List Rw) (a : Option Addr) (c : Nat) (key : Int) (h : AHeap) (r : Rd h0 F rcell 3 a L) (hl : L.length < 17592186044000) (s : St h0 h F) (K : Value → AHeap → Prop) (hk : ∀ h', St h0 h' F → K (clV ((lastOf L key).getD (0, 0))) h') :
    wpF Try.prog (.fn 12) [.slice a L.length c, .int .i64 key] h K := by
  refine wpF_fun 27 [.cell 4 44] Try.func12 rfl rfl rfl rfl ?_
  obtain ⟨b4, e4⟩ : ∃ b, b = h.next := ⟨_, rfl⟩
  have s1 := s.push (.cells false 0 [.int .i64 0, .int .i64 0] 44)
  obtain ⟨h1, e1⟩ : ∃ h1, h1 = h.push (.cells false 0 [.int .i64 0, .int .i64 0] 44) := ⟨_, rfl⟩
  rw [← e1, ← e4] at s1
  refine sr (fun LL hLL => ?_)
  simp only [ptrTo, oxq, ↓reduceIte, simprocAttr, gR_some, ← e1, ← e4]
  refine hLL _ _ ?_
  obtain ⟨b5, e5⟩ : ∃ b, b = h1.next := ⟨_, rfl⟩
  have s2 := s1.push (.cells false 0 [.int .i64 0, .int .i64 0] 44)
  obtain ⟨h2, e2⟩ : ∃ h2, h2 = h1.push (.cells false 0 [.int .i64 0, .int .i64 0] 44) := ⟨_, rfl⟩
  rw [← e2, ← e5] at s2
  have g2 := s2.get
  have s3 := s2.set (.cells false 0 [.int .i64 0, .int .i64 0] 44)
  refine sr (fun LL hLL => ?_)
  simp only [ptrTo, oxq, ↓reduceIte, simprocAttr, gR_some, ← e2, ← e5, g2]
  refine hLL _ _ ?_
  refine wpC_seq ?_
  refine sr (fun LL hLL => ?_)
  simp only [ptrTo, oxq, ↓reduceIte, simprocAttr, gR_some]
  refine hLL _ _ ?_
  refine fg7 (fun R => ?_)
  refine wpC_block ?_
  refine wpC_loop (fun m T h' => ∃ (i : Nat) (w : Cl) (u2 u3 : Value) (R : List Value), m + i = L.length ∧ w = (lastOf (L.take i) key).getD (0, 0) ∧ St h0 h' (own b5 (.cells false 0 [.int .i64 w.1, .int .i64 w.2] 44) :: own b4 (.cells false 0 [.int .i64 0, .int .i64 0] 44) :: F) ∧
    T = .slice a L.length c :: .int .i64 key :: u2 :: u3 :: .pointer (some ⟨b4, 0, none⟩) :: .pointer (some ⟨b5, 0, none⟩) :: .int .i64 i :: R) ?_ L.length _ _ ⟨0, (0, 0), _, _, R, by omega, rfl, s3, rfl⟩
  rintro m T h' ⟨i, w, u2, u3, R, hmi, hw, s4, rfl⟩
  refine wpC_seq (sr fun LL hLL => ?_)
  simp only [ptrTo, oxq, ↓reduceIte, simprocAttr, gR_some]
  refine hLL _ _ ?_
  refine wpC_if ?_
  simp only [ptrTo, oxq, ↓reduceIte, simprocAttr, gR_some]
  refine gC_of (fun hc => ?_) (fun hc => ?_)
  · refine wpC_skip ?_
    simp only [ptrTo, oxq, ↓reduceIte, simprocAttr, gR_some]
    refine fg7 (fun R => ?_)
    have hi1 : i < L.length := by omega
    have hne : L ≠ [] := by rintro rfl; simp at hi1
    obtain ⟨b1, o1, ro1, sz1, C1, E1, rfl, p1, g1, r1, q1⟩ := (r _ s4.drop.drop).resolve_left hne
    have w1 : C1[o1 + i * 3]? = some (.int .i64 L[i].1) := Rs.cell rcell.len r1 q1 i hi1 0 (by omega)
    have gb := s4.get
    have ht : L.take (i + 1) = L.take i ++ [L[i]] := List.take_succ_eq_append_getElem hi1
    refine wpC_seq (wpC_block ?_)
    by_cases hkey : L[i].1 = key
    · refine sr (fun LL hLL => ?_)
      simp only [ptrTo, oxq, ↓reduceIte, simprocAttr, gR_some, ixF hi1, g1, w1, eq_true hkey]
      refine hLL _ _ ?_
      refine wpC_if ?_
      simp only [ptrTo, oxq, ↓reduceIte, simprocAttr, gR_some]
      have w4 := row_sub (j := 1) (m := 2) (Rs.row rcell.len r1 q1 i hi1).1 (by omega)
      rw [show ((rcell L[i]).drop 1).take 2 = [.int .i64 L[i].2.1, .int .i64 L[i].2.2] from rfl] at w4
      have x4 := (Rs.row rcell.len r1 q1 i hi1).2
      refine rg (fun LL hLL => ?_)
      simp only [ptrTo, oxq, ↓reduceIte, simprocAttr, gR_some, ixF hi1, g1, gb, w4, eq_true (show o1 + i * 3 + 1 + 2 ≤ C1.length by omega)]
      refine hLL _ _ ?_
      simp only [ptrTo, oxq, ↓reduceIte, simprocAttr, gR_some]
      have s5 := s4.set (.cells false 0 [.int .i64 L[i].2.1, .int .i64 L[i].2.2] 44)
      refine fg7 (fun R => ?_)
      refine rg (fun LL hLL => ?_)
      simp only [ptrTo, oxq, ↓reduceIte, simprocAttr, gR_some, wsucc (show i < 9223372036854775807 by omega)]
      refine hLL _ _ ?_
      simp only [ptrTo, oxq, ↓reduceIte, simprocAttr, gR_some]
      refine ⟨m - 1, by omega, i + 1, L[i].2, _, _, _, by omega, ?_, s5, rfl⟩
      rw [ht, lastOf_snoc, if_pos hkey]; rfl
    · refine sr (fun LL hLL => ?_)
      simp only [ptrTo, oxq, ↓reduceIte, simprocAttr, gR_some, ixF hi1, g1, w1, eq_false hkey]
      refine hLL _ _ ?_
      refine wpC_if ?_
      simp only [ptrTo, oxq, ↓reduceIte, simprocAttr, gR_some]
      refine wpC_skip ?_
      simp only [ptrTo, oxq, ↓reduceIte, simprocAttr, gR_some]
      refine fg7 (fun R => ?_)
      refine rg (fun LL hLL => ?_)
      simp only [ptrTo, oxq, ↓reduceIte, simprocAttr, gR_some, wsucc (show i < 9223372036854775807 by omega)]
      refine hLL _ _ ?_
      simp only [ptrTo, oxq, ↓reduceIte, simprocAttr, gR_some]
      refine ⟨m - 1, by omega, i + 1, w, _, _, _, by omega, ?_, s4, rfl⟩
      rw [ht, lastOf_snoc, if_neg hkey]
      exact hw
  · have hil : i = L.length := by omega
    subst hil
    rw [List.take_length] at hw
    subst hw
    refine wpC_exit ?_
    simp only [ptrTo, oxq, ↓reduceIte, simprocAttr, gR_some]
    refine fg7 (fun R => ?_)
    have g5 := s4.get
    have g4 := (s4.mv 1).get
    have s5 := (s4.mv 1).set (.cells false 0 [.int .i64 ((lastOf L key).getD (0, 0)).1, .int .i64 ((lastOf L key).getD (0, 0)).2] 44)
    refine sr (fun LL hLL => ?_)
    simp only [ptrTo, oxq, ↓reduceIte, simprocAttr, gR_some, g5, g4]
    refine hLL _ _ ?_
    refine wpC_ret (out_ret ?_)
    simp only [ptrTo, oxq, ↓reduceIte, simprocAttr, gR_some]
    simp only [s5.get]
    exact hk _ s5.drop.drop
end Go.Proofs

namespace Go.Proofs
open Go Go.Ox
set_option maxRecDepth 100000
set_option maxHeartbeats 1000000
section
variable {g : Nat} {R : List Rw}
theorem out_at (hw : ∀ r ∈ R, (Lit.int .i64 r.1).wf = true) (k : Int) : (lastOf (rowsOf g (tlay [] R)) k).getD (0, 0) = (lastOf R k).getD (0, 0) := by
  have ok := TbOk.nil.lay hw
  have e : tgt (tlay [] R) k = (lastOf R k).getD (0, 0) := TbOk.nil.get_lay hw k
  rw [rowsOf, lastOf_rowK]
  by_cases h : k ∈ keySort g (tbK (tlay [] R))
  · rw [if_pos h, ← e]; rfl
  · rw [if_neg h, ← e]
    have h' : ¬ k ∈ tbK (tlay [] R) := fun h1 => h ((keySort_perm g _).mem_iff.2 h1)
    rw [tgt_mem h']; rfl
theorem out_row (hw : ∀ r ∈ R, (Lit.int .i64 r.1).wf = true) (x : Rw) (hx : x ∈ rowsOf g (tlay [] R)) : x.2 ≠ (0, 0) ∧ (lastOf R x.1).getD (0, 0) = x.2 ∧ R ≠ [] ∧ (Lit.int .i64 x.1).wf = true := by
  have ok := TbOk.nil.lay hw
  obtain ⟨k, hk, rfl⟩ := List.mem_map.1 hx
  have hk := (keySort_perm g _).mem_iff.1 hk
  have e : tgt (tlay [] R) k = (lastOf R k).getD (0, 0) := TbOk.nil.get_lay hw k
  refine ⟨(ok.iff k).1 hk, e.symm, ?_, ok.wf k hk⟩
  rintro rfl
  simp [tlay, tbK] at hk
theorem out_sorted (hw : ∀ r ∈ R, (Lit.int .i64 r.1).wf = true) (Q : List Rw) (eQ : Q = rowsOf g (tlay [] R)) (i : Nat) (hi : i + 1 < Q.length) (hi0 : i < Q.length) : grp Q[i].1 g < grp Q[i + 1].1 g ∨ (grp Q[i].1 g = grp Q[i + 1].1 g ∧ Q[i].1 < Q[i + 1].1) := by
  have okM := TbOk.nil.lay hw
  have h1 : (Q.map (·.1)) = keySort g (tbK (tlay [] R)) := by rw [eQ]; exact rows_keys g _
  have h2 : (Q.map (·.1)).Pairwise (fun x y => keyLe g x y = true) := by rw [h1]; exact keySort_sorted g _
  have h3 : (Q.map (·.1)).Nodup := by rw [h1]; exact (keySort_perm g _).nodup_iff.2 okM.nd
  have hl : i + 1 < (Q.map (·.1)).length := by simpa using hi
  have h4 := List.pairwise_iff_getElem.1 h2 i (i + 1) (by omega) hl (by omega)
  have h5 := List.pairwise_iff_getElem.1 h3 i (i + 1) (by omega) hl (by omega)
  simp only [List.getElem_map] at h4 h5
  rw [keyLe_iff] at h4
  omega
/-- Rows that were laid, laid again. -/
theorem out_again (hw : ∀ r ∈ R, (Lit.int .i64 r.1).wf = true) : rowsOf g (tlay [] (rowsOf g (tlay [] R))) = rowsOf g (tlay [] R) := by
  have ok := TbOk.nil.lay hw
  have hw2 : ∀ r ∈ rowsOf g (tlay [] R), (Lit.int .i64 r.1).wf = true := fun x hx => (out_row hw x hx).2.2.2
  refine rows_ext (TbOk.nil.lay hw2) ok fun k => ?_
  have e1 : tgt (tlay [] (rowsOf g (tlay [] R))) k = _ := TbOk.nil.get_lay hw2 k
  have e2 : tgt (tlay [] R) k = _ := TbOk.nil.get_lay hw k
  rw [e1, e2]
  exact out_at hw k
theorem out_len : (rowsOf g (tlay [] R)).length ≤ R.length := by
  rw [rows_len]
  have := tlay_few [] R
  simpa using this
end
theorem outR_mem {g : Nat} {L : List OpX} {RR : List (List Rw)} {l : List Rw} (h : l ∈ outR g L RR) : ∃ j : Nat, l = rowsOf g (tlay [] (RR[j]?.getD [])) ∨ l = [] := by
  unfold outR at h
  obtain ⟨x, _, rfl⟩ := List.mem_map.1 h
  refine ⟨x.2, ?_⟩
  by_cases hs : stf x.1 = true
  · simp [hs]
  · simp [hs]
theorem getD_wf {RR : List (List Rw)} (hw : ∀ l ∈ RR, ∀ r ∈ l, (Lit.int .i64 r.1).wf = true) (j : Nat) : ∀ r ∈ RR[j]?.getD [], (Lit.int .i64 r.1).wf = true := by
  by_cases h : j < RR.length
  · rw [List.getElem?_eq_getElem h]; exact hw _ (List.getElem_mem h)
  · rw [List.getElem?_eq_none (by omega)]; simp
theorem getD_len {RR : List (List Rw)} {n : Nat} (hw : ∀ l ∈ RR, l.length ≤ n) (j : Nat) : (RR[j]?.getD []).length ≤ n := by
  by_cases h : j < RR.length
  · rw [List.getElem?_eq_getElem h]; exact hw _ (List.getElem_mem h)
  · rw [List.getElem?_eq_none (by omega)]; simp
theorem outR_wf {g : Nat} {L : List OpX} {RR : List (List Rw)} (hw : ∀ l ∈ RR, ∀ r ∈ l, (Lit.int .i64 r.1).wf = true) : ∀ l ∈ outR g L RR, ∀ r ∈ l, (Lit.int .i64 r.1).wf = true := by
  intro l hl r hr
  obtain ⟨j, rfl | rfl⟩ := outR_mem hl
  · exact (out_row (getD_wf hw j) r hr).2.2.2
  · cases hr
theorem outR_lens {g : Nat} {L : List OpX} {RR : List (List Rw)} (hw : ∀ l ∈ RR, l.length ≤ 2000) : ∀ l ∈ outR g L RR, l.length ≤ 2000 := by
  intro l hl
  obtain ⟨j, rfl | rfl⟩ := outR_mem hl
  · exact Nat.le_trans out_len (getD_len hw j)
  · simp
theorem outR_again {g : Nat} {L : List OpX} {RR : List (List Rw)} (hw : ∀ l ∈ RR, ∀ r ∈ l, (Lit.int .i64 r.1).wf = true) : outR g L (outR g L RR) = outR g L RR := by
  refine List.ext_getElem (by simp [outR_len]) fun j h1 h2 => ?_
  have hj : j < L.length := by rw [outR_len] at h1; exact h1
  rw [outR_at g L _ j hj, outR_at g L _ j hj, List.getElem?_eq_getElem h2, Option.getD_some, outR_at g L _ j hj]
  by_cases hs : stf L[j] = true
  · rw [if_pos hs, if_pos hs, out_again (getD_wf hw j)]
  · rw [if_neg hs, if_neg hs]
theorem nest_rdn {α : Type} {f : α → List Value} {k : Nat} {e E : TypeId} {h0 h : AHeap} {F : List Asn} {a : Option Addr} {c : Nat} {LL : List (List α)} (hf : ∀ x, (f x).length = k) (s : St h0 h (nest f k e E a c LL :: F)) :
    ∃ S : List Sv, St h0 h (wn Sv.cells 1 E a c S :: star (wns f k e S LL) :: F) ∧ RdN h0 (wn Sv.cells 1 E a c S :: star (wns f k e S LL) :: F) f k a LL := by
  obtain ⟨S, hS, s1⟩ := s.nest_out
  exact ⟨S, s1, S, hS, Rd.wn Sv.len1, fun i hi hj => ⟨fun h s => (s.drop.wns_rs hf i hi hj).1, (s1.drop.wns_rs hf i hi hj).2⟩⟩
end Go.Proofs

namespace Go.Proofs
open Go Go.Ox
set_option maxRecDepth 100000
set_option maxHeartbeats 8000000
theorem wrapE (n : Int) : IntKind.i64.wrap n = if 9223372036854775808 ≤ n % 18446744073709551616 then n % 18446744073709551616 - 18446744073709551616 else n % 18446744073709551616 := by
  show (if (true && decide (n % (2 ^ 64 : Int) ≥ (2 ^ (64 - 1) : Int))) = true then n % (2 ^ 64 : Int) - (2 ^ 64 : Int) else n % (2 ^ 64 : Int)) = _
  by_cases h : 9223372036854775808 ≤ n % 18446744073709551616
  · rw [if_pos h, if_pos (by simpa using h)]; rfl
  · rw [if_neg h, if_neg (by simpa using h)]; rfl
theorem wrapS (n k : Int) : IntKind.i64.wrap (IntKind.i64.wrap n + k) = IntKind.i64.wrap (n + k) := by
  have h1 : (IntKind.i64.wrap n + k) % 18446744073709551616 = (n + k) % 18446744073709551616 := by
    rw [wrapE n]; split <;> omega
  rw [wrapE (_ + k), wrapE (n + k), h1]
theorem MfD.up {h0 : AHeap} {F : List Asn} {m : MfX} {A : Asn} (d : MfD h0 F m) : MfD h0 (A :: F) m := ⟨d.p.up, d.l.up, d.r.up⟩
abbrev manP (qa : Option Addr) (qc : Nat) (P : List Int) (ka : Option Addr) (kc : Nat) (LI : List (List Int)) (S1 : List Sv) (ga : Option Addr) (gc : Nat) (RR : List (List Rw)) (S2 : List Sv) (F : List Asn) : List Asn :=
  wn Sv.cells 1 42 ga gc S2 :: star (wns rcell 3 46 S2 RR) :: wn Sv.cells 1 25 ka kc S1 :: star (wns icell 1 3 S1 LI) :: wn icell 1 3 qa qc P :: F
theorem man_open {h0 h : AHeap} {F : List Asn} {qa : Option Addr} {qc : Nat} {P : List Int} {ka : Option Addr} {kc : Nat} {LI : List (List Int)} {ga : Option Addr} {gc : Nat} {RR : List (List Rw)} (s : St h0 h (wn icell 1 3 qa qc P :: nest icell 1 3 25 ka kc LI :: nest rcell 3 46 42 ga gc RR :: F)) (id : Int) :
    ∃ S1 S2, St h0 h (manP qa qc P ka kc LI S1 ga gc RR S2 F) ∧ MfD h0 (manP qa qc P ka kc LI S1 ga gc RR S2 F) ⟨id, qa, P, qc, ka, LI, kc, ga, RR, gc, none, [], 0⟩ := by
  obtain ⟨S1, e1, s1⟩ := (s.mv 1).nest_out
  obtain ⟨S2, e2, s2⟩ := (s1.mv 3).nest_out
  exact ⟨S1, S2, s2, fun h s => (s.mv 4).rs icell.len, ⟨S1, e1, fun h s => (s.mv 2).rs Sv.len1, fun i hi hj => ⟨fun h s => ((s.mv 3).wns_rs icell.len i hi hj).1, ((s2.mv 3).wns_rs icell.len i hi hj).2⟩⟩, ⟨S2, e2, fun h s => s.rs Sv.len1, fun i hi hj => ⟨fun h s => ((s.mv 1).wns_rs rcell.len i hi hj).1, ((s2.mv 1).wns_rs rcell.len i hi hj).2⟩⟩⟩
theorem back_body (g : Int) (a : Option Addr) (c : Nat) (L : List OpX) (m : MfX) (pa2 : Option Addr) (pc2 : Nat) (P2 : List Int) (pa3 : Option Addr) (pc3 : Nat) (P3 : List Int) (h : AHeap) (sp : SpR h a L) (mr : MfR h m) (mb : MfB m) (hw : ∀ l ∈ m.RR, ∀ r ∈ l, (Lit.int .i64 r.1).wf = true) (rp : Rs icell 1 h pa2 P2) (hp : P2.length < 17592186045000) (rp3 : Rs icell 1 h pa3 P3) (hp3 : P3.length < 17592186045000) (K : Value → AHeap → Prop) (hk : ∀ h', K (.bool true) h') :
    wpF Try.prog (.fn 4) [.agg #[.int .i64 g, .slice a L.length c], .agg m.cells.toArray, .slice pa2 P2.length pc2, .slice pa3 P3.length pc3] h K := by
  have s := St.init h
  refine wpF_fun 129 [.tmp 8] Try.func4 rfl rfl rfl rfl ?_
  obtain ⟨bs, ebs⟩ : ∃ b, b = h.next := ⟨_, rfl⟩
  obtain ⟨bm, ebm⟩ : ∃ b, b = bs + 1 := ⟨_, rfl⟩
  have s1 := (s.push (spB g a L.length c)).push (.cells false 0 m.cells 30)
  simp only [AHeap.next_push, ← ebs, ← ebm] at s1
  obtain ⟨h1, e1⟩ : ∃ h1, h1 = (h.push (spB g a L.length c)).push (.cells false 0 m.cells 30) := ⟨_, rfl⟩
  rw [← e1] at s1
  refine sr (fun LL hLL => ?_)
  simp only [ptrTo, oxq, ↓reduceIte, simprocAttr, gR_some, AHeap.next_push, ← ebs, ← ebm, ← e1, MfX.len]
  refine hLL _ _ ?_
  have gm := s1.get
  have gs := (s1.mv 1).get
  refine wpC_seq (sr fun LL hLL => ?_)
  simp only [ptrTo, pend, pend0, Pd.old, pendU, pendU0, oxq, Nat.testBit, ↓reduceIte, simprocAttr, gR_held, gm, gs, MfX.len]
  refine may_law g a c L sp m mr mb _ s1 _ fun b h2 hb s2 => ?_
  simp only [ptrTo, pend, pend0, Pd.old, pendU, pendU0, oxq, Nat.testBit, ↓reduceIte, simprocAttr, gR_held]
  refine hLL _ _ ?_
  cases b
  · refine wpC_if ?_
    simp only [ptrTo, oxq, ↓reduceIte, simprocAttr, gR_some]
    refine sr (fun LL hLL => ?_)
    simp only [ptrTo, oxq, ↓reduceIte, simprocAttr, gR_some]
    refine wpF_ext rfl ?_
    refine hLL _ _ ?_
    refine wpC_ret (out_ret ?_)
    simp only [ptrTo, oxq, ↓reduceIte, simprocAttr, gR_some]
    exact hk _
  obtain ⟨hms, hg1, hg64, hn1, hn12⟩ := hb rfl
  obtain ⟨G, rfl⟩ : ∃ G : Nat, g = (G : Int) := ⟨g.toNat, by omega⟩
  refine wpC_if ?_
  simp only [ptrTo, oxq, ↓reduceIte, simprocAttr, gR_some]
  refine wpC_skip ?_
  simp only [ptrTo, oxq, ↓reduceIte, simprocAttr, gR_some]
  refine fg9 (fun R => ?_)
  obtain ⟨id, pa, O, pc, la, LI, lc, ra, RR, rc, ea, ES, ec⟩ := m
  obtain ⟨bp, bl, br, be, bl1, br1, be1⟩ := mb
  obtain ⟨hsn, hsl, hsr⟩ := hms
  simp only at *
  unfold MfX.cells at s2
  simp only at s2
  have gm := s2.get
  have gs := (s2.mv 1).get
  refine sr (fun LL hLL => ?_)
  simp only [ptrTo, pend, pend0, Pd.old, pendU, pendU0, oxq, Nat.testBit, ↓reduceIte, simprocAttr, gR_held, gm, gs]
  refine pars_ok G hg1 a c L hn12 pa pc O bp _ (Rd.of_base mr.p) s2 _ fun qa qc h3 s3 => ?_
  have gm3 := (s3.mv 1).get
  have gs3 := (s3.mv 2).get
  obtain ⟨O', eO'⟩ : ∃ O', O' = parsOf G L.length O := ⟨_, rfl⟩
  have hOl : O'.length = L.length := by rw [eO', parsOf_len]
  have hOr : ∀ x ∈ O', 1 ≤ x ∧ x ≤ 8 ∧ x ≤ (G : Int) := by rw [eO']; exact parsOf_range hg1 _ _
  rw [← eO'] at s3
  rw [← eO']
  have s4 := (s3.mv 1).set (.cells false 0 [.int .i64 id, .slice qa O'.length qc, .slice la LI.length lc, .slice ra RR.length rc, .slice ea ES.length ec] 30)
  obtain ⟨h4, e4⟩ : ∃ h4, h4 = h3.set bm (.cells false 0 [.int .i64 id, .slice qa O'.length qc, .slice la LI.length lc, .slice ra RR.length rc, .slice ea ES.length ec] 30) := ⟨_, rfl⟩
  rw [← e4] at s4
  simp only [ptrTo, pend, pend0, Pd.old, pendU, pendU0, oxq, Nat.testBit, ↓reduceIte, simprocAttr, gR_held, gm3, gs3, ← e4]
  refine hLL _ _ ?_
  refine fg9 (fun R => ?_)
  have gm4 := s4.get
  have gs4 := (s4.mv 2).get
  have mr4 : MfD h [own bm (.cells false 0 [.int .i64 id, .slice qa O'.length qc, .slice la LI.length lc, .slice ra RR.length rc, .slice ea ES.length ec] 30), wn icell 1 3 qa qc O', own bs (spB G a L.length c)] ⟨id, qa, O', qc, la, LI, lc, ra, RR, rc, ea, ES, ec⟩ := ⟨fun h s => (s.mv 1).rs icell.len, RdN.of_base mr.l, RdN.of_base mr.r⟩
  have mb4 : MfB ⟨id, qa, O', qc, la, LI, lc, ra, RR, rc, ea, ES, ec⟩ := ⟨by show O'.length < _; omega, bl, br, be, bl1, br1, be1⟩
  have ms4 : MfS ⟨id, qa, O', qc, la, LI, lc, ra, RR, rc, ea, ES, ec⟩ := ⟨hsn, hsl, hsr⟩
  refine sr (fun LL hLL => ?_)
  simp only [ptrTo, pend, pend0, Pd.old, pendU, pendU0, oxq, Nat.testBit, ↓reduceIte, simprocAttr, gR_held, gm4, gs4]
  refine done_ok (by omega) (by omega) a c L hn12 ⟨id, qa, O', qc, la, LI, lc, ra, RR, rc, ea, ES, ec⟩ qa qc O' _ sp mr4 mb4 mr4.p (wnNil (s4.mv 1)) hOl hOl hOr hOr ms4 hw s4 _ fun za zc ka kc ga gc h5 s5 => ?_
  simp only
  obtain ⟨OR, eOR⟩ : ∃ OR, OR = outR G L RR := ⟨_, rfl⟩
  have hORl : OR.length = L.length := by rw [eOR]; exact outR_len G L RR
  have hORw : ∀ l ∈ OR, ∀ r ∈ l, (Lit.int .i64 r.1).wf = true := by rw [eOR]; exact outR_wf hw
  have hORlen : ∀ l ∈ OR, l.length ≤ 2000 := by rw [eOR]; exact outR_lens hsr
  have hORa : outR G L OR = OR := by rw [eOR]; exact outR_again hw
  rw [← eOR] at s5 ⊢
  have s6 := s5.push (.cells false 0 [.int .i64 0, .slice none 0 0, .slice none 0 0, .slice none 0 0, .slice none 0 0] 30)
  obtain ⟨b9, eb9⟩ : ∃ b, b = h5.next := ⟨_, rfl⟩
  rw [← eb9] at s6
  have g6 := s6.get
  have s7 := s6.set (.cells false 0 [.int .i64 (IntKind.i64.wrap (id + 1)), .slice za O'.length zc, .slice ka LI.length kc, .slice ga OR.length gc, .slice none 0 0] 30)
  obtain ⟨h7, eh7⟩ : ∃ h7, h7 = (h5.push (.cells false 0 [.int .i64 0, .slice none 0 0, .slice none 0 0, .slice none 0 0, .slice none 0 0] 30)).set b9 (.cells false 0 [.int .i64 (IntKind.i64.wrap (id + 1)), .slice za O'.length zc, .slice ka LI.length kc, .slice ga OR.length gc, .slice none 0 0] 30) := ⟨_, rfl⟩
  rw [← eh7] at s7
  simp only [ptrTo, pend, pend0, Pd.old, pendU, pendU0, oxq, Nat.testBit, ↓reduceIte, simprocAttr, gR_held, g6, ← eb9, ← eh7]
  refine hLL _ _ ?_
  refine xp9 2 (by repeat (first | exact tput_le _ _ _ _ (.inr (by omega)) | refine tput_le _ _ _ _ (.inl ?_))) (fun R => ?_)
  simp only [ptrTo, oxq, ↓reduceIte, simprocAttr, gR_some, show List.range 2 = [0, 1] from rfl]
  refine fg11 (fun R => ?_)
  clear s5 s6 g6 gm4 gs4 gm3 gs3 s3 s1 s2 gm gs
  have gm7 := (s7.mv 4).get
  have gs7 := (s7.mv 6).get
  have sv : ∀ (a : Option Addr) (m n : Nat), veq 6 (.slice a m n) (.slice a m n) = true := by intro a m n; simp [veq]
  have s8 := s7.push (.cells false 0 [.int .i64 0, .slice none 0 0, .slice none 0 0, .slice none 0 0, .slice none 0 0] 30)
  obtain ⟨b11, eb11⟩ : ∃ b, b = h7.next := ⟨_, rfl⟩
  obtain ⟨h8, eh8⟩ : ∃ h8, h8 = h7.push (.cells false 0 [.int .i64 0, .slice none 0 0, .slice none 0 0, .slice none 0 0, .slice none 0 0] 30) := ⟨_, rfl⟩
  rw [← eb11, ← eh8] at s8
  have gm8 := (s8.mv 5).get
  have gs8 := (s8.mv 7).get
  refine sd [0, 1, 2, 3, 9, 4, 5, 6, 7, 8, 10, 11] [0, 0, 0, 0, 0, 12, 31, 63, 127, 127, 767, 2047] (by decide +kernel) (by decide +kernel) (by decide +kernel) (fun LL hLL => ?_)
  simp only [ptrTo, pend, pend0, Pd.old, pendU, pendU0, oxq, Nat.testBit, ↓reduceIte, simprocAttr, gR_held, gm7, gs7, ← eb11, ← eh8, gm8, gs8, sv]
  refine pars_ok G hg1 a c L hn12 pa2 pc2 P2 hp _ (Rd.of_base rp) s8 _ fun ya yc h9 s9 => ?_
  obtain ⟨P', eP'⟩ : ∃ P', P' = parsOf G L.length P2 := ⟨_, rfl⟩
  have hPl : P'.length = L.length := by rw [eP', parsOf_len]
  have hPr : ∀ x ∈ P', 1 ≤ x ∧ x ≤ 8 ∧ x ≤ (G : Int) := by rw [eP']; exact parsOf_range hg1 _ _
  rw [← eP'] at s9
  rw [← eP']
  have gm9 := (s9.mv 6).get
  have gs9 := (s9.mv 8).get
  have mr9 := ((((mr4.up (A := nest rcell 3 46 42 ga gc OR)).up (A := nest icell 1 3 25 ka kc LI)).up (A := wn icell 1 3 za zc O')).up (A := own b9 (.cells false 0 [.int .i64 (IntKind.i64.wrap (id + 1)), .slice za O'.length zc, .slice ka LI.length kc, .slice ga OR.length gc, .slice none 0 0] 30))).up (A := own b11 (.cells false 0 [.int .i64 0, .slice none 0 0, .slice none 0 0, .slice none 0 0, .slice none 0 0] 30)) |>.up (A := wn icell 1 3 ya yc P')
  simp only [ptrTo, pend, pend0, Pd.old, pendU, pendU0, oxq, Nat.testBit, ↓reduceIte, simprocAttr, gR_held, gm7, gs7, gm8, gs8, gm9, gs9, sv]
  refine done_ok (by omega) (by omega) a c L hn12 ⟨id, qa, O', qc, la, LI, lc, ra, RR, rc, ea, ES, ec⟩ ya yc P' _ sp mr9 mb4 (fun h s => s.rs icell.len) (wnNil s9) hOl hPl hOr hPr ms4 hw s9 _ fun zb zd kb kd gb gd h10 s10 => ?_
  simp only
  rw [← eOR] at s10 ⊢
  have g10 := (s10.mv 4).get
  have gm10 := (s10.mv 9).get
  have gs10 := (s10.mv 11).get
  have s11 := (s10.mv 4).set (.cells false 0 [.int .i64 (IntKind.i64.wrap (id + 1)), .slice zb P'.length zd, .slice kb LI.length kd, .slice gb OR.length gd, .slice none 0 0] 30)
  obtain ⟨h11, eh11⟩ : ∃ h11, h11 = h10.set b11 (.cells false 0 [.int .i64 (IntKind.i64.wrap (id + 1)), .slice zb P'.length zd, .slice kb LI.length kd, .slice gb OR.length gd, .slice none 0 0] 30) := ⟨_, rfl⟩
  rw [← eh11] at s11
  simp only [ptrTo, pend, pend0, Pd.old, pendU, pendU0, oxq, Nat.testBit, ↓reduceIte, simprocAttr, gR_held, gm7, gs7, gm8, gs8, gm9, gs9, gm10, gs10, g10, ← eh11, sv]
  refine hLL _ _ ?_
  refine xp11 2 (by repeat (first | exact tput_le _ _ _ _ (.inr (by omega)) | refine tput_le _ _ _ _ (.inl ?_))) (fun R => ?_)
  simp only [ptrTo, oxq, ↓reduceIte, simprocAttr, gR_some, show List.range 2 = [0, 1] from rfl]
  refine fg13 (fun R => ?_)
  have s12 := (s11).sel 12 [1, 2, 3, 0, 5, 8, 9, 10, 11]
  simp only [List.filterMap_cons, List.filterMap_nil, List.getElem?_cons_succ, List.getElem?_cons_zero, List.drop_succ_cons, List.drop_zero, List.cons_append, List.nil_append] at s12
  clear s7 s8 s9 s10 s11 mr9 g10 gm10 gs10 gm9 gs9 gm8 gs8 gm7 gs7
  obtain ⟨S1, S2, s13, mr13⟩ := man_open s12 (IntKind.i64.wrap (id + 1))
  have mb13 : MfB ⟨IntKind.i64.wrap (id + 1), zb, P', zd, kb, LI, kd, gb, OR, gd, none, [], 0⟩ := ⟨by show P'.length < _; omega, bl, by show OR.length < _; omega, by show (0 : Nat) < _; omega, bl1, fun x hx => by have := hORlen x hx; omega, fun x hx => by cases hx⟩
  have ms13 : MfS ⟨IntKind.i64.wrap (id + 1), zb, P', zd, kb, LI, kd, gb, OR, gd, none, [], 0⟩ := ⟨by show LI.length ≤ 60 ∧ OR.length ≤ 60; omega, hsl, hORlen⟩
  have g13 := (s13.mv 5).get
  have gs13 := (s13.mv 10).get
  have s14 := s13.push (.cells false 0 [.int .i64 0, .slice none 0 0, .slice none 0 0, .slice none 0 0, .slice none 0 0] 30)
  obtain ⟨b13, eb13⟩ : ∃ b, b = h11.next := ⟨_, rfl⟩
  obtain ⟨h14, eh14⟩ : ∃ h14, h14 = h11.push (.cells false 0 [.int .i64 0, .slice none 0 0, .slice none 0 0, .slice none 0 0, .slice none 0 0] 30) := ⟨_, rfl⟩
  rw [← eb13, ← eh14] at s14
  have g14 := (s14.mv 6).get
  have gs14 := (s14.mv 11).get
  refine sd [0, 1, 2, 3, 9, 4, 5, 6, 7, 8, 10, 11] [0, 0, 0, 0, 0, 12, 31, 63, 127, 127, 767, 2047] (by decide +kernel) (by decide +kernel) (by decide +kernel) (fun LL hLL => ?_)
  simp only [ptrTo, pend, pend0, Pd.old, pendU, pendU0, oxq, Nat.testBit, ↓reduceIte, simprocAttr, gR_held, g13, gs13, ← eb13, ← eh14, g14, gs14, sv]
  refine pars_ok G hg1 a c L hn12 pa3 pc3 P3 hp3 _ (Rd.of_base rp3) s14 _ fun xa xc h15 s15 => ?_
  obtain ⟨P3', eP3'⟩ : ∃ P', P' = parsOf G L.length P3 := ⟨_, rfl⟩
  have hP3l : P3'.length = L.length := by rw [eP3', parsOf_len]
  have hP3r : ∀ x ∈ P3', 1 ≤ x ∧ x ≤ 8 ∧ x ≤ (G : Int) := by rw [eP3']; exact parsOf_range hg1 _ _
  rw [← eP3'] at s15
  rw [← eP3']
  have g15 := (s15.mv 7).get
  have gs15 := (s15.mv 12).get
  have mr15 := (mr13.up (A := own b13 (.cells false 0 [.int .i64 0, .slice none 0 0, .slice none 0 0, .slice none 0 0, .slice none 0 0] 30))).up (A := wn icell 1 3 xa xc P3')
  simp only [ptrTo, pend, pend0, Pd.old, pendU, pendU0, oxq, Nat.testBit, ↓reduceIte, simprocAttr, gR_held, g13, gs13, g14, gs14, g15, gs15, sv]
  refine done_ok (by omega) (by omega) a c L hn12 ⟨IntKind.i64.wrap (id + 1), zb, P', zd, kb, LI, kd, gb, OR, gd, none, [], 0⟩ xa xc P3' _ sp mr15 mb13 (fun h s => s.rs icell.len) (wnNil s15) hPl hP3l hPr hP3r ms13 hORw s15 _ fun wb wd vb vd ub ud h16 s16 => ?_
  simp only
  rw [hORa] at s16 ⊢
  have g16 := (s16.mv 4).get
  have gx16 := (s16.mv 10).get
  have gs16 := (s16.mv 15).get
  have s17 := (s16.mv 4).set (.cells false 0 [.int .i64 (IntKind.i64.wrap (IntKind.i64.wrap (id + 1) + 1)), .slice wb P3'.length wd, .slice vb LI.length vd, .slice ub OR.length ud, .slice none 0 0] 30)
  obtain ⟨h17, eh17⟩ : ∃ h17, h17 = h16.set b13 (.cells false 0 [.int .i64 (IntKind.i64.wrap (IntKind.i64.wrap (id + 1) + 1)), .slice wb P3'.length wd, .slice vb LI.length vd, .slice ub OR.length ud, .slice none 0 0] 30) := ⟨_, rfl⟩
  rw [← eh17] at s17
  simp only [ptrTo, pend, pend0, Pd.old, pendU, pendU0, oxq, Nat.testBit, ↓reduceIte, simprocAttr, gR_held, g13, gs13, g14, gs14, g15, gs15, g16, gx16, gs16, ← eh17, sv]
  refine hLL _ _ ?_
  refine xp13 2 (by repeat (first | exact tput_le _ _ _ _ (.inr (by omega)) | refine tput_le _ _ _ _ (.inl ?_))) (fun R => ?_)
  simp only [ptrTo, oxq, ↓reduceIte, simprocAttr, gR_some, show List.range 2 = [0, 1] from rfl]
  refine fg15 (fun R => ?_)
  have s18 := (s17).sel 16 [1, 2, 3, 0, 11, 12, 13, 14, 15]
  simp only [List.filterMap_cons, List.filterMap_nil, List.getElem?_cons_succ, List.getElem?_cons_zero, List.drop_succ_cons, List.drop_zero, List.cons_append, List.nil_append] at s18
  clear s12 s13 s14 s15 s16 s17 mr13 mr15 g13 gs13 g14 gs14 g15 gs15 g16 gx16 gs16
  obtain ⟨S3, S4, s19, mr19⟩ := man_open s18 (IntKind.i64.wrap (IntKind.i64.wrap (id + 1) + 1))
  have mb19 : MfB ⟨(IntKind.i64.wrap (IntKind.i64.wrap (id + 1) + 1)), wb, P3', wd, vb, LI, vd, ub, OR, ud, none, [], 0⟩ := ⟨by show P3'.length < _; omega, bl, by show OR.length < _; omega, by show (0 : Nat) < _; omega, bl1, fun x hx => by have := hORlen x hx; omega, fun x hx => by cases hx⟩
  have ms19 : MfS ⟨(IntKind.i64.wrap (IntKind.i64.wrap (id + 1) + 1)), wb, P3', wd, vb, LI, vd, ub, OR, ud, none, [], 0⟩ := ⟨by show LI.length ≤ 60 ∧ OR.length ≤ 60; omega, hsl, hORlen⟩
  have g19 := (s19.mv 5).get
  have gm19 := (s19.mv 8).get
  have gs19 := (s19.mv 10).get
  refine sr (fun LL hLL => ?_)
  simp only [ptrTo, pend, pend0, Pd.old, pendU, pendU0, oxq, Nat.testBit, ↓reduceIte, simprocAttr, gR_held, g19, gm19, gs19]
  refine done_ok (by omega) (by omega) a c L hn12 ⟨(IntKind.i64.wrap (IntKind.i64.wrap (id + 1) + 1)), wb, P3', wd, vb, LI, vd, ub, OR, ud, none, [], 0⟩ qa qc O' _ sp mr19 mb19 (fun h s => (s.mv 9).rs icell.len) (wnNil (s19.mv 9)) hP3l hOl hP3r hOr ms19 hORw s19 _ fun ob od nb nd tb td h20 s20 => ?_
  simp only
  rw [hORa] at s20 ⊢
  have e3 : IntKind.i64.wrap (IntKind.i64.wrap (IntKind.i64.wrap (id + 1) + 1) + 1) = IntKind.i64.wrap (id + 3) := by
    rw [wrapS, show IntKind.i64.wrap (id + 1) + 1 + 1 = IntKind.i64.wrap (id + 1) + 2 by omega, wrapS, show id + 1 + 2 = id + 3 by omega]
  rw [e3]
  have s21 := s20.push (.cells false 0 [.int .i64 0, .slice none 0 0, .slice none 0 0, .slice none 0 0, .slice none 0 0] 30)
  obtain ⟨b15, eb15⟩ : ∃ b, b = h20.next := ⟨_, rfl⟩
  rw [← eb15] at s21
  have g21 := s21.get
  have s22 := s21.set (.cells false 0 [.int .i64 (IntKind.i64.wrap (id + 3)), .slice ob O'.length od, .slice nb LI.length nd, .slice tb OR.length td, .slice none 0 0] 30)
  obtain ⟨h22, eh22⟩ : ∃ h22, h22 = (h20.push (.cells false 0 [.int .i64 0, .slice none 0 0, .slice none 0 0, .slice none 0 0, .slice none 0 0] 30)).set b15 (.cells false 0 [.int .i64 (IntKind.i64.wrap (id + 3)), .slice ob O'.length od, .slice nb LI.length nd, .slice tb OR.length td, .slice none 0 0] 30) := ⟨_, rfl⟩
  rw [← eh22] at s22
  simp only [ptrTo, pend, pend0, Pd.old, pendU, pendU0, oxq, Nat.testBit, ↓reduceIte, simprocAttr, gR_held, g21, ← eb15, ← eh22]
  refine hLL _ _ ?_
  refine xp15 2 (by repeat (first | exact tput_le _ _ _ _ (.inr (by omega)) | refine tput_le _ _ _ _ (.inl ?_))) (fun R => ?_)
  simp only [ptrTo, oxq, ↓reduceIte, simprocAttr, gR_some, show List.range 2 = [0, 1] from rfl]
  refine fg17 (fun R => ?_)
  have gz := s22.get
  have gn := (s22.mv 10).get
  have gm := (s22.mv 12).get
  have rz := (s22.mv 1).rs icell.len
  have rq := (s22.mv 13).rs icell.len
  have rk := (s22.mv 2).rsn icell.len
  have rO := (s22.mv 3).rsn rcell.len
  have rN := (s22.mv 11).rsn rcell.len
  have hLI := mr.l.fr s22.base
  clear s18 s19 s20 s21 s22 mr19 g19 gm19 gs19 g21 mr4
  refine wpC_seq (sr fun LL hLL => ?_)
  simp only [ptrTo, pend, pend0, Pd.old, pendU, pendU0, oxq, Nat.testBit, ↓reduceIte, simprocAttr, gR_held, gz, gm, ne_eq, not_true_eq_false, Bool.not_true]
  refine sameInts_ok O' O' ob qa od qc _ _ rz rq (by omega) ?_
  simp only [ptrTo, pend, pend0, Pd.old, pendU, pendU0, oxq, Nat.testBit, ↓reduceIte, simprocAttr, gR_held, gz, gm, decide_true, Bool.not_true]
  refine sameIntLists_ok LI LI nb la nd lc _ _ rk hLI (by omega) bl1 ?_
  simp only [ptrTo, pend, pend0, Pd.old, pendU, pendU0, oxq, Nat.testBit, ↓reduceIte, simprocAttr, gR_held, gz, gm, gn, decide_true, Bool.not_true, ne_eq, not_true_eq_false]
  refine hLL _ _ ?_
  refine wpC_if ?_
  simp only [ptrTo, oxq, ↓reduceIte, simprocAttr, gR_some]
  refine wpC_skip ?_
  simp only [ptrTo, oxq, ↓reduceIte, simprocAttr, gR_some]
  refine fg17 (fun R => ?_)
  refine wpC_seq ?_
  refine sr (fun LL hLL => ?_)
  simp only [ptrTo, oxq, ↓reduceIte, simprocAttr, gR_some]
  refine hLL _ _ ?_
  refine xp17 1 (by repeat (first | exact tput_le _ _ _ _ (.inr (by omega)) | refine tput_le _ _ _ _ (.inl ?_))) (fun R => ?_)
  simp only [ptrTo, oxq, ↓reduceIte, simprocAttr, gR_some, show List.range 1 = [0] from rfl]
  refine fg18 (fun R => ?_)
  refine wpC_block ?_
  refine wpC_loop (fun m T hh => ∃ (k : Nat) (u0 u1 u2 u3 u4 u5 u6 u7 u8 u10 u11 u12 u13 u14 u16 : Value) (R : List Value), hh = h22 ∧ m + k = OR.length ∧ T = u0 :: u1 :: u2 :: u3 :: u4 :: u5 :: u6 :: u7 :: u8 :: .pointer (some ⟨b9, 0, none⟩) :: u10 :: u11 :: u12 :: u13 :: u14 :: .pointer (some ⟨b15, 0, none⟩) :: u16 :: .int .i64 k :: R) ?_ OR.length _ _ ⟨0, _, _, _, _, _, _, _, _, _, _, _, _, _, _, _, _, rfl, by omega, rfl⟩
  rintro m T hh ⟨k, u0, u1, u2, u3, u4, u5, u6, u7, u8, u10, u11, u12, u13, u14, u16, R, rfl, hmk, rfl⟩
  refine wpC_seq (sr fun LL hLL => ?_)
  simp only [ptrTo, oxq, ↓reduceIte, simprocAttr, gR_some, gz]
  refine hLL _ _ ?_
  refine wpC_if ?_
  simp only [ptrTo, oxq, ↓reduceIte, simprocAttr, gR_some]
  refine gC_of (fun hc => ?_) (fun hc => ?_)
  · refine wpC_skip ?_
    simp only [ptrTo, oxq, ↓reduceIte, simprocAttr, gR_some]
    refine fg18 (fun R => ?_)
    have hk' : k < OR.length := by omega
    obtain ⟨q1, o1, ro1, sz1, C1, T1, ai, ci, e1, p1, g1, v1, r1, n1⟩ := rsnAt rO k hk'
    obtain ⟨q2, o2, ro2, sz2, C2, T2, aj, cj, e2, p2, g2, v2, r2, n2⟩ := rsnAt rN k hk'
    rw [e1] at gz
    rw [e2] at gn
    refine wpC_seq (wpC_block ?_)
    refine su [some 116, some 117, some 118, some 119, some 120, some 121, some 122, some 123, some 124, some 125, some 126, some 127] 12 [0, 1, 0, 7, 15, 0, 32, 0, 224, 480, 1023, 2047] (by rfl) (by rfl) (by decide +kernel) (by decide +kernel) (by decide +kernel) (fun LL hLL => ?_)
    simp only [ptrTo, pend, pend0, Pd.old, pendU, pendU0, oxq, Nat.testBit, ↓reduceIte, simprocAttr, gR_held, gz, gn, ixF hk', g1, v1, g2, v2]
    refine sameRows_ok (by unfold Out; decide) OR[k] OR[k] ai aj ci cj _ _ r1 r2 (by have := hORlen _ (List.getElem_mem hk'); omega) ?_
    rw [decide_eq_true rfl]
    simp only [ptrTo, pend, pend0, Pd.old, pendU, pendU0, oxq, Nat.testBit, ↓reduceIte, simprocAttr, gR_held, gz, gn, ixF hk', g1, v1, g2, v2, Bool.not_true]
    refine hLL _ _ ?_
    refine wpC_if ?_
    simp only [ptrTo, oxq, ↓reduceIte, simprocAttr, gR_some]
    refine wpC_skip ?_
    simp only [ptrTo, oxq, ↓reduceIte, simprocAttr, gR_some]
    refine fg18 (fun R => ?_)
    refine rg (fun LL hLL => ?_)
    simp only [ptrTo, oxq, ↓reduceIte, simprocAttr, gR_some, wsucc (show k < 9223372036854775807 by omega)]
    refine hLL _ _ ?_
    simp only [ptrTo, oxq, ↓reduceIte, simprocAttr, gR_some]
    exact ⟨m - 1, by omega, k + 1, _, _, _, _, _, _, _, _, _, _, _, _, _, _, _, _, by omega, rfl⟩
  · refine wpC_exit ?_
    simp only [ptrTo, oxq, ↓reduceIte, simprocAttr, gR_some]
    refine sr (fun LL hLL => ?_)
    simp only [ptrTo, pend, pend0, Pd.old, pendU, pendU0, oxq, Nat.testBit, ↓reduceIte, simprocAttr, gR_held]
    refine wpF_ext rfl ?_
    simp only [ptrTo, pend, pend0, Pd.old, pendU, pendU0, oxq, Nat.testBit, ↓reduceIte, simprocAttr, gR_held]
    refine hLL _ _ ?_
    refine wpC_ret (out_ret ?_)
    simp only [ptrTo, oxq, ↓reduceIte, simprocAttr, gR_some]
    exact hk _
end Go.Proofs

namespace Go.Proofs
open Go Go.Ox
set_option maxRecDepth 100000
set_option maxHeartbeats 1000000
theorem oxLaw4 (s : Int × Option Addr × List OpX × Nat) (x : List Value) (m : MfX) (y : List Value) (P : List Int) (z : Value) (P3 : List Int) (z3 : Value) (h : AHeap) (hs : SpecR h x s) (hm : ManR h y m) (hp : SlRb Try.prog (IntR .i64) 3 h [z] P) (hp3 : SlRb Try.prog (IntR .i64) 3 h [z3] P3) : wpF Try.prog (.fn 4) [.agg x.toArray, .agg y.toArray, z, z3] h fun v _ => v = .bool true := by
  obtain ⟨a, c, rfl, rp, bp⟩ := ints_arg hp
  obtain ⟨a3, c3, rfl, rp3, bp3⟩ := ints_arg hp3
  obtain ⟨rfl, sp⟩ := hs
  obtain ⟨rfl, mr, mb, hw⟩ := hm
  exact back_body s.1 s.2.1 s.2.2.2 s.2.2.1 m a c P a3 c3 P3 h sp mr mb hw rp bp rp3 bp3 _ fun _ => rfl
end Go.Proofs

