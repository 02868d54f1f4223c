/-
  A part of the proof: what functions of the program do on an abstract heap. CONDITIONS: none.
-/
import Derived.Test.YtcnlilnkbhefbaaOxRMd
set_option linter.unusedSimpArgs false
set_option linter.unusedVariables false
namespace Go.Proofs
open Go Go.Ox
set_option maxRecDepth 100000
set_option maxHeartbeats 8000000
theorem rdnSub {α : Type} {f : α → List Value} {k : Nat} {h0 : AHeap} {F : List Asn} {a : Option Addr} {LI : List (List α)} {A : Asn} (r : RdN h0 F f k a LI) : RdN h0 (A :: F) f k a LI :=
  let ⟨S, h1, h2, h3⟩ := r
  ⟨S, h1, fun h s => h2 h s.drop, fun i hi hj => ⟨fun h s => (h3 i hi hj).1 h s.drop, (h3 i hi hj).2⟩⟩
theorem done_ok {h0 : AHeap} {F : List Asn} {g : Nat} (hg : 1 ≤ g) (h64 : g ≤ 64) (a : Option Addr) (c : Nat) (L : List OpX) (hn : L.length ≤ 12) (m : MfX) (pa2 : Option Addr) (pc2 : Nat) (P2 : List Int) (h : AHeap)
    (sp : SpR h0 a L) (mr : MfD h0 F m) (mb : MfB m) (rp : Rd h0 F icell 1 pa2 P2) (np : pa2 = none → P2 = [] ∧ pc2 = 0) (hp1 : m.P.length = L.length) (hp2 : P2.length = L.length)
    (hO : ∀ x ∈ m.P, 1 ≤ x ∧ x ≤ 8 ∧ x ≤ (g : Int)) (hP : ∀ x ∈ P2, 1 ≤ x ∧ x ≤ 8 ∧ x ≤ (g : Int)) (hs : MfS m) (hw : ∀ l ∈ m.RR, ∀ r ∈ l, (Lit.int .i64 r.1).wf = true) (s : St h0 h F) (K : Value → AHeap → Prop)
    (hk : ∀ qa qc ka kc ra rc h', St h0 h' (wn icell 1 3 qa qc P2 :: nest icell 1 3 25 ka kc m.LI :: nest rcell 3 46 42 ra rc (outR g L m.RR) :: F) →
      K (.tuple #[.agg #[.int .i64 (IntKind.i64.wrap (m.id + 1)), .slice qa P2.length qc, .slice ka m.LI.length kc, .slice ra (outR g L m.RR).length rc, .slice none 0 0], .bool true]) h') :
    wpF Try.prog (.fn 9) [.agg #[.int .i64 g, .slice a L.length c], .agg m.cells.toArray, .slice pa2 P2.length pc2] h K := by
  refine wpF_fun 29 [.cell 6 30, .tmp 7] Try.func9 rfl rfl rfl rfl ?_
  obtain ⟨bs, ebs⟩ : ∃ b, b = h.next := ⟨_, rfl⟩
  obtain ⟨bm, ebm⟩ : ∃ b, b = bs + 1 := ⟨_, rfl⟩
  obtain ⟨b6, eb6⟩ : ∃ b, b = bm + 1 := ⟨_, rfl⟩
  have s1 := ((s.push (spB g a L.length c)).push (.cells false 0 m.cells 30)).push (.cells false 0 [.int .i64 0, .slice none 0 0, .slice none 0 0, .slice none 0 0, .slice none 0 0] 30)
  simp only [AHeap.next_push, ← ebs, ← ebm, ← eb6] at s1
  obtain ⟨h1, e1⟩ : ∃ h1, h1 = ((h.push (spB g a L.length c)).push (.cells false 0 m.cells 30)).push (.cells false 0 [.int .i64 0, .slice none 0 0, .slice none 0 0, .slice none 0 0, .slice none 0 0] 30) := ⟨_, rfl⟩
  rw [← e1] at s1
  refine sr (fun LL hLL => ?_)
  simp only [ptrTo, oxq, ↓reduceIte, simprocAttr, gR_some, AHeap.next_push, ← ebs, ← ebm, ← eb6, ← e1, MfX.len]
  refine hLL _ _ ?_
  have gm := (s1.mv 1).get
  have gs := (s1.mv 2).get
  refine sr (fun LL hLL => ?_)
  simp only [ptrTo, pend, pend0, Pd.old, pendU, pendU0, oxq, Nat.testBit, ↓reduceIte, simprocAttr, gR_held, gm, gs, MfX.len]
  refine new_run hg h64 a c L hn m pa2 pc2 P2 _ sp ⟨fun h s => mr.p h s.drop.drop.drop, rdnSub (rdnSub (rdnSub mr.l)), rdnSub (rdnSub (rdnSub mr.r))⟩ mb (fun h s => rp h s.drop.drop.drop) np hp1 hp2 hO hP hs hw s1 _ fun rb tb S TT Q za zc ka kc ma mc h6 hJ s6 => ?_
  simp only [ptrTo, pend, pend0, Pd.old, pendU, pendU0, oxq, Nat.testBit, ↓reduceIte, simprocAttr, gR_held]
  refine hLL _ _ ?_
  refine fg9 (fun R => ?_)
  rw [← mvV_zero] at s6
  have s7 : St h0 h6 (runS rb tb g m.id P2 m.LI S TT za zc ka kc ma mc Q 0 _) := s6
  have hQ : Q.length ≤ 180 := by have := hJ.few; omega
  refine wpC_seq (sr fun LL hLL => ?_)
  simp only [ptrTo, oxq, ↓reduceIte, simprocAttr, gR_some]
  refine hLL _ _ ?_
  refine wpC_if ?_
  simp only [ptrTo, oxq, ↓reduceIte, simprocAttr, gR_some]
  refine wpC_skip ?_
  simp only [ptrTo, oxq, ↓reduceIte, simprocAttr, gR_some]
  refine fg9 (fun R => ?_)
  obtain ⟨F7, eF7⟩ : ∃ F7, F7 = own b6 (.cells false 0 [.int .i64 0, .slice none 0 0, .slice none 0 0, .slice none 0 0, .slice none 0 0] 30) :: own bm (.cells false 0 m.cells 30) :: own bs (spB g a L.length c) :: F := ⟨_, rfl⟩
  rw [← eF7] at s7
  refine sm (fun T h' => ∃ (TT : List (List (Nat × Tb))) (u0 u1 u2 u3 u4 u5 u7 : Value) (R : List Value), RunK g L P2 m.RR S TT (Q.drop Q.length) ∧ St h0 h' (runS rb tb g m.id P2 m.LI S TT za zc ka kc ma mc Q Q.length F7) ∧
    T = u0 :: u1 :: u2 :: u3 :: u4 :: u5 :: .pointer (some ⟨b6, 0, none⟩) :: u7 :: .pointer (some ⟨rb, 0, none⟩) :: R) ?_ ?_
  · refine sr (fun LL hLL => ?_)
    simp only [ptrTo, oxq, ↓reduceIte, simprocAttr, gR_some]
    refine hLL _ _ ?_
    refine xp9 1 (by repeat (first | exact tput_le _ _ _ _ (.inr (by omega)) | refine tput_le _ _ _ _ (.inl ?_))) (fun R => ?_)
    simp only [ptrTo, oxq, ↓reduceIte, simprocAttr, gR_some, show List.range 1 = [0] from rfl]
    refine fg10 (fun R => ?_)
    refine wpC_block ?_
    refine wpC_loop (fun n T h' => ∃ (k : Nat) (TT : List (List (Nat × Tb))) (u0 u1 u2 u3 u4 u5 u7 : Value) (R : List Value), n + k = Q.length ∧ RunK g L P2 m.RR S TT (Q.drop k) ∧ St h0 h' (runS rb tb g m.id P2 m.LI S TT za zc ka kc ma mc Q k F7) ∧
      T = u0 :: u1 :: u2 :: u3 :: u4 :: u5 :: .pointer (some ⟨b6, 0, none⟩) :: u7 :: .pointer (some ⟨rb, 0, none⟩) :: .int .i64 k :: R) ?_ Q.length _ _ ⟨0, TT, _, _, _, _, _, _, _, _, by omega, hJ.toK, s7, rfl⟩
    rintro n T h' ⟨k, TT, u0, u1, u2, u3, u4, u5, u7, R, hnk, hK, s8, rfl⟩
    by_cases hkQ : k < Q.length
    · refine wpC_seq (sr fun LL hLL => ?_)
      simp only [ptrTo, pend, pend0, Pd.old, pendU, pendU0, oxq, Nat.testBit, ↓reduceIte, simprocAttr, gR_held, eq_true (show (k : Int) < 300 by omega)]
      refine step_ok hp2 hs.r1 hw hK hkQ (by omega) _ s8 _ fun TT' h9 hK' s9 => ?_
      simp only [ptrTo, pend, pend0, Pd.old, pendU, pendU0, oxq, Nat.testBit, ↓reduceIte, simprocAttr, gR_held]
      refine hLL _ _ ?_
      refine wpC_if ?_
      simp only [ptrTo, oxq, ↓reduceIte, simprocAttr, gR_some]
      refine wpC_skip ?_
      simp only [ptrTo, oxq, ↓reduceIte, simprocAttr, gR_some]
      refine fg10 (fun R => ?_)
      refine wpC_seq (wpC_block (wpC_skip ?_))
      simp only [ptrTo, oxq, ↓reduceIte, simprocAttr, gR_some]
      refine rg (fun LL hLL => ?_)
      simp only [ptrTo, oxq, ↓reduceIte, simprocAttr, gR_some, wsucc (show k < 9223372036854775807 by omega)]
      refine hLL _ _ ?_
      simp only [ptrTo, oxq, ↓reduceIte, simprocAttr, gR_some]
      exact ⟨n - 1, by omega, k + 1, TT', _, _, _, _, _, _, _, _, by omega, hK', s9, rfl⟩
    · have hkl : k = Q.length := by omega
      subst hkl
      refine wpC_seq (sr fun LL hLL => ?_)
      simp only [ptrTo, pend, pend0, Pd.old, pendU, pendU0, oxq, Nat.testBit, ↓reduceIte, simprocAttr, gR_held, eq_true (show ((Q.length : Nat) : Int) < 300 by omega)]
      refine step_no _ s8 (Nat.le_refl _) _ ?_
      simp only [ptrTo, pend, pend0, Pd.old, pendU, pendU0, oxq, Nat.testBit, ↓reduceIte, simprocAttr, gR_held]
      refine hLL _ _ ?_
      refine wpC_if ?_
      simp only [ptrTo, oxq, ↓reduceIte, simprocAttr, gR_some]
      refine wpC_exit ?_
      simp only [ptrTo, oxq, ↓reduceIte, simprocAttr, gR_some]
      exact ⟨TT, _, _, _, _, _, _, _, _, hK, s8, rfl⟩
  rintro T h' ⟨TT, u0, u1, u2, u3, u4, u5, u7, R, hK, s8, rfl⟩
  refine sr (fun LL hLL => ?_)
  simp only [ptrTo, pend, pend0, Pd.old, pendU, pendU0, oxq, Nat.testBit, ↓reduceIte, simprocAttr, gR_held]
  refine man_ok hn hg h64 hp2 hP (by have := hs.n; omega) hs.l1 hs.r1 hw hK (Nat.le_refl _) _ s8 _ fun wa wc va vc ga gc h9 s9 => ?_
  rw [eF7] at s9
  have g6 := (s9.mv 10).get
  have s10 := (s9.mv 10).set (.cells false 0 [.int .i64 (IntKind.i64.wrap (m.id + 1)), .slice wa P2.length wc, .slice va m.LI.length vc, .slice ga (outR g L m.RR).length gc, .slice none 0 0] 30)
  have g10 := s10.get
  simp only [ptrTo, pend, pend0, Pd.old, pendU, pendU0, oxq, Nat.testBit, ↓reduceIte, simprocAttr, gR_held, g6]
  refine hLL _ _ ?_
  refine wpC_ret (out_ret ?_)
  simp only [ptrTo, oxq, ↓reduceIte, simprocAttr, gR_some]
  simp only [g10]
  have s11 := (s10).sel 13 [1, 2, 3]
  simp only [List.filterMap_cons, List.filterMap_nil, List.getElem?_cons_succ, List.getElem?_cons_zero, List.drop_succ_cons, List.drop_zero, List.cons_append, List.nil_append] at s11
  exact hk _ _ _ _ _ _ _ s11
end Go.Proofs

namespace Go.Proofs
open Go Go.Ox
set_option maxRecDepth 100000
set_option maxHeartbeats 1000000
theorem sameInts_ok (L M : List Int) (a b : Option Addr) (c d : Nat) (h : AHeap) (K : Value → AHeap → Prop) (ra : Rs icell 1 h a L) (rb : Rs icell 1 h b M) (hl : L.length < 17592186045000) (hk : K (.bool (decide (L = M))) h) :
    wpF Try.prog (.fn 10) [.slice a L.length c, .slice b M.length d] h K := by
  refine wpF_fun 26 [.tmp 4] Try.func10 rfl rfl rfl rfl ?_
  refine sr (fun LL hLL => ?_)
  simp only [ptrTo, oxq, ↓reduceIte, simprocAttr, gR_some]
  refine hLL _ _ ?_
  by_cases hlen : L.length = M.length
  · refine wpC_seq (sr fun LL hLL => ?_)
    simp only [ptrTo, oxq, ↓reduceIte, simprocAttr, gR_some, eq_false (show ¬ ((L.length : Int) ≠ (M.length : Int)) by omega)]
    refine hLL _ _ ?_
    refine wpC_if ?_
    simp only [ptrTo, oxq, ↓reduceIte, simprocAttr, gR_some]
    refine wpC_skip ?_
    simp only [ptrTo, oxq, ↓reduceIte, simprocAttr, gR_some]
    refine wpC_seq ?_
    refine sr (fun LL hLL => ?_)
    simp only [ptrTo, oxq, ↓reduceIte, simprocAttr, gR_some]
    refine hLL _ _ ?_
    refine fg6 (fun R => ?_)
    refine wpC_block ?_
    refine wpC_loop (fun k T h' => ∃ (i : Nat) (u2 u3 u4 : Value) (R : List Value), h' = h ∧ k + i = L.length ∧ L.take i = M.take i ∧ T = .slice a L.length c :: .slice b M.length d :: u2 :: u3 :: u4 :: .int .i64 i :: R) ?_ L.length _ _ ⟨0, _, _, _, R, rfl, by omega, by simp, rfl⟩
    rintro k T h' ⟨i, u2, u3, u4, R, rfl, hki, he, rfl⟩
    refine wpC_seq (sr fun LL hLL => ?_)
    simp only [ptrTo, oxq, ↓reduceIte, simprocAttr, gR_some]
    refine hLL _ _ ?_
    refine wpC_if ?_
    simp only [ptrTo, oxq, ↓reduceIte, simprocAttr, gR_some]
    refine gC_of (fun hc => ?_) (fun hc => ?_)
    · refine wpC_skip ?_
      simp only [ptrTo, oxq, ↓reduceIte, simprocAttr, gR_some]
      have hi : i < L.length := by omega
      have hi' : i < M.length := by omega
      have hne : L ≠ [] := by rintro rfl; simp at hi
      have hne' : M ≠ [] := by rintro rfl; simp at hi'
      obtain ⟨b1, o1, ro1, sz1, C1, e1, rfl, p1, g1, r1, q1⟩ := ra.resolve_left hne
      obtain ⟨b2, o2, ro2, sz2, C2, e2, rfl, p2, g2, r2, q2⟩ := rb.resolve_left hne'
      have w1 : C1[o1 + i * 1]? = some (.int .i64 L[i]) := Rs.cell icell.len r1 q1 i hi 0 (by omega)
      have w2 : C2[o2 + i * 1]? = some (.int .i64 M[i]) := Rs.cell icell.len r2 q2 i hi' 0 (by omega)
      refine wpC_seq (wpC_block ?_)
      refine wpC_seq ?_
      by_cases hx : L[i] = M[i]
      · refine du [some 17, some 18, some 19, some 20, some 21, some 22, some 23, some 24, some 25] 9 [0, 0, 3, 7, 0, 0, 48, 112, 255] (by rfl) (by rfl) (by decide +kernel) (by decide +kernel) (by decide +kernel) (fun LL hLL => ?_)
        simp only [ptrTo, pend, pend0, Pd.old, pendU, pendU0, oxq, Nat.testBit, ↓reduceIte, simprocAttr, gR_some, ixF hi, ixF hi', g1, g2, w1, w2, eq_true hx, not_true_eq_false]
        refine hLL _ _ ?_
        refine wpC_if ?_
        simp only [ptrTo, oxq, ↓reduceIte, simprocAttr, gR_some]
        refine wpC_skip ?_
        simp only [ptrTo, oxq, ↓reduceIte, simprocAttr, gR_some]
        refine fg6 (fun R => ?_)
        refine rg (fun LL hLL => ?_)
        simp only [ptrTo, oxq, ↓reduceIte, simprocAttr, gR_some, wsucc (show i < 9223372036854775807 by omega)]
        refine hLL _ _ ?_
        simp only [ptrTo, oxq, ↓reduceIte, simprocAttr, gR_some]
        exact ⟨k - 1, by omega, i + 1, _, _, _, _, by omega, by rw [List.take_succ_eq_append_getElem hi, List.take_succ_eq_append_getElem hi', he, hx], rfl⟩
      · refine du [some 17, some 18, some 19, some 20, some 21, some 22, some 23, some 24, some 25] 9 [0, 0, 3, 7, 0, 0, 48, 112, 255] (by rfl) (by rfl) (by decide +kernel) (by decide +kernel) (by decide +kernel) (fun LL hLL => ?_)
        simp only [ptrTo, pend, pend0, Pd.old, pendU, pendU0, oxq, Nat.testBit, ↓reduceIte, simprocAttr, gR_some, ixF hi, ixF hi', g1, g2, w1, w2, eq_false hx, not_false_eq_true]
        refine hLL _ _ ?_
        refine wpC_if ?_
        simp only [ptrTo, oxq, ↓reduceIte, simprocAttr, gR_some]
        refine sr (fun LL hLL => ?_)
        simp only [ptrTo, oxq, ↓reduceIte, simprocAttr, gR_some]
        refine hLL _ _ ?_
        refine wpC_ret (out_ret ?_)
        simp only [ptrTo, oxq, ↓reduceIte, simprocAttr, gR_some]
        rw [decide_eq_false (fun e => hx (by subst e; rfl))] at hk
        exact hk
    · have hil : i = L.length := by omega
      subst hil
      refine wpC_exit ?_
      simp only [ptrTo, oxq, ↓reduceIte, simprocAttr, gR_some]
      refine fg6 (fun R => ?_)
      refine sr (fun LL hLL => ?_)
      simp only [ptrTo, oxq, ↓reduceIte, simprocAttr, gR_some]
      refine hLL _ _ ?_
      refine wpC_ret (out_ret ?_)
      simp only [ptrTo, oxq, ↓reduceIte, simprocAttr, gR_some]
      rw [List.take_length, List.take_of_length_le (by omega)] at he
      rw [decide_eq_true he] at hk
      exact hk
  · refine wpC_seq (sr fun LL hLL => ?_)
    simp only [ptrTo, oxq, ↓reduceIte, simprocAttr, gR_some, eq_true (show ((L.length : Int) ≠ (M.length : Int)) by omega)]
    refine hLL _ _ ?_
    refine wpC_if ?_
    simp only [ptrTo, oxq, ↓reduceIte, simprocAttr, gR_some]
    refine sr (fun LL hLL => ?_)
    simp only [ptrTo, oxq, ↓reduceIte, simprocAttr, gR_some]
    refine hLL _ _ ?_
    refine wpC_ret (out_ret ?_)
    simp only [ptrTo, oxq, ↓reduceIte, simprocAttr, gR_some]
    rw [decide_eq_false (fun e => hlen (by rw [e]))] at hk
    exact hk
end Go.Proofs

namespace Go.Proofs
open Go Go.Ox
set_option maxRecDepth 100000
set_option maxHeartbeats 1000000
theorem sameIntLists_ok (L M : List (List Int)) (a b : Option Addr) (c d : Nat) (h : AHeap) (K : Value → AHeap → Prop) (ra : RsN icell 1 h a L) (rb : RsN icell 1 h b M) (hl : L.length < 17592186045000) (hl1 : ∀ x ∈ L, x.length < 17592186045000) (hk : K (.bool (decide (L = M))) h) :
    wpF Try.prog (.fn 11) [.slice a L.length c, .slice b M.length d] h K := by
  refine wpF_fun 27 [.tmp 4] Try.func11 rfl rfl rfl rfl ?_
  refine sr (fun LL hLL => ?_)
  simp only [ptrTo, oxq, ↓reduceIte, simprocAttr, gR_some]
  refine hLL _ _ ?_
  by_cases hlen : L.length = M.length
  · refine wpC_seq (sr fun LL hLL => ?_)
    simp only [ptrTo, oxq, ↓reduceIte, simprocAttr, gR_some, eq_false (show ¬ ((L.length : Int) ≠ (M.length : Int)) by omega)]
    refine hLL _ _ ?_
    refine wpC_if ?_
    simp only [ptrTo, oxq, ↓reduceIte, simprocAttr, gR_some]
    refine wpC_skip ?_
    simp only [ptrTo, oxq, ↓reduceIte, simprocAttr, gR_some]
    refine wpC_seq ?_
    refine sr (fun LL hLL => ?_)
    simp only [ptrTo, oxq, ↓reduceIte, simprocAttr, gR_some]
    refine hLL _ _ ?_
    refine fg6 (fun R => ?_)
    refine wpC_block ?_
    refine wpC_loop (fun k T h' => ∃ (i : Nat) (u2 u3 u4 : Value) (R : List Value), h' = h ∧ k + i = L.length ∧ L.take i = M.take i ∧ T = .slice a L.length c :: .slice b M.length d :: u2 :: u3 :: u4 :: .int .i64 i :: R) ?_ L.length _ _ ⟨0, _, _, _, R, rfl, by omega, by simp, rfl⟩
    rintro k T h' ⟨i, u2, u3, u4, R, rfl, hki, he, rfl⟩
    refine wpC_seq (sr fun LL hLL => ?_)
    simp only [ptrTo, oxq, ↓reduceIte, simprocAttr, gR_some]
    refine hLL _ _ ?_
    refine wpC_if ?_
    simp only [ptrTo, oxq, ↓reduceIte, simprocAttr, gR_some]
    refine gC_of (fun hc => ?_) (fun hc => ?_)
    · refine wpC_skip ?_
      simp only [ptrTo, oxq, ↓reduceIte, simprocAttr, gR_some]
      have hi : i < L.length := by omega
      have hi' : i < M.length := by omega
      obtain ⟨b1, o1, ro1, sz1, C1, T1, a1, c1, rfl, p1, g1, v1, r1, n1⟩ := rsnAt ra i hi
      obtain ⟨b2, o2, ro2, sz2, C2, T2, a2, c2, rfl, p2, g2, v2, r2, n2⟩ := rsnAt rb i hi'
      refine wpC_seq (wpC_block ?_)
      refine su [some 17, some 18, some 19, some 20, some 21, some 22, some 23, some 24, some 25, some 26] 10 [0, 0, 3, 7, 0, 0, 48, 112, 255, 511] (by rfl) (by rfl) (by decide +kernel) (by decide +kernel) (by decide +kernel) (fun LL hLL => ?_)
      simp only [ptrTo, pend, pend0, Pd.old, pendU, pendU0, oxq, Nat.testBit, ↓reduceIte, simprocAttr, gR_held, ixF hi, ixF hi', g1, g2, v1, v2]
      refine sameInts_ok L[i] M[i] a1 a2 c1 c2 h' _ r1 r2 (hl1 _ (List.getElem_mem hi)) ?_
      by_cases hx : L[i] = M[i]
      · simp only [ptrTo, pend, pend0, Pd.old, pendU, pendU0, oxq, Nat.testBit, ↓reduceIte, simprocAttr, gR_held, ixF hi, ixF hi', g1, g2, v1, v2, decide_eq_true hx, Bool.not_true]
        refine hLL _ _ ?_
        refine wpC_if ?_
        simp only [ptrTo, oxq, ↓reduceIte, simprocAttr, gR_some]
        refine wpC_skip ?_
        simp only [ptrTo, oxq, ↓reduceIte, simprocAttr, gR_some]
        refine fg6 (fun R => ?_)
        refine rg (fun LL hLL => ?_)
        simp only [ptrTo, oxq, ↓reduceIte, simprocAttr, gR_some, wsucc (show i < 9223372036854775807 by omega)]
        refine hLL _ _ ?_
        simp only [ptrTo, oxq, ↓reduceIte, simprocAttr, gR_some]
        exact ⟨k - 1, by omega, i + 1, _, _, _, _, by omega, by rw [List.take_succ_eq_append_getElem hi, List.take_succ_eq_append_getElem hi', he, hx], rfl⟩
      · simp only [ptrTo, pend, pend0, Pd.old, pendU, pendU0, oxq, Nat.testBit, ↓reduceIte, simprocAttr, gR_held, ixF hi, ixF hi', g1, g2, v1, v2, decide_eq_false hx, Bool.not_false]
        refine hLL _ _ ?_
        refine wpC_if ?_
        simp only [ptrTo, oxq, ↓reduceIte, simprocAttr, gR_some]
        refine sr (fun LL hLL => ?_)
        simp only [ptrTo, oxq, ↓reduceIte, simprocAttr, gR_some]
        refine hLL _ _ ?_
        refine wpC_ret (out_ret ?_)
        simp only [ptrTo, oxq, ↓reduceIte, simprocAttr, gR_some]
        rw [decide_eq_false (fun e => hx (by subst e; rfl))] at hk
        exact hk
    · have hil : i = L.length := by omega
      subst hil
      refine wpC_exit ?_
      simp only [ptrTo, oxq, ↓reduceIte, simprocAttr, gR_some]
      refine fg6 (fun R => ?_)
      refine sr (fun LL hLL => ?_)
      simp only [ptrTo, oxq, ↓reduceIte, simprocAttr, gR_some]
      refine hLL _ _ ?_
      refine wpC_ret (out_ret ?_)
      simp only [ptrTo, oxq, ↓reduceIte, simprocAttr, gR_some]
      rw [List.take_length, List.take_of_length_le (by omega)] at he
      rw [decide_eq_true he] at hk
      exact hk
  · refine wpC_seq (sr fun LL hLL => ?_)
    simp only [ptrTo, oxq, ↓reduceIte, simprocAttr, gR_some, eq_true (show ((L.length : Int) ≠ (M.length : Int)) by omega)]
    refine hLL _ _ ?_
    refine wpC_if ?_
    simp only [ptrTo, oxq, ↓reduceIte, simprocAttr, gR_some]
    refine sr (fun LL hLL => ?_)
    simp only [ptrTo, oxq, ↓reduceIte, simprocAttr, gR_some]
    refine hLL _ _ ?_
    refine wpC_ret (out_ret ?_)
    simp only [ptrTo, oxq, ↓reduceIte, simprocAttr, gR_some]
    rw [decide_eq_false (fun e => hlen (by rw [e]))] at hk
    exact hk
theorem ahead_ok (x y g : Int) (h : AHeap) (K : Value → AHeap → Prop) (hk : K (.bool (decide (grp x g < grp y g ∨ (grp x g = grp y g ∧ x < y)))) h) : wpF Try.prog (.fn 13) [.int .i64 x, .int .i64 y, .int .i64 g] h K := by
  refine wpF_fun 28 [.tmp 6] Try.func13 rfl rfl rfl rfl ?_
  refine sr (fun LL hLL => ?_)
  simp only [ptrTo, oxq, ↓reduceIte, simprocAttr, gR_some]
  refine hLL _ _ ?_
  refine sr (fun LL hLL => ?_)
  simp only [ptrTo, pend, pend0, Pd.old, pendU, pendU0, oxq, Nat.testBit, ↓reduceIte, simprocAttr, gR_held]
  refine of_ok (by unfold Out; decide) x g _ _ ?_
  simp only [ptrTo, pend, pend0, Pd.old, pendU, pendU0, oxq, Nat.testBit, ↓reduceIte, simprocAttr, gR_held]
  refine hLL _ _ ?_
  refine fg9 (fun R => ?_)
  refine sr (fun LL hLL => ?_)
  simp only [ptrTo, pend, pend0, Pd.old, pendU, pendU0, oxq, Nat.testBit, ↓reduceIte, simprocAttr, gR_held]
  refine of_ok (by unfold Out; decide) y g _ _ ?_
  simp only [ptrTo, pend, pend0, Pd.old, pendU, pendU0, oxq, Nat.testBit, ↓reduceIte, simprocAttr, gR_held]
  refine hLL _ _ ?_
  refine fg9 (fun R => ?_)
  by_cases h1 : grp x g < grp y g
  · refine sr (fun LL hLL => ?_)
    simp only [ptrTo, oxq, ↓reduceIte, simprocAttr, gR_some, eq_true h1]
    refine hLL _ _ ?_
    refine wpC_ret (out_ret ?_)
    simp only [ptrTo, oxq, ↓reduceIte, simprocAttr, gR_some]
    rw [decide_eq_true (Or.inl h1)] at hk
    exact hk
  · by_cases h2 : grp x g = grp y g
    · by_cases h3 : x < y
      · refine sr (fun LL hLL => ?_)
        simp only [ptrTo, oxq, ↓reduceIte, simprocAttr, gR_some, eq_false h1, eq_true h2, eq_true h3]
        refine hLL _ _ ?_
        refine wpC_ret (out_ret ?_)
        simp only [ptrTo, oxq, ↓reduceIte, simprocAttr, gR_some]
        rw [decide_eq_true (Or.inr ⟨h2, h3⟩)] at hk
        exact hk
      · refine sr (fun LL hLL => ?_)
        simp only [ptrTo, oxq, ↓reduceIte, simprocAttr, gR_some, eq_false h1, eq_true h2, eq_false h3]
        refine hLL _ _ ?_
        refine wpC_ret (out_ret ?_)
        simp only [ptrTo, oxq, ↓reduceIte, simprocAttr, gR_some]
        rw [decide_eq_false (by rintro (h | ⟨_, h⟩); exact h1 h; exact h3 h)] at hk
        exact hk
    · refine sr (fun LL hLL => ?_)
      simp only [ptrTo, oxq, ↓reduceIte, simprocAttr, gR_some, eq_false h1, eq_false h2]
      refine hLL _ _ ?_
      refine wpC_ret (out_ret ?_)
      simp only [ptrTo, oxq, ↓reduceIte, simprocAttr, gR_some]
      rw [decide_eq_false (by rintro (h | ⟨h, _⟩); exact h1 h; exact h2 h)] at hk
      exact hk
end Go.Proofs

namespace Go.Proofs
open Go Go.Ox
set_option maxRecDepth 100000
set_option maxHeartbeats 1000000
theorem at_ok {h0 : AHeap} {F : List Asn} (L : List Rw) (a : Option Addr) (c : Nat) (key : Int) (h : AHeap) (r : Rd h0 F rcell 3 a L) (hl : L.length < 17592186044000) (s : St h0 h F) (K : Value → AHeap → Prop) (hk : ∀ h', St h0 h' F → K (clV ((lastOf L key).getD (0, 0))) h') :
    wpF Try.prog (.fn 12) [.slice a L.length c, .int .i64 key] h K := by
  refine wpF_fun 27 [.cell 4 44] Try.func12 rfl rfl rfl rfl ?_
  obtain ⟨b4, e4⟩ : ∃ b, b = h.next := ⟨_, rfl⟩
  have s1 := s.push (.cells false 0 [.int .i64 0, .int .i64 0] 44)
  obtain ⟨h1, e1⟩ : ∃ h1, h1 = h.push (.cells false 0 [.int .i64 0, .int .i64 0] 44) := ⟨_, rfl⟩
  rw [← e1, ← e4] at s1
  refine sr (fun LL hLL => ?_)
  simp only [ptrTo, oxq, ↓reduceIte, simprocAttr, gR_some, ← e1, ← e4]
  refine hLL _ _ ?_
  obtain ⟨b5, e5⟩ : ∃ b, b = h1.next := ⟨_, rfl⟩
  have s2 := s1.push (.cells false 0 [.int .i64 0, .int .i64 0] 44)
  obtain ⟨h2, e2⟩ : ∃ h2, h2 = h1.push (.cells false 0 [.int .i64 0, .int .i64 0] 44) := ⟨_, rfl⟩
  rw [← e2, ← e5] at s2
  have g2 := s2.get
  have s3 := s2.set (.cells false 0 [.int .i64 0, .int .i64 0] 44)
  refine sr (fun LL hLL => ?_)
  simp only [ptrTo, oxq, ↓reduceIte, simprocAttr, gR_some, ← e2, ← e5, g2]
  refine hLL _ _ ?_
  refine wpC_seq ?_
  refine sr (fun LL hLL => ?_)
  simp only [ptrTo, oxq, ↓reduceIte, simprocAttr, gR_some]
  refine hLL _ _ ?_
  refine fg7 (fun R => ?_)
  refine wpC_block ?_
  refine wpC_loop (fun m T h' => ∃ (i : Nat) (w : Cl) (u2 u3 : Value) (R : List Value), m + i = L.length ∧ w = (lastOf (L.take i) key).getD (0, 0) ∧ St h0 h' (own b5 (.cells false 0 [.int .i64 w.1, .int .i64 w.2] 44) :: own b4 (.cells false 0 [.int .i64 0, .int .i64 0] 44) :: F) ∧
    T = .slice a L.length c :: .int .i64 key :: u2 :: u3 :: .pointer (some ⟨b4, 0, none⟩) :: .pointer (some ⟨b5, 0, none⟩) :: .int .i64 i :: R) ?_ L.length _ _ ⟨0, (0, 0), _, _, R, by omega, rfl, s3, rfl⟩
  rintro m T h' ⟨i, w, u2, u3, R, hmi, hw, s4, rfl⟩
  refine wpC_seq (sr fun LL hLL => ?_)
  simp only [ptrTo, oxq, ↓reduceIte, simprocAttr, gR_some]
  refine hLL _ _ ?_
  refine wpC_if ?_
  simp only [ptrTo, oxq, ↓reduceIte, simprocAttr, gR_some]
  refine gC_of (fun hc => ?_) (fun hc => ?_)
  · refine wpC_skip ?_
    simp only [ptrTo, oxq, ↓reduceIte, simprocAttr, gR_some]
    refine fg7 (fun R => ?_)
    have hi1 : i < L.length := by omega
    have hne : L ≠ [] := by rintro rfl; simp at hi1
    obtain ⟨b1, o1, ro1, sz1, C1, E1, rfl, p1, g1, r1, q1⟩ := (r _ s4.drop.drop).resolve_left hne
    have w1 : C1[o1 + i * 3]? = some (.int .i64 L[i].1) := Rs.cell rcell.len r1 q1 i hi1 0 (by omega)
    have gb := s4.get
    have ht : L.take (i + 1) = L.take i ++ [L[i]] := List.take_succ_eq_append_getElem hi1
    refine wpC_seq (wpC_block ?_)
    by_cases hkey : L[i].1 = key
    · refine sr (fun LL hLL => ?_)
      simp only [ptrTo, oxq, ↓reduceIte, simprocAttr, gR_some, ixF hi1, g1, w1, eq_true hkey]
      refine hLL _ _ ?_
      refine wpC_if ?_
      simp only [ptrTo, oxq, ↓reduceIte, simprocAttr, gR_some]
      have w4 := row_sub (j := 1) (m := 2) (Rs.row rcell.len r1 q1 i hi1).1 (by omega)
      rw [show ((rcell L[i]).drop 1).take 2 = [.int .i64 L[i].2.1, .int .i64 L[i].2.2] from rfl] at w4
      have x4 := (Rs.row rcell.len r1 q1 i hi1).2
      refine rg (fun LL hLL => ?_)
      simp only [ptrTo, oxq, ↓reduceIte, simprocAttr, gR_some, ixF hi1, g1, gb, w4, eq_true (show o1 + i * 3 + 1 + 2 ≤ C1.length by omega)]
      refine hLL _ _ ?_
      simp only [ptrTo, oxq, ↓reduceIte, simprocAttr, gR_some]
      have s5 := s4.set (.cells false 0 [.int .i64 L[i].2.1, .int .i64 L[i].2.2] 44)
      refine fg7 (fun R => ?_)
      refine rg (fun LL hLL => ?_)
      simp only [ptrTo, oxq, ↓reduceIte, simprocAttr, gR_some, wsucc (show i < 9223372036854775807 by omega)]
      refine hLL _ _ ?_
      simp only [ptrTo, oxq, ↓reduceIte, simprocAttr, gR_some]
      refine ⟨m - 1, by omega, i + 1, L[i].2, _, _, _, by omega, ?_, s5, rfl⟩
      rw [ht, lastOf_snoc, if_pos hkey]; rfl
    · refine sr (fun LL hLL => ?_)
      simp only [ptrTo, oxq, ↓reduceIte, simprocAttr, gR_some, ixF hi1, g1, w1, eq_false hkey]
      refine hLL _ _ ?_
      refine wpC_if ?_
      simp only [ptrTo, oxq, ↓reduceIte, simprocAttr, gR_some]
      refine wpC_skip ?_
      simp only [ptrTo, oxq, ↓reduceIte, simprocAttr, gR_some]
      refine fg7 (fun R => ?_)
      refine rg (fun LL hLL => ?_)
      simp only [ptrTo, oxq, ↓reduceIte, simprocAttr, gR_some, wsucc (show i < 9223372036854775807 by omega)]
      refine hLL _ _ ?_
      simp only [ptrTo, oxq, ↓reduceIte, simprocAttr, gR_some]
      refine ⟨m - 1, by omega, i + 1, w, _, _, _, by omega, ?_, s4, rfl⟩
      rw [ht, lastOf_snoc, if_neg hkey]
      exact hw
  · have hil : i = L.length := by omega
    subst hil
    rw [List.take_length] at hw
    subst hw
    refine wpC_exit ?_
    simp only [ptrTo, oxq, ↓reduceIte, simprocAttr, gR_some]
    refine fg7 (fun R => ?_)
    have g5 := s4.get
    have g4 := (s4.mv 1).get
    have s5 := (s4.mv 1).set (.cells false 0 [.int .i64 ((lastOf L key).getD (0, 0)).1, .int .i64 ((lastOf L key).getD (0, 0)).2] 44)
    refine sr (fun LL hLL => ?_)
    simp only [ptrTo, oxq, ↓reduceIte, simprocAttr, gR_some, g5, g4]
    refine hLL _ _ ?_
    refine wpC_ret (out_ret ?_)
    simp only [ptrTo, oxq, ↓reduceIte, simprocAttr, gR_some]
    simp only [s5.get]
    exact hk _ s5.drop.drop
end Go.Proofs

namespace Go.Proofs
open Go Go.Ox
set_option maxRecDepth 100000
set_option maxHeartbeats 1000000
section
variable {g : Nat} {R : List Rw}
theorem out_at (hw : ∀ r ∈ R, (Lit.int .i64 r.1).wf = true) (k : Int) : (lastOf (rowsOf g (tlay [] R)) k).getD (0, 0) = (lastOf R k).getD (0, 0) := by
  have ok := TbOk.nil.lay hw
  have e : tgt (tlay [] R) k = (lastOf R k).getD (0, 0) := TbOk.nil.get_lay hw k
  rw [rowsOf, lastOf_rowK]
  by_cases h : k ∈ keySort g (tbK (tlay [] R))
  · rw [if_pos h, ← e]; rfl
  · rw [if_neg h, ← e]
    have h' : ¬ k ∈ tbK (tlay [] R) := fun h1 => h ((keySort_perm g _).mem_iff.2 h1)
    rw [tgt_mem h']; rfl
theorem out_row (hw : ∀ r ∈ R, (Lit.int .i64 r.1).wf = true) (x : Rw) (hx : x ∈ rowsOf g (tlay [] R)) : x.2 ≠ (0, 0) ∧ (lastOf R x.1).getD (0, 0) = x.2 ∧ R ≠ [] ∧ (Lit.int .i64 x.1).wf = true := by
  have ok := TbOk.nil.lay hw
  obtain ⟨k, hk, rfl⟩ := List.mem_map.1 hx
  have hk := (keySort_perm g _).mem_iff.1 hk
  have e : tgt (tlay [] R) k = (lastOf R k).getD (0, 0) := TbOk.nil.get_lay hw k
  refine ⟨(ok.iff k).1 hk, e.symm, ?_, ok.wf k hk⟩
  rintro rfl
  simp [tlay, tbK] at hk
theorem out_sorted (hw : ∀ r ∈ R, (Lit.int .i64 r.1).wf = true) (Q : List Rw) (eQ : Q = rowsOf g (tlay [] R)) (i : Nat) (hi : i + 1 < Q.length) (hi0 : i < Q.length) : grp Q[i].1 g < grp Q[i + 1].1 g ∨ (grp Q[i].1 g = grp Q[i + 1].1 g ∧ Q[i].1 < Q[i + 1].1) := by
  have okM := TbOk.nil.lay hw
  have h1 : (Q.map (·.1)) = keySort g (tbK (tlay [] R)) := by rw [eQ]; exact rows_keys g _
  have h2 : (Q.map (·.1)).Pairwise (fun x y => keyLe g x y = true) := by rw [h1]; exact keySort_sorted g _
  have h3 : (Q.map (·.1)).Nodup := by rw [h1]; exact (keySort_perm g _).nodup_iff.2 okM.nd
  have hl : i + 1 < (Q.map (·.1)).length := by simpa using hi
  have h4 := List.pairwise_iff_getElem.1 h2 i (i + 1) (by omega) hl (by omega)
  have h5 := List.pairwise_iff_getElem.1 h3 i (i + 1) (by omega) hl (by omega)
  simp only [List.getElem_map] at h4 h5
  rw [keyLe_iff] at h4
  omega
/-- Rows that were laid, laid again. -/
theorem out_again (hw : ∀ r ∈ R, (Lit.int .i64 r.1).wf = true) : rowsOf g (tlay [] (rowsOf g (tlay [] R))) = rowsOf g (tlay [] R) := by
  have ok := TbOk.nil.lay hw
  have hw2 : ∀ r ∈ rowsOf g (tlay [] R), (Lit.int .i64 r.1).wf = true := fun x hx => (out_row hw x hx).2.2.2
  refine rows_ext (TbOk.nil.lay hw2) ok fun k => ?_
  have e1 : tgt (tlay [] (rowsOf g (tlay [] R))) k = _ := TbOk.nil.get_lay hw2 k
  have e2 : tgt (tlay [] R) k = _ := TbOk.nil.get_lay hw k
  rw [e1, e2]
  exact out_at hw k
theorem out_len : (rowsOf g (tlay [] R)).length ≤ R.length := by
  rw [rows_len]
  have := tlay_few [] R
  simpa using this
end
theorem outR_mem {g : Nat} {L : List OpX} {RR : List (List Rw)} {l : List Rw} (h : l ∈ outR g L RR) : ∃ j : Nat, l = rowsOf g (tlay [] (RR[j]?.getD [])) ∨ l = [] := by
  unfold outR at h
  obtain ⟨x, _, rfl⟩ := List.mem_map.1 h
  refine ⟨x.2, ?_⟩
  by_cases hs : stf x.1 = true
  · simp [hs]
  · simp [hs]
theorem getD_wf {RR : List (List Rw)} (hw : ∀ l ∈ RR, ∀ r ∈ l, (Lit.int .i64 r.1).wf = true) (j : Nat) : ∀ r ∈ RR[j]?.getD [], (Lit.int .i64 r.1).wf = true := by
  by_cases h : j < RR.length
  · rw [List.getElem?_eq_getElem h]; exact hw _ (List.getElem_mem h)
  · rw [List.getElem?_eq_none (by omega)]; simp
theorem getD_len {RR : List (List Rw)} {n : Nat} (hw : ∀ l ∈ RR, l.length ≤ n) (j : Nat) : (RR[j]?.getD []).length ≤ n := by
  by_cases h : j < RR.length
  · rw [List.getElem?_eq_getElem h]; exact hw _ (List.getElem_mem h)
  · rw [List.getElem?_eq_none (by omega)]; simp
theorem outR_wf {g : Nat} {L : List OpX} {RR : List (List Rw)} (hw : ∀ l ∈ RR, ∀ r ∈ l, (Lit.int .i64 r.1).wf = true) : ∀ l ∈ outR g L RR, ∀ r ∈ l, (Lit.int .i64 r.1).wf = true := by
  intro l hl r hr
  obtain ⟨j, rfl | rfl⟩ := outR_mem hl
  · exact (out_row (getD_wf hw j) r hr).2.2.2
  · cases hr
theorem outR_lens {g : Nat} {L : List OpX} {RR : List (List Rw)} (hw : ∀ l ∈ RR, l.length ≤ 2000) : ∀ l ∈ outR g L RR, l.length ≤ 2000 := by
  intro l hl
  obtain ⟨j, rfl | rfl⟩ := outR_mem hl
  · exact Nat.le_trans out_len (getD_len hw j)
  · simp
theorem outR_again {g : Nat} {L : List OpX} {RR : List (List Rw)} (hw : ∀ l ∈ RR, ∀ r ∈ l, (Lit.int .i64 r.1).wf = true) : outR g L (outR g L RR) = outR g L RR := by
  refine List.ext_getElem (by simp [outR_len]) fun j h1 h2 => ?_
  have hj : j < L.length := by rw [outR_len] at h1; exact h1
  rw [outR_at g L _ j hj, outR_at g L _ j hj, List.getElem?_eq_getElem h2, Option.getD_some, outR_at g L _ j hj]
  by_cases hs : stf L[j] = true
  · rw [if_pos hs, if_pos hs, out_again (getD_wf hw j)]
  · rw [if_neg hs, if_neg hs]
theorem nest_rdn {α : Type} {f : α → List Value} {k : Nat} {e E : TypeId} {h0 h : AHeap} {F : List Asn} {a : Option Addr} {c : Nat} {LL : List (List α)} (hf : ∀ x, (f x).length = k) (s : St h0 h (nest f k e E a c LL :: F)) :
    ∃ S : List Sv, St h0 h (wn Sv.cells 1 E a c S :: star (wns f k e S LL) :: F) ∧ RdN h0 (wn Sv.cells 1 E a c S :: star (wns f k e S LL) :: F) f k a LL := by
  obtain ⟨S, hS, s1⟩ := s.nest_out
  exact ⟨S, s1, S, hS, Rd.wn Sv.len1, fun i hi hj => ⟨fun h s => (s.drop.wns_rs hf i hi hj).1, (s1.drop.wns_rs hf i hi hj).2⟩⟩
end Go.Proofs

namespace Go.Proofs
open Go Go.Ox
set_option maxRecDepth 100000
set_option maxHeartbeats 8000000
theorem clVe (c : Cl) : clV c = .agg #[.int .i64 c.1, .int .i64 c.2] := rfl
theorem keeps_body (g : Int) (a : Option Addr) (c : Nat) (L : List OpX) (m : MfX) (pa2 : Option Addr) (pc2 : Nat) (P2 : List Int) (h : AHeap) (sp : SpR h a L) (mr : MfR h m) (mb : MfB m) (hw : ∀ l ∈ m.RR, ∀ r ∈ l, (Lit.int .i64 r.1).wf = true) (rp : Rs icell 1 h pa2 P2) (hp : P2.length < 17592186045000) (K : Value → AHeap → Prop) (hk : ∀ h', K (.bool true) h') :
    wpF Try.prog (.fn 3) [.agg #[.int .i64 g, .slice a L.length c], .agg m.cells.toArray, .slice pa2 P2.length pc2] h K := by
  have s := St.init h
  refine wpF_fun 224 [.tmp 6] Try.func3 rfl rfl rfl rfl ?_
  obtain ⟨bs, ebs⟩ : ∃ b, b = h.next := ⟨_, rfl⟩
  obtain ⟨bm, ebm⟩ : ∃ b, b = bs + 1 := ⟨_, rfl⟩
  have s1 := (s.push (spB g a L.length c)).push (.cells false 0 m.cells 30)
  simp only [AHeap.next_push, ← ebs, ← ebm] at s1
  obtain ⟨h1, e1⟩ : ∃ h1, h1 = (h.push (spB g a L.length c)).push (.cells false 0 m.cells 30) := ⟨_, rfl⟩
  rw [← e1] at s1
  refine sr (fun LL hLL => ?_)
  simp only [ptrTo, oxq, ↓reduceIte, simprocAttr, gR_some, AHeap.next_push, ← ebs, ← ebm, ← e1, MfX.len]
  refine hLL _ _ ?_
  have gm := s1.get
  have gs := (s1.mv 1).get
  refine wpC_seq (sr fun LL hLL => ?_)
  simp only [ptrTo, pend, pend0, Pd.old, pendU, pendU0, oxq, Nat.testBit, ↓reduceIte, simprocAttr, gR_held, gm, gs, MfX.len]
  refine may_law g a c L sp m mr mb _ s1 _ fun b h2 hb s2 => ?_
  simp only [ptrTo, pend, pend0, Pd.old, pendU, pendU0, oxq, Nat.testBit, ↓reduceIte, simprocAttr, gR_held]
  refine hLL _ _ ?_
  cases b
  · refine wpC_if ?_
    simp only [ptrTo, oxq, ↓reduceIte, simprocAttr, gR_some]
    refine sr (fun LL hLL => ?_)
    simp only [ptrTo, oxq, ↓reduceIte, simprocAttr, gR_some]
    refine wpF_ext rfl ?_
    refine hLL _ _ ?_
    refine wpC_ret (out_ret ?_)
    simp only [ptrTo, oxq, ↓reduceIte, simprocAttr, gR_some]
    exact hk _
  obtain ⟨hms, hg1, hg64, hn1, hn12⟩ := hb rfl
  obtain ⟨G, rfl⟩ : ∃ G : Nat, g = (G : Int) := ⟨g.toNat, by omega⟩
  refine wpC_if ?_
  simp only [ptrTo, oxq, ↓reduceIte, simprocAttr, gR_some]
  refine wpC_skip ?_
  simp only [ptrTo, oxq, ↓reduceIte, simprocAttr, gR_some]
  refine fg7 (fun R => ?_)
  obtain ⟨id, pa, O, pc, la, LI, lc, ra, RR, rc, ea, ES, ec⟩ := m
  obtain ⟨bp, bl, br, be, bl1, br1, be1⟩ := mb
  obtain ⟨hsn, hsl, hsr⟩ := hms
  simp only at *
  unfold MfX.cells at s2
  simp only at s2
  have gm := s2.get
  have gs := (s2.mv 1).get
  refine sr (fun LL hLL => ?_)
  simp only [ptrTo, pend, pend0, Pd.old, pendU, pendU0, oxq, Nat.testBit, ↓reduceIte, simprocAttr, gR_held, gm, gs]
  refine pars_ok G hg1 a c L hn12 pa pc O bp _ (Rd.of_base mr.p) s2 _ fun qa qc h3 s3 => ?_
  have gm3 := (s3.mv 1).get
  have gs3 := (s3.mv 2).get
  have s4 := (s3.mv 1).set (.cells false 0 [.int .i64 id, .slice qa (parsOf G L.length O).length qc, .slice la LI.length lc, .slice ra RR.length rc, .slice ea ES.length ec] 30)
  obtain ⟨h4, e4⟩ : ∃ h4, h4 = h3.set bm (.cells false 0 [.int .i64 id, .slice qa (parsOf G L.length O).length qc, .slice la LI.length lc, .slice ra RR.length rc, .slice ea ES.length ec] 30) := ⟨_, rfl⟩
  rw [← e4] at s4
  simp only [ptrTo, pend, pend0, Pd.old, pendU, pendU0, oxq, Nat.testBit, ↓reduceIte, simprocAttr, gR_held, gm3, gs3, ← e4]
  refine hLL _ _ ?_
  refine fg7 (fun R => ?_)
  have gm4 := s4.get
  have gs4 := (s4.mv 2).get
  refine sr (fun LL hLL => ?_)
  simp only [ptrTo, pend, pend0, Pd.old, pendU, pendU0, oxq, Nat.testBit, ↓reduceIte, simprocAttr, gR_held, gs4]
  refine pars_ok G hg1 a c L hn12 pa2 pc2 P2 hp _ (Rd.of_base rp) s4 _ fun ya yc h5 s5 => ?_
  simp only [ptrTo, pend, pend0, Pd.old, pendU, pendU0, oxq, Nat.testBit, ↓reduceIte, simprocAttr, gR_held]
  refine hLL _ _ ?_
  refine fg7 (fun R => ?_)
  have gm5 := (s5.mv 1).get
  have gs5 := (s5.mv 3).get
  obtain ⟨O', eO'⟩ : ∃ O', O' = parsOf G L.length O := ⟨_, rfl⟩
  obtain ⟨P', eP'⟩ : ∃ P', P' = parsOf G L.length P2 := ⟨_, rfl⟩
  have hOl : O'.length = L.length := by rw [eO', parsOf_len]
  have hPl : P'.length = L.length := by rw [eP', parsOf_len]
  have hOr : ∀ x ∈ O', 1 ≤ x ∧ x ≤ 8 ∧ x ≤ (G : Int) := by rw [eO']; exact parsOf_range hg1 _ _
  have hPr : ∀ x ∈ P', 1 ≤ x ∧ x ≤ 8 ∧ x ≤ (G : Int) := by rw [eP']; exact parsOf_range hg1 _ _
  rw [← eO', ← eP'] at s5
  rw [← eO'] at gm5
  rw [← eP']
  refine sr (fun LL hLL => ?_)
  simp only [ptrTo, pend, pend0, Pd.old, pendU, pendU0, oxq, Nat.testBit, ↓reduceIte, simprocAttr, gR_held, gm5, gs5]
  refine done_ok (by omega) (by omega) a c L hn12 ⟨id, qa, O', qc, la, LI, lc, ra, RR, rc, ea, ES, ec⟩ ya yc P' _ sp ⟨fun h s => (s.mv 2).rs icell.len, RdN.of_base mr.l, RdN.of_base mr.r⟩ ⟨by show O'.length < _; omega, bl, br, be, bl1, br1, be1⟩ (fun h s => s.rs icell.len) (wnNil s5) hOl hPl hOr hPr ⟨hsn, hsl, hsr⟩ hw s5 _ fun za zc ka kc ga gc h6 s6 => ?_
  have s7 := s6.push (.cells false 0 [.int .i64 0, .slice none 0 0, .slice none 0 0, .slice none 0 0, .slice none 0 0] 30)
  obtain ⟨b7, eb7⟩ : ∃ b, b = h6.next := ⟨_, rfl⟩
  rw [← eb7] at s7
  have g7 := s7.get
  obtain ⟨OR, eOR⟩ : ∃ OR, OR = outR G L RR := ⟨_, rfl⟩
  have hORl : OR.length = L.length := by rw [eOR]; exact outR_len G L RR
  have hORat : ∀ j (hj : j < L.length) (h : j < OR.length), OR[j] = if stf L[j] = true then rowsOf G (tlay [] (RR[j]?.getD [])) else [] := fun j hj h => by subst eOR; exact outR_at G L RR j hj h
  have hORlen : ∀ l ∈ OR, l.length ≤ 2000 := by rw [eOR]; exact outR_lens hsr
  rw [← eOR] at s7
  rw [← eOR]
  have s8 := s7.set (.cells false 0 [.int .i64 (IntKind.i64.wrap (id + 1)), .slice za P'.length zc, .slice ka LI.length kc, .slice ga OR.length gc, .slice none 0 0] 30)
  obtain ⟨h8, eh8⟩ : ∃ h8, h8 = (h6.push (.cells false 0 [.int .i64 0, .slice none 0 0, .slice none 0 0, .slice none 0 0, .slice none 0 0] 30)).set b7 (.cells false 0 [.int .i64 (IntKind.i64.wrap (id + 1)), .slice za P'.length zc, .slice ka LI.length kc, .slice ga OR.length gc, .slice none 0 0] 30) := ⟨_, rfl⟩
  rw [← eh8] at s8
  have gm6 := (s8.mv 5).get
  simp only [ptrTo, pend, pend0, Pd.old, pendU, pendU0, oxq, Nat.testBit, ↓reduceIte, simprocAttr, gR_held, g7, ← eb7, ← eh8]
  refine hLL _ _ ?_
  refine xp7 2 (by repeat (first | exact tput_le _ _ _ _ (.inr (by omega)) | refine tput_le _ _ _ _ (.inl ?_))) (fun R => ?_)
  simp only [ptrTo, oxq, ↓reduceIte, simprocAttr, gR_some, show List.range 2 = [0, 1] from rfl]
  refine fg9 (fun R => ?_)
  have g8 := s8.get
  have gs8 := (s8.mv 7).get
  have rz := (s8.mv 1).rs icell.len
  have ry := (s8.mv 4).rs icell.len
  have rk := (s8.mv 2).rsn icell.len
  refine wpC_seq (sr fun LL hLL => ?_)
  simp only [ptrTo, pend, pend0, Pd.old, pendU, pendU0, oxq, Nat.testBit, ↓reduceIte, simprocAttr, gR_held, g8, gm6, gs8, ne_eq, not_true_eq_false]
  refine sameInts_ok P' P' za ya zc yc _ _ rz ry (by omega) ?_
  simp only [ptrTo, pend, pend0, Pd.old, pendU, pendU0, oxq, Nat.testBit, ↓reduceIte, simprocAttr, gR_held, g8, gm6, gs8, decide_true, Bool.not_true]
  refine sameIntLists_ok LI LI ka la kc lc _ _ rk (mr.l.fr s8.base) (by omega) bl1 ?_
  simp only [ptrTo, pend, pend0, Pd.old, pendU, pendU0, oxq, Nat.testBit, ↓reduceIte, simprocAttr, gR_held, g8, gm6, gs8, decide_true, Bool.not_true, hORl, ne_eq, not_true_eq_false]
  refine hLL _ _ ?_
  refine wpC_if ?_
  simp only [ptrTo, oxq, ↓reduceIte, simprocAttr, gR_some]
  refine wpC_skip ?_
  simp only [ptrTo, oxq, ↓reduceIte, simprocAttr, gR_some]
  refine fg9 (fun R => ?_)
  refine wpC_seq ?_
  refine sr (fun LL hLL => ?_)
  simp only [ptrTo, oxq, ↓reduceIte, simprocAttr, gR_some]
  refine hLL _ _ ?_
  refine xp9 1 (by repeat (first | exact tput_le _ _ _ _ (.inr (by omega)) | refine tput_le _ _ _ _ (.inl ?_))) (fun R => ?_)
  simp only [ptrTo, oxq, ↓reduceIte, simprocAttr, gR_some, show List.range 1 = [0] from rfl]
  refine fg10 (fun R => ?_)
  obtain ⟨S2, s9, rdo⟩ := nest_rdn rcell.len (s8.mv 3)
  have rdm : ∀ F, RdN h F rcell 3 ra RR := fun F => RdN.of_base mr.r
  clear gm gs gm3 gs3 gm4 gs4 gm5 gs5 g7 g8 gm6 gs8 rz ry rk s1 s2 s3 s4 s5 s6 s7 s8
  obtain ⟨F9, eF9⟩ : ∃ F9, F9 = wn Sv.cells 1 42 ga gc S2 :: star (wns rcell 3 46 S2 OR) :: own b7 (.cells false 0 [.int .i64 (IntKind.i64.wrap (id + 1)), .slice za P'.length zc, .slice ka LI.length kc, .slice ga OR.length gc, .slice none 0 0] 30) :: wn icell 1 3 za zc P' :: nest icell 1 3 25 ka kc LI :: wn icell 1 3 ya yc P' :: own bm (.cells false 0 [.int .i64 id, .slice qa O'.length qc, .slice la LI.length lc, .slice ra RR.length rc, .slice ea ES.length ec] 30) :: wn icell 1 3 qa qc O' :: [own bs (spB G a L.length c)] := ⟨_, rfl⟩
  have getn : ∀ h', St h h' F9 → h'.get b7 = some (.cells false 0 [.int .i64 (IntKind.i64.wrap (id + 1)), .slice za P'.length zc, .slice ka LI.length kc, .slice ga OR.length gc, .slice none 0 0] 30) := fun h' s => by subst eF9; exact (s.mv 2).get
  have getm : ∀ h', St h h' F9 → h'.get bm = some (.cells false 0 [.int .i64 id, .slice qa O'.length qc, .slice la LI.length lc, .slice ra RR.length rc, .slice ea ES.length ec] 30) := fun h' s => by subst eF9; exact (s.mv 6).get
  have gets : ∀ h', St h h' F9 → h'.get bs = some (spB G a L.length c) := fun h' s => by subst eF9; exact (s.mv 8).get
  have s10 : St h h8 F9 := by subst eF9; exact s9
  have rdo' : RdN h F9 rcell 3 ga OR := by subst eF9; exact rdo
  clear rdo s9 eF9
  refine wpC_block ?_
  refine wpC_loop (fun m T h' => ∃ (k : Nat) (u0 u1 u5 u6 u8 : Value) (R : List Value), m + k = L.length ∧ St h h' F9 ∧ T = u0 :: u1 :: .slice ya P'.length yc :: .pointer (some ⟨bs, 0, none⟩) :: .pointer (some ⟨bm, 0, none⟩) :: u5 :: u6 :: .pointer (some ⟨b7, 0, none⟩) :: u8 :: .int .i64 k :: R) ?_ L.length _ _ ⟨0, _, _, _, _, _, _, by omega, s10, rfl⟩
  clear s10
  rintro m T h' ⟨k, u0, u1, u5, u6, u8, R, hmk, s11, rfl⟩
  have gs := gets _ s11
  refine wpC_seq (sr fun LL hLL => ?_)
  simp only [ptrTo, oxq, ↓reduceIte, simprocAttr, gR_some, gs]
  refine hLL _ _ ?_
  refine wpC_if ?_
  simp only [ptrTo, oxq, ↓reduceIte, simprocAttr, gR_some]
  refine gC_of (fun hc => ?_) (fun hc => ?_)
  · refine wpC_skip ?_
    simp only [ptrTo, oxq, ↓reduceIte, simprocAttr, gR_some]
    refine fg10 (fun R => ?_)
    have hk' : k < L.length := by omega
    have hkO : k < OR.length := by omega
    refine wpC_seq (wpC_block ?_)
    obtain ⟨b1, o1, ro1, sz1, C1, T1, ea, p1, g1, w0, w1, w2, x2, w8, x8⟩ := (sp.fr s11.base).at k hk'
    obtain ⟨ai, ci, rat, rdk, _⟩ := rdnAt rdo' k hkO
    have sv : ∀ (a : Option Addr) (m n : Nat), veq 6 (.slice a m n) (.slice a m n) = true := by intro a m n; simp [veq]
    refine sm (fun T hh => h' = hh ∧ ∃ (u0 u1 u5 u6 u8 : Value) (R : List Value), T = u0 :: u1 :: .slice ya P'.length yc :: .pointer (some ⟨bs, 0, none⟩) :: .pointer (some ⟨bm, 0, none⟩) :: u5 :: u6 :: .pointer (some ⟨b7, 0, none⟩) :: u8 :: .int .i64 k :: .bool (stf L[k]) :: R) ?_ ?_
    · rw [ea] at gs
      by_cases k5 : L[k].kind = 5
      · refine rg (fun LL hLL => ?_)
        simp only [ptrTo, oxq, ↓reduceIte, simprocAttr, gR_some, gs, ixF hk', g1, w0, eq_true k5]
        refine hLL _ _ ?_
        simp only [ptrTo, oxq, ↓reduceIte, simprocAttr, gR_some, tput_hd]
        exact ⟨_, _, _, _, _, _, by rw [show stf L[k] = true by simp [stf, k5]]⟩
      · by_cases k6 : L[k].kind = 6
        · refine rg (fun LL hLL => ?_)
          simp only [ptrTo, oxq, ↓reduceIte, simprocAttr, gR_some, gs, ixF hk', g1, w0, eq_false k5, eq_true k6]
          refine hLL _ _ ?_
          simp only [ptrTo, oxq, ↓reduceIte, simprocAttr, gR_some, tput_hd]
          exact ⟨_, _, _, _, _, _, by rw [show stf L[k] = true by simp [stf, k6]]⟩
        · refine rg (fun LL hLL => ?_)
          simp only [ptrTo, oxq, ↓reduceIte, simprocAttr, gR_some, gs, ixF hk', g1, w0, eq_false k5, eq_false k6]
          refine hLL _ _ ?_
          simp only [ptrTo, oxq, ↓reduceIte, simprocAttr, gR_some, tput_hd]
          exact ⟨_, _, _, _, _, _, by rw [show stf L[k] = false by simp [stf, k5, k6]]⟩
    clear g1 w0 w1 w2 x2 w8 x8 p1
    rintro T hh ⟨rfl, u0, u1, u5, u6, u8, R, rfl⟩
    have hOR0 : stf L[k] = false → OR[k].length = 0 := fun hf => by rw [hORat k hk' hkO, if_neg (by simp [hf])]; rfl
    have hOR1 : stf L[k] = true → OR[k] = rowsOf G (tlay [] (RR[k]?.getD [])) := fun hf => by rw [hORat k hk' hkO, if_pos hf]
    have hORk : OR[k].length ≤ 2000 := hORlen _ (List.getElem_mem hkO)
    obtain ⟨st, est⟩ : ∃ st, st = stf L[k] := ⟨_, rfl⟩
    rw [← est] at hOR0 hOR1 ⊢
    refine sm (fun T hh => h' = hh ∧ ∃ (u0 u1 u5 u6 u8 : Value) (R : List Value), T = u0 :: u1 :: .slice ya P'.length yc :: .pointer (some ⟨bs, 0, none⟩) :: .pointer (some ⟨bm, 0, none⟩) :: u5 :: u6 :: .pointer (some ⟨b7, 0, none⟩) :: u8 :: .int .i64 k :: .bool st :: R) ?_ ?_
    · obtain ⟨bo, oo, roo, szo, Co, To, eo, go, vo⟩ := rat _ s11
      have gn := getn _ s11
      rw [eo] at gn
      cases st
      · rw [hOR0 rfl] at vo
        refine sr (fun LL hLL => ?_)
        simp only [ptrTo, oxq, ↓reduceIte, simprocAttr, gR_some, gn, ixF hkO, go, vo]
        refine hLL _ _ ?_
        refine wpC_if ?_
        simp only [ptrTo, oxq, ↓reduceIte, simprocAttr, gR_some]
        refine wpC_skip ?_
        simp only [ptrTo, oxq, ↓reduceIte, simprocAttr, gR_some]
        exact ⟨_, _, _, _, _, _, rfl⟩
      · refine sr (fun LL hLL => ?_)
        simp only [ptrTo, oxq, ↓reduceIte, simprocAttr, gR_some]
        refine hLL _ _ ?_
        refine wpC_if ?_
        simp only [ptrTo, oxq, ↓reduceIte, simprocAttr, gR_some]
        refine wpC_skip ?_
        simp only [ptrTo, oxq, ↓reduceIte, simprocAttr, gR_some]
        exact ⟨_, _, _, _, _, _, rfl⟩
    rintro T hh ⟨rfl, u0, u1, u5, u6, u8, R, rfl⟩
    refine sm (fun T hh => St h hh F9 ∧ ∃ (u0 u1 u5 u6 u8 : Value) (R : List Value), T = u0 :: u1 :: .slice ya P'.length yc :: .pointer (some ⟨bs, 0, none⟩) :: .pointer (some ⟨bm, 0, none⟩) :: u5 :: u6 :: .pointer (some ⟨b7, 0, none⟩) :: u8 :: .int .i64 k :: .bool st :: R) ?_ ?_
    · refine sr (fun LL hLL => ?_)
      simp only [ptrTo, oxq, ↓reduceIte, simprocAttr, gR_some]
      refine hLL _ _ ?_
      refine xp11 1 (by repeat (first | exact tput_le _ _ _ _ (.inr (by omega)) | refine tput_le _ _ _ _ (.inl ?_))) (fun R => ?_)
      simp only [ptrTo, oxq, ↓reduceIte, simprocAttr, gR_some, show List.range 1 = [0] from rfl]
      refine fg12 (fun R => ?_)
      refine wpC_block ?_
      refine wpC_loop (fun m T hh => ∃ (i : Nat) (u0 u1 u5 u6 u8 : Value) (R : List Value), m + i = OR[k].length ∧ St h hh F9 ∧ T = u0 :: u1 :: .slice ya P'.length yc :: .pointer (some ⟨bs, 0, none⟩) :: .pointer (some ⟨bm, 0, none⟩) :: u5 :: u6 :: .pointer (some ⟨b7, 0, none⟩) :: u8 :: .int .i64 k :: .bool st :: .int .i64 i :: R) ?_ OR[k].length _ _ ⟨0, _, _, _, _, _, _, by omega, s11, rfl⟩
      clear s11 gs
      rintro m T hh ⟨i, u0, u1, u5, u6, u8, R, hmi, s12, rfl⟩
      obtain ⟨bo, oo, roo, szo, Co, To, eo, go, vo⟩ := rat _ s12
      have gn := getn _ s12
      rw [eo] at gn
      refine wpC_seq (sr fun LL hLL => ?_)
      simp only [ptrTo, oxq, ↓reduceIte, simprocAttr, gR_some, gn, ixF hkO, go, vo]
      refine hLL _ _ ?_
      refine wpC_if ?_
      simp only [ptrTo, oxq, ↓reduceIte, simprocAttr, gR_some]
      refine gC_of (fun hc => ?_) (fun hc => ?_)
      · refine wpC_skip ?_
        simp only [ptrTo, oxq, ↓reduceIte, simprocAttr, gR_some]
        refine fg12 (fun R => ?_)
        have hi : i < OR[k].length := by omega
        refine wpC_seq (wpC_block ?_)
        have hst : st = true := by
          cases st with
          | true => rfl
          | false => exact absurd (hOR0 rfl) (by omega)
        obtain ⟨x, ex⟩ : ∃ x, x = OR[k][i] := ⟨_, rfl⟩
        obtain ⟨hx1, hx2, hx3, hx4⟩ := out_row (g := G) (getD_wf hw k) x (by rw [ex, ← hOR1 hst]; exact List.getElem_mem hi)
        have hkR : k < RR.length := by
          rcases Nat.lt_or_ge k RR.length with h | h
          · exact h
          · exact absurd (by rw [List.getElem?_eq_none h]; rfl) hx3
        have eR : RR[k]?.getD [] = RR[k] := by rw [List.getElem?_eq_getElem hkR]; rfl
        rw [eR] at hx2
        have hx1' : ¬ ((x.2.1, x.2.2) : Cl) = (0, 0) := hx1
        have hneO : OR[k] ≠ [] := by intro e; rw [e] at hi; simp at hi
        obtain ⟨bx, ox, rox, szx, Cx, Tx, eax, px, gx, rx, qx⟩ := (rdk _ s12).resolve_left hneO
        obtain ⟨wx, xx⟩ := Rs.row rcell.len rx qx i hi
        rw [← ex] at wx
        rw [eax] at vo
        have sp1 := s12.push (.cells false 0 [.int .i64 0, .int .i64 0, .int .i64 0] 46)
        obtain ⟨bq, ebq⟩ : ∃ b, b = hh.next := ⟨_, rfl⟩
        rw [← ebq] at sp1
        have gp := sp1.get
        have sq := sp1.set (.cells false 0 [.int .i64 x.1, .int .i64 x.2.1, .int .i64 x.2.2] 46)
        obtain ⟨hq, ehq⟩ : ∃ hq, hq = (hh.push (.cells false 0 [.int .i64 0, .int .i64 0, .int .i64 0] 46)).set bq (.cells false 0 [.int .i64 x.1, .int .i64 x.2.1, .int .i64 x.2.2] 46) := ⟨_, rfl⟩
        rw [← ehq] at sq
        refine sr (fun LL hLL => ?_)
        simp only [ptrTo, oxq, ↓reduceIte, simprocAttr, gR_some, gn, ixF hkO, go, vo, ixF hi, gx, wx, xx, gp, rcell.len, rcell, ← ebq, ← ehq]
        refine hLL _ _ ?_
        refine xp12 1 (by repeat (first | exact tput_le _ _ _ _ (.inr (by omega)) | refine tput_le _ _ _ _ (.inl ?_))) (fun R => ?_)
        simp only [ptrTo, oxq, ↓reduceIte, simprocAttr, gR_some, show List.range 1 = [0] from rfl]
        refine fg13 (fun R => ?_)
        have gq := sq.get
        have gmq := getm _ sq.drop
        have gsq := gets _ sq.drop
        obtain ⟨aj, cj, ratm, rdkm, _⟩ := rdnAt (rdm (own bq (.cells false 0 [.int .i64 x.1, .int .i64 x.2.1, .int .i64 x.2.2] 46) :: F9)) k hkR
        obtain ⟨bp2, op2, rop2, szp2, Cp2, Tp2, ep2, gp2, vp2⟩ := ratm _ sq
        rw [ep2] at gmq
        have hge : ¬ ((RR.length : Nat) : Int) ≤ (k : Int) := by omega
        have vc : ∀ x y : Int, veq 6 (.agg #[.int .i64 x, .int .i64 y]) (.agg #[.int .i64 x, .int .i64 y]) = true := fun x y => by simp [veq]
        refine sd [0, 1, 2, 3, 4, 5, 6, 7, 8, 9, 10, 11, 12, 13, 14, 15, 16, 17, 18, 20, 21, 19, 22, 23, 24, 25, 26, 27, 28, 29, 30, 31, 32, 33, 34, 35, 36, 37, 38, 39, 40, 41, 42, 43, 44, 45] [0, 0, 2, 6, 15, 31, 63, 127, 63, 511, 1023, 2047, 4095, 8191, 4095, 32767, 65535, 4095, 135167, 4095, 1052671, 524287, 4194303, 8388607, 16777215, 33554431, 67108863, 134217727, 268435455, 536870911, 268435455, 2147483647, 4294967295, 268435455, 8858370047, 34359738367, 68719476735, 137438953471, 268435455, 275146342399, 268435455, 1099780063231, 4398046511103, 8796093022207, 17592186044415, 35184372088831] (by decide +kernel) (by decide +kernel) (by decide +kernel) (fun LL hLL => ?_)
        simp only [ptrTo, pend, pend0, Pd.old, pendU, pendU0, oxq, Nat.testBit, ↓reduceIte, simprocAttr, gR_held, gmq, gq, gsq, ixF hkR, gp2, vp2, eq_false hge, eqCl, eq_false hx1', vc, sv]
        refine at_ok RR[k] aj cj x.1 _ rdkm (by have := hsr _ (List.getElem_mem hkR); omega) sq _ fun h14 s14 => ?_
        rw [hx2]
        have gq4 := s14.get
        have gm4 := getm _ s14.drop
        have gs4 := gets _ s14.drop
        obtain ⟨bp4, op4, rop4, szp4, Cp4, Tp4, ep4, gp4, vp4⟩ := ratm _ s14
        rw [ep4] at gm4
        rcases Nat.eq_zero_or_pos i with hi0 | hi0
        · have hns : (!decide (((x.2.1, x.2.2) : Cl) = (x.2.1, x.2.2))) = false := by simp
          simp only [ptrTo, pend, pend0, Pd.old, pendU, pendU0, oxq, Nat.testBit, ↓reduceIte, simprocAttr, gR_held, gmq, gq, gsq, ixF hkR, gp2, vp2, eq_false hge, eqCl, eq_false hx1', vc, sv, clVe, neCl, gq4, gm4, gs4, gp4, vp4, hns, eq_false (show ¬ (0 : Int) < (i : Int) by omega)]
          refine hLL _ _ ?_
          refine wpC_if ?_
          simp only [ptrTo, oxq, ↓reduceIte, simprocAttr, gR_some]
          refine wpC_skip ?_
          simp only [ptrTo, oxq, ↓reduceIte, simprocAttr, gR_some]
          refine fg12 (fun R => ?_)
          refine rg (fun LL hLL => ?_)
          simp only [ptrTo, oxq, ↓reduceIte, simprocAttr, gR_some, wsucc (show i < 9223372036854775807 by omega)]
          refine hLL _ _ ?_
          simp only [ptrTo, oxq, ↓reduceIte, simprocAttr, gR_some]
          exact ⟨m - 1, by omega, i + 1, _, _, _, _, _, _, by omega, s14.drop, rfl⟩
        · have hns : (!decide (((x.2.1, x.2.2) : Cl) = (x.2.1, x.2.2))) = false := by simp
          obtain ⟨j, rfl⟩ : ∃ j, i = j + 1 := ⟨i - 1, by omega⟩
          have hj : j < OR[k].length := by omega
          have hwj : IntKind.i64.wrap (((j + 1 : Nat) : Int) - 1) = (j : Int) := by rw [wrap_i64 (by omega) (by omega)]; omega
          have gn4 := getn _ s14.drop
          obtain ⟨bo4, oo4, roo4, szo4, Co4, To4, eo4, go4, vo4⟩ := rat _ s14.drop
          obtain ⟨bx4, ox4, rox4, szx4, Cx4, Tx4, eax4, px4, gx4, rx4, qx4⟩ := (rdk _ s14.drop).resolve_left hneO
          rw [eo4] at gn4
          rw [eax4] at vo4
          have gnq := getn _ sq.drop
          obtain ⟨bo5, oo5, roo5, szo5, Co5, To5, eo5, go5, vo5⟩ := rat _ sq.drop
          obtain ⟨bx5, ox5, rox5, szx5, Cx5, Tx5, eax5, px5, gx5, rx5, qx5⟩ := (rdk _ sq.drop).resolve_left hneO
          rw [eo5] at gnq
          rw [eax5] at vo5
          have wx4 : Cx4[ox4 + j * 3]? = some (.int .i64 OR[k][j].1) := Rs.cell rcell.len rx4 qx4 j hj 0 (by omega)
          have wx5 : Cx5[ox5 + j * 3]? = some (.int .i64 OR[k][j].1) := Rs.cell rcell.len rx5 qx5 j hj 0 (by omega)
          have hso := out_sorted (g := G) (getD_wf hw k) OR[k] (hOR1 hst) j hi hj
          rw [← ex] at hso
          have hpos : (0 : Int) < ((j + 1 : Nat) : Int) := by omega
          simp only [ptrTo, pend, pend0, Pd.old, pendU, pendU0, oxq, Nat.testBit, ↓reduceIte, simprocAttr, gR_held, gmq, gq, gsq, ixF hkR, gp2, vp2, eq_false hge, eqCl, eq_false hx1', vc, sv, clVe, neCl, gq4, gm4, gs4, gp4, vp4, hns, eq_true hpos, hwj, gn4, ixF hkO, go4, vo4, ixF hj, gx4, wx4, gnq, go5, vo5, gx5, wx5]
          refine ahead_ok OR[k][j].1 x.1 G _ _ ?_
          rw [decide_eq_true hso]
          simp only [ptrTo, pend, pend0, Pd.old, pendU, pendU0, oxq, Nat.testBit, ↓reduceIte, simprocAttr, gR_held, gmq, gq, gsq, ixF hkR, gp2, vp2, eq_false hge, eqCl, eq_false hx1', vc, sv, clVe, neCl, gq4, gm4, gs4, gp4, vp4, hns, eq_true hpos, hwj, gn4, ixF hkO, go4, vo4, ixF hj, gx4, wx4, gnq, go5, vo5, gx5, wx5, Bool.not_true]
          refine hLL _ _ ?_
          refine wpC_if ?_
          simp only [ptrTo, oxq, ↓reduceIte, simprocAttr, gR_some]
          refine wpC_skip ?_
          simp only [ptrTo, oxq, ↓reduceIte, simprocAttr, gR_some]
          refine fg12 (fun R => ?_)
          refine rg (fun LL hLL => ?_)
          simp only [ptrTo, oxq, ↓reduceIte, simprocAttr, gR_some, wsucc (show j + 1 < 9223372036854775807 by omega)]
          refine hLL _ _ ?_
          simp only [ptrTo, oxq, ↓reduceIte, simprocAttr, gR_some]
          exact ⟨m - 1, by omega, j + 1 + 1, _, _, _, _, _, _, by omega, s14.drop, rfl⟩
      · refine wpC_exit ?_
        simp only [ptrTo, oxq, ↓reduceIte, simprocAttr, gR_some]
        exact ⟨s12, _, _, _, _, _, _, rfl⟩
    rintro T hh ⟨s13, u0, u1, u5, u6, u8, R, rfl⟩
    clear s11
    have ratm := fun F => rdnAt (rdm F) k
    refine sr (fun LL hLL => ?_)
    simp only [ptrTo, oxq, ↓reduceIte, simprocAttr, gR_some]
    refine hLL _ _ ?_
    refine xp11 3 (by repeat (first | exact tput_le _ _ _ _ (.inr (by omega)) | refine tput_le _ _ _ _ (.inl ?_))) (fun R => ?_)
    simp only [ptrTo, oxq, ↓reduceIte, simprocAttr, gR_some, show List.range 3 = [0, 1, 2] from rfl]
    refine fg14 (fun R => ?_)
    refine wpC_block ?_
    refine wpC_loop (fun mi T hh => ∃ (i : Nat) (u0 u1 u5 u6 u8 u11 u12 : Value) (R : List Value), mi + i = (RR[k]?.getD []).length ∧ St h hh F9 ∧ T = u0 :: u1 :: .slice ya P'.length yc :: .pointer (some ⟨bs, 0, none⟩) :: .pointer (some ⟨bm, 0, none⟩) :: u5 :: u6 :: .pointer (some ⟨b7, 0, none⟩) :: u8 :: .int .i64 k :: .bool st :: u11 :: u12 :: .int .i64 i :: R) ?_ (RR[k]?.getD []).length _ _ ⟨0, _, _, _, _, _, _, _, _, by omega, s13, rfl⟩
    clear s13
    rintro mi T hh ⟨i, u0, u1, u5, u6, u8, u11, u12, R, hmi, s14, rfl⟩
    have gm := getm _ s14
    cases st with
    | false =>
      refine wpC_seq (sr fun LL hLL => ?_)
      simp only [ptrTo, oxq, ↓reduceIte, simprocAttr, gR_some]
      refine hLL _ _ ?_
      refine wpC_if ?_
      simp only [ptrTo, oxq, ↓reduceIte, simprocAttr, gR_some]
      refine wpC_exit ?_
      simp only [ptrTo, oxq, ↓reduceIte, simprocAttr, gR_some]
      refine fg10 (fun R => ?_)
      refine rg (fun LL hLL => ?_)
      simp only [ptrTo, oxq, ↓reduceIte, simprocAttr, gR_some, wsucc (show k < 9223372036854775807 by omega)]
      refine hLL _ _ ?_
      simp only [ptrTo, oxq, ↓reduceIte, simprocAttr, gR_some]
      exact ⟨m - 1, by omega, k + 1, _, _, _, _, _, _, by omega, s14, rfl⟩
    | true =>
      by_cases hkR : k < RR.length
      · have eR : RR[k]?.getD [] = RR[k] := by rw [List.getElem?_eq_getElem hkR]; rfl
        rw [eR] at hmi hOR1
        obtain ⟨aj, cj, rat2, rdk2, _⟩ := ratm F9 hkR
        obtain ⟨bp2, op2, rop2, szp2, Cp2, Tp2, ep2, gp2, vp2⟩ := rat2 _ s14
        rw [ep2] at gm
        refine wpC_seq (sr fun LL hLL => ?_)
        simp only [ptrTo, oxq, ↓reduceIte, simprocAttr, gR_some, gm, ixF hkR, gp2, vp2]
        refine hLL _ _ ?_
        refine wpC_if ?_
        simp only [ptrTo, oxq, ↓reduceIte, simprocAttr, gR_some]
        refine gC_of (fun hc => ?_) (fun hc => ?_)
        · refine wpC_skip ?_
          simp only [ptrTo, oxq, ↓reduceIte, simprocAttr, gR_some]
          refine fg14 (fun R => ?_)
          have hi : i < RR[k].length := by omega
          have hneR : RR[k] ≠ [] := by intro e; rw [e] at hi; simp at hi
          refine wpC_seq (wpC_block ?_)
          have gn := getn _ s14
          obtain ⟨bo, oo, roo, szo, Co, To, eo, go, vo⟩ := rat _ s14
          obtain ⟨bx, ox, rox, szx, Cx, Tx, eax, px, gx, rx, qx⟩ := (rdk2 _ s14).resolve_left hneR
          rw [eo] at gn
          have vp2' := vp2
          rw [eax] at vp2'
          have wx : Cx[ox + i * 3]? = some (.int .i64 RR[k][i].1) := Rs.cell rcell.len rx qx i hi 0 (by omega)
          obtain ⟨key, ekey⟩ : ∃ key, key = RR[k][i].1 := ⟨_, rfl⟩
          rw [← ekey] at wx
          have hoa : (lastOf OR[k] key).getD (0, 0) = (lastOf RR[k] key).getD (0, 0) := by rw [hOR1 rfl]; exact out_at (hw _ (List.getElem_mem hkR)) key
          obtain ⟨rv, erv⟩ : ∃ rv, rv = (lastOf RR[k] key).getD (0, 0) := ⟨_, rfl⟩
          have hns : (!decide (((rv.1, rv.2) : Cl) = (rv.1, rv.2))) = false := by simp
          have vc : ∀ x y : Int, veq 6 (.agg #[.int .i64 x, .int .i64 y]) (.agg #[.int .i64 x, .int .i64 y]) = true := fun x y => by simp [veq]
          subst eax
          refine sd [0, 1, 2, 3, 4, 5, 6, 7, 8, 9, 10, 11, 12, 13, 15, 16, 17, 18, 19, 20, 21, 22, 23, 24, 25, 26, 27, 28, 14, 29, 30] [0, 1, 0, 7, 15, 0, 32, 0, 224, 480, 0, 2016, 4064, 8160, 0, 32768, 0, 229376, 491520, 0, 1048576, 0, 7340032, 15728640, 0, 66060288, 133169152, 267386880, 16383, 536870911, 1073741823] (by decide +kernel) (by decide +kernel) (by decide +kernel) (fun LL hLL => ?_)
          simp only [ptrTo, pend, pend0, Pd.old, pendU, pendU0, oxq, Nat.testBit, ↓reduceIte, simprocAttr, gR_held, gn, ixF hkO, go, vo, gm, ixF hkR, gp2, vp2, ixF hi, gx, wx, sv]
          refine at_ok OR[k] ai ci key _ rdk (by omega) s14 _ fun h15 s15 => ?_
          rw [hoa, ← erv]
          have gn5 := getn _ s15
          have gm5 := getm _ s15
          obtain ⟨bo5, oo5, roo5, szo5, Co5, To5, eo5, go5, vo5⟩ := rat _ s15
          obtain ⟨bp5, op5, rop5, szp5, Cp5, Tp5, ep5, gp5, vp5⟩ := rat2 _ s15
          obtain ⟨bx5, ox5, rox5, szx5, Cx5, Tx5, eax5, px5, gx5, rx5, qx5⟩ := (rdk2 _ s15).resolve_left hneR
          cases eax5
          have e1 := eo.symm.trans eo5
          cases e1
          have e2 := ep2.symm.trans ep5
          cases e2
          rw [eo] at gn5
          rw [ep2] at gm5
          have wx5 : Cx5[ox + i * 3]? = some (.int .i64 key) := by rw [ekey]; exact Rs.cell rcell.len rx5 qx5 i hi 0 (by omega)
          simp only [ptrTo, pend, pend0, Pd.old, pendU, pendU0, oxq, Nat.testBit, ↓reduceIte, simprocAttr, gR_held, gn, ixF hkO, go, vo, gm, ixF hkR, gp2, vp2, ixF hi, gx, wx, sv, vc, clVe, gn5, gm5, go5, vo5, gp5, vp5, gx5, wx5]
          refine at_ok RR[k] _ cj key _ rdk2 (by have := hsr _ (List.getElem_mem hkR); omega) s15 _ fun h16 s16 => ?_
          rw [← erv]
          simp only [ptrTo, pend, pend0, Pd.old, pendU, pendU0, oxq, Nat.testBit, ↓reduceIte, simprocAttr, gR_held, gn, ixF hkO, go, vo, gm, ixF hkR, gp2, vp2, ixF hi, gx, wx, sv, vc, clVe, neCl, hns, gn5, gm5, go5, vo5, gp5, vp5, gx5, wx5]
          refine hLL _ _ ?_
          refine wpC_if ?_
          simp only [ptrTo, oxq, ↓reduceIte, simprocAttr, gR_some]
          refine wpC_skip ?_
          simp only [ptrTo, oxq, ↓reduceIte, simprocAttr, gR_some]
          refine fg14 (fun R => ?_)
          refine rg (fun LL hLL => ?_)
          simp only [ptrTo, oxq, ↓reduceIte, simprocAttr, gR_some, wsucc (show i < 9223372036854775807 by have := hsr _ (List.getElem_mem hkR); omega)]
          refine hLL _ _ ?_
          simp only [ptrTo, oxq, ↓reduceIte, simprocAttr, gR_some]
          exact ⟨mi - 1, by omega, i + 1, _, _, _, _, _, _, _, _, by rw [eR]; omega, s16, rfl⟩
        · refine wpC_exit ?_
          simp only [ptrTo, oxq, ↓reduceIte, simprocAttr, gR_some]
          refine fg10 (fun R => ?_)
          refine rg (fun LL hLL => ?_)
          simp only [ptrTo, oxq, ↓reduceIte, simprocAttr, gR_some, wsucc (show k < 9223372036854775807 by omega)]
          refine hLL _ _ ?_
          simp only [ptrTo, oxq, ↓reduceIte, simprocAttr, gR_some]
          exact ⟨m - 1, by omega, k + 1, _, _, _, _, _, _, by omega, s14, rfl⟩
      · refine wpC_seq (sr fun LL hLL => ?_)
        simp only [ptrTo, oxq, ↓reduceIte, simprocAttr, gR_some, gm, eq_false (show ¬ (k : Int) < (RR.length : Int) by omega)]
        refine hLL _ _ ?_
        refine wpC_if ?_
        simp only [ptrTo, oxq, ↓reduceIte, simprocAttr, gR_some]
        refine wpC_exit ?_
        simp only [ptrTo, oxq, ↓reduceIte, simprocAttr, gR_some]
        refine fg10 (fun R => ?_)
        refine rg (fun LL hLL => ?_)
        simp only [ptrTo, oxq, ↓reduceIte, simprocAttr, gR_some, wsucc (show k < 9223372036854775807 by omega)]
        refine hLL _ _ ?_
        simp only [ptrTo, oxq, ↓reduceIte, simprocAttr, gR_some]
        exact ⟨m - 1, by omega, k + 1, _, _, _, _, _, _, by omega, s14, rfl⟩
  · refine wpC_exit ?_
    simp only [ptrTo, oxq, ↓reduceIte, simprocAttr, gR_some]
    refine sr (fun LL hLL => ?_)
    simp only [ptrTo, pend, pend0, Pd.old, pendU, pendU0, oxq, Nat.testBit, ↓reduceIte, simprocAttr, gR_held]
    refine wpF_ext rfl ?_
    simp only [ptrTo, pend, pend0, Pd.old, pendU, pendU0, oxq, Nat.testBit, ↓reduceIte, simprocAttr, gR_held]
    refine hLL _ _ ?_
    refine wpC_ret (out_ret ?_)
    simp only [ptrTo, oxq, ↓reduceIte, simprocAttr, gR_some]
    exact hk _
end Go.Proofs

namespace Go.Proofs
open Go Go.Ox
set_option maxRecDepth 100000
set_option maxHeartbeats 1000000
theorem oxLaw3 (s : Int × Option Addr × List OpX × Nat) (x : List Value) (m : MfX) (y : List Value) (P : List Int) (z : Value) (h : AHeap) (hs : SpecR h x s) (hm : ManR h y m) (hp : SlRb Try.prog (IntR .i64) 3 h [z] P) : wpF Try.prog (.fn 3) [.agg x.toArray, .agg y.toArray, z] h fun v _ => v = .bool true := by
  obtain ⟨a, c, rfl, rp, bp⟩ := ints_arg hp
  obtain ⟨rfl, sp⟩ := hs
  obtain ⟨rfl, mr, mb, hw⟩ := hm
  exact keeps_body s.1 s.2.1 s.2.2.2 s.2.2.1 m a c P h sp mr mb hw rp bp _ fun _ => rfl
end Go.Proofs

