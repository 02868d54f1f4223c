/-
  A part of the proof: what functions of the program do on an abstract heap. CONDITIONS: none.
-/
import Derived.Test.YtcnlilnkbhefbaaGreatOxZMc
set_option linter.unusedSimpArgs false
set_option linter.unusedVariables false
namespace Go.Proofs
open Go Go.Ox
set_option maxRecDepth 100000
set_option maxHeartbeats 8000000
theorem wnNil {h0 h : AHeap} {F : List Asn} {e : TypeId} {b : Option Addr} {d : Nat} {Z : List Int} (s : St h0 h (wn icell 1 e b d Z :: F)) : b = none → Z = [] ∧ d = 0 := fun hb => by
 obtain ⟨B, w⟩ := s.wnB
 rcases w with ⟨h1, _, h2, _⟩ | ⟨c, h, _⟩
 ·exact ⟨h1, h2⟩
 ·rw [hb] at h; cases h
theorem wn_slto {h0 h : AHeap} {F : List Asn} {a : Option Addr} {cap : Nat} {T : List (Nat × Tb)} (s : St h0 h (wn ptc 1 93 a cap (ptrs T) :: F)) {c : Nat} (hc : c ≤ T.length) (hl : T.length ≤ 100) : aSlice Tryz.prog h 70 (.slice a T.length cap) none (some (.int .i64 (c : Int))) none = some (.slice a c cap) := by
 obtain ⟨B, w⟩ := s.wnB
 rcases w with ⟨h1, rfl, rfl, _⟩ | ⟨b, rfl, _, _, _, hcap⟩
 ·have hT : T.length = 0 := by have := ptrs_len T; rw [h1] at this; simpa using this.symm
  have : c = 0 := by omega
  subst this
  rw [hT]
  exact sl_nil_to (P := Tryz.prog) Tryz.underlying70 (by rfl)
 ·rw [ptrs_len] at hcap
  have := capN_own (m := T.length) (by omega) hcap
  exact sl_to (P := Tryz.prog) Tryz.underlying70 (by rfl) (by omega) (by omega)
theorem rows_at {h0 : AHeap} {F : List Asn} {g : Nat} {TT : List (List (Nat × Tb))} (i j : Nat) (hi : i < TT.length) (hj : j < TT[i].length) (ok : TbOk TT[i][j].2) (hl : TT[i][j].2.length ≤ 2000) (h : AHeap) (s : St h0 h (star (TT.map (tabsA g)) :: F)) (K : Value → AHeap → Prop)
  (hk : ∀ a c h', St h0 h' (wn rcell 3 52 a c (rowsOf g TT[i][j].2) :: star (TT.map (tabsA g)) :: F) → K (.slice a (rowsOf g TT[i][j].2).length c) h') : wpF Tryz.prog (.fn 46) [.pointer (some ⟨TT[i][j].1, 0, none⟩)] h K := by
 have hm : i < (TT.map (tabsA (g : Int))).length := by simpa using hi
 have s1 := s.pick i hm
 rw [List.getElem_map] at s1
 have s2 := tabs_pick s1 j hj
 refine allRows_ok tbX ok (by omega) _ s2 _ fun a c h' s3 => hk a c h' ?_
 have s4 := (s3).sel 4 [1, 2, 3, 0]
 simp only [oxf] at s4
 have s5 := tabs_unpick j hj _ _ s4
 rw [show (TT[i][j].1, TT[i][j].2) = TT[i][j] from rfl, List.set_getElem_self] at s5
 have s6 := s5.unpick i hm
 have e : tabsA (g : Int) TT[i] = (TT.map (tabsA (g : Int)))[i] := by rw [List.getElem_map]
 rw [e, List.set_getElem_self] at s6
 exact s6.mv 1
theorem wnFstR {h0 h : AHeap} {F : List Asn} {e : TypeId} {b : Option Addr} {d : Nat} {Z : List Rw} (s : St h0 h (wn rcell 3 e b d Z :: F)) : Go.Ox.fst h 3 Z.length b = some (Z.flatMap rcell) := by
 refine (s.rs rcell.len).fst fun hb => ?_
 subst hb
 obtain ⟨B, w⟩ := s.wnB
 rcases w with ⟨h, _⟩ | ⟨b, h, _⟩
 ·exact h
 ·cases h
section
variable {h0 : AHeap} {F : List Asn} {rb tb : Nat} {g : Nat} {id : Int} {P : List Int} {LI : List (List Int)} {S : List Sv} {TT : List (List (Nat × Tb))} {pa : Option Addr} {pc : Nat} {la : Option Addr} {lc : Nat} {ma : Option Addr} {mc : Nat} {Q : List MvX} {k : Nat}
theorem man_no (h : AHeap) (s : St h0 h (runS rb tb g id P LI S TT pa pc la lc ma mc Q k F)) (hd : k < Q.length) (K : Value → AHeap → Prop) (hk : ∀ h', St h0 h' (runS rb tb g id P LI S TT pa pc la lc ma mc Q k F) → K (.tuple #[.agg #[.int .i64 0, .slice none 0 0, .slice none 0 0, .slice none 0 0, .slice none 0 0], .bool false]) h') :
  wpF Tryz.prog (.fn 14) [.pointer (some ⟨rb, 0, none⟩)] h K := by
 refine wpF_fun 80 [.cell 2 30, .tmp 3] Tryz.func14 rfl rfl rfl rfl ?_
 have s1 := s.push (.cells false 0 [.int .i64 0, .slice none 0 0, .slice none 0 0, .slice none 0 0, .slice none 0 0] 30)
 obtain ⟨h1, e1⟩ : ∃ h1, h1 = h.push (.cells false 0 [.int .i64 0, .slice none 0 0, .slice none 0 0, .slice none 0 0, .slice none 0 0] 30) := ⟨_, rfl⟩
 obtain ⟨b2, eb2⟩ : ∃ b, b = h.next := ⟨_, rfl⟩
 rw [← e1, ← eb2] at s1
 refine sr (fun LL hLL => ?_)
 simp only [ptrTo, oxs, simprocAttr, ← e1, ← eb2]
 refine hLL _ _ ?_
 have g2 := s1.get
 have gr := (s1.mv 1).get
 unfold mvV at gr
 refine wpC_seq (sr fun LL hLL => ?_)
 simp only [ptrTo, oxs, simprocAttr, gr, eq_true (show (0 : Int) < ((Q.length - k : Nat) : Int) by omega)]
 refine hLL _ _ ?_
 refine wpC_if ?_
 simp only [ptrTo, oxs, simprocAttr]
 have s2 := s1.set (.cells false 0 [.int .i64 0, .slice none 0 0, .slice none 0 0, .slice none 0 0, .slice none 0 0] 30)
 have g22 := s2.get
 refine sr (fun LL hLL => ?_)
 simp only [ptrTo, oxs, simprocAttr, g2]
 refine hLL _ _ ?_
 refine wpC_ret (out_ret ?_)
 simp only [ptrTo, oxs, simprocAttr]
 simp only [g22]
 exact hk _ s2.drop
def outR (g : Nat) (L : List OpX) (RR : List (List Rw)) : List (List Rw) := L.zipIdx.map fun x => if stf x.1 = true then rowsOf g (tlay [] (RR[x.2]?.getD [])) else []
theorem outR_len (g : Nat) (L : List OpX) (RR : List (List Rw)) : (outR g L RR).length = L.length := by simp [outR]
theorem outR_at (g : Nat) (L : List OpX) (RR : List (List Rw)) (j : Nat) (hj : j < L.length) (h : j < (outR g L RR).length) : (outR g L RR)[j] = if stf L[j] = true then rowsOf g (tlay [] (RR[j]?.getD [])) else [] := by simp [outR]
theorem man_ok {L : List OpX} {RR : List (List Rw)} (hn : L.length ≤ 12) (h1g : 1 ≤ g) (h64 : g ≤ 64) (hP : P.length = L.length) (hPb : ∀ x ∈ P, 1 ≤ x ∧ x ≤ 8 ∧ x ≤ (g : Int)) (hL1 : LI.length ≤ 100) (hL2 : ∀ l ∈ LI, l.length ≤ 2000) (hR : ∀ l ∈ RR, l.length ≤ 2000) (hw : ∀ l ∈ RR, ∀ r ∈ l, (Lit.int .i64 r.1).wf = true)
  (r : RunK g L P RR S TT (Q.drop k)) (hd : Q.length ≤ k) (h : AHeap) (s : St h0 h (runS rb tb g id P LI S TT pa pc la lc ma mc Q k F)) (K : Value → AHeap → Prop)
  (hk : ∀ qa qc ka kc ra rc h', St h0 h' (wn icell 1 3 qa qc P :: nest icell 1 3 25 ka kc LI :: nest rcell 3 52 48 ra rc (outR g L RR) :: runS rb tb g id P LI S TT pa pc la lc ma mc Q k F) →
   K (.tuple #[.agg #[.int .i64 (IntKind.i64.wrap (id + 1)), .slice qa P.length qc, .slice ka LI.length kc, .slice ra (outR g L RR).length rc, .slice none 0 0], .bool true]) h') :
  wpF Tryz.prog (.fn 14) [.pointer (some ⟨rb, 0, none⟩)] h K := by
 have hSl : S.length = TT.length := by simpa using congrArg List.length r.slen
 have hTl := r.len
 refine wpF_fun 80 [.cell 2 30, .tmp 3] Tryz.func14 rfl rfl rfl rfl ?_
 have s1 := s.push (.cells false 0 [.int .i64 0, .slice none 0 0, .slice none 0 0, .slice none 0 0, .slice none 0 0] 30)
 obtain ⟨h1, e1⟩ : ∃ h1, h1 = h.push (.cells false 0 [.int .i64 0, .slice none 0 0, .slice none 0 0, .slice none 0 0, .slice none 0 0] 30) := ⟨_, rfl⟩
 obtain ⟨b2, eb2⟩ : ∃ b, b = h.next := ⟨_, rfl⟩
 rw [← e1, ← eb2] at s1
 refine sr (fun LL hLL => ?_)
 simp only [ptrTo, oxs, simprocAttr, ← e1, ← eb2]
 refine hLL _ _ ?_
 have gr := (s1.mv 1).get
 obtain ⟨mz, emz⟩ : ∃ v, v = mvV ma mc Q k := ⟨_, rfl⟩
 have gr0 := gr
 unfold mvV at gr0
 refine wpC_seq (sr fun LL hLL => ?_)
 simp only [ptrTo, oxs, simprocAttr, gr0, eq_false (show ¬ (0 : Int) < ((Q.length - k : Nat) : Int) by omega)]
 refine hLL _ _ ?_
 refine wpC_if ?_
 simp only [ptrTo, oxs, simprocAttr]
 refine wpC_skip ?_
 simp only [ptrTo, oxs, simprocAttr]
 refine fg9 (fun R => ?_)
 have sv : ∀ (a : Option Addr) (m n : Nat), veq 6 (.slice a m n) (.slice a m n) = true := by intro a m n; simp [veq]
 have s2 := s1.push (.cells false 1 ((List.replicate S.length (⟨none, 0, 0⟩ : Sv)).flatMap Sv.cells) 48)
 obtain ⟨h2, e2⟩ : ∃ h2, h2 = h1.push (.cells false 1 ((List.replicate S.length (⟨none, 0, 0⟩ : Sv)).flatMap Sv.cells) 48) := ⟨_, rfl⟩
 obtain ⟨bw, ebw⟩ : ∃ b, b = h1.next := ⟨_, rfl⟩
 rw [← e2, ← ebw] at s2
 rw [← emz] at gr
 have gr2 := (s2.mv 2).get
 rw [← emz] at gr2
 have s3 := s2.push (.cells false 0 [.int .i64 0, .slice none 0 0, .slice none 0 0, .slice none 0 0, .slice none 0 0] 30)
 obtain ⟨h3, e3⟩ : ∃ h3, h3 = h2.push (.cells false 0 [.int .i64 0, .slice none 0 0, .slice none 0 0, .slice none 0 0, .slice none 0 0] 30) := ⟨_, rfl⟩
 obtain ⟨b4, eb4⟩ : ∃ b, b = h2.next := ⟨_, rfl⟩
 rw [← e3, ← eb4] at s3
 have gr3 := (s3.mv 3).get
 rw [← emz] at gr3
 refine sd [0, 1, 2, 3, 4, 5, 6, 7, 8, 10, 11, 12, 13, 15, 16, 17, 18, 19, 20, 22, 9, 14, 21, 23] [0, 1, 3, 7, 15, 0, 32, 96, 224, 0, 1024, 3072, 7168, 0, 32768, 98304, 229376, 491520, 1015808, 0, 480, 16352, 2097151, 8388607] (by decide +kernel) (by decide +kernel) (by decide +kernel) (fun LL hLL => ?_)
 simp only [ptrTo, pend, pend0, Pd.old, pendU, pendU0, Nat.testBit, oxh, simprocAttr, gr, sv, msF_of (l := (S.length : Int)) (c := (S.length : Int)) (size := 1) (bytes := 24) (zs := [.slice none 0 0]) (e := 48) (by omega) (by omega) (by omega) (by omega), Int.toNat_natCast, zeros_sv, ← e2, ← ebw, gr2, ← e3, ← eb4, gr3]
 refine clone1_ok pa pc P (by omega) _ ((s3.mv 4).rs icell.len) (wnNil (s3.mv 4)) s3 _ fun qa qc h4 s4 _ => ?_
 have gr4 := (s4.mv 4).get
 rw [← emz] at gr4
 simp only [ptrTo, pend, pend0, Pd.old, pendU, pendU0, Nat.testBit, oxh, simprocAttr, gr4, sv]
 refine clone2_ok la lc LI (by omega) (fun l hl => by have := hL2 l hl; omega) _ (fun h' s' => (s'.mv 6).rsn icell.len) s4 _ fun ka kc h5 s5 => ?_
 have gr5 := (s5.mv 5).get
 have g45 := (s5.mv 2).get
 rw [← emz] at gr5
 have s6 := (s5.mv 2).set (.cells false 0 [.int .i64 (IntKind.i64.wrap (id + 1)), .slice qa P.length qc, .slice ka LI.length kc, .slice (some ⟨bw, 0, none⟩) S.length S.length, .slice none 0 0] 30)
 obtain ⟨h6, e6⟩ : ∃ h6, h6 = h5.set b4 (.cells false 0 [.int .i64 (IntKind.i64.wrap (id + 1)), .slice qa P.length qc, .slice ka LI.length kc, .slice (some ⟨bw, 0, none⟩) S.length S.length, .slice none 0 0] 30) := ⟨_, rfl⟩
 rw [← e6] at s6
 have gr6 := (s6.mv 5).get
 rw [← emz] at gr6
 simp only [ptrTo, pend, pend0, Pd.old, pendU, pendU0, Nat.testBit, oxh, simprocAttr, gr5, sv, g45, ← e6, gr6]
 refine hLL _ _ ?_
 refine fg9 (fun R => ?_)
 refine wpC_seq ?_
 refine sr (fun LL hLL => ?_)
 simp only [ptrTo, oxs, simprocAttr, gr6]
 refine hLL _ _ ?_
 have hout0 : (outR g L RR).length = S.length := by rw [outR_len, hSl, hTl]
 obtain ⟨OR, eOR⟩ : ∃ OR, OR = outR g L RR := ⟨_, rfl⟩
 rw [← eOR] at hout0 hk
 have s7 := none_wns (f := rcell) (k := 3) (e := 52) s6 S.length
 have s8 : St h0 h6 (own bw (.cells false 1 ((List.replicate S.length (⟨none, 0, 0⟩ : Sv)).flatMap Sv.cells) 48) :: star (wns rcell 3 52 (List.replicate S.length (⟨none, 0, 0⟩ : Sv)) (List.replicate S.length [])) :: own b4 (.cells false 0 [.int .i64 (IntKind.i64.wrap (id + 1)), .slice qa P.length qc, .slice ka LI.length kc, .slice (some ⟨bw, 0, none⟩) S.length S.length, .slice none 0 0] 30) :: nest icell 1 3 25 ka kc LI :: wn icell 1 3 qa qc P :: own b2 (.cells false 0 [.int .i64 0, .slice none 0 0, .slice none 0 0, .slice none 0 0, .slice none 0 0] 30) :: runS rb tb g id P LI S TT pa pc la lc ma mc Q k F) := s7.sel 6 [4, 0, 1, 2, 3, 5]
 refine wpC_block ?_
 refine wpC_loop (fun m T h' => ∃ (i : Nat) (S2 : List Sv) (RN : List (List Rw)) (u1 u3 u5 u6 u7 u8 : Value) (R : List Value), m + i = S.length ∧ RN.length = S.length ∧ S2.map Sv.len = RN.map List.length ∧ (∀ j (h1 : j < RN.length) (h2 : j < OR.length), j < i → RN[j] = OR[j]) ∧ (∀ j (h1 : j < RN.length), i ≤ j → RN[j] = []) ∧
  St h0 h' (own bw (.cells false 1 (S2.flatMap Sv.cells) 48) :: star (wns rcell 3 52 S2 RN) :: own b4 (.cells false 0 [.int .i64 (IntKind.i64.wrap (id + 1)), .slice qa P.length qc, .slice ka LI.length kc, .slice (some ⟨bw, 0, none⟩) S.length S.length, .slice none 0 0] 30) :: nest icell 1 3 25 ka kc LI :: wn icell 1 3 qa qc P :: own b2 (.cells false 0 [.int .i64 0, .slice none 0 0, .slice none 0 0, .slice none 0 0, .slice none 0 0] 30) :: runS rb tb g id P LI S TT pa pc la lc ma mc Q k F) ∧ T = .pointer (some ⟨rb, 0, none⟩) :: u1 :: .pointer (some ⟨b2, 0, none⟩) :: u3 :: .pointer (some ⟨b4, 0, none⟩) :: u5 :: u6 :: u7 :: u8 :: R ∧ tget R 32 = .slice (some ⟨tb, 0, none⟩) S.length S.length ∧ tget R 33 = .int .i64 S.length ∧ tget R 34 = .int .i64 i) ?_ S.length _ _ ⟨0, _, _, _, _, _, _, _, _, _, by omega, by simp, by simp, fun j _ _ h => by omega, fun j h1 _ => by simp, s8, rfl, by simp [tget_tput], by simp [tget_tput], by simp [tget_tput]⟩
 clear s8 s7 s6 s5 s4 s3 s2 s1 gr gr0 gr2 gr3 gr4 gr5 g45 gr6 e1 e2 e3 e6
 rintro m T h' ⟨i, S2, RN, u1, u3, u5, u6, u7, u8, R, hmi, hRl, hS2, hRO, hR0, s1, rfl, q1, q2, q3⟩
 have hS2l : S2.length = RN.length := lens hS2
 refine sr (fun LL hLL => ?_)
 simp only [ptrTo, oxs, simprocAttr, q1, q2, q3]
 refine hLL _ _ ?_
 refine wpC_seq ?_
 refine wpC_if ?_
 simp only [ptrTo, oxs, simprocAttr]
 refine gC_of (fun hc => ?_) (fun hc => ?_)
 ·refine wpC_skip ?_
  simp only [ptrTo, oxs, simprocAttr]
  have hi : i < S.length := by omega
  have hiT : i < TT.length := by omega
  have hiP : i < P.length := by omega
  have gt := (s1.mv 9).get
  have gr := (s1.mv 6).get
  have vt : (S.flatMap Sv.cells)[i * 1]? = some (.slice S[i].a TT[i].length S[i].cap) := by
   have hl := lens_at r.slen i hi (by simpa using hiT)
   rw [List.getElem_map, ptrs_len] at hl
   rw [flat_get' Sv.len1 S i hi (by omega)]
   simp [Sv.cells, hl]
  have hPi := hPb P[i] (List.getElem_mem hiP)
  obtain ⟨cn, ecn⟩ : ∃ c, c = min TT[i].length P[i].toNat := ⟨_, rfl⟩
  have hiL : i < L.length := by omega
  have hTTi : TT[i].length ≤ 100 := by
   cases hst : stf L[i] with
   | true => have := (r.ok i hiT hiL hiP hst).2.1; omega
   | false => rw [(r.no i hiT hiL hst).1]; simp
  have hrows : (RR[i]?.getD []).length ≤ 2000 ∧ ∀ r ∈ RR[i]?.getD [], (Lit.int .i64 r.1).wf = true := by
   by_cases h : i < RR.length
   ·rw [List.getElem?_eq_getElem h]; exact ⟨hR _ (List.getElem_mem h), hw _ (List.getElem_mem h)⟩
   ·rw [List.getElem?_eq_none (by omega)]; simp
  have okM : TbOk (tlay [] (RR[i]?.getD [])) := TbOk.nil.lay hrows.2
  have hlay := tlay_few [] (RR[i]?.getD [])
  have hdr : Q.drop k = [] := List.drop_eq_nil_of_le hd
  have hmo : movesOf i (Q.drop k) = [] := by rw [hdr]; rfl
  have hone : ∀ j (hj : j < TT[i].length), TbOk TT[i][j].2 ∧ TT[i][j].2.length ≤ 2000 := fun j hj => by
   cases hst : stf L[i] with
   | true =>
    obtain ⟨_, _, f, t, _⟩ := r.ok i hiT hiL hiP hst
    have := t.len okM j hj
    simp only [List.length_nil] at hlay
    exact ⟨(t j hj).1, by omega⟩
   | false => rw [(r.no i hiT hiL hst).1] at hj; simp at hj
  have hall : (TT[i].take cn).flatMap (fun x => rowsOf g x.2) = OR[i]'(by omega) := by
   subst eOR
   rw [outR_at g L RR i hiL]
   cases hst : stf L[i] with
   | true =>
    obtain ⟨k1, _, f, t, pk⟩ := r.ok i hiT hiL hiP hst
    rw [hmo] at pk
    have t2 := t.congr (by omega) (by omega) pk.nil_inv
    rw [if_pos rfl, show cn = P[i].toNat by omega]
    exact t2.rows (by omega) (by omega) hPi.1 okM (by omega)
   | false => rw [(r.no i hiT hiL hst).1]; simp
  have hmin : (if P[i] < (TT[i].length : Int) then P[i] else (TT[i].length : Int)) = (cn : Int) := by split <;> omega
  have t1 := (s1).sel 12 [10, 11, 0, 1, 2, 3, 4, 5, 6, 7, 8, 9]
  simp only [oxf] at t1
  have t2 := run_pick hSl t1 i hiT hi
  have hsl := wn_slto t2 (c := cn) (by omega) hTTi
  obtain ⟨b7, o7, ro7, sz7, C7, T7, e7, p7, g7, r7, q7⟩ := ((s1.mv 7).rs icell.len).resolve_left (by rintro rfl; simp at hiP)
  have v7 : C7[o7 + i * 1]? = some (.int .i64 P[i]) := Rs.cell icell.len r7 q7 i hiP 0 (by omega)
  rw [e7] at gr
  refine wpC_seq (wpC_block ?_)
  refine sr (fun LL hLL => ?_)
  simp only [ptrTo, oxs, simprocAttr, q1, q2, q3, gt, vt, ixF hi]
  refine hLL _ _ ?_
  refine sr (fun LL hLL => ?_)
  simp only [ptrTo, oxs, simprocAttr, gr, g7, v7, ixF hiP, hmin, hsl]
  refine hLL _ _ ?_
  obtain ⟨fl, efl⟩ : ∃ fl : Nat → List Rw, fl = fun j => (TT[i].take j).flatMap (fun x => rowsOf g x.2) := ⟨_, rfl⟩
  have hiR : i < RN.length := by omega
  have hfl0 : RN.set i (fl 0) = RN := by
   have : fl 0 = RN[i] := by rw [efl, hR0 i hiR (Nat.le_refl _)]; rfl
   rw [this, List.set_getElem_self]
  have hfls : ∀ j (hj : j < TT[i].length), fl (j + 1) = fl j ++ rowsOf g TT[i][j].2 := fun j hj => by
   rw [efl]; simp only
   rw [List.take_succ_eq_append_getElem hj, List.flatMap_append]; simp
  have hfll : ∀ j, j ≤ TT[i].length → (fl j).length ≤ j * 2000 := fun j => by
   induction j with
   | zero => intro _; rw [efl]; simp
   | succ j ih =>
    intro hj
    rw [hfls j (by omega), List.length_append, rows_len]
    have := ih (by omega)
    have := (hone j (by omega)).2
    omega
  have hflcn : fl cn = OR[i]'(by omega) := by rw [efl]; exact hall
  refine wpC_block ?_
  refine wpC_loop (fun m T h' => ∃ (j : Nat) (S3 : List Sv) (u1 u3 u6 u7 u8 : Value) (R : List Value), m + j = cn ∧ S3.map Sv.len = (RN.set i (fl j)).map List.length ∧ St h0 h' (own bw (.cells false 1 (S3.flatMap Sv.cells) 48) :: star (wns rcell 3 52 S3 (RN.set i (fl j))) :: own b4 (.cells false 0 [.int .i64 (IntKind.i64.wrap (id + 1)), .slice qa P.length qc, .slice ka LI.length kc, .slice (some ⟨bw, 0, none⟩) S.length S.length, .slice none 0 0] 30) :: nest icell 1 3 25 ka kc LI :: wn icell 1 3 qa qc P :: own b2 (.cells false 0 [.int .i64 0, .slice none 0 0, .slice none 0 0, .slice none 0 0, .slice none 0 0] 30) :: runS rb tb g id P LI S TT pa pc la lc ma mc Q k F) ∧ T = .pointer (some ⟨rb, 0, none⟩) :: u1 :: .pointer (some ⟨b2, 0, none⟩) :: u3 :: .pointer (some ⟨b4, 0, none⟩) :: .int .i64 i :: u6 :: u7 :: u8 :: R ∧ tget R 32 = .slice (some ⟨tb, 0, none⟩) S.length S.length ∧ tget R 33 = .int .i64 S.length ∧ tget R 34 = .int .i64 i ∧ tget R 50 = .slice S[i].a cn S[i].cap ∧ tget R 51 = .int .i64 cn ∧ tget R 52 = .int .i64 j) ?_ cn _ _ ⟨0, S2, _, _, _, _, _, _, by omega, by rw [hfl0]; exact hS2, by rw [hfl0]; exact s1, rfl, by simp [tget_tput, q1], by simp [tget_tput, q2], by simp [tget_tput, q3], by simp [tget_tput], by simp [tget_tput], by simp [tget_tput]⟩
  rintro m2 T h3 ⟨j, S3, u1, u3, u6, u7, u8, R, hmj, hS3, s3, rfl, q1, q2, q3, q4, q5, q6⟩
  have hS3l : S3.length = RN.length := by simpa using lens hS3
  refine sr (fun LL hLL => ?_)
  simp only [ptrTo, oxs, simprocAttr, q4, q5, q6]
  refine hLL _ _ ?_
  refine wpC_seq ?_
  refine wpC_if ?_
  simp only [ptrTo, oxs, simprocAttr]
  refine gC_of (fun hc2 => ?_) (fun hc2 => ?_)
  ·refine wpC_skip ?_
   simp only [ptrTo, oxs, simprocAttr]
   have hj : j < cn := by omega
   have hjT : j < TT[i].length := by omega
   have t3 := (s3).sel 12 [10, 11, 0, 1, 2, 3, 4, 5, 6, 7, 8, 9]
   simp only [oxf] at t3
   have t4 := run_pick hSl t3 i hiT hi
   obtain ⟨b8, eb8, fp⟩ := ptcCell t4 j hjT
   obtain ⟨C8, E8, g8, v8⟩ := fp _ _ t4
   rw [eb8] at q4
   refine wpC_seq (wpC_block ?_)
   refine sr (fun LL hLL => ?_)
   simp only [ptrTo, oxs, simprocAttr, q4, q5, q6, ixF hj, g8, v8]
   refine hLL _ _ ?_
   have g4 := (s3.mv 2).get
   have gw := s3.get
   have hi3 : i < S3.length := by omega
   have hset : (RN.set i (fl j))[i]'(by rw [List.length_set]; omega) = fl j := List.getElem_set_self _
   have vw : (S3.flatMap Sv.cells)[i * 1]? = some (.slice S3[i].a (fl j).length S3[i].cap) := by
    have hl := lens_at hS3 i hi3 (by rw [List.length_set]; omega)
    rw [hset] at hl
    rw [flat_get' Sv.len1 S3 i hi3 (by omega)]
    simp [Sv.cells, hl]
   refine du [some 65, some 66, some 67, some 68, some 69, some 70, some 71, some 72, some 73, some 74, some 75, some 76, none] 13 [0, 1, 0, 0, 8, 0, 56, 120, 0, 256, 1016, 2047, 4095] (by rfl) (by rfl) (by decide +kernel) (by decide +kernel) (by decide +kernel) (fun LL hLL => ?_)
   simp only [ptrTo, pend, pend0, Pd.old, pendU, pendU0, Nat.testBit, oxh, simprocAttr, q4, q5, q6, g4, gw, vw, ixF hi, sv]
   refine rows_at i j hiT hjT (hone j hjT).1 (hone j hjT).2 _ (s3.mv 11) _ fun ar cr h4 s4 => ?_
   have g4' := (s4.mv 4).get
   have gw' := (s4.mv 2).get
   have hw3 : i < (wns rcell 3 52 S3 (RN.set i (fl j))).length := by rw [wns_len (by rw [List.length_set]; exact hS3l), List.length_set]; omega
   have s5 := (s4.mv 3).pick i hw3
   rw [wns_at i hi3 (by rw [List.length_set]; omega) hw3, hset] at s5
   have hfst := wnFstR (s5.mv 2)
   have hb1 := hfll j (by omega)
   have hb2 := (hone j hjT).2
   have hb3 := rows_len (g : Int) TT[i][j].2
   obtain ⟨aE, cE, h5, y1, y2⟩ := s5.app (bytes := 24) (d := cr) (M := rowsOf g TT[i][j].2) rcell.len rcell.oc hfst (by omega) (by omega)
   have gw5 := (y2.mv 4).get
   have g45 := (y2.mv 5).get
   have hst := flat_store Sv.len1 S3 i ⟨aE, (fl j ++ rowsOf g TT[i][j].2).length, cE⟩ hi3
   have hst' : splice (S3.flatMap Sv.cells) (i * 1) [.slice aE (fl j ++ rowsOf g TT[i][j].2).length cE] = (S3.set i ⟨aE, (fl j ++ rowsOf g TT[i][j].2).length, cE⟩).flatMap Sv.cells := hst
   have hle := flat_le Sv.len1 S3 i hi3
   simp only [ptrTo, pend, pend0, Pd.old, pendU, pendU0, Nat.testBit, oxh, simprocAttr, g4', gw', vw, sv, ixF hi, y1, gw5, g45, hst', eq_true (show i * 1 + 1 ≤ (S3.flatMap Sv.cells).length by omega)]
   refine hLL _ _ ?_
   simp only [ptrTo, oxs, simprocAttr]
   refine rg (fun LL hLL => ?_)
   simp only [ptrTo, oxs, simprocAttr, q4, q5, q6, wsucc (show j < 9223372036854775807 by omega)]
   refine hLL _ _ ?_
   simp only [ptrTo, oxs, simprocAttr]
   have s6 := (y2.mv 4).set (.cells false 1 ((S3.set i ⟨aE, (fl j ++ rowsOf g TT[i][j].2).length, cE⟩).flatMap Sv.cells) 48)
   have s7 := (s6).sel 3 [1, 2, 0]
   simp only [oxf] at s7
   have s8 := s7.unpick i hw3
   have ew := wns_set (f := rcell) (k := 3) (e := 52) (s := ⟨aE, (fl j ++ rowsOf g TT[i][j].2).length, cE⟩) (L := fl j ++ rowsOf g TT[i][j].2) S3 (RN.set i (fl j)) i
   simp only at ew
   rw [← ew, List.set_set, ← hfls j hjT] at s8
   have hS4 := lens_set hS3 i ⟨aE, (fl j ++ rowsOf g TT[i][j].2).length, cE⟩ (fl j ++ rowsOf g TT[i][j].2) rfl
   rw [List.set_set, ← hfls j hjT] at hS4
   rw [← hfls j hjT]
   exact ⟨m2 - 1, by omega, j + 1, S3.set i ⟨aE, (fl (j + 1)).length, cE⟩, _, _, _, _, _, _, by omega, hS4, s8.sel 14 [1, 0, 4, 5, 6, 7, 8, 9, 10, 11, 12, 3, 13], rfl, by simp [tget_tput, q1], by simp [tget_tput, q2], by simp [tget_tput, q3], by simp [tget_tput, q4, eb8], by simp [tget_tput, q5], by simp [tget_tput]⟩
  ·have hjc : j = cn := by omega
   subst hjc
   refine wpC_exit ?_
   simp only [ptrTo, oxs, simprocAttr]
   refine rg (fun LL hLL => ?_)
   simp only [ptrTo, oxs, simprocAttr, q1, q2, q3, wsucc (show i < 9223372036854775807 by omega)]
   refine hLL _ _ ?_
   simp only [ptrTo, oxs, simprocAttr]
   refine ⟨m - 1, by omega, i + 1, S3, RN.set i (fl j), _, _, _, _, _, _, _, by omega, by rw [List.length_set]; exact hRl, hS3, fun l h1 h2 hl => ?_, fun l h1 hl => ?_, s3, rfl, by simp [tget_tput, q1], by simp [tget_tput, q2], by simp [tget_tput]⟩
   ·rw [List.getElem_set]
    split
    ·rename_i e; subst e; exact hflcn
    ·exact hRO l (by rw [List.length_set] at h1; exact h1) h2 (by omega)
   ·rw [List.getElem_set_ne (by omega)]
    exact hR0 l (by rw [List.length_set] at h1; exact h1) (by omega)
 ·have hiS : i = S.length := by omega
  subst hiS
  have eRN : RN = OR := List.ext_getElem (by omega) fun j h1 h2 => hRO j h1 h2 (by omega)
  subst eRN
  refine wpC_exit ?_
  simp only [ptrTo, oxs, simprocAttr]
  refine fg9 (fun R => ?_)
  have g4 := (s1.mv 2).get
  have g2 := (s1.mv 5).get
  have s2 := (s1.mv 5).set (.cells false 0 [.int .i64 (IntKind.i64.wrap (id + 1)), .slice qa P.length qc, .slice ka LI.length kc, .slice (some ⟨bw, 0, none⟩) S.length S.length, .slice none 0 0] 30)
  have g22 := s2.get
  refine sr (fun LL hLL => ?_)
  simp only [ptrTo, oxs, simprocAttr, g4, g2]
  refine hLL _ _ ?_
  refine wpC_ret (out_ret ?_)
  simp only [ptrTo, oxs, simprocAttr]
  simp only [g22]
  have s3 := (s2.mv 1).wn_own (f := Sv.cells) S2 rfl
  have s4 := (s3).sel 6 [0, 2, 1, 3, 4, 5]
  simp only [oxf] at s4
  have s5 := St.nest_in hS2 s4
  rw [hS2l, hRl] at s5
  have s6 := (s5).sel 5 [4, 3, 0]
  simp only [oxf] at s6
  have := hk qa qc ka kc (some ⟨bw, 0, none⟩) S.length _ s6
  rw [hRl] at this
  exact this
end
theorem parsOf_range {g : Int} (h1 : 1 ≤ g) (n : Nat) (l : List Int) : ∀ x ∈ parsOf g n l, 1 ≤ x ∧ x ≤ 8 ∧ x ≤ g := fun x hx => by
 obtain ⟨i, _, rfl⟩ := List.mem_map.1 hx
 exact parAt_range h1 l i
end Go.Proofs

namespace Go.Proofs
open Go Go.Ox
set_option maxRecDepth 100000
set_option maxHeartbeats 1000000
theorem wfOf {n : Int} (h : InK .i64 n) : (Lit.int .i64 n).wf = true := by
 obtain ⟨h1, h2⟩ := h
 simp only [Lit.wf, Bool.and_eq_true, decide_eq_true_eq]
 exact ⟨h1, h2⟩
theorem bytes3 : Tryz.prog.bytesOf 3 = 8 := by decide +kernel
theorem bytes46 : Tryz.prog.bytesOf 52 = 24 := by decide +kernel
theorem bytes41 : Tryz.prog.bytesOf 69 = 80 := by decide +kernel
theorem bytes25 : Tryz.prog.bytesOf 25 = 24 := by decide +kernel
theorem bytes42 : Tryz.prog.bytesOf 48 = 24 := by decide +kernel
theorem bytes101 : Tryz.prog.bytesOf 110 = 24 := by decide +kernel
theorem bytes119 : Tryz.prog.bytesOf 130 = 16 := by decide +kernel
theorem sl_each {α : Type} {R : AHeap → List Value → α → Prop} {e : TypeId} {h : AHeap} {xs : List Value} {A : List α} (hA : SlR R e h xs A) : ∀ x ∈ A, ∃ ys, R h ys x := by
 obtain ⟨a, cap, _, _, _, h2, _⟩ := hA
 intro x hx
 rcases h2 with rfl | ⟨b, rows, _, _, _, h6, h7⟩
 ·cases hx
 ·obtain ⟨i, hi⟩ := List.getElem?_of_mem hx
  have hi2 := (List.getElem?_eq_some_iff.1 hi).1
  exact ⟨_, h7 i _ x (List.getElem?_eq_getElem (by omega)) hi⟩
def RwR (_ : AHeap) (xs : List Value) (a : Rw) : Prop := xs = rcell a ∧ (Lit.int .i64 a.1).wf = true
def F3R (_ : AHeap) (xs : List Value) (a : Int × Int × Int) : Prop := xs = [.int .i64 a.1, .int .i64 a.2.1, .int .i64 a.2.2]
def R2R (_ : AHeap) (xs : List Value) (a : Int × Int) : Prop := xs = [.int .i64 a.1, .int .i64 a.2]
def OpR (h : AHeap) (xs : List Value) (x : OpX) : Prop := xs = x.cells ∧ Rs icell 1 h x.a x.inn ∧ x.inn.length < 17592186045000
def SpecR (h : AHeap) (xs : List Value) (s : Int × Option Addr × List OpX × Nat) : Prop := xs = [.int .i64 s.1, .slice s.2.1 s.2.2.1.length s.2.2.2] ∧ SpR h s.2.1 s.2.2.1
def ManR (h : AHeap) (xs : List Value) (m : MfX) : Prop := xs = m.cells ∧ MfR h m ∧ MfB m ∧ ∀ l ∈ m.RR, ∀ r ∈ l, (Lit.int .i64 r.1).wf = true
section
variable {H : Type} {enc : TypeId × Value → H} {W : World}
theorem impI : IsImpW enc Tryz.prog W 3 (IntR .i64) := (IsImp.int (by rfl)).toW
theorem impRw : IsImp enc Tryz.prog W 52 RwR := by
 refine IsImp.conv (IsImp.flat (n := 9) (s := [true, true, true]) (by decide +kernel)) ?_ (fun _ _ _ _ h _ => h)
 rintro h xs ns ⟨rfl, hl, hk⟩
 match ns, hl, hk with
 | [a, b, c], _, hk => exact ⟨(a, (b, c)), rfl, wfOf (hk a (by simp))⟩
theorem impF3 : IsImpW enc Tryz.prog W 67 F3R := by
 refine IsImp.toW (IsImp.conv (IsImp.flat (n := 9) (s := [true, true, true]) (by decide +kernel)) ?_ (fun _ _ _ _ h _ => h))
 rintro h xs ns ⟨rfl, hl, hk⟩
 match ns, hl with
 | [a, b, c], _ => exact ⟨(a, b, c), rfl⟩
theorem impR2 : IsImpW enc Tryz.prog W 130 R2R := by
 refine IsImp.toW (IsImp.conv (IsImp.flat (n := 9) (s := [true, true]) (by decide +kernel)) ?_ (fun _ _ _ _ h _ => h))
 rintro h xs ns ⟨rfl, hl, hk⟩
 match ns, hl with
 | [a, b], _ => exact ⟨(a, b), rfl⟩
theorem impIs : IsImpW enc Tryz.prog W 25 (SlRb Tryz.prog (IntR .i64) 3) := IsImpW.slice (k := 0) (by rfl) (by rfl) impI
theorem impRws : IsImpW enc Tryz.prog W 48 (SlRb Tryz.prog RwR 52) := IsImpW.slice (k := 2) (by rfl) (by rfl) impRw.toW
theorem impRcs : IsImpW enc Tryz.prog W 110 (SlRb Tryz.prog R2R 130) := IsImpW.slice (k := 1) (by rfl) (by rfl) impR2
theorem impOp : IsImpW enc Tryz.prog W 69 OpR := by
 refine IsImpW.conv (IsImpW.struct (t := 69) (n := 8) Tryz.underlying69 (by rfl) (FI.cons (k := 1) (n := 7) rfl rfl impI (FI.cons (k := 1) (n := 6) rfl rfl impIs (FI.cons (k := 3) (n := 3) rfl rfl impF3 (FI.cons (k := 1) (n := 2) rfl rfl impI (FI.cons (k := 1) (n := 1) rfl rfl impI (FI.cons (k := 1) (n := 0) rfl rfl impI FI.nil))))))) ?_ (fun h h' xs a ⟨h1, h2, h3⟩ hf => ⟨h1, h2.fr hf, h3⟩)
 rintro h xs ⟨k, inn, f, p, r, c, u⟩ ⟨u1, v1, rfl, h1, u2, v2, rfl, h2, u3, v3, rfl, h3, u4, v4, rfl, h4, u5, v5, rfl, h5, u6, v6, rfl, h6, h7⟩
 obtain ⟨h2, hb⟩ := h2
 rw [bytes3] at hb
 simp only [reachBytes] at hb
 obtain ⟨a, cap, e2, _⟩ := id h2
 simp only at e2
 rw [e2] at h2
 obtain ⟨a', c', e3, hrs, _⟩ := sl_rs (f := icell) icell.len (fun _ _ _ k => k.1) h2
 cases e3
 refine ⟨⟨k, inn, a, cap, f.1, f.2.1, f.2.2, p, r, c⟩, ?_, hrs, by simp only; omega⟩
 rw [h1.1, e2, show u3 = _ from h3, h4.1, h5.1, h6.1, h7]
 rfl
theorem impSpec : IsImpW enc Tryz.prog W 24 SpecR := by
 refine IsImpW.conv (IsImpW.struct (t := 24) (n := 2) Tryz.underlying24 (by rfl) (FI.cons (k := 1) (n := 1) rfl rfl impI (FI.cons (k := 1) (n := 0) rfl rfl (IsImpW.slice (t := 22) (e := 69) (k := 7) (by rfl) (by rfl) impOp) FI.nil))) ?_ (fun h h' xs a ⟨h1, h2⟩ hf => ⟨h1, h2.fr hf⟩)
 rintro h xs ⟨g, L, u⟩ ⟨u1, v1, rfl, h1, u2, v2, rfl, h2, h3⟩
 obtain ⟨h2, hb⟩ := h2
 rw [bytes41] at hb
 simp only [reachBytes] at hb
 obtain ⟨a, cap, e2, _⟩ := id h2
 simp only at e2
 rw [e2] at h2
 obtain ⟨a', c', e3, hrs, _⟩ := sl_rs (f := OpX.cells) OpX.len (fun _ _ _ k => k.1) h2
 cases e3
 refine ⟨(g, a, L, cap), by rw [h1.1, e2, h3]; rfl, hrs, fun x hx => ?_, by simp only; omega⟩
 obtain ⟨ys, _, k2, k3⟩ := sl_each h2 x hx
 exact ⟨k2, k3⟩
end
end Go.Proofs

namespace Go.Proofs
open Go Go.Ox
set_option maxRecDepth 100000
set_option maxHeartbeats 1000000
theorem ints_arg {h : AHeap} {x : Value} {A : List Int} (hA : SlRb Tryz.prog (IntR .i64) 3 h [x] A) : ∃ a c, x = .slice a A.length c ∧ Rs icell 1 h a A ∧ A.length < 17592186045000 := by
 obtain ⟨h2, hb⟩ := hA
 rw [bytes3] at hb
 simp only [reachBytes] at hb
 obtain ⟨a, c, k1, k2, _⟩ := sl_rs (f := icell) icell.len (fun _ _ _ k => k.1) h2
 exact ⟨a, c, k1, k2, by omega⟩
section
variable {H : Type} {enc : TypeId × Value → H} {W : World}
theorem impMan : IsImpW enc Tryz.prog W 30 ManR := by
 refine IsImpW.conv (IsImpW.struct (t := 30) (n := 5) Tryz.underlying30 (by rfl) (FI.cons (k := 1) (n := 4) rfl rfl impI (FI.cons (k := 1) (n := 3) rfl rfl impIs (FI.cons (k := 1) (n := 2) rfl rfl (IsImpW.slice (t := 26) (e := 25) (k := 0) (by rfl) (by rfl) impIs) (FI.cons (k := 1) (n := 1) rfl rfl (IsImpW.slice (t := 27) (e := 48) (k := 0) (by rfl) (by rfl) impRws) (FI.cons (k := 1) (n := 0) rfl rfl (IsImpW.slice (t := 28) (e := 110) (k := 0) (by rfl) (by rfl) impRcs) FI.nil)))))) ?_ (fun h h' xs a ⟨h1, h2, h3⟩ hf => ⟨h1, h2.fr hf, h3⟩)
 rintro h xs ⟨no, P, LI, RR, EE, u⟩ ⟨u1, v1, rfl, h1, u2, v2, rfl, h2, u3, v3, rfl, h3, u4, v4, rfl, h4, u5, v5, rfl, h5, h6⟩
 obtain ⟨pa, pc, e2, _⟩ := id h2.1
 simp only at e2
 rw [e2] at h2
 obtain ⟨a', c', e2', rp, bp⟩ := ints_arg h2
 cases e2'
 obtain ⟨h3, b3⟩ := h3
 obtain ⟨la, lc, e3, _⟩ := id h3
 simp only at e3 b3
 rw [e3] at h3
 obtain ⟨a', c', e3', rl, _, _, _, bl1⟩ := sl_rsn (f := icell) icell.len (fun _ _ _ k => k.1) h3
 cases e3'
 obtain ⟨h4, b4⟩ := h4
 obtain ⟨ra, rc, e4, _⟩ := id h4
 simp only at e4 b4
 rw [e4] at h4
 obtain ⟨a', c', e4', rr, _, _, _, br1⟩ := sl_rsn (f := rcell) rcell.len (fun _ _ _ k => k.1) h4
 cases e4'
 obtain ⟨h5, b5⟩ := h5
 obtain ⟨ea, ec, e5, _⟩ := id h5
 simp only at e5 b5
 rw [e5] at h5
 obtain ⟨a', c', e5', re, _, _, _, be1⟩ := sl_rsn (f := fun x : Int × Int => [Value.int .i64 x.1, .int .i64 x.2]) (k := 2) (fun _ => rfl) (fun _ _ _ k => k) h5
 cases e5'
 obtain ⟨ES, hES, re1, _⟩ := re
 have hESl : ES.length = EE.length := by simpa using congrArg List.length hES
 rw [bytes25] at b3
 rw [bytes42] at b4
 rw [bytes101] at b5
 simp only [bytes3, reachBytes] at bl1 b3
 simp only [bytes46, reachBytes] at br1 b4
 simp only [bytes119, reachBytes] at be1 b5
 refine ⟨⟨no, pa, P, pc, la, LI, lc, ra, RR, rc, ea, ES, ec⟩, ?_, ⟨rp, rl, rr, re1⟩, ⟨bp, ?_, ?_, ?_, ?_, ?_, ?_⟩, ?_⟩
 ·rw [h1.1, e2, e3, e4, e5, h6, ← hESl]; rfl
 ·simp only; omega
 ·simp only; omega
 ·simp only; omega
 ·intro x hx; have := bl1 x hx; omega
 ·intro x hx; have := br1 x hx; omega
 ·intro x hx
  have hx' : x ∈ ES := hx
  obtain ⟨i, hi, rfl⟩ := List.mem_iff_getElem.1 hx'
  have hi2 : i < EE.length := by omega
  have e := lens_at hES i hi hi2
  have := be1 EE[i] (List.getElem_mem _)
  simp only at e
  omega
 ·intro l hl r hr
  obtain ⟨ys, hys⟩ := sl_each h4 l hl
  obtain ⟨zs, hzs⟩ := sl_each hys.1 r hr
  exact hzs.2
end
end Go.Proofs

namespace Go.Proofs
open Go Go.Ox
set_option maxRecDepth 100000
set_option maxHeartbeats 8000000
theorem rdnSub {α : Type} {f : α → List Value} {k : Nat} {h0 : AHeap} {F : List Asn} {a : Option Addr} {LI : List (List α)} {A : Asn} (r : RdN h0 F f k a LI) : RdN h0 (A :: F) f k a LI :=
 let ⟨S, h1, h2, h3⟩ := r
 ⟨S, h1, fun h s => h2 h s.drop, fun i hi hj => ⟨fun h s => (h3 i hi hj).1 h s.drop, (h3 i hi hj).2⟩⟩
theorem done_ok {h0 : AHeap} {F : List Asn} {g : Nat} (hg : 1 ≤ g) (h64 : g ≤ 64) (a : Option Addr) (c : Nat) (L : List OpX) (hn : L.length ≤ 12) (m : MfX) (pa2 : Option Addr) (pc2 : Nat) (P2 : List Int) (h : AHeap)
  (sp : SpR h0 a L) (mr : MfD h0 F m) (mb : MfB m) (rp : Rd h0 F icell 1 pa2 P2) (np : pa2 = none → P2 = [] ∧ pc2 = 0) (hp1 : m.P.length = L.length) (hp2 : P2.length = L.length)
  (hO : ∀ x ∈ m.P, 1 ≤ x ∧ x ≤ 8 ∧ x ≤ (g : Int)) (hP : ∀ x ∈ P2, 1 ≤ x ∧ x ≤ 8 ∧ x ≤ (g : Int)) (hs : MfS m) (hw : ∀ l ∈ m.RR, ∀ r ∈ l, (Lit.int .i64 r.1).wf = true) (s : St h0 h F) (K : Value → AHeap → Prop)
  (hk : ∀ qa qc ka kc ra rc h', St h0 h' (wn icell 1 3 qa qc P2 :: nest icell 1 3 25 ka kc m.LI :: nest rcell 3 52 48 ra rc (outR g L m.RR) :: F) →
   K (.tuple #[.agg #[.int .i64 (IntKind.i64.wrap (m.id + 1)), .slice qa P2.length qc, .slice ka m.LI.length kc, .slice ra (outR g L m.RR).length rc, .slice none 0 0], .bool true]) h') :
  wpF Tryz.prog (.fn 54) [.agg #[.int .i64 g, .slice a L.length c], .agg m.cells.toArray, .slice pa2 P2.length pc2] h K := by
 refine wpF_fun 29 [.cell 6 30, .tmp 7] Tryz.func54 rfl rfl rfl rfl ?_
 obtain ⟨bs, ebs⟩ : ∃ b, b = h.next := ⟨_, rfl⟩
 obtain ⟨bm, ebm⟩ : ∃ b, b = bs + 1 := ⟨_, rfl⟩
 obtain ⟨b6, eb6⟩ : ∃ b, b = bm + 1 := ⟨_, rfl⟩
 have s1 := ((s.push (spB g a L.length c)).push (.cells false 0 m.cells 30)).push (.cells false 0 [.int .i64 0, .slice none 0 0, .slice none 0 0, .slice none 0 0, .slice none 0 0] 30)
 simp only [AHeap.next_push, ← ebs, ← ebm, ← eb6] at s1
 obtain ⟨h1, e1⟩ : ∃ h1, h1 = ((h.push (spB g a L.length c)).push (.cells false 0 m.cells 30)).push (.cells false 0 [.int .i64 0, .slice none 0 0, .slice none 0 0, .slice none 0 0, .slice none 0 0] 30) := ⟨_, rfl⟩
 rw [← e1] at s1
 refine sr (fun LL hLL => ?_)
 simp only [ptrTo, oxs, simprocAttr, AHeap.next_push, ← ebs, ← ebm, ← eb6, ← e1, MfX.len]
 refine hLL _ _ ?_
 have gm := (s1.mv 1).get
 have gs := (s1.mv 2).get
 refine sr (fun LL hLL => ?_)
 simp only [ptrTo, pend, pend0, Pd.old, pendU, pendU0, Nat.testBit, oxh, simprocAttr, gm, gs, MfX.len]
 refine new_run hg h64 a c L hn m pa2 pc2 P2 _ sp ⟨fun h s => mr.p h s.drop.drop.drop, rdnSub (rdnSub (rdnSub mr.l)), rdnSub (rdnSub (rdnSub mr.r))⟩ mb (fun h s => rp h s.drop.drop.drop) np hp1 hp2 hO hP hs hw s1 _ fun rb tb S TT Q za zc ka kc ma mc h6 hJ s6 => ?_
 simp only [ptrTo, pend, pend0, Pd.old, pendU, pendU0, Nat.testBit, oxh, simprocAttr]
 refine hLL _ _ ?_
 refine fg9 (fun R => ?_)
 rw [← mvV_zero] at s6
 have s7 : St h0 h6 (runS rb tb g m.id P2 m.LI S TT za zc ka kc ma mc Q 0 _) := s6
 have hQ : Q.length ≤ 180 := by have := hJ.few; omega
 refine wpC_seq (sr fun LL hLL => ?_)
 simp only [ptrTo, oxs, simprocAttr]
 refine hLL _ _ ?_
 refine wpC_if ?_
 simp only [ptrTo, oxs, simprocAttr]
 refine wpC_skip ?_
 simp only [ptrTo, oxs, simprocAttr]
 refine fg9 (fun R => ?_)
 obtain ⟨F7, eF7⟩ : ∃ F7, F7 = own b6 (.cells false 0 [.int .i64 0, .slice none 0 0, .slice none 0 0, .slice none 0 0, .slice none 0 0] 30) :: own bm (.cells false 0 m.cells 30) :: own bs (spB g a L.length c) :: F := ⟨_, rfl⟩
 rw [← eF7] at s7
 refine sm (fun T h' => ∃ (TT : List (List (Nat × Tb))) (u0 u1 u2 u3 u4 u5 u7 : Value) (R : List Value), RunK g L P2 m.RR S TT (Q.drop Q.length) ∧ St h0 h' (runS rb tb g m.id P2 m.LI S TT za zc ka kc ma mc Q Q.length F7) ∧
  T = u0 :: u1 :: u2 :: u3 :: u4 :: u5 :: .pointer (some ⟨b6, 0, none⟩) :: u7 :: .pointer (some ⟨rb, 0, none⟩) :: R) ?_ ?_
 ·refine sr (fun LL hLL => ?_)
  simp only [ptrTo, oxs, simprocAttr]
  refine hLL _ _ ?_
  refine xp9 1 (by repeat (first | exact tput_le _ _ _ _ (.inr (by omega)) | refine tput_le _ _ _ _ (.inl ?_))) (fun R => ?_)
  simp only [ptrTo, oxs, simprocAttr, show List.range 1 = [0] from rfl]
  refine fg10 (fun R => ?_)
  refine wpC_block ?_
  refine wpC_loop (fun n T h' => ∃ (k : Nat) (TT : List (List (Nat × Tb))) (u0 u1 u2 u3 u4 u5 u7 : Value) (R : List Value), n + k = Q.length ∧ RunK g L P2 m.RR S TT (Q.drop k) ∧ St h0 h' (runS rb tb g m.id P2 m.LI S TT za zc ka kc ma mc Q k F7) ∧
   T = u0 :: u1 :: u2 :: u3 :: u4 :: u5 :: .pointer (some ⟨b6, 0, none⟩) :: u7 :: .pointer (some ⟨rb, 0, none⟩) :: .int .i64 k :: R) ?_ Q.length _ _ ⟨0, TT, _, _, _, _, _, _, _, _, by omega, hJ.toK, s7, rfl⟩
  rintro n T h' ⟨k, TT, u0, u1, u2, u3, u4, u5, u7, R, hnk, hK, s8, rfl⟩
  by_cases hkQ : k < Q.length
  ·refine wpC_seq (sr fun LL hLL => ?_)
   simp only [ptrTo, pend, pend0, Pd.old, pendU, pendU0, Nat.testBit, oxh, simprocAttr, eq_true (show (k : Int) < 300 by omega)]
   refine step_ok hp2 hs.r1 hw hK hkQ (by omega) _ s8 _ fun TT' h9 hK' s9 => ?_
   simp only [ptrTo, pend, pend0, Pd.old, pendU, pendU0, Nat.testBit, oxh, simprocAttr]
   refine hLL _ _ ?_
   refine wpC_if ?_
   simp only [ptrTo, oxs, simprocAttr]
   refine wpC_skip ?_
   simp only [ptrTo, oxs, simprocAttr]
   refine fg10 (fun R => ?_)
   refine wpC_seq (wpC_block (wpC_skip ?_))
   simp only [ptrTo, oxs, simprocAttr]
   refine rg (fun LL hLL => ?_)
   simp only [ptrTo, oxs, simprocAttr, wsucc (show k < 9223372036854775807 by omega)]
   refine hLL _ _ ?_
   simp only [ptrTo, oxs, simprocAttr]
   exact ⟨n - 1, by omega, k + 1, TT', _, _, _, _, _, _, _, _, by omega, hK', s9, rfl⟩
  ·have hkl : k = Q.length := by omega
   subst hkl
   refine wpC_seq (sr fun LL hLL => ?_)
   simp only [ptrTo, pend, pend0, Pd.old, pendU, pendU0, Nat.testBit, oxh, simprocAttr, eq_true (show ((Q.length : Nat) : Int) < 300 by omega)]
   refine step_no _ s8 (Nat.le_refl _) _ ?_
   simp only [ptrTo, pend, pend0, Pd.old, pendU, pendU0, Nat.testBit, oxh, simprocAttr]
   refine hLL _ _ ?_
   refine wpC_if ?_
   simp only [ptrTo, oxs, simprocAttr]
   refine wpC_exit ?_
   simp only [ptrTo, oxs, simprocAttr]
   exact ⟨TT, _, _, _, _, _, _, _, _, hK, s8, rfl⟩
 rintro T h' ⟨TT, u0, u1, u2, u3, u4, u5, u7, R, hK, s8, rfl⟩
 refine sr (fun LL hLL => ?_)
 simp only [ptrTo, pend, pend0, Pd.old, pendU, pendU0, Nat.testBit, oxh, simprocAttr]
 refine man_ok hn hg h64 hp2 hP (by have := hs.n; omega) hs.l1 hs.r1 hw hK (Nat.le_refl _) _ s8 _ fun wa wc va vc ga gc h9 s9 => ?_
 rw [eF7] at s9
 have g6 := (s9.mv 10).get
 have s10 := (s9.mv 10).set (.cells false 0 [.int .i64 (IntKind.i64.wrap (m.id + 1)), .slice wa P2.length wc, .slice va m.LI.length vc, .slice ga (outR g L m.RR).length gc, .slice none 0 0] 30)
 have g10 := s10.get
 simp only [ptrTo, pend, pend0, Pd.old, pendU, pendU0, Nat.testBit, oxh, simprocAttr, g6]
 refine hLL _ _ ?_
 refine wpC_ret (out_ret ?_)
 simp only [ptrTo, oxs, simprocAttr]
 simp only [g10]
 have s11 := (s10).sel 13 [1, 2, 3]
 simp only [oxf] at s11
 exact hk _ _ _ _ _ _ _ s11
end Go.Proofs

namespace Go.Proofs
open Go Go.Ox
set_option maxRecDepth 100000
set_option maxHeartbeats 1000000
theorem sameInts_ok (L M : List Int) (a b : Option Addr) (c d : Nat) (h : AHeap) (K : Value → AHeap → Prop) (ra : Rs icell 1 h a L) (rb : Rs icell 1 h b M) (hl : L.length < 17592186045000) (hk : K (.bool (decide (L = M))) h) :
  wpF Tryz.prog (.fn 48) [.slice a L.length c, .slice b M.length d] h K := by
 refine wpF_fun 26 [.tmp 4] Tryz.func48 rfl rfl rfl rfl ?_
 refine sr (fun LL hLL => ?_)
 simp only [ptrTo, oxs, simprocAttr]
 refine hLL _ _ ?_
 by_cases hlen : L.length = M.length
 ·refine wpC_seq (sr fun LL hLL => ?_)
  simp only [ptrTo, oxs, simprocAttr, eq_false (show ¬ ((L.length : Int) ≠ (M.length : Int)) by omega)]
  refine hLL _ _ ?_
  refine wpC_if ?_
  simp only [ptrTo, oxs, simprocAttr]
  refine wpC_skip ?_
  simp only [ptrTo, oxs, simprocAttr]
  refine wpC_seq ?_
  refine sr (fun LL hLL => ?_)
  simp only [ptrTo, oxs, simprocAttr]
  refine hLL _ _ ?_
  refine fg6 (fun R => ?_)
  refine wpC_block ?_
  refine wpC_loop (fun k T h' => ∃ (i : Nat) (u2 u3 u4 : Value) (R : List Value), h' = h ∧ k + i = L.length ∧ L.take i = M.take i ∧ T = .slice a L.length c :: .slice b M.length d :: u2 :: u3 :: u4 :: .int .i64 i :: R) ?_ L.length _ _ ⟨0, _, _, _, R, rfl, by omega, by simp, rfl⟩
  rintro k T h' ⟨i, u2, u3, u4, R, rfl, hki, he, rfl⟩
  refine wpC_seq (sr fun LL hLL => ?_)
  simp only [ptrTo, oxs, simprocAttr]
  refine hLL _ _ ?_
  refine wpC_if ?_
  simp only [ptrTo, oxs, simprocAttr]
  refine gC_of (fun hc => ?_) (fun hc => ?_)
  ·refine wpC_skip ?_
   simp only [ptrTo, oxs, simprocAttr]
   have hi : i < L.length := by omega
   have hi' : i < M.length := by omega
   have hne : L ≠ [] := by rintro rfl; simp at hi
   have hne' : M ≠ [] := by rintro rfl; simp at hi'
   obtain ⟨b1, o1, ro1, sz1, C1, e1, rfl, p1, g1, r1, q1⟩ := ra.resolve_left hne
   obtain ⟨b2, o2, ro2, sz2, C2, e2, rfl, p2, g2, r2, q2⟩ := rb.resolve_left hne'
   have w1 : C1[o1 + i * 1]? = some (.int .i64 L[i]) := Rs.cell icell.len r1 q1 i hi 0 (by omega)
   have w2 : C2[o2 + i * 1]? = some (.int .i64 M[i]) := Rs.cell icell.len r2 q2 i hi' 0 (by omega)
   refine wpC_seq (wpC_block ?_)
   refine wpC_seq ?_
   by_cases hx : L[i] = M[i]
   ·refine du [some 17, some 18, some 19, some 20, some 21, some 22, some 23, some 24, some 25] 9 [0, 0, 3, 7, 0, 0, 48, 112, 255] (by rfl) (by rfl) (by decide +kernel) (by decide +kernel) (by decide +kernel) (fun LL hLL => ?_)
    simp only [ptrTo, pend, pend0, Pd.old, pendU, pendU0, Nat.testBit, oxs, simprocAttr, ixF hi, ixF hi', g1, g2, w1, w2, eq_true hx, not_true_eq_false]
    refine hLL _ _ ?_
    refine wpC_if ?_
    simp only [ptrTo, oxs, simprocAttr]
    refine wpC_skip ?_
    simp only [ptrTo, oxs, simprocAttr]
    refine fg6 (fun R => ?_)
    refine rg (fun LL hLL => ?_)
    simp only [ptrTo, oxs, simprocAttr, wsucc (show i < 9223372036854775807 by omega)]
    refine hLL _ _ ?_
    simp only [ptrTo, oxs, simprocAttr]
    exact ⟨k - 1, by omega, i + 1, _, _, _, _, by omega, by rw [List.take_succ_eq_append_getElem hi, List.take_succ_eq_append_getElem hi', he, hx], rfl⟩
   ·refine du [some 17, some 18, some 19, some 20, some 21, some 22, some 23, some 24, some 25] 9 [0, 0, 3, 7, 0, 0, 48, 112, 255] (by rfl) (by rfl) (by decide +kernel) (by decide +kernel) (by decide +kernel) (fun LL hLL => ?_)
    simp only [ptrTo, pend, pend0, Pd.old, pendU, pendU0, Nat.testBit, oxs, simprocAttr, ixF hi, ixF hi', g1, g2, w1, w2, eq_false hx, not_false_eq_true]
    refine hLL _ _ ?_
    refine wpC_if ?_
    simp only [ptrTo, oxs, simprocAttr]
    refine sr (fun LL hLL => ?_)
    simp only [ptrTo, oxs, simprocAttr]
    refine hLL _ _ ?_
    refine wpC_ret (out_ret ?_)
    simp only [ptrTo, oxs, simprocAttr]
    rw [decide_eq_false (fun e => hx (by subst e; rfl))] at hk
    exact hk
  ·have hil : i = L.length := by omega
   subst hil
   refine wpC_exit ?_
   simp only [ptrTo, oxs, simprocAttr]
   refine fg6 (fun R => ?_)
   refine sr (fun LL hLL => ?_)
   simp only [ptrTo, oxs, simprocAttr]
   refine hLL _ _ ?_
   refine wpC_ret (out_ret ?_)
   simp only [ptrTo, oxs, simprocAttr]
   rw [List.take_length, List.take_of_length_le (by omega)] at he
   rw [decide_eq_true he] at hk
   exact hk
 ·refine wpC_seq (sr fun LL hLL => ?_)
  simp only [ptrTo, oxs, simprocAttr, eq_true (show ((L.length : Int) ≠ (M.length : Int)) by omega)]
  refine hLL _ _ ?_
  refine wpC_if ?_
  simp only [ptrTo, oxs, simprocAttr]
  refine sr (fun LL hLL => ?_)
  simp only [ptrTo, oxs, simprocAttr]
  refine hLL _ _ ?_
  refine wpC_ret (out_ret ?_)
  simp only [ptrTo, oxs, simprocAttr]
  rw [decide_eq_false (fun e => hlen (by rw [e]))] at hk
  exact hk
end Go.Proofs

namespace Go.Proofs
open Go Go.Ox
set_option maxRecDepth 100000
set_option maxHeartbeats 1000000
theorem sameIntLists_ok (L M : List (List Int)) (a b : Option Addr) (c d : Nat) (h : AHeap) (K : Value → AHeap → Prop) (ra : RsN icell 1 h a L) (rb : RsN icell 1 h b M) (hl : L.length < 17592186045000) (hl1 : ∀ x ∈ L, x.length < 17592186045000) (hk : K (.bool (decide (L = M))) h) :
  wpF Tryz.prog (.fn 49) [.slice a L.length c, .slice b M.length d] h K := by
 refine wpF_fun 27 [.tmp 4] Tryz.func49 rfl rfl rfl rfl ?_
 refine sr (fun LL hLL => ?_)
 simp only [ptrTo, oxs, simprocAttr]
 refine hLL _ _ ?_
 by_cases hlen : L.length = M.length
 ·refine wpC_seq (sr fun LL hLL => ?_)
  simp only [ptrTo, oxs, simprocAttr, eq_false (show ¬ ((L.length : Int) ≠ (M.length : Int)) by omega)]
  refine hLL _ _ ?_
  refine wpC_if ?_
  simp only [ptrTo, oxs, simprocAttr]
  refine wpC_skip ?_
  simp only [ptrTo, oxs, simprocAttr]
  refine wpC_seq ?_
  refine sr (fun LL hLL => ?_)
  simp only [ptrTo, oxs, simprocAttr]
  refine hLL _ _ ?_
  refine fg6 (fun R => ?_)
  refine wpC_block ?_
  refine wpC_loop (fun k T h' => ∃ (i : Nat) (u2 u3 u4 : Value) (R : List Value), h' = h ∧ k + i = L.length ∧ L.take i = M.take i ∧ T = .slice a L.length c :: .slice b M.length d :: u2 :: u3 :: u4 :: .int .i64 i :: R) ?_ L.length _ _ ⟨0, _, _, _, R, rfl, by omega, by simp, rfl⟩
  rintro k T h' ⟨i, u2, u3, u4, R, rfl, hki, he, rfl⟩
  refine wpC_seq (sr fun LL hLL => ?_)
  simp only [ptrTo, oxs, simprocAttr]
  refine hLL _ _ ?_
  refine wpC_if ?_
  simp only [ptrTo, oxs, simprocAttr]
  refine gC_of (fun hc => ?_) (fun hc => ?_)
  ·refine wpC_skip ?_
   simp only [ptrTo, oxs, simprocAttr]
   have hi : i < L.length := by omega
   have hi' : i < M.length := by omega
   obtain ⟨b1, o1, ro1, sz1, C1, T1, a1, c1, rfl, p1, g1, v1, r1, n1⟩ := rsnAt ra i hi
   obtain ⟨b2, o2, ro2, sz2, C2, T2, a2, c2, rfl, p2, g2, v2, r2, n2⟩ := rsnAt rb i hi'
   refine wpC_seq (wpC_block ?_)
   refine su [some 17, some 18, some 19, some 20, some 21, some 22, some 23, some 24, some 25, some 26] 10 [0, 0, 3, 7, 0, 0, 48, 112, 255, 511] (by rfl) (by rfl) (by decide +kernel) (by decide +kernel) (by decide +kernel) (fun LL hLL => ?_)
   simp only [ptrTo, pend, pend0, Pd.old, pendU, pendU0, Nat.testBit, oxh, simprocAttr, ixF hi, ixF hi', g1, g2, v1, v2]
   refine sameInts_ok L[i] M[i] a1 a2 c1 c2 h' _ r1 r2 (hl1 _ (List.getElem_mem hi)) ?_
   by_cases hx : L[i] = M[i]
   ·simp only [ptrTo, pend, pend0, Pd.old, pendU, pendU0, Nat.testBit, oxh, simprocAttr, ixF hi, ixF hi', g1, g2, v1, v2, decide_eq_true hx, Bool.not_true]
    refine hLL _ _ ?_
    refine wpC_if ?_
    simp only [ptrTo, oxs, simprocAttr]
    refine wpC_skip ?_
    simp only [ptrTo, oxs, simprocAttr]
    refine fg6 (fun R => ?_)
    refine rg (fun LL hLL => ?_)
    simp only [ptrTo, oxs, simprocAttr, wsucc (show i < 9223372036854775807 by omega)]
    refine hLL _ _ ?_
    simp only [ptrTo, oxs, simprocAttr]
    exact ⟨k - 1, by omega, i + 1, _, _, _, _, by omega, by rw [List.take_succ_eq_append_getElem hi, List.take_succ_eq_append_getElem hi', he, hx], rfl⟩
   ·simp only [ptrTo, pend, pend0, Pd.old, pendU, pendU0, Nat.testBit, oxh, simprocAttr, ixF hi, ixF hi', g1, g2, v1, v2, decide_eq_false hx, Bool.not_false]
    refine hLL _ _ ?_
    refine wpC_if ?_
    simp only [ptrTo, oxs, simprocAttr]
    refine sr (fun LL hLL => ?_)
    simp only [ptrTo, oxs, simprocAttr]
    refine hLL _ _ ?_
    refine wpC_ret (out_ret ?_)
    simp only [ptrTo, oxs, simprocAttr]
    rw [decide_eq_false (fun e => hx (by subst e; rfl))] at hk
    exact hk
  ·have hil : i = L.length := by omega
   subst hil
   refine wpC_exit ?_
   simp only [ptrTo, oxs, simprocAttr]
   refine fg6 (fun R => ?_)
   refine sr (fun LL hLL => ?_)
   simp only [ptrTo, oxs, simprocAttr]
   refine hLL _ _ ?_
   refine wpC_ret (out_ret ?_)
   simp only [ptrTo, oxs, simprocAttr]
   rw [List.take_length, List.take_of_length_le (by omega)] at he
   rw [decide_eq_true he] at hk
   exact hk
 ·refine wpC_seq (sr fun LL hLL => ?_)
  simp only [ptrTo, oxs, simprocAttr, eq_true (show ((L.length : Int) ≠ (M.length : Int)) by omega)]
  refine hLL _ _ ?_
  refine wpC_if ?_
  simp only [ptrTo, oxs, simprocAttr]
  refine sr (fun LL hLL => ?_)
  simp only [ptrTo, oxs, simprocAttr]
  refine hLL _ _ ?_
  refine wpC_ret (out_ret ?_)
  simp only [ptrTo, oxs, simprocAttr]
  rw [decide_eq_false (fun e => hlen (by rw [e]))] at hk
  exact hk
theorem ahead_ok (x y g : Int) (h : AHeap) (K : Value → AHeap → Prop) (hk : K (.bool (decide (grp x g < grp y g ∨ (grp x g = grp y g ∧ x < y)))) h) : wpF Tryz.prog (.fn 56) [.int .i64 x, .int .i64 y, .int .i64 g] h K := by
 refine wpF_fun 28 [.tmp 6] Tryz.func56 rfl rfl rfl rfl ?_
 refine sr (fun LL hLL => ?_)
 simp only [ptrTo, oxs, simprocAttr]
 refine hLL _ _ ?_
 refine sr (fun LL hLL => ?_)
 simp only [ptrTo, pend, pend0, Pd.old, pendU, pendU0, Nat.testBit, oxh, simprocAttr]
 refine of_ok (by unfold Out; decide) x g _ _ ?_
 simp only [ptrTo, pend, pend0, Pd.old, pendU, pendU0, Nat.testBit, oxh, simprocAttr]
 refine hLL _ _ ?_
 refine fg9 (fun R => ?_)
 refine sr (fun LL hLL => ?_)
 simp only [ptrTo, pend, pend0, Pd.old, pendU, pendU0, Nat.testBit, oxh, simprocAttr]
 refine of_ok (by unfold Out; decide) y g _ _ ?_
 simp only [ptrTo, pend, pend0, Pd.old, pendU, pendU0, Nat.testBit, oxh, simprocAttr]
 refine hLL _ _ ?_
 refine fg9 (fun R => ?_)
 by_cases h1 : grp x g < grp y g
 ·refine sr (fun LL hLL => ?_)
  simp only [ptrTo, oxs, simprocAttr, eq_true h1]
  refine hLL _ _ ?_
  refine wpC_ret (out_ret ?_)
  simp only [ptrTo, oxs, simprocAttr]
  rw [decide_eq_true (Or.inl h1)] at hk
  exact hk
 ·by_cases h2 : grp x g = grp y g
  ·by_cases h3 : x < y
   ·refine sr (fun LL hLL => ?_)
    simp only [ptrTo, oxs, simprocAttr, eq_false h1, eq_true h2, eq_true h3]
    refine hLL _ _ ?_
    refine wpC_ret (out_ret ?_)
    simp only [ptrTo, oxs, simprocAttr]
    rw [decide_eq_true (Or.inr ⟨h2, h3⟩)] at hk
    exact hk
   ·refine sr (fun LL hLL => ?_)
    simp only [ptrTo, oxs, simprocAttr, eq_false h1, eq_true h2, eq_false h3]
    refine hLL _ _ ?_
    refine wpC_ret (out_ret ?_)
    simp only [ptrTo, oxs, simprocAttr]
    rw [decide_eq_false (by rintro (h | ⟨_, h⟩); exact h1 h; exact h3 h)] at hk
    exact hk
  ·refine sr (fun LL hLL => ?_)
   simp only [ptrTo, oxs, simprocAttr, eq_false h1, eq_false h2]
   refine hLL _ _ ?_
   refine wpC_ret (out_ret ?_)
   simp only [ptrTo, oxs, simprocAttr]
   rw [decide_eq_false (by rintro (h | ⟨h, _⟩); exact h1 h; exact h2 h)] at hk
   exact hk
end Go.Proofs

namespace Go.Proofs
open Go Go.Ox
set_option maxRecDepth 100000
set_option maxHeartbeats 1000000
theorem at_ok {h0 : AHeap} {F : List Asn} (L : List Rw) (a : Option Addr) (c : Nat) (key : Int) (h : AHeap) (r : Rd h0 F rcell 3 a L) (hl : L.length < 17592186044000) (s : St h0 h F) (K : Value → AHeap → Prop) (hk : ∀ h', St h0 h' F → K (clV ((lastOf L key).getD (0, 0))) h') :
  wpF Tryz.prog (.fn 55) [.slice a L.length c, .int .i64 key] h K := by
 refine wpF_fun 27 [.cell 4 50] Tryz.func55 rfl rfl rfl rfl ?_
 obtain ⟨b4, e4⟩ : ∃ b, b = h.next := ⟨_, rfl⟩
 have s1 := s.push (.cells false 0 [.int .i64 0, .int .i64 0] 50)
 obtain ⟨h1, e1⟩ : ∃ h1, h1 = h.push (.cells false 0 [.int .i64 0, .int .i64 0] 50) := ⟨_, rfl⟩
 rw [← e1, ← e4] at s1
 refine sr (fun LL hLL => ?_)
 simp only [ptrTo, oxs, simprocAttr, ← e1, ← e4]
 refine hLL _ _ ?_
 obtain ⟨b5, e5⟩ : ∃ b, b = h1.next := ⟨_, rfl⟩
 have s2 := s1.push (.cells false 0 [.int .i64 0, .int .i64 0] 50)
 obtain ⟨h2, e2⟩ : ∃ h2, h2 = h1.push (.cells false 0 [.int .i64 0, .int .i64 0] 50) := ⟨_, rfl⟩
 rw [← e2, ← e5] at s2
 have g2 := s2.get
 have s3 := s2.set (.cells false 0 [.int .i64 0, .int .i64 0] 50)
 refine sr (fun LL hLL => ?_)
 simp only [ptrTo, oxs, simprocAttr, ← e2, ← e5, g2]
 refine hLL _ _ ?_
 refine wpC_seq ?_
 refine sr (fun LL hLL => ?_)
 simp only [ptrTo, oxs, simprocAttr]
 refine hLL _ _ ?_
 refine fg7 (fun R => ?_)
 refine wpC_block ?_
 refine wpC_loop (fun m T h' => ∃ (i : Nat) (w : Cl) (u2 u3 : Value) (R : List Value), m + i = L.length ∧ w = (lastOf (L.take i) key).getD (0, 0) ∧ St h0 h' (own b5 (.cells false 0 [.int .i64 w.1, .int .i64 w.2] 50) :: own b4 (.cells false 0 [.int .i64 0, .int .i64 0] 50) :: F) ∧
  T = .slice a L.length c :: .int .i64 key :: u2 :: u3 :: .pointer (some ⟨b4, 0, none⟩) :: .pointer (some ⟨b5, 0, none⟩) :: .int .i64 i :: R) ?_ L.length _ _ ⟨0, (0, 0), _, _, R, by omega, rfl, s3, rfl⟩
 rintro m T h' ⟨i, w, u2, u3, R, hmi, hw, s4, rfl⟩
 refine wpC_seq (sr fun LL hLL => ?_)
 simp only [ptrTo, oxs, simprocAttr]
 refine hLL _ _ ?_
 refine wpC_if ?_
 simp only [ptrTo, oxs, simprocAttr]
 refine gC_of (fun hc => ?_) (fun hc => ?_)
 ·refine wpC_skip ?_
  simp only [ptrTo, oxs, simprocAttr]
  refine fg7 (fun R => ?_)
  have hi1 : i < L.length := by omega
  have hne : L ≠ [] := by rintro rfl; simp at hi1
  obtain ⟨b1, o1, ro1, sz1, C1, E1, rfl, p1, g1, r1, q1⟩ := (r _ s4.drop.drop).resolve_left hne
  have w1 : C1[o1 + i * 3]? = some (.int .i64 L[i].1) := Rs.cell rcell.len r1 q1 i hi1 0 (by omega)
  have gb := s4.get
  have ht : L.take (i + 1) = L.take i ++ [L[i]] := List.take_succ_eq_append_getElem hi1
  refine wpC_seq (wpC_block ?_)
  by_cases hkey : L[i].1 = key
  ·refine sr (fun LL hLL => ?_)
   simp only [ptrTo, oxs, simprocAttr, ixF hi1, g1, w1, eq_true hkey]
   refine hLL _ _ ?_
   refine wpC_if ?_
   simp only [ptrTo, oxs, simprocAttr]
   have w4 := row_sub (j := 1) (m := 2) (Rs.row rcell.len r1 q1 i hi1).1 (by omega)
   rw [show ((rcell L[i]).drop 1).take 2 = [.int .i64 L[i].2.1, .int .i64 L[i].2.2] from rfl] at w4
   have x4 := (Rs.row rcell.len r1 q1 i hi1).2
   refine rg (fun LL hLL => ?_)
   simp only [ptrTo, oxs, simprocAttr, ixF hi1, g1, gb, w4, eq_true (show o1 + i * 3 + 1 + 2 ≤ C1.length by omega)]
   refine hLL _ _ ?_
   simp only [ptrTo, oxs, simprocAttr]
   have s5 := s4.set (.cells false 0 [.int .i64 L[i].2.1, .int .i64 L[i].2.2] 50)
   refine fg7 (fun R => ?_)
   refine rg (fun LL hLL => ?_)
   simp only [ptrTo, oxs, simprocAttr, wsucc (show i < 9223372036854775807 by omega)]
   refine hLL _ _ ?_
   simp only [ptrTo, oxs, simprocAttr]
   refine ⟨m - 1, by omega, i + 1, L[i].2, _, _, _, by omega, ?_, s5, rfl⟩
   rw [ht, lastOf_snoc, if_pos hkey]; rfl
  ·refine sr (fun LL hLL => ?_)
   simp only [ptrTo, oxs, simprocAttr, ixF hi1, g1, w1, eq_false hkey]
   refine hLL _ _ ?_
   refine wpC_if ?_
   simp only [ptrTo, oxs, simprocAttr]
   refine wpC_skip ?_
   simp only [ptrTo, oxs, simprocAttr]
   refine fg7 (fun R => ?_)
   refine rg (fun LL hLL => ?_)
   simp only [ptrTo, oxs, simprocAttr, wsucc (show i < 9223372036854775807 by omega)]
   refine hLL _ _ ?_
   simp only [ptrTo, oxs, simprocAttr]
   refine ⟨m - 1, by omega, i + 1, w, _, _, _, by omega, ?_, s4, rfl⟩
   rw [ht, lastOf_snoc, if_neg hkey]
   exact hw
 ·have hil : i = L.length := by omega
  subst hil
  rw [List.take_length] at hw
  subst hw
  refine wpC_exit ?_
  simp only [ptrTo, oxs, simprocAttr]
  refine fg7 (fun R => ?_)
  have g5 := s4.get
  have g4 := (s4.mv 1).get
  have s5 := (s4.mv 1).set (.cells false 0 [.int .i64 ((lastOf L key).getD (0, 0)).1, .int .i64 ((lastOf L key).getD (0, 0)).2] 50)
  refine sr (fun LL hLL => ?_)
  simp only [ptrTo, oxs, simprocAttr, g5, g4]
  refine hLL _ _ ?_
  refine wpC_ret (out_ret ?_)
  simp only [ptrTo, oxs, simprocAttr]
  simp only [s5.get]
  exact hk _ s5.drop.drop
end Go.Proofs

namespace Go.Proofs
open Go Go.Ox
set_option maxRecDepth 100000
set_option maxHeartbeats 1000000
section
variable {g : Nat} {R : List Rw}
theorem out_at (hw : ∀ r ∈ R, (Lit.int .i64 r.1).wf = true) (k : Int) : (lastOf (rowsOf g (tlay [] R)) k).getD (0, 0) = (lastOf R k).getD (0, 0) := by
 have ok := TbOk.nil.lay hw
 have e : tgt (tlay [] R) k = (lastOf R k).getD (0, 0) := TbOk.nil.get_lay hw k
 rw [rowsOf, lastOf_rowK]
 by_cases h : k ∈ keySort g (tbK (tlay [] R))
 ·rw [if_pos h, ← e]; rfl
 ·rw [if_neg h, ← e]
  have h' : ¬ k ∈ tbK (tlay [] R) := fun h1 => h ((keySort_perm g _).mem_iff.2 h1)
  rw [tgt_mem h']; rfl
theorem out_row (hw : ∀ r ∈ R, (Lit.int .i64 r.1).wf = true) (x : Rw) (hx : x ∈ rowsOf g (tlay [] R)) : x.2 ≠ (0, 0) ∧ (lastOf R x.1).getD (0, 0) = x.2 ∧ R ≠ [] ∧ (Lit.int .i64 x.1).wf = true := by
 have ok := TbOk.nil.lay hw
 obtain ⟨k, hk, rfl⟩ := List.mem_map.1 hx
 have hk := (keySort_perm g _).mem_iff.1 hk
 have e : tgt (tlay [] R) k = (lastOf R k).getD (0, 0) := TbOk.nil.get_lay hw k
 refine ⟨(ok.iff k).1 hk, e.symm, ?_, ok.wf k hk⟩
 rintro rfl
 simp [tlay, tbK] at hk
theorem out_sorted (hw : ∀ r ∈ R, (Lit.int .i64 r.1).wf = true) (Q : List Rw) (eQ : Q = rowsOf g (tlay [] R)) (i : Nat) (hi : i + 1 < Q.length) (hi0 : i < Q.length) : grp Q[i].1 g < grp Q[i + 1].1 g ∨ (grp Q[i].1 g = grp Q[i + 1].1 g ∧ Q[i].1 < Q[i + 1].1) := by
 have okM := TbOk.nil.lay hw
 have h1 : (Q.map (·.1)) = keySort g (tbK (tlay [] R)) := by rw [eQ]; exact rows_keys g _
 have h2 : (Q.map (·.1)).Pairwise (fun x y => keyLe g x y = true) := by rw [h1]; exact keySort_sorted g _
 have h3 : (Q.map (·.1)).Nodup := by rw [h1]; exact (keySort_perm g _).nodup_iff.2 okM.nd
 have hl : i + 1 < (Q.map (·.1)).length := by simpa using hi
 have h4 := List.pairwise_iff_getElem.1 h2 i (i + 1) (by omega) hl (by omega)
 have h5 := List.pairwise_iff_getElem.1 h3 i (i + 1) (by omega) hl (by omega)
 simp only [List.getElem_map] at h4 h5
 rw [keyLe_iff] at h4
 omega
/-- Rows that were laid, laid again. -/
theorem out_again (hw : ∀ r ∈ R, (Lit.int .i64 r.1).wf = true) : rowsOf g (tlay [] (rowsOf g (tlay [] R))) = rowsOf g (tlay [] R) := by
 have ok := TbOk.nil.lay hw
 have hw2 : ∀ r ∈ rowsOf g (tlay [] R), (Lit.int .i64 r.1).wf = true := fun x hx => (out_row hw x hx).2.2.2
 refine rows_ext (TbOk.nil.lay hw2) ok fun k => ?_
 have e1 : tgt (tlay [] (rowsOf g (tlay [] R))) k = _ := TbOk.nil.get_lay hw2 k
 have e2 : tgt (tlay [] R) k = _ := TbOk.nil.get_lay hw k
 rw [e1, e2]
 exact out_at hw k
theorem out_len : (rowsOf g (tlay [] R)).length ≤ R.length := by
 rw [rows_len]
 have := tlay_few [] R
 simpa using this
end
theorem outR_mem {g : Nat} {L : List OpX} {RR : List (List Rw)} {l : List Rw} (h : l ∈ outR g L RR) : ∃ j : Nat, l = rowsOf g (tlay [] (RR[j]?.getD [])) ∨ l = [] := by
 unfold outR at h
 obtain ⟨x, _, rfl⟩ := List.mem_map.1 h
 refine ⟨x.2, ?_⟩
 by_cases hs : stf x.1 = true
 ·simp [hs]
 ·simp [hs]
theorem getD_wf {RR : List (List Rw)} (hw : ∀ l ∈ RR, ∀ r ∈ l, (Lit.int .i64 r.1).wf = true) (j : Nat) : ∀ r ∈ RR[j]?.getD [], (Lit.int .i64 r.1).wf = true := by
 by_cases h : j < RR.length
 ·rw [List.getElem?_eq_getElem h]; exact hw _ (List.getElem_mem h)
 ·rw [List.getElem?_eq_none (by omega)]; simp
theorem getD_len {RR : List (List Rw)} {n : Nat} (hw : ∀ l ∈ RR, l.length ≤ n) (j : Nat) : (RR[j]?.getD []).length ≤ n := by
 by_cases h : j < RR.length
 ·rw [List.getElem?_eq_getElem h]; exact hw _ (List.getElem_mem h)
 ·rw [List.getElem?_eq_none (by omega)]; simp
theorem outR_wf {g : Nat} {L : List OpX} {RR : List (List Rw)} (hw : ∀ l ∈ RR, ∀ r ∈ l, (Lit.int .i64 r.1).wf = true) : ∀ l ∈ outR g L RR, ∀ r ∈ l, (Lit.int .i64 r.1).wf = true := by
 intro l hl r hr
 obtain ⟨j, rfl | rfl⟩ := outR_mem hl
 ·exact (out_row (getD_wf hw j) r hr).2.2.2
 ·cases hr
theorem outR_lens {g : Nat} {L : List OpX} {RR : List (List Rw)} (hw : ∀ l ∈ RR, l.length ≤ 2000) : ∀ l ∈ outR g L RR, l.length ≤ 2000 := by
 intro l hl
 obtain ⟨j, rfl | rfl⟩ := outR_mem hl
 ·exact Nat.le_trans out_len (getD_len hw j)
 ·simp
theorem outR_again {g : Nat} {L : List OpX} {RR : List (List Rw)} (hw : ∀ l ∈ RR, ∀ r ∈ l, (Lit.int .i64 r.1).wf = true) : outR g L (outR g L RR) = outR g L RR := by
 refine List.ext_getElem (by simp [outR_len]) fun j h1 h2 => ?_
 have hj : j < L.length := by rw [outR_len] at h1; exact h1
 rw [outR_at g L _ j hj, outR_at g L _ j hj, List.getElem?_eq_getElem h2, Option.getD_some, outR_at g L _ j hj]
 by_cases hs : stf L[j] = true
 ·rw [if_pos hs, if_pos hs, out_again (getD_wf hw j)]
 ·rw [if_neg hs, if_neg hs]
theorem nest_rdn {α : Type} {f : α → List Value} {k : Nat} {e E : TypeId} {h0 h : AHeap} {F : List Asn} {a : Option Addr} {c : Nat} {LL : List (List α)} (hf : ∀ x, (f x).length = k) (s : St h0 h (nest f k e E a c LL :: F)) :
  ∃ S : List Sv, St h0 h (wn Sv.cells 1 E a c S :: star (wns f k e S LL) :: F) ∧ RdN h0 (wn Sv.cells 1 E a c S :: star (wns f k e S LL) :: F) f k a LL := by
 obtain ⟨S, hS, s1⟩ := s.nest_out
 exact ⟨S, s1, S, hS, Rd.wn Sv.len1, fun i hi hj => ⟨fun h s => (s.drop.wns_rs hf i hi hj).1, (s1.drop.wns_rs hf i hi hj).2⟩⟩
end Go.Proofs

