/-
  A part of the proof: what functions of the program do on an abstract heap. CONDITIONS: none.
-/
import Derived.Test.YtcnlilnkbhefbaaGreatOxZMf
import Derived.Test.YtcnlilnkbhefbaaGreatOxZMd
set_option linter.unusedSimpArgs false
set_option linter.unusedVariables false
namespace Go.Proofs
open Go Go.Ox
set_option maxRecDepth 100000
set_option maxHeartbeats 8000000
theorem RunK.one {g : Nat} {L : List OpX} {P : List Int} {RR : List (List Rw)} {S : List Sv} {TT : List (List (Nat × Tb))} {Q : List MvX} (r : RunK g L P RR S TT Q) (hP : P.length = L.length) (hR : ∀ l ∈ RR, l.length ≤ 2000) (hw : ∀ l ∈ RR, ∀ r ∈ l, (Lit.int .i64 r.1).wf = true) (i : Nat) (hi : i < TT.length) (j : Nat) (hj : j < TT[i].length) : TbOk TT[i][j].2 ∧ TT[i][j].2.length ≤ 2000 := by
 have hiL : i < L.length := by rw [← r.len]; exact hi
 have hiP : i < P.length := by omega
 have okM : TbOk (tlay [] (RR[i]?.getD [])) := TbOk.nil.lay (getD_wf hw i)
 have hlay := tlay_few [] (RR[i]?.getD [])
 have hrl := getD_len hR i
 cases hst : stf L[i] with
 | true =>
  obtain ⟨_, _, f, t, _⟩ := r.ok i hi hiL hiP hst
  have := t.len okM j hj
  simp only [List.length_nil] at hlay
  exact ⟨(t j hj).1, by omega⟩
 | false => rw [(r.no i hi hiL hst).1] at hj; simp at hj
abbrev rrunS (br : Nat) (g : Nat) (sb : Option Addr) (sn se : Nat) (id : Int) (qa : Option Addr) (O : List Int) (qc : Nat) (ka : Option Addr) (LI : List (List Int)) (kc : Nat) (ga : Option Addr) (RR : List (List Rw)) (gc : Nat) (xa : Option Addr) (EE : List (List Rc2)) (xc : Nat) (wa : Option Addr) (P : List Int) (wc : Nat) (ta : Option Addr) (S3 : List Sv) (tc : Nat) (LP : List (List (Option Nat))) (ma : Option Addr) (mc : Nat) (Q : List MvX) (TT : List (List (Nat × Tb))) (k : Nat) (F : List Asn) : List Asn :=
 own br (.cells false 0 [.int .i64 g, .slice sb sn se, .int .i64 id, .slice qa O.length qc, .slice ka LI.length kc, .slice ga RR.length gc, .slice xa EE.length xc, .slice wa P.length wc, .slice ta S3.length tc, mvV ma mc Q k] 82) :: wn Sv.cells 1 83 ta tc S3 :: star (wns ptc 1 85 S3 LP) :: star (TT.map (rtabsA g)) :: wn rmvc 5 90 ma mc Q :: wn icell 1 3 wa wc P :: wn icell 1 3 qa qc O :: nest icell 1 3 25 ka kc LI :: nest rcell 3 52 48 ga gc RR :: nest r2cell 2 130 110 xa xc EE :: F
section
variable {h0 : AHeap} {F : List Asn} {br g : Nat} {sb : Option Addr} {sn se : Nat} {id : Int} {qa : Option Addr} {O : List Int} {qc : Nat} {ka : Option Addr} {LI : List (List Int)} {kc : Nat} {ga : Option Addr} {RR : List (List Rw)} {gc : Nat} {xa : Option Addr} {EE : List (List Rc2)} {xc : Nat} {wa : Option Addr} {P : List Int} {wc : Nat} {ta : Option Addr} {S3 : List Sv} {tc : Nat} {LP : List (List (Option Nat))} {ma : Option Addr} {mc : Nat} {Q : List MvX} {TT : List (List (Nat × Tb))} {k : Nat}
theorem rleft_ok (h : AHeap) (s : St h0 h (rrunS br g sb sn se id qa O qc ka LI kc ga RR gc xa EE xc wa P wc ta S3 tc LP ma mc Q TT k F)) (K : Value → AHeap → Prop) (hk : K (.int .i64 ((Q.length - k : Nat) : Int)) h) : wpF Tryz.prog (.fn 18) [.pointer (some ⟨br, 0, none⟩)] h K := by
 have gr := s.get
 unfold mvV at gr
 refine wpF_fun 8 [.tmp 2] Tryz.func18 rfl rfl rfl rfl ?_
 refine sr (fun LL hLL => ?_)
 simp only [ptrTo, oxs, simprocAttr]
 refine hLL _ _ ?_
 refine sr (fun LL hLL => ?_)
 simp only [ptrTo, oxs, simprocAttr, gr]
 refine hLL _ _ ?_
 refine wpC_ret (out_ret ?_)
 simp only [ptrTo, oxs, simprocAttr]
 exact hk
theorem rstep_no (h : AHeap) (s : St h0 h (rrunS br g sb sn se id qa O qc ka LI kc ga RR gc xa EE xc wa P wc ta S3 tc LP ma mc Q TT k F)) (hd : Q.length ≤ k) (K : Value → AHeap → Prop) (hk : K (.bool false) h) : wpF Tryz.prog (.fn 20) [.pointer (some ⟨br, 0, none⟩)] h K := by
 have gr := s.get
 unfold mvV at gr
 rw [show Q.length - k = 0 by omega] at gr
 refine wpF_fun 58 [.tmp 2] Tryz.func20 rfl rfl rfl rfl ?_
 refine sr (fun LL hLL => ?_)
 simp only [ptrTo, oxs, simprocAttr]
 refine hLL _ _ ?_
 refine wpC_seq (sr fun LL hLL => ?_)
 simp only [ptrTo, oxs, simprocAttr, gr]
 refine hLL _ _ ?_
 refine wpC_if ?_
 simp only [ptrTo, oxs, simprocAttr]
 refine sr (fun LL hLL => ?_)
 simp only [ptrTo, oxs, simprocAttr]
 refine hLL _ _ ?_
 refine wpC_ret (out_ret ?_)
 simp only [ptrTo, oxs, simprocAttr]
 exact hk
theorem rstep_ok {L : List OpX} {S : List Sv} (hPl : P.length = L.length) (hR : ∀ l ∈ RR, l.length ≤ 2000) (hw : ∀ l ∈ RR, ∀ r ∈ l, (Lit.int .i64 r.1).wf = true) (r : RunK g L P RR S TT (Q.drop k)) (hLP : TT.map ptrs = LP) (hS3 : S3.map Sv.len = LP.map List.length) (hkl : k < Q.length) (hQ : Q.length ≤ 200) (h : AHeap) (s : St h0 h (rrunS br g sb sn se id qa O qc ka LI kc ga RR gc xa EE xc wa P wc ta S3 tc LP ma mc Q TT k F)) (K : Value → AHeap → Prop)
  (hk : ∀ TT' h', RunK g L P RR S TT' (Q.drop (k + 1)) → TT'.map ptrs = LP → St h0 h' (rrunS br g sb sn se id qa O qc ka LI kc ga RR gc xa EE xc wa P wc ta S3 tc LP ma mc Q TT' (k + 1) F) → K (.bool true) h') : wpF Tryz.prog (.fn 20) [.pointer (some ⟨br, 0, none⟩)] h K := by
 have rAll := r
 rw [List.drop_eq_getElem_cons hkl] at r
 obtain ⟨x, ex⟩ : ∃ x, x = Q[k] := ⟨_, rfl⟩
 rw [← ex] at r
 obtain ⟨j1, j2, sv0, sl, fr, to, A, B, hf, ht, ef, et, hne, eA, eB, okA, hA, hpt, rK⟩ := r.head hPl hR hw
 have hLl : LP.length = TT.length := by rw [← hLP]; simp
 have hS3l : S3.length = TT.length := by rw [lens hS3]; exact hLl
 have hj3 : x.1 < S3.length := by omega
 have hjL : x.1 < LP.length := by omega
 have hLat : LP[x.1] = ptrs TT[x.1] := by subst hLP; simp
 have hneQ : Q ≠ [] := by rintro rfl; simp at hkl
 obtain ⟨mb, ema, hmc, s1⟩ := (s.mv 4).wn_out (.inl hneQ)
 subst ema
 have gmb := s1.get
 have gr := (s1.mv 1).get
 unfold mvV at gr
 simp only [Option.map_some, Nat.zero_add] at gr
 have hrow := flat_row rmvc.len Q k hkl
 rw [← ex] at hrow
 have hle := flat_le rmvc.len Q k hkl
 have exc : rmvc x = [.int .i64 x.1, .int .i64 x.2.2.fr, .int .i64 x.2.2.to, .int .i64 x.2.2.lo, .int .i64 x.2.2.hi] := rfl
 rw [exc] at hrow
 refine wpF_fun 58 [.tmp 2] Tryz.func20 rfl rfl rfl rfl ?_
 refine sr (fun LL hLL => ?_)
 simp only [ptrTo, oxs, simprocAttr]
 refine hLL _ _ ?_
 refine wpC_seq (sr fun LL hLL => ?_)
 simp only [ptrTo, oxs, simprocAttr, gr, eq_false (show ¬ ((Q.length - k : Nat) : Int) = 0 by omega)]
 refine hLL _ _ ?_
 refine wpC_if ?_
 simp only [ptrTo, oxs, simprocAttr]
 refine wpC_skip ?_
 simp only [ptrTo, oxs, simprocAttr]
 have i0 : (0 ≤ (0 : Int)) = True ∧ ((0 : Int) < ((Q.length - k : Nat) : Int)) = True ∧ (0 : Int).toNat = 0 := ⟨by simp, eq_true (by omega), rfl⟩
 obtain ⟨bx, ebx⟩ : ∃ b, b = h.next := ⟨_, rfl⟩
 have s2 := s1.push (.cells false 0 [.int .i64 0, .int .i64 0, .int .i64 0, .int .i64 0, .int .i64 0] 90)
 rw [← ebx] at s2
 have g2 := s2.get
 have s3 := s2.set (.cells false 0 [.int .i64 x.1, .int .i64 x.2.2.fr, .int .i64 x.2.2.to, .int .i64 x.2.2.lo, .int .i64 x.2.2.hi] 90)
 obtain ⟨h3, e3⟩ : ∃ h3, h3 = (h.push (.cells false 0 [.int .i64 0, .int .i64 0, .int .i64 0, .int .i64 0, .int .i64 0] 90)).set bx (.cells false 0 [.int .i64 x.1, .int .i64 x.2.2.fr, .int .i64 x.2.2.to, .int .i64 x.2.2.lo, .int .i64 x.2.2.hi] 90) := ⟨_, rfl⟩
 rw [← e3] at s3
 refine sr (fun LL hLL => ?_)
 simp only [ptrTo, oxs, simprocAttr, gr, gmb, i0, Nat.zero_mul, Nat.add_zero, hrow, eq_true (show k * 5 + 5 ≤ (Q.flatMap rmvc).length by omega), ← ebx, g2, ← e3]
 refine hLL _ _ ?_
 refine fg4 (fun R => ?_)
 have hcap : Q.length - k ≤ capN (mc - k) := by
  have hb : (1180591620717411303424 : Nat) = big := rfl
  unfold capN
  rcases hmc with e | e <;> split <;> omega
 have gmb3 := (s3.mv 1).get
 have gr3 := (s3.mv 2).get
 unfold mvV at gr3
 simp only [Option.map_some, Nat.zero_add] at gr3
 have hsl : aSlice Tryz.prog h3 80 (.slice (some ⟨mb, k * 5, none⟩) (Q.length - k) (mc - k)) (some (.int .i64 1)) none none = some (.slice (some ⟨mb, k * 5 + 1 * 5, none⟩) (Q.length - k - 1) (mc - k - 1)) :=
  sl_from (i := 1) (P := Tryz.prog) Tryz.underlying80 (by rfl) (by rfl) (by omega) hcap gmb3 (.inl rfl)
 have hmv : (Value.slice (some ⟨mb, k * 5 + 5, none⟩) (Q.length - k - 1) (mc - k - 1)) = mvV (some ⟨mb, 0, none⟩) mc Q (k + 1) := by
  unfold mvV
  simp only [Option.map_some, Nat.zero_add, Nat.add_mul]
  rfl
 have s4 := (s3.mv 2).set (.cells false 0 [.int .i64 g, .slice sb sn se, .int .i64 id, .slice qa O.length qc, .slice ka LI.length kc, .slice ga RR.length gc, .slice xa EE.length xc, .slice wa P.length wc, .slice ta S3.length tc, mvV (some ⟨mb, 0, none⟩) mc Q (k + 1)] 82)
 obtain ⟨h4, e4⟩ : ∃ h4, h4 = h3.set br (.cells false 0 [.int .i64 g, .slice sb sn se, .int .i64 id, .slice qa O.length qc, .slice ka LI.length kc, .slice ga RR.length gc, .slice xa EE.length xc, .slice wa P.length wc, .slice ta S3.length tc, mvV (some ⟨mb, 0, none⟩) mc Q (k + 1)] 82) := ⟨_, rfl⟩
 rw [← e4] at s4
 refine sr (fun LL hLL => ?_)
 simp only [ptrTo, oxs, simprocAttr, gr3, hsl]
 rw [hmv, ← e4]
 refine hLL _ _ ?_
 refine fg4 (fun R => ?_)
 have s5 := (s4).sel 11 [0, 3, 4, 5, 2, 6, 7, 8, 9, 10, 1]
 simp only [oxf] at s5
 have gx5 := (s5.mv 10).get
 have hTs1 : fr < TT[x.1].length := hf
 have hTx : x.1 < (TT.map (rtabsA (g : Int))).length := by simpa using j1
 have sv : ∀ (a : Option Addr) (m n : Nat), veq 6 (.slice a m n) (.slice a m n) = true := by intro a m n; simp [veq]
 have s4w := (s4.mv 2)
 -- where a table's pointer is read
 have rd2 : ∀ (G : List Asn) (h' : AHeap) (V : Value), St h0 h' (own br (.cells false 0 [.int .i64 g, .slice sb sn se, .int .i64 id, .slice qa O.length qc, .slice ka LI.length kc, .slice ga RR.length gc, .slice xa EE.length xc, .slice wa P.length wc, .slice ta S3.length tc, V] 82) :: wn Sv.cells 1 83 ta tc S3 :: star (wns ptc 1 85 S3 LP) :: G) → ∃ (b o : Nat) (ro : Bool) (sz : Nat) (C : List Value) (E : TypeId) (b2 o2 : Nat) (ro2 : Bool) (sz2 : Nat) (C2 : List Value) (E2 : TypeId), ta = some ⟨b, o, none⟩ ∧ h'.get b = some (.cells ro sz C E) ∧ S3[x.1].a = some ⟨b2, o2, none⟩ ∧ C[o + x.1 * 1]? = some (.slice (some ⟨b2, o2, none⟩) TT[x.1].length S3[x.1].cap) ∧ h'.get b2 = some (.cells ro2 sz2 C2 E2) ∧ C2[o2 + fr * 1]? = some (.pointer (some ⟨A.1, 0, none⟩)) ∧ C2[o2 + to * 1]? = some (.pointer (some ⟨B.1, 0, none⟩)) := fun G h' V s => by
  obtain ⟨b, o, ro, sz, C, E, e1, p1, g1, r1, q1⟩ := ((s.mv 1).rs Sv.len1).resolve_left (by rintro rfl; simp at hj3)
  have v1 : C[o + x.1 * 1]? = some (.slice S3[x.1].a S3[x.1].len S3[x.1].cap) := Rs.cell Sv.len1 r1 q1 x.1 hj3 0 (by omega)
  have hl := lens_at hS3 x.1 hj3 hjL
  rw [hLat, ptrs_len] at hl
  rw [hl] at v1
  have rr := ((s.mv 2).wns_rs ptc.len x.1 hj3 hjL).1
  rw [hLat] at rr
  have hne : ptrs TT[x.1] ≠ [] := by intro e; have := ptrs_len TT[x.1]; rw [e] at this; simp at this; omega
  obtain ⟨b2, o2, ro2, sz2, C2, E2, e2, p2, g2, r2, q2⟩ := rr.resolve_left hne
  have w1 := Rs.cell ptc.len r2 q2 fr (by rw [ptrs_len]; exact hf) 0 (by omega)
  have w2 := Rs.cell ptc.len r2 q2 to (by rw [ptrs_len]; exact ht) 0 (by omega)
  rw [ptrs_at TT[x.1] fr hf, ← eA] at w1
  rw [ptrs_at TT[x.1] to ht, ← eB] at w2
  rw [e2] at v1
  exact ⟨b, o, ro, sz, C, E, b2, o2, ro2, sz2, C2, E2, e1, g1, e2, v1, g2, w1, w2⟩
 obtain ⟨qb, qo, ro, sz, C, E, q2, p2, ro2, sz2, C2, E2, e1, g1, ex2, v1, gq2, w1, w2⟩ := rd2 _ _ _ s5
 subst e1
 have gr5 := s5.get
 unfold mvV at gr5
 simp only [Option.map_some, Nat.zero_add] at gr5
 refine su [some 24, some 25, some 26, some 27, some 28, some 29, some 30, some 31, some 32, some 33, some 34, some 35, some 36, some 37, some 38, some 39, some 40, some 41, some 42, some 43, some 44, some 45, some 46, some 47, some 48, some 49, some 50, some 51, some 52, some 53, some 54, some 55, some 56, some 57] 34 [0, 1, 3, 7, 0, 16, 63, 127, 0, 256, 768, 2047, 4095, 0, 8192, 24576, 57344, 0, 131072, 516096, 1040384, 0, 2097152, 6291456, 16769024, 33546240, 0, 67108864, 201326592, 0, 536870912, 1610612736, 4294959104, 8589934591] (by rfl) (by rfl) (by decide +kernel) (by decide +kernel) (by decide +kernel) (fun LL hLL => ?_)
 simp only [ptrTo, pend, pend0, Pd.old, pendU, pendU0, Nat.testBit, oxh, simprocAttr, gr5, gx5, ixF j1, ixF hj3, g1, v1, gq2, ef, et, ixF hf, ixF ht, w1, w2, sv]
 have s6 := (s5.mv 3).pick x.1 hTx
 rw [List.getElem_map] at s6
 have s7 := rtabs_pick s6 fr hf
 rw [← eA] at s7
 refine rcut_ok x.2.2.lo x.2.2.hi okA (by omega) _ s7 _ fun ar cr h8 s8 => ?_
 obtain ⟨KS, eKS⟩ : ∃ KS, KS = keysIn g x.2.2.lo x.2.2.hi A.2 := ⟨_, rfl⟩
 have hKl : KS.length ≤ A.2.length := by rw [eKS]; exact keysIn_len g _ _ A.2
 have hKw : ∀ r ∈ rowK A.2 KS, (Lit.int .i64 r.1).wf = true := by rw [eKS]; exact rowK_wf okA (keysIn_sub g _ _ A.2)
 rw [← eKS] at s8 ⊢
 have hrl : (rowK A.2 KS).length = KS.length := by simp [rowK]
 have s9 := (s8).sel 3 [1, 2, 0]
 simp only [oxf] at s9
 have s10 := rtabs_unpick fr hf _ _ s9
 obtain ⟨T1, eT1⟩ : ∃ T1, T1 = TT[x.1].set fr (A.1, tcut A.2 KS) := ⟨_, rfl⟩
 rw [← eT1] at s10
 have ht1 : to < T1.length := by rw [eT1, List.length_set]; exact ht
 have eB1 : T1[to] = B := by subst eT1; rw [List.getElem_set_ne hne]; exact eB.symm
 have okB : TbOk B.2 ∧ B.2.length ≤ 2000 := by rw [eB]; exact rAll.one hPl hR hw x.1 j1 to ht
 have s11 := (s10).sel 6 [3, 4, 5, 0, 1, 2]
 simp only [oxf] at s11
 obtain ⟨qb', qo', ro', sz', C', E', q2', p2', ro2', sz2', C2', E2', e1', g1', ex2', v1', gq2', w1', w2'⟩ := rd2 _ _ _ s11
 cases e1'
 rw [ex2] at ex2'
 cases ex2'
 have gr8 := s11.get
 unfold mvV at gr8
 simp only [Option.map_some, Nat.zero_add] at gr8
 have gx8 := (s10.mv 12).get
 have s12 := rtabs_pick s10 to ht1
 rw [eB1] at s12
 simp only [ptrTo, pend, pend0, Pd.old, pendU, pendU0, Nat.testBit, oxh, simprocAttr, gr5, gx5, ixF j1, ixF hj3, g1, v1, gq2, ef, et, ixF hf, ixF ht, w1, w2, sv, gr8, gx8, g1', v1', gq2', w1', w2']
 refine rlay_ok okB.1 ar cr (rowK A.2 KS) hKw _ s12 (fun h s => (s.mv 1).rs rcell.len) (by omega) _ fun h13 s13 => ?_
 have s14 := rtabs_unpick to ht1 _ _ s13
 have em : mvT g TT[x.1] x.2.2 A B = T1.set to (B.1, tlay B.2 (rowK A.2 KS)) := by
  unfold mvT; rw [ef, et, Int.toNat_natCast, Int.toNat_natCast, eT1, eKS]
 rw [← em] at s14
 obtain ⟨T', eT'⟩ : ∃ T', T' = mvT g TT[x.1] x.2.2 A B := ⟨_, rfl⟩
 rw [← eT'] at s14 rK hpt
 have s15 := (s14).sel 6 [3, 4, 5, 0, 1, 2]
 simp only [oxf] at s15
 obtain ⟨qb3, qo3, ro3, sz3, C3, E3, q23, p23, ro23, sz23, C23, E23, e13, g13, ex23, v13, gq23, w13, w23⟩ := rd2 _ _ _ s15
 cases e13
 rw [ex2] at ex23
 cases ex23
 have gr13 := s15.get
 unfold mvV at gr13
 simp only [Option.map_some, Nat.zero_add] at gr13
 have gx13 := (s14.mv 12).get
 simp only [ptrTo, pend, pend0, Pd.old, pendU, pendU0, Nat.testBit, oxh, simprocAttr, gr5, gx5, ixF j1, ixF hj3, g1, v1, gq2, ef, et, ixF hf, ixF ht, w1, w2, sv, gr8, gx8, g1', v1', gq2', w1', w2', gr13, gx13, g13, v13, gq23, w13, w23]
 refine hLL _ _ ?_
 refine fg4 (fun R => ?_)
 refine sr (fun LL hLL => ?_)
 simp only [ptrTo, oxs, simprocAttr]
 refine hLL _ _ ?_
 refine wpC_ret (out_ret ?_)
 simp only [ptrTo, oxs, simprocAttr]
 have s16 := (s14).sel 13 [0, 2, 3, 4, 5, 6, 7, 8, 9, 10, 11]
 simp only [oxf] at s16
 have s17 := s16.unpick x.1 hTx
 rw [← List.map_set] at s17
 have s18 := (s17).sel 5 [4, 1, 2, 3, 0]
 simp only [oxf] at s18
 have s19 := s18.wn_in (f := rmvc) (L := Q) hmc
 have hLP' : (TT.set x.1 T').map ptrs = LP := by
  have e : ptrs TT[x.1] = (TT.map ptrs)[x.1]'(by simpa using j1) := by simp
  rw [List.map_set, hpt, e, List.set_getElem_self]
  exact hLP
 exact hk _ _ rK hLP' (s19.sel 5 [1, 2, 3, 4, 0])
end
end Go.Proofs

namespace Go.Proofs
open Go Go.Ox
set_option maxRecDepth 100000
set_option maxHeartbeats 8000000
theorem open3 {h0 h : AHeap} {F : List Asn} {ka : Option Addr} {kc : Nat} {LI : List (List Int)} {ga : Option Addr} {gc : Nat} {RR : List (List Rw)} {xa : Option Addr} {xc : Nat} {EE : List (List Rc2)} (s : St h0 h (nest icell 1 3 25 ka kc LI :: nest rcell 3 52 48 ga gc RR :: nest r2cell 2 130 110 xa xc EE :: F)) :
  ∃ A1 A2 A3 A4 A5 A6, St h0 h (A1 :: A2 :: A3 :: A4 :: A5 :: A6 :: F) ∧ (∀ F, RdN h0 (A1 :: A2 :: A3 :: A4 :: A5 :: A6 :: F) icell 1 ka LI ∧ RdN h0 (A1 :: A2 :: A3 :: A4 :: A5 :: A6 :: F) rcell 3 ga RR ∧ RdN h0 (A1 :: A2 :: A3 :: A4 :: A5 :: A6 :: F) r2cell 2 xa EE) ∧
   ∀ F h', St h0 h' (A1 :: A2 :: A3 :: A4 :: A5 :: A6 :: F) → St h0 h' (nest icell 1 3 25 ka kc LI :: nest rcell 3 52 48 ga gc RR :: nest r2cell 2 130 110 xa xc EE :: F) := by
 obtain ⟨S1, e1, s1⟩ := s.nest_out
 obtain ⟨S2, e2, s2⟩ := (s1.mv 2).nest_out
 have s3 := (s2).sel 5 [4, 2, 3, 0, 1]
 simp only [oxf] at s3
 obtain ⟨S3, e3, s4⟩ := s3.nest_out
 have s5 := (s4).sel 6 [2, 3, 4, 5, 0, 1]
 simp only [oxf] at s5
 refine ⟨_, _, _, _, _, _, s5, fun F => ⟨⟨S1, e1, fun h s => s.rs Sv.len1, fun i hi hj => ⟨fun h s => ((s.mv 1).wns_rs icell.len i hi hj).1, ((s5.mv 1).wns_rs icell.len i hi hj).2⟩⟩, ⟨S2, e2, fun h s => (s.mv 2).rs Sv.len1, fun i hi hj => ⟨fun h s => ((s.mv 3).wns_rs rcell.len i hi hj).1, ((s5.mv 3).wns_rs rcell.len i hi hj).2⟩⟩, ⟨S3, e3, fun h s => (s.mv 4).rs Sv.len1, fun i hi hj => ⟨fun h s => ((s.mv 5).wns_rs r2cell.len i hi hj).1, ((s5.mv 5).wns_rs r2cell.len i hi hj).2⟩⟩⟩, fun F h' s => ?_⟩
 have t1 := (s).sel 6 [4, 5, 0, 1, 2, 3]
 simp only [oxf] at t1
 have t2 := t1.nest_in e3
 have t3 := (t2).sel 5 [3, 4, 0, 1, 2]
 simp only [oxf] at t3
 have t4 := t3.nest_in e2
 have t5 := (t4).sel 4 [2, 3, 0, 1]
 simp only [oxf] at t5
 exact t5.nest_in e1
section
variable {h0 : AHeap} {F : List Asn} {br g : Nat} {sb : Option Addr} {sn se : Nat} {id : Int} {qa : Option Addr} {O : List Int} {qc : Nat} {ka : Option Addr} {LI : List (List Int)} {kc : Nat} {ga : Option Addr} {RR : List (List Rw)} {gc : Nat} {xa : Option Addr} {EE : List (List Rc2)} {xc : Nat} {wa : Option Addr} {P : List Int} {wc : Nat} {ta : Option Addr} {S3 : List Sv} {tc : Nat} {LP : List (List (Option Nat))} {ma : Option Addr} {mc : Nat} {Q : List MvX} {TT : List (List (Nat × Tb))} {k : Nat}
theorem rman_no (h : AHeap) (s : St h0 h (rrunS br g sb sn se id qa O qc ka LI kc ga RR gc xa EE xc wa P wc ta S3 tc LP ma mc Q TT k F)) (hd : k < Q.length) (K : Value → AHeap → Prop) (hk : ∀ h', St h0 h' (rrunS br g sb sn se id qa O qc ka LI kc ga RR gc xa EE xc wa P wc ta S3 tc LP ma mc Q TT k F) → K (.tuple #[.agg #[.int .i64 0, .slice none 0 0, .slice none 0 0, .slice none 0 0, .slice none 0 0], .bool false]) h') :
  wpF Tryz.prog (.fn 15) [.pointer (some ⟨br, 0, none⟩)] h K := by
 refine wpF_fun 84 [.cell 2 30, .tmp 3] Tryz.func15 rfl rfl rfl rfl ?_
 have s1 := s.push (.cells false 0 [.int .i64 0, .slice none 0 0, .slice none 0 0, .slice none 0 0, .slice none 0 0] 30)
 obtain ⟨h1, e1⟩ : ∃ h1, h1 = h.push (.cells false 0 [.int .i64 0, .slice none 0 0, .slice none 0 0, .slice none 0 0, .slice none 0 0] 30) := ⟨_, rfl⟩
 obtain ⟨b2, eb2⟩ : ∃ b, b = h.next := ⟨_, rfl⟩
 rw [← e1, ← eb2] at s1
 refine sr (fun LL hLL => ?_)
 simp only [ptrTo, oxs, simprocAttr, ← e1, ← eb2]
 refine hLL _ _ ?_
 have g2 := s1.get
 have gr := (s1.mv 1).get
 unfold mvV at gr
 refine wpC_seq (sr fun LL hLL => ?_)
 simp only [ptrTo, oxs, simprocAttr, gr, eq_true (show (0 : Int) < ((Q.length - k : Nat) : Int) by omega)]
 refine hLL _ _ ?_
 refine wpC_if ?_
 simp only [ptrTo, oxs, simprocAttr]
 have s2 := s1.set (.cells false 0 [.int .i64 0, .slice none 0 0, .slice none 0 0, .slice none 0 0, .slice none 0 0] 30)
 have g22 := s2.get
 refine sr (fun LL hLL => ?_)
 simp only [ptrTo, oxs, simprocAttr, g2]
 refine hLL _ _ ?_
 refine wpC_ret (out_ret ?_)
 simp only [ptrTo, oxs, simprocAttr]
 simp only [g22]
 exact hk _ s2.drop
/-- The rows of one operator, told table by table. -/
theorem RunK.rows {g : Nat} {L : List OpX} {P : List Int} {RR : List (List Rw)} {S : List Sv} {TT : List (List (Nat × Tb))} (r : RunK g L P RR S TT []) (hPl : P.length = L.length) (hP : ∀ x ∈ P, 1 ≤ x ∧ x ≤ 8 ∧ x ≤ (g : Int)) (h1 : 1 ≤ g) (h64 : g ≤ 64) (hw : ∀ l ∈ RR, ∀ r ∈ l, (Lit.int .i64 r.1).wf = true) (i : Nat) (hi : i < TT.length) (hiP : i < P.length) (hiO : i < (outR g L RR).length) :
  (TT[i].take (min TT[i].length P[i].toNat)).flatMap (fun x => rowsOf g x.2) = (outR g L RR)[i] ∧ TT[i].length ≤ 8 := by
 have hiL : i < L.length := by rw [← r.len]; exact hi
 have hPi := hP P[i] (List.getElem_mem hiP)
 have okM : TbOk (tlay [] (RR[i]?.getD [])) := TbOk.nil.lay (getD_wf hw i)
 rw [outR_at g L RR i hiL]
 cases hst : stf L[i] with
 | true =>
  obtain ⟨k1, k8, f, t, pk⟩ := r.ok i hi hiL hiP hst
  have pk' : PlanOk g TT[i].length f [] (ownr P[i] g) := pk
  have t2 := t.congr (by omega) (by omega) pk'.nil_inv
  refine ⟨?_, k8⟩
  rw [if_pos rfl, show min TT[i].length P[i].toNat = P[i].toNat by omega]
  exact t2.rows (by omega) (by omega) hPi.1 okM (by omega)
 | false => rw [(r.no i hi hiL hst).1]; simp
theorem rrows_at {g : Nat} {TT : List (List (Nat × Tb))} (i j : Nat) (hi : i < TT.length) (hj : j < TT[i].length) (hl : TT[i][j].2.length ≤ 2000) (h : AHeap) (s : St h0 h (star (TT.map (rtabsA g)) :: F)) (K : Value → AHeap → Prop)
  (hk : ∀ a c h', St h0 h' (wn rcell 3 52 a c (rowsOf g TT[i][j].2) :: star (TT.map (rtabsA g)) :: F) → K (.slice a (rowsOf g TT[i][j].2).length c) h') : wpF Tryz.prog (.fn 47) [.pointer (some ⟨TT[i][j].1, 0, none⟩)] h K := by
 have hm : i < (TT.map (rtabsA (g : Int))).length := by simpa using hi
 have s1 := s.pick i hm
 rw [List.getElem_map] at s1
 have s2 := rtabs_pick s1 j hj
 refine rrows_ok (by omega) _ s2 _ fun a c h' s3 => hk a c h' ?_
 have s4 := (s3).sel 4 [1, 2, 3, 0]
 simp only [oxf] at s4
 have s5 := rtabs_unpick j hj _ _ s4
 rw [show (TT[i][j].1, TT[i][j].2) = TT[i][j] from rfl, List.set_getElem_self] at s5
 have s6 := s5.unpick i hm
 have e : rtabsA (g : Int) TT[i] = (TT.map (rtabsA (g : Int)))[i] := by rw [List.getElem_map]
 rw [e, List.set_getElem_self] at s6
 exact s6.mv 1
theorem rman_ok {L : List OpX} {S : List Sv} (hn : L.length ≤ 12) (h1g : 1 ≤ g) (h64 : g ≤ 64) (hOl : O.length = L.length) (hPl : P.length = L.length) (hPb : ∀ x ∈ P, 1 ≤ x ∧ x ≤ 8 ∧ x ≤ (g : Int)) (b2' : LI.length ≤ 2000) (b3 : RR.length ≤ 2000) (b4' : EE.length ≤ 2000) (b5' : ∀ x ∈ LI, x.length ≤ 2000) (b6 : ∀ x ∈ RR, x.length ≤ 2000) (b7 : ∀ x ∈ EE, x.length ≤ 2000) (hw : ∀ l ∈ RR, ∀ r ∈ l, (Lit.int .i64 r.1).wf = true)
  (r : RunK g L P RR S TT (Q.drop k)) (hLP : TT.map ptrs = LP) (hS3 : S3.map Sv.len = LP.map List.length) (hd : Q.length ≤ k) (h : AHeap) (s : St h0 h (rrunS br g sb sn se id qa O qc ka LI kc ga RR gc xa EE xc wa P wc ta S3 tc LP ma mc Q TT k F)) (K : Value → AHeap → Prop)
  (hk : ∀ pa2 pc2 ka2 kc2 ra2 rc2 h', St h0 h' (wn icell 1 3 pa2 pc2 P :: nest icell 1 3 25 ka2 kc2 LI :: nest rcell 3 52 48 ra2 rc2 (outR g L RR) :: rrunS br g sb sn se id qa O qc ka LI kc ga RR gc xa EE xc wa P wc ta S3 tc LP ma mc Q TT k F) →
   K (.tuple #[.agg #[.int .i64 (IntKind.i64.wrap (id + 1)), .slice pa2 P.length pc2, .slice ka2 LI.length kc2, .slice ra2 (outR g L RR).length rc2, .slice none 0 0], .bool true]) h') :
  wpF Tryz.prog (.fn 15) [.pointer (some ⟨br, 0, none⟩)] h K := by
 have sv : ∀ (a : Option Addr) (m n : Nat), veq 6 (.slice a m n) (.slice a m n) = true := by intro a m n; simp [veq]
 have r0 : RunK g L P RR S TT [] := by rw [List.drop_eq_nil_of_le hd] at r; exact r
 have hTl := r0.len
 have hLPl : LP.length = TT.length := by rw [← hLP]; simp
 have hS3l : S3.length = TT.length := by rw [lens hS3]; exact hLPl
 refine wpF_fun 84 [.cell 2 30, .tmp 3] Tryz.func15 rfl rfl rfl rfl ?_
 have s1 := s.push (.cells false 0 [.int .i64 0, .slice none 0 0, .slice none 0 0, .slice none 0 0, .slice none 0 0] 30)
 obtain ⟨h1, e1⟩ : ∃ h1, h1 = h.push (.cells false 0 [.int .i64 0, .slice none 0 0, .slice none 0 0, .slice none 0 0, .slice none 0 0] 30) := ⟨_, rfl⟩
 obtain ⟨b2, eb2⟩ : ∃ b, b = h.next := ⟨_, rfl⟩
 rw [← e1, ← eb2] at s1
 refine sr (fun LL hLL => ?_)
 simp only [ptrTo, oxs, simprocAttr, ← e1, ← eb2]
 refine hLL _ _ ?_
 have gr := (s1.mv 1).get
 obtain ⟨mz, emz⟩ : ∃ v, v = mvV ma mc Q k := ⟨_, rfl⟩
 have gr0 := gr
 unfold mvV at gr0
 refine wpC_seq (sr fun LL hLL => ?_)
 simp only [ptrTo, oxs, simprocAttr, gr0, eq_false (show ¬ (0 : Int) < ((Q.length - k : Nat) : Int) by omega)]
 refine hLL _ _ ?_
 refine wpC_if ?_
 simp only [ptrTo, oxs, simprocAttr]
 refine wpC_skip ?_
 simp only [ptrTo, oxs, simprocAttr]
 refine fg9 (fun R => ?_)
 rw [← emz] at gr
 have s2 := (s1).sel 11 [8, 9, 10, 0, 1, 2, 3, 4, 5, 6, 7]
 simp only [oxf] at s2
 obtain ⟨A1, A2, A3, A4, A5, A6, s3, rdA, back⟩ := open3 s2
 have gr3 := (s3.mv 7).get
 rw [← emz] at gr3
 obtain ⟨d1, d2, d3⟩ := rdA _
 refine sr (fun LL hLL => ?_)
 simp only [ptrTo, pend, pend0, Pd.old, pendU, pendU0, Nat.testBit, oxh, simprocAttr, gr3]
 refine copyMan_ok id qa O qc ka LI kc ga RR gc xa EE xc _ (fun h s => (s.mv 13).rs icell.len) d1 d2 d3 (by omega) b2' b3 b4' b5' b6 b7 s3 _ fun qa2 qc2 ka2 kc2 ga2 gc2 xa2 xc2 h4 s4 => ?_
 have s5 := s4.push (.cells false 0 [.int .i64 0, .slice none 0 0, .slice none 0 0, .slice none 0 0, .slice none 0 0] 30)
 obtain ⟨b4, eb4⟩ : ∃ b, b = h4.next := ⟨_, rfl⟩
 rw [← eb4] at s5
 have g5 := s5.get
 have s6 := s5.set (.cells false 0 [.int .i64 id, .slice qa2 O.length qc2, .slice ka2 LI.length kc2, .slice ga2 RR.length gc2, .slice xa2 EE.length xc2] 30)
 obtain ⟨h6, e6⟩ : ∃ h6, h6 = (h4.push (.cells false 0 [.int .i64 0, .slice none 0 0, .slice none 0 0, .slice none 0 0, .slice none 0 0] 30)).set b4 (.cells false 0 [.int .i64 id, .slice qa2 O.length qc2, .slice ka2 LI.length kc2, .slice ga2 RR.length gc2, .slice xa2 EE.length xc2] 30) := ⟨_, rfl⟩
 rw [← e6] at s6
 simp only [ptrTo, pend, pend0, Pd.old, pendU, pendU0, Nat.testBit, oxh, simprocAttr, g5, ← eb4, ← e6]
 refine hLL _ _ ?_
 refine fg9 (fun R => ?_)
 have s7 := (s6).sel 19 [5, 6, 7, 8, 9, 10, 0, 2, 11, 12, 13, 14, 15, 16, 17, 18]
 simp only [oxf] at s7
 have s8 := back _ _ s7
 have s9 := (s8).sel 13 [3, 4, 5, 6, 7, 8, 9, 11, 10, 12, 0, 1, 2]
 simp only [oxf] at s9
 clear s1 s2 s3 s4 s5 s6 s7 s8 gr0 gr gr3 g5 d1 d2 d3 rdA back
 have g4 := s9.get
 have gr9 := (s9.mv 3).get
 rw [← emz] at gr9
 have s10 := s9.push (.cells false 0 [.int .i64 0, .slice none 0 0, .slice none 0 0, .slice none 0 0, .slice none 0 0] 30)
 obtain ⟨b5, eb5⟩ : ∃ b, b = h6.next := ⟨_, rfl⟩
 obtain ⟨h10, e10⟩ : ∃ h10, h10 = h6.push (.cells false 0 [.int .i64 0, .slice none 0 0, .slice none 0 0, .slice none 0 0, .slice none 0 0] 30) := ⟨_, rfl⟩
 rw [← eb5, ← e10] at s10
 have g410 := (s10.mv 1).get
 have gr10 := (s10.mv 4).get
 rw [← emz] at gr10
 refine sd [0, 1, 2, 3, 4, 5, 6, 8, 9, 11, 7, 10, 12] [0, 1, 3, 0, 8, 24, 56, 0, 256, 0, 120, 1023, 4095] (by decide +kernel) (by decide +kernel) (by decide +kernel) (fun LL hLL => ?_)
 simp only [ptrTo, pend, pend0, Pd.old, pendU, pendU0, Nat.testBit, oxh, simprocAttr, g4, gr9, ← eb5, ← e10, g410, gr10, sv]
 refine copyInts_ok P wa wc _ (fun h s => (s.mv 8).rs icell.len) (by omega) s10 _ fun pa2 pc2 h11 s11 => ?_
 have g411 := (s11.mv 2).get
 have gr11 := (s11.mv 5).get
 rw [← emz] at gr11
 have g511 := (s11.mv 1).get
 have s12 := (s11.mv 1).set (.cells false 0 [.int .i64 (IntKind.i64.wrap (id + 1)), .slice pa2 P.length pc2, .slice ka2 LI.length kc2, .slice none 0 0, .slice none 0 0] 30)
 obtain ⟨h12, e12⟩ : ∃ h12, h12 = h11.set b5 (.cells false 0 [.int .i64 (IntKind.i64.wrap (id + 1)), .slice pa2 P.length pc2, .slice ka2 LI.length kc2, .slice none 0 0, .slice none 0 0] 30) := ⟨_, rfl⟩
 rw [← e12] at s12
 simp only [ptrTo, pend, pend0, Pd.old, pendU, pendU0, Nat.testBit, oxh, simprocAttr, g4, gr9, g410, gr10, g411, gr11, g511, ← e12, sv]
 refine hLL _ _ ?_
 refine fg9 (fun R => ?_)
 have s13 := (s12).sel 15 [0, 8, 5, 6, 7, 9, 3, 1, 4, 10, 11, 12, 13, 14]
 simp only [oxf] at s13
 obtain ⟨OR, eOR⟩ : ∃ OR, OR = outR g L RR := ⟨_, rfl⟩
 have hORl : OR.length = L.length := by rw [eOR]; exact outR_len g L RR
 rw [← eOR] at hk
 obtain ⟨GX, eGX⟩ : ∃ GX, GX = own br (.cells false 0 [.int .i64 g, .slice sb sn se, .int .i64 id, .slice qa O.length qc, .slice ka LI.length kc, .slice ga RR.length gc, .slice xa EE.length xc, .slice wa P.length wc, .slice ta S3.length tc, mvV ma mc Q k] 82) :: wn Sv.cells 1 83 ta tc S3 :: star (wns ptc 1 85 S3 LP) :: wn icell 1 3 wa wc P :: nest icell 1 3 25 ka2 kc2 LI :: wn icell 1 3 pa2 pc2 P :: own b2 (.cells false 0 [.int .i64 0, .slice none 0 0, .slice none 0 0, .slice none 0 0, .slice none 0 0] 30) :: wn rmvc 5 90 ma mc Q :: wn icell 1 3 qa qc O :: nest icell 1 3 25 ka kc LI :: nest rcell 3 52 48 ga gc RR :: nest r2cell 2 130 110 xa xc EE :: F := ⟨_, rfl⟩
 have getr : ∀ h', St h0 h' GX → h'.get br = some (.cells false 0 [.int .i64 g, .slice sb sn se, .int .i64 id, .slice qa O.length qc, .slice ka LI.length kc, .slice ga RR.length gc, .slice xa EE.length xc, .slice wa P.length wc, .slice ta S3.length tc, mz] 82) := fun h' s => by subst eGX emz; exact s.get
 have rdP : ∀ h', St h0 h' GX → Rs icell 1 h' wa P := fun h' s => by subst eGX; exact (s.mv 3).rs icell.len
 have rdH : ∀ h', St h0 h' GX → ∀ (i : Nat) (hi : i < TT.length) (hi3 : i < S3.length), ∃ b o ro sz C E, ta = some ⟨b, o, none⟩ ∧ h'.get b = some (.cells ro sz C E) ∧ C[o + i * 1]? = some (.slice S3[i].a TT[i].length S3[i].cap) ∧ Rs ptc 1 h' S3[i].a (ptrs TT[i]) := fun h' s i hi hi3 => by
  subst eGX
  obtain ⟨b, o, ro, sz, C, E, e1, p1, g1, r1, q1⟩ := ((s.mv 1).rs Sv.len1).resolve_left (by rintro rfl; simp at hi3)
  have v1 : C[o + i * 1]? = some (.slice S3[i].a S3[i].len S3[i].cap) := Rs.cell Sv.len1 r1 q1 i hi3 0 (by omega)
  have hiL : i < LP.length := by omega
  have hLat : LP[i] = ptrs TT[i] := by subst hLP; simp
  have hl := lens_at hS3 i hi3 hiL
  rw [hLat, ptrs_len] at hl
  rw [hl] at v1
  have rr := ((s.mv 2).wns_rs ptc.len i hi3 hiL).1
  rw [hLat] at rr
  exact ⟨b, o, ro, sz, C, E, e1, g1, v1, rr⟩
 have fin : ∀ h' oa oc, St h0 h' (nest rcell 3 52 48 oa oc OR :: star (TT.map (rtabsA g)) :: GX) → ∃ G, St h0 h' (own b2 (.cells false 0 [.int .i64 0, .slice none 0 0, .slice none 0 0, .slice none 0 0, .slice none 0 0] 30) :: G) ∧ ∀ h'', St h0 h'' (own b2 (.cells false 0 [.int .i64 (IntKind.i64.wrap (id + 1)), .slice pa2 P.length pc2, .slice ka2 LI.length kc2, .slice oa OR.length oc, .slice none 0 0] 30) :: G) → St h0 h'' (wn icell 1 3 pa2 pc2 P :: nest icell 1 3 25 ka2 kc2 LI :: nest rcell 3 52 48 oa oc OR :: rrunS br g sb sn se id qa O qc ka LI kc ga RR gc xa EE xc wa P wc ta S3 tc LP ma mc Q TT k F) := fun h' oa oc s => by
  subst eGX
  refine ⟨_, s.sel 14 [8, 7, 6, 0, 2, 3, 4, 1, 9, 5, 10, 11, 12, 13], fun h'' s2 => ?_⟩
  exact s2.sel 14 [1, 2, 3, 4, 5, 6, 7, 8, 9, 10, 11, 12, 13]
 have s14 : St h0 h12 (own b5 (.cells false 0 [.int .i64 (IntKind.i64.wrap (id + 1)), .slice pa2 P.length pc2, .slice ka2 LI.length kc2, .slice none 0 0, .slice none 0 0] 30) :: star (TT.map (rtabsA g)) :: GX) := by
  subst eGX
  exact s13.sel 14 [0, 1, 2, 3, 4, 5, 6, 7, 8, 9, 10, 11, 12, 13]
 clear s9 s10 s11 s12 s13 g4 gr9 g410 gr10 g411 gr11 g511 eGX
 refine sm (fun T h' => ∃ (oa : Option Addr) (oc : Nat) (u1 u3 u4 : Value) (R : List Value), St h0 h' (nest rcell 3 52 48 oa oc (OR) :: own b5 (.cells false 0 [.int .i64 (IntKind.i64.wrap (id + 1)), .slice pa2 P.length pc2, .slice ka2 LI.length kc2, .slice oa (OR).length oc, .slice none 0 0] 30) :: star (TT.map (rtabsA g)) :: GX) ∧ T = .pointer (some ⟨br, 0, none⟩) :: u1 :: .pointer (some ⟨b2, 0, none⟩) :: u3 :: u4 :: .pointer (some ⟨b5, 0, none⟩) :: R) ?_ ?_
 ·refine sr (fun LL hLL => ?_)
  simp only [ptrTo, oxs, simprocAttr]
  refine hLL _ _ ?_
  refine fg9 (fun R => ?_)
  refine wpC_block ?_
  refine wpC_loop (fun m T h' => ∃ (i : Nat) (oa : Option Addr) (oc : Nat) (u1 u3 u4 u7 u8 : Value) (R : List Value), m + i = L.length ∧ St h0 h' (nest rcell 3 52 48 oa oc (OR.take i) :: own b5 (.cells false 0 [.int .i64 (IntKind.i64.wrap (id + 1)), .slice pa2 P.length pc2, .slice ka2 LI.length kc2, .slice oa (OR.take i).length oc, .slice none 0 0] 30) :: star (TT.map (rtabsA g)) :: GX) ∧ T = .pointer (some ⟨br, 0, none⟩) :: u1 :: .pointer (some ⟨b2, 0, none⟩) :: u3 :: u4 :: .pointer (some ⟨b5, 0, none⟩) :: .int .i64 i :: u7 :: u8 :: R) ?_ L.length _ _ ⟨0, none, 0, _, _, _, _, _, R, by omega, s14.nest_nil, rfl⟩
  clear s14
  rintro m T h' ⟨i, oa, oc, u1, u3, u4, u7, u8, R, hmi, s15, rfl⟩
  have gr := getr _ s15.drop.drop.drop
  refine wpC_seq (sr fun LL hLL => ?_)
  simp only [ptrTo, oxs, simprocAttr, gr]
  refine hLL _ _ ?_
  refine wpC_if ?_
  simp only [ptrTo, oxs, simprocAttr]
  refine gC_of (fun hc => ?_) (fun hc => ?_)
  ·refine wpC_skip ?_
   simp only [ptrTo, oxs, simprocAttr]
   refine fg9 (fun R => ?_)
   have hi : i < L.length := by omega
   have hiT : i < TT.length := by omega
   have hi3 : i < S3.length := by omega
   have hiP : i < P.length := by omega
   have hiO : i < OR.length := by omega
   have hPi := hPb P[i] (List.getElem_mem hiP)
   obtain ⟨cn, ecn⟩ : ∃ c, c = min TT[i].length P[i].toNat := ⟨_, rfl⟩
   have hrw := r0.rows hPl hPb h1g h64 hw i hiT hiP (by rw [← eOR]; exact hiO)
   have hall : (TT[i].take cn).flatMap (fun x => rowsOf g x.2) = OR[i] := by subst eOR ecn; exact hrw.1
   have hT8 := hrw.2
   have hone := fun j hj => r0.one hPl b6 hw i hiT j hj
   obtain ⟨fl, efl⟩ : ∃ fl : Nat → List Rw, fl = fun j => (TT[i].take j).flatMap (fun x => rowsOf g x.2) := ⟨_, rfl⟩
   have hfl0 : fl 0 = [] := by rw [efl]; rfl
   have hfls : ∀ j (hj : j < TT[i].length), fl (j + 1) = fl j ++ rowsOf g TT[i][j].2 := fun j hj => by
    rw [efl]; simp only
    rw [List.take_succ_eq_append_getElem hj, List.flatMap_append]; simp
   have hfll : ∀ j, j ≤ TT[i].length → (fl j).length ≤ j * 2000 := fun j => by
    induction j with
    | zero => intro _; rw [efl]; simp
    | succ j ih =>
     intro hj
     rw [hfls j (by omega), List.length_append, rows_len]
     have := ih (by omega)
     have := (hone j (by omega)).2
     omega
   have hflcn : fl cn = OR[i] := by rw [efl]; exact hall
   have zz : aZeros [.slice none 0 0] 1 = [.slice none 0 0] := rfl
   refine wpC_seq (wpC_block ?_)
   refine sr (fun LL hLL => ?_)
   simp only [ptrTo, oxs, simprocAttr]
   refine hLL _ _ ?_
   refine fg9 (fun R => ?_)
   refine sm (fun T h' => ∃ (ra' : Option Addr) (rc' : Nat) (u1 u3 u4 u8 : Value) (R : List Value), St h0 h' (wn rcell 3 52 ra' rc' OR[i] :: nest rcell 3 52 48 oa oc (OR.take i) :: own b5 (.cells false 0 [.int .i64 (IntKind.i64.wrap (id + 1)), .slice pa2 P.length pc2, .slice ka2 LI.length kc2, .slice oa (OR.take i).length oc, .slice none 0 0] 30) :: star (TT.map (rtabsA g)) :: GX) ∧ T = .pointer (some ⟨br, 0, none⟩) :: u1 :: .pointer (some ⟨b2, 0, none⟩) :: u3 :: u4 :: .pointer (some ⟨b5, 0, none⟩) :: .int .i64 i :: .slice ra' OR[i].length rc' :: u8 :: R) ?_ ?_
   ·refine sr (fun LL hLL => ?_)
    simp only [ptrTo, oxs, simprocAttr]
    refine hLL _ _ ?_
    refine fg9 (fun R => ?_)
    refine wpC_block ?_
    have s16 := s15.wn_nil (f := rcell) (k := 3) (e := 52)
    rw [← hfl0] at s16
    refine wpC_loop (fun m T h' => ∃ (j : Nat) (ra' : Option Addr) (rc' : Nat) (u1 u3 u4 : Value) (R : List Value), m + j = cn ∧ St h0 h' (wn rcell 3 52 ra' rc' (fl j) :: nest rcell 3 52 48 oa oc (OR.take i) :: own b5 (.cells false 0 [.int .i64 (IntKind.i64.wrap (id + 1)), .slice pa2 P.length pc2, .slice ka2 LI.length kc2, .slice oa (OR.take i).length oc, .slice none 0 0] 30) :: star (TT.map (rtabsA g)) :: GX) ∧ T = .pointer (some ⟨br, 0, none⟩) :: u1 :: .pointer (some ⟨b2, 0, none⟩) :: u3 :: u4 :: .pointer (some ⟨b5, 0, none⟩) :: .int .i64 i :: .slice ra' (fl j).length rc' :: .int .i64 j :: R) ?_ cn _ _ ⟨0, none, 0, _, _, _, R, by omega, s16, by rw [hfl0]; rfl⟩
    clear s15 s16 gr
    rintro m T h' ⟨j, ra', rc', u1, u3, u4, R, hmj, s17, rfl⟩
    have FX := s17.drop.drop.drop.drop
    have gr := getr _ FX
    obtain ⟨qb, qo, ro, sz, C, E, e1, g1, v1, rpt⟩ := rdH _ FX i hiT hi3
    obtain ⟨pb, po, rop, szp, Cp, Ep, ep, pp, gp, rp, qp⟩ := (rdP _ FX).resolve_left (by rintro rfl; simp at hiP)
    have vP : Cp[po + i * 1]? = some (.int .i64 P[i]) := Rs.cell icell.len rp qp i hiP 0 (by omega)
    rw [e1, ep] at gr
    by_cases c1 : j < TT[i].length
    ·by_cases c2 : (j : Int) < P[i]
     ·refine wpC_seq (sr fun LL hLL => ?_)
      simp only [ptrTo, oxs, simprocAttr, gr, ixF hi3, g1, v1, eq_true (show (j : Int) < ((TT[i].length : Nat) : Int) by omega), ixF hiP, gp, vP, eq_true c2]
      refine hLL _ _ ?_
      refine wpC_if ?_
      simp only [ptrTo, oxs, simprocAttr]
      refine wpC_skip ?_
      simp only [ptrTo, oxs, simprocAttr]
      refine fg9 (fun R => ?_)
      have hne : ptrs TT[i] ≠ [] := by intro e; have := ptrs_len TT[i]; rw [e] at this; simp at this; omega
      obtain ⟨tb, to', rot, szt, Ct, Et, et, pt, gt, rt, qt⟩ := rpt.resolve_left hne
      have w1 := Rs.cell ptc.len rt qt j (by rw [ptrs_len]; exact c1) 0 (by omega)
      rw [ptrs_at TT[i] j c1] at w1
      rw [et] at v1
      have wT : Ct[to' + j * 1]? = some (.pointer (some ⟨TT[i][j].1, 0, none⟩)) := w1
      refine wpC_seq (wpC_block ?_)
      refine rg (fun LL hLL => ?_)
      simp only [ptrTo, pend, pend0, Pd.old, pendU, pendU0, Nat.testBit, oxh, simprocAttr, gr, ixF hi3, g1, v1, ixF c1, gt, wT]
      refine rrows_at i j hiT c1 (hone j c1).2 _ (s17.mv 3) _ fun ar cr h18 s18 => ?_
      have hfst := wnFstR s18
      have hb1 := hfll j (by omega)
      have hb2 := (hone j c1).2
      have hb3 := rows_len (g : Int) TT[i][j].2
      obtain ⟨aE, cE, h19, y1, y2⟩ := (s18.mv 2).app (bytes := 24) (d := cr) (M := rowsOf g TT[i][j].2) rcell.len rcell.oc hfst (by omega) (by omega)
      simp only [ptrTo, pend, pend0, Pd.old, pendU, pendU0, Nat.testBit, oxh, simprocAttr]
      rw [y1]
      simp only [ptrTo, pend, pend0, Pd.old, pendU, pendU0, Nat.testBit, oxh, simprocAttr]
      refine hLL _ _ ?_
      simp only [ptrTo, oxs, simprocAttr]
      refine fg9 (fun R => ?_)
      refine rg (fun LL hLL => ?_)
      simp only [ptrTo, oxs, simprocAttr, wsucc (show j < 9223372036854775807 by omega)]
      refine hLL _ _ ?_
      simp only [ptrTo, oxs, simprocAttr]
      rw [← hfls j c1] at y2 ⊢
      have s20 := (y2).sel 5 [0, 3, 4, 2]
      simp only [oxf] at s20
      refine ⟨m - 1, by omega, j + 1, aE, cE, _, _, _, _, by omega, s20, rfl⟩
     ·refine wpC_seq (sr fun LL hLL => ?_)
      simp only [ptrTo, oxs, simprocAttr, gr, ixF hi3, g1, v1, eq_true (show (j : Int) < ((TT[i].length : Nat) : Int) by omega), ixF hiP, gp, vP, eq_false c2]
      refine hLL _ _ ?_
      refine wpC_if ?_
      simp only [ptrTo, oxs, simprocAttr]
      refine wpC_exit ?_
      simp only [ptrTo, oxs, simprocAttr]
      have : j = cn := by omega
      rw [this, hflcn] at s17
      rw [this, hflcn]
      exact ⟨ra', rc', _, _, _, _, _, s17, rfl⟩
    ·refine wpC_seq (sr fun LL hLL => ?_)
     simp only [ptrTo, oxs, simprocAttr, gr, ixF hi3, g1, v1, eq_false (show ¬ (j : Int) < ((TT[i].length : Nat) : Int) by omega)]
     refine hLL _ _ ?_
     refine wpC_if ?_
     simp only [ptrTo, oxs, simprocAttr]
     refine wpC_exit ?_
     simp only [ptrTo, oxs, simprocAttr]
     have : j = cn := by omega
     rw [this, hflcn] at s17
     rw [this, hflcn]
     exact ⟨ra', rc', _, _, _, _, _, s17, rfl⟩
   clear s15 gr
   rintro T h' ⟨ra', rc', u1, u3, u4, u8, R, s17, rfl⟩
   have ht : OR.take (i + 1) = OR.take i ++ [OR[i]] := List.take_succ_eq_append_getElem hiO
   have hli : (OR.take i).length = i := by rw [List.length_take]; omega
   have g5 := (s17.mv 2).get
   obtain ⟨aE, cE, h18, y1, y2⟩ := s17.nest_app (by omega)
   have g58 := (y2.mv 1).get
   refine rg (fun LL hLL => ?_)
   simp only [ptrTo, oxs, simprocAttr, g5, zz]
   rw [y1]
   simp only [ptrTo, oxs, simprocAttr, g58]
   rw [show (OR.take i).length + 1 = (OR.take (i + 1)).length by rw [hli, List.length_take]; omega]
   refine hLL _ _ ?_
   simp only [ptrTo, oxs, simprocAttr]
   refine fg9 (fun R => ?_)
   refine rg (fun LL hLL => ?_)
   simp only [ptrTo, oxs, simprocAttr, wsucc (show i < 9223372036854775807 by omega)]
   refine hLL _ _ ?_
   simp only [ptrTo, oxs, simprocAttr]
   have s19 := (y2.mv 1).set (.cells false 0 [.int .i64 (IntKind.i64.wrap (id + 1)), .slice pa2 P.length pc2, .slice ka2 LI.length kc2, .slice aE (OR.take (i + 1)).length cE, .slice none 0 0] 30)
   rw [← ht] at s19
   exact ⟨m - 1, by omega, i + 1, aE, cE, _, _, _, _, _, _, by omega, s19.mv 1, rfl⟩
  ·have : i = L.length := by omega
   subst this
   rw [List.take_of_length_le (by omega)] at s15
   refine wpC_exit ?_
   simp only [ptrTo, oxs, simprocAttr]
   exact ⟨oa, oc, _, _, _, _, s15, rfl⟩
 rintro T h' ⟨oa, oc, u1, u3, u4, R, s15, rfl⟩
 have g5 := (s15.mv 1).get
 have s16 := (s15).sel 2 [0]
 simp only [oxf] at s16
 obtain ⟨G, s17, bk⟩ := fin _ _ _ s16
 have g2 := s17.get
 have s18 := s17.set (.cells false 0 [.int .i64 (IntKind.i64.wrap (id + 1)), .slice pa2 P.length pc2, .slice ka2 LI.length kc2, .slice oa OR.length oc, .slice none 0 0] 30)
 have g18 := s18.get
 refine sr (fun LL hLL => ?_)
 simp only [ptrTo, oxs, simprocAttr, g5, g2]
 refine hLL _ _ ?_
 refine wpC_ret (out_ret ?_)
 simp only [ptrTo, oxs, simprocAttr]
 simp only [g18]
 exact hk _ _ _ _ _ _ _ (bk _ s18)
end
end Go.Proofs

namespace Go.Proofs
open Go Go.Ox
set_option maxRecDepth 100000
set_option maxHeartbeats 8000000
theorem runs_body (g : Int) (a : Option Addr) (c : Nat) (L : List OpX) (m : MfX) (EE : List (List Rc2)) (pa2 : Option Addr) (pc2 : Nat) (P2 : List Int) (h : AHeap) (sp : SpR h a L) (mr : MfR h m) (mb : MfB m) (re : RsN r2cell 2 h m.ea EE) (hEl : m.ES.map Sv.len = EE.map List.length) (hw : ∀ l ∈ m.RR, ∀ r ∈ l, (Lit.int .i64 r.1).wf = true) (rp : Rs icell 1 h pa2 P2) (hp : P2.length < 17592186045000) (K : Value → AHeap → Prop) (hk : ∀ h', Fr h h' [] → K (.bool true) h') :
  wpF Tryz.prog (.fn 3) [.agg #[.int .i64 g, .slice a L.length c], .agg m.cells.toArray, .slice pa2 P2.length pc2] h K := by
 have s := St.init h
 refine wpF_fun 89 [.tmp 6] Tryz.func3 rfl rfl rfl rfl ?_
 obtain ⟨bs, ebs⟩ : ∃ b, b = h.next := ⟨_, rfl⟩
 obtain ⟨bm, ebm⟩ : ∃ b, b = bs + 1 := ⟨_, rfl⟩
 have s1 := (s.push (spB g a L.length c)).push (.cells false 0 m.cells 30)
 simp only [AHeap.next_push, ← ebs, ← ebm] at s1
 obtain ⟨h1, e1⟩ : ∃ h1, h1 = (h.push (spB g a L.length c)).push (.cells false 0 m.cells 30) := ⟨_, rfl⟩
 rw [← e1] at s1
 refine sr (fun LL hLL => ?_)
 simp only [ptrTo, oxs, simprocAttr, AHeap.next_push, ← ebs, ← ebm, ← e1, MfX.len]
 refine hLL _ _ ?_
 have gm := s1.get
 have gs := (s1.mv 1).get
 refine wpC_seq (sr fun LL hLL => ?_)
 simp only [ptrTo, pend, pend0, Pd.old, pendU, pendU0, Nat.testBit, oxh, simprocAttr, gm, gs, MfX.len]
 refine may_law g a c L sp m mr mb _ s1 _ fun b h2 hb s2 => ?_
 simp only [ptrTo, pend, pend0, Pd.old, pendU, pendU0, Nat.testBit, oxh, simprocAttr]
 refine hLL _ _ ?_
 cases b
 ·refine wpC_if ?_
  simp only [ptrTo, oxs, simprocAttr]
  refine sr (fun LL hLL => ?_)
  simp only [ptrTo, oxs, simprocAttr]
  refine wpF_ext rfl ?_
  refine hLL _ _ ?_
  refine wpC_ret (out_ret ?_)
  simp only [ptrTo, oxs, simprocAttr]
  exact hk _ s2.base
 obtain ⟨hms, hg1, hg64, ⟨hn1, hi20⟩, hn12⟩ := hb rfl
 obtain ⟨G, rfl⟩ : ∃ G : Nat, g = (G : Int) := ⟨g.toNat, by omega⟩
 refine wpC_if ?_
 simp only [ptrTo, oxs, simprocAttr]
 refine wpC_skip ?_
 simp only [ptrTo, oxs, simprocAttr]
 refine fg7 (fun R => ?_)
 obtain ⟨id, pa, O, pc, la, LI, lc, ra, RR, rc, ea, ES, ec⟩ := m
 obtain ⟨bp, bl, br', be, bl1, br1, be1⟩ := mb
 obtain ⟨⟨hsn1, hsn2, hsn3, hsn4⟩, hsl, hsr⟩ := hms
 simp only at *
 have hEE : EE.length = ES.length := by simpa using (congrArg List.length hEl).symm
 have hE7 : ∀ x ∈ EE, x.length ≤ 2000 := fun x hx => by
  obtain ⟨i, hi, rfl⟩ := List.mem_iff_getElem.1 hx
  have := lens_at hEl i (by omega) hi
  rw [← this]
  exact hsn4 _ (List.getElem_mem (by omega))
 unfold MfX.cells at s2
 simp only at s2
 have gm := s2.get
 have gs := (s2.mv 1).get
 refine sr (fun LL hLL => ?_)
 simp only [ptrTo, pend, pend0, Pd.old, pendU, pendU0, Nat.testBit, oxh, simprocAttr, gm, gs]
 refine pars_ok G hg1 a c L hn12 pa pc O bp _ (Rd.of_base mr.p) s2 _ fun qa qc h3 s3 => ?_
 have gm3 := (s3.mv 1).get
 have gs3 := (s3.mv 2).get
 obtain ⟨O', eO'⟩ : ∃ O', O' = parsOf G L.length O := ⟨_, rfl⟩
 have hOl : O'.length = L.length := by rw [eO', parsOf_len]
 have hOr : ∀ x ∈ O', 1 ≤ x ∧ x ≤ 8 ∧ x ≤ (G : Int) := by rw [eO']; exact parsOf_range hg1 _ _
 rw [← eO'] at s3
 rw [← eO']
 rw [← hEE] at s3 gm3 
 have s4 := (s3.mv 1).set (.cells false 0 [.int .i64 id, .slice qa O'.length qc, .slice la LI.length lc, .slice ra RR.length rc, .slice ea EE.length ec] 30)
 obtain ⟨h4, e4⟩ : ∃ h4, h4 = h3.set bm (.cells false 0 [.int .i64 id, .slice qa O'.length qc, .slice la LI.length lc, .slice ra RR.length rc, .slice ea EE.length ec] 30) := ⟨_, rfl⟩
 rw [← e4] at s4
 simp only [ptrTo, pend, pend0, Pd.old, pendU, pendU0, Nat.testBit, oxh, simprocAttr, gm3, gs3, ← e4]
 refine hLL _ _ ?_
 refine fg7 (fun R => ?_)
 have gm4 := s4.get
 have gs4 := (s4.mv 2).get
 refine sr (fun LL hLL => ?_)
 simp only [ptrTo, pend, pend0, Pd.old, pendU, pendU0, Nat.testBit, oxh, simprocAttr, gs4]
 refine pars_ok G hg1 a c L hn12 pa2 pc2 P2 hp _ (Rd.of_base rp) s4 _ fun ya yc h5 s5 => ?_
 obtain ⟨P', eP'⟩ : ∃ P', P' = parsOf G L.length P2 := ⟨_, rfl⟩
 have hPl : P'.length = L.length := by rw [eP', parsOf_len]
 have hPr : ∀ x ∈ P', 1 ≤ x ∧ x ≤ 8 ∧ x ≤ (G : Int) := by rw [eP']; exact parsOf_range hg1 _ _
 rw [← eP'] at s5
 rw [← eP']
 simp only [ptrTo, pend, pend0, Pd.old, pendU, pendU0, Nat.testBit, oxh, simprocAttr]
 refine hLL _ _ ?_
 refine fg7 (fun R => ?_)
 have gm5 := (s5.mv 1).get
 refine sr (fun LL hLL => ?_)
 simp only [ptrTo, pend, pend0, Pd.old, pendU, pendU0, Nat.testBit, oxh, simprocAttr, gm5]
 refine copyMan_ok id qa O' qc la LI lc ra RR rc ea EE ec _ (fun h s => (s.mv 2).rs icell.len) (RdN.of_base mr.l) (RdN.of_base mr.r) (RdN.of_base re) (by omega) (by omega) (by omega) (by omega) hsl hsr hE7 s5 _ fun za zc ka kc ga gc xa xc h6 s6 => ?_
 have s7 := s6.push (.cells false 0 [.int .i64 0, .slice none 0 0, .slice none 0 0, .slice none 0 0, .slice none 0 0] 30)
 obtain ⟨b7, eb7⟩ : ∃ b, b = h6.next := ⟨_, rfl⟩
 rw [← eb7] at s7
 have g7 := s7.get
 have s8 := s7.set (.cells false 0 [.int .i64 id, .slice za O'.length zc, .slice ka LI.length kc, .slice ga RR.length gc, .slice xa EE.length xc] 30)
 obtain ⟨h8, e8⟩ : ∃ h8, h8 = (h6.push (.cells false 0 [.int .i64 0, .slice none 0 0, .slice none 0 0, .slice none 0 0, .slice none 0 0] 30)).set b7 (.cells false 0 [.int .i64 id, .slice za O'.length zc, .slice ka LI.length kc, .slice ga RR.length gc, .slice xa EE.length xc] 30) := ⟨_, rfl⟩
 rw [← e8] at s8
 simp only [ptrTo, pend, pend0, Pd.old, pendU, pendU0, Nat.testBit, oxh, simprocAttr, g7, ← eb7, ← e8]
 refine hLL _ _ ?_
 refine xp7 1 (by repeat (first | exact tput_le _ _ _ _ (.inr (by omega)) | refine tput_le _ _ _ _ (.inl ?_))) (fun R => ?_)
 simp only [ptrTo, oxs, simprocAttr, show List.range 1 = [0] from rfl]
 refine fg8 (fun R => ?_)
 refine sr (fun LL hLL => ?_)
 simp only [ptrTo, pend, pend0, Pd.old, pendU, pendU0, Nat.testBit, oxh, simprocAttr]
 refine copyInts_ok P' ya yc _ (fun h s => (s.mv 5).rs icell.len) (by omega) s8 _ fun va vc h9 s9 => ?_
 simp only [ptrTo, pend, pend0, Pd.old, pendU, pendU0, Nat.testBit, oxh, simprocAttr]
 refine hLL _ _ ?_
 refine xp8 1 (by repeat (first | exact tput_le _ _ _ _ (.inr (by omega)) | refine tput_le _ _ _ _ (.inl ?_))) (fun R => ?_)
 simp only [ptrTo, oxs, simprocAttr, show List.range 1 = [0] from rfl]
 refine fg9 (fun R => ?_)
 have s10 := (s9).sel 10 [3, 4, 5, 0, 1, 2, 6, 7, 8, 9]
 simp only [oxf] at s10
 obtain ⟨A1, A2, A3, A4, A5, A6, s11, rdA, back⟩ := open3 s10
 clear s1 s2 s3 s4 s5 s6 s7 s8 s9 s10 gm gs gm3 gs3 gm4 gs4 gm5 g7
 obtain ⟨FF, eFF⟩ : ∃ FF, FF = A1 :: A2 :: A3 :: A4 :: A5 :: A6 :: wn icell 1 3 va vc P' :: own b7 (.cells false 0 [.int .i64 id, .slice za O'.length zc, .slice ka LI.length kc, .slice ga RR.length gc, .slice xa EE.length xc] 30) :: wn icell 1 3 za zc O' :: wn icell 1 3 ya yc P' :: own bm (.cells false 0 [.int .i64 id, .slice qa O'.length qc, .slice la LI.length lc, .slice ra RR.length rc, .slice ea EE.length ec] 30) :: wn icell 1 3 qa qc O' :: [own bs (spB G a L.length c)] := ⟨_, rfl⟩
 have getb7 : ∀ h', St h h' FF → h'.get b7 = some (.cells false 0 [.int .i64 id, .slice za O'.length zc, .slice ka LI.length kc, .slice ga RR.length gc, .slice xa EE.length xc] 30) := fun h' s => by subst eFF; exact (s.mv 7).get
 have getbm : ∀ h', St h h' FF → h'.get bm = some (.cells false 0 [.int .i64 id, .slice qa O'.length qc, .slice la LI.length lc, .slice ra RR.length rc, .slice ea EE.length ec] 30) := fun h' s => by subst eFF; exact (s.mv 10).get
 have getbs : ∀ h', St h h' FF → h'.get bs = some (spB G a L.length c) := fun h' s => by subst eFF; exact (s.mv 12).get
 have rdv : Rd h FF icell 1 va P' := fun h' s => by subst eFF; exact (s.mv 6).rs icell.len
 have rdz : Rd h FF icell 1 za O' := fun h' s => by subst eFF; exact (s.mv 8).rs icell.len
 have rdy : Rd h FF icell 1 ya P' := fun h' s => by subst eFF; exact (s.mv 9).rs icell.len
 have rdq : Rd h FF icell 1 qa O' := fun h' s => by subst eFF; exact (s.mv 11).rs icell.len
 have nv : va = none → P' = [] ∧ vc = 0 := wnNil (s11.mv 6)
 have d12 : RdN h FF icell 1 ka LI ∧ RdN h FF rcell 3 ga RR := by subst eFF; exact ⟨(rdA _).1, (rdA _).2.1⟩
 rw [← eFF] at s11
 have hnew : ∀ K', (∀ rb tb S TT Q pa pc la lc ma mc h', RunJ G L O' P' RR L.length S TT Q → St h h' (runA rb tb G id P' LI S TT pa pc la lc (.slice ma Q.length mc) ++ wn mvc 5 77 ma mc Q :: FF) → K' (.pointer (some ⟨rb, 0, none⟩)) h') →
   wpF Tryz.prog (.fn 10) [.agg #[.int .i64 G, .slice a L.length c], .agg #[.int .i64 id, .slice za O'.length zc, .slice ka LI.length kc, .slice ga RR.length gc, .slice xa EE.length xc], .slice va P'.length vc] h9 K' := fun K' hk' => by
  rw [hEE]
  exact new_run (by omega) (by omega) a c L hn12 ⟨id, za, O', zc, ka, LI, kc, ga, RR, gc, xa, ES, xc⟩ va vc P' _ sp ⟨rdz, d12.1, d12.2⟩ ⟨by show O'.length < _; omega, bl, br', be, bl1, br1, be1⟩ rdv nv hOl hPl hOr hPr ⟨⟨hsn1, hsn2, hsn3, hsn4⟩, hsl, hsr⟩ hw s11 _ hk'
 have g7 := getb7 _ s11
 have gs := getbs _ s11
 refine sr (fun LL hLL => ?_)
 simp only [ptrTo, pend, pend0, Pd.old, pendU, pendU0, Nat.testBit, oxh, simprocAttr, g7, gs]
 refine hnew _ fun rb tb S TT Q ua uc la' lc' ma mc h10 hJ s12 => ?_
 rw [← mvV_zero] at s12
 have s13 : St h h10 (runS rb tb G id P' LI S TT ua uc la' lc' ma mc Q 0 FF) := s12
 simp only [ptrTo, pend, pend0, Pd.old, pendU, pendU0, Nat.testBit, oxh, simprocAttr]
 refine hLL _ _ ?_
 refine xp9 1 (by repeat (first | exact tput_le _ _ _ _ (.inr (by omega)) | refine tput_le _ _ _ _ (.inl ?_))) (fun R => ?_)
 simp only [ptrTo, oxs, simprocAttr, show List.range 1 = [0] from rfl]
 refine fg10 (fun R => ?_)
 have toFF : ∀ h', St h h' (runS rb tb G id P' LI S TT ua uc la' lc' ma mc Q 0 FF) → St h h' FF := fun h' s => s.drop.drop.drop.drop.drop.drop.drop
 have gs := getbs _ (toFF _ s13)
 have gm := getbm _ (toFF _ s13)
 refine sr (fun LL hLL => ?_)
 simp only [ptrTo, pend, pend0, Pd.old, pendU, pendU0, Nat.testBit, oxh, simprocAttr, gs, gm]
 refine refNew_ok (by omega) (by omega) a c L hn1 hn12 hi20 id qa O' qc la LI lc ra RR rc ea EE ec ya yc P' _ sp (fun h' s => rdq _ (toFF _ s)) (RdN.of_base mr.l) (RdN.of_base mr.r) (RdN.of_base re) (fun h' s => rdy _ (toFF _ s)) hOl hPl hOr hPr (by omega) (by omega) (by omega) hsl hsr hE7 hw s13 _ fun br sb sn se qa2 qc2 ka2 kc2 ga2 gc2 xa2 xc2 wa wc S3 S2 TT2 Q2 ta tc ma2 mc2 h11 hJ2 hS3 s14 => ?_
 rw [← mvV_zero] at s14
 simp only [ptrTo, pend, pend0, Pd.old, pendU, pendU0, Nat.testBit, oxh, simprocAttr]
 refine hLL _ _ ?_
 refine xp10 1 (by repeat (first | exact tput_le _ _ _ _ (.inr (by omega)) | refine tput_le _ _ _ _ (.inl ?_))) (fun R => ?_)
 simp only [ptrTo, oxs, simprocAttr, show List.range 1 = [0] from rfl]
 refine fg11 (fun R => ?_)
 have hQQ : Q2.length = Q.length := by
  have e1 := congrArg List.length hJ.all
  have e2 := congrArg List.length hJ2.all
  simp only [List.length_map] at e1 e2
  omega
 have hQ180 : Q.length ≤ 180 := by have := hJ.few; omega
 refine wpC_seq (sr fun LL hLL => ?_)
 simp only [ptrTo, oxs, simprocAttr]
 refine hLL _ _ ?_
 refine wpC_if ?_
 simp only [ptrTo, oxs, simprocAttr]
 refine wpC_skip ?_
 simp only [ptrTo, oxs, simprocAttr]
 refine fg11 (fun R => ?_)
 subst eFF
 have s15 := (s14).sel 30 [17, 18, 19, 20, 21, 22, 25, 0, 1, 2, 3, 4, 5, 6, 7, 8, 9, 10, 11, 12, 13, 14, 15, 16, 23, 24, 26, 27, 28, 29]
 simp only [oxf] at s15
 have s16 := back _ _ s15
 have s17 := (s16).sel 4 [3, 0, 1, 2]
 simp only [oxf] at s17
 have g7 := (s17.mv 22).get
 clear s11 s12 s13 s14 s15 s16 hnew getb7 getbm getbs rdv rdz rdy rdq toFF rdA back d12 gs gm
 refine sr (fun LL hLL => ?_)
 simp only [ptrTo, pend, pend0, Pd.old, pendU, pendU0, Nat.testBit, oxh, simprocAttr, g7]
 refine spoilMan_ok id za O' zc ka LI kc ga RR gc xa EE xc _ (by omega) (by omega) (by omega) (by omega) hsl hsr hE7 s17 _ fun h12 s18 => ?_
 simp only [ptrTo, pend, pend0, Pd.old, pendU, pendU0, Nat.testBit, oxh, simprocAttr]
 refine hLL _ _ ?_
 refine sr (fun LL hLL => ?_)
 simp only [ptrTo, pend, pend0, Pd.old, pendU, pendU0, Nat.testBit, oxh, simprocAttr]
 refine spoilInts_ok P' va vc _ (s18.mv 17) (by omega) _ fun V' h13 hV s19 => ?_
 have s20 := s19.drop
 simp only [ptrTo, pend, pend0, Pd.old, pendU, pendU0, Nat.testBit, oxh, simprocAttr]
 refine hLL _ _ ?_
 obtain ⟨F9, eF9⟩ : ∃ F9, F9 = own b7 (.cells false 0 [.int .i64 id, .slice za O'.length zc, .slice ka LI.length kc, .slice ga RR.length gc, .slice xa EE.length xc] 30) :: wn icell 1 3 ya yc P' :: own bm (.cells false 0 [.int .i64 id, .slice qa O'.length qc, .slice la LI.length lc, .slice ra RR.length rc, .slice ea EE.length ec] 30) :: wn icell 1 3 qa qc O' :: [own bs (spB G a L.length c)] := ⟨_, rfl⟩
 rw [← eF9] at s20
 clear s17 s18 s19 g7
 obtain ⟨LP, hLP⟩ : ∃ LP, TT2.map ptrs = LP := ⟨_, rfl⟩
 rw [hLP] at s20 hS3
 have s21 : St h h13 (rrunS br G sb sn se id qa2 O' qc2 ka2 LI kc2 ga2 RR gc2 xa2 EE xc2 wa P' wc ta S3 tc LP ma2 mc2 Q2 TT2 0 (runS rb tb G id P' LI S TT ua uc la' lc' ma mc Q 0 (F9))) := s20
 clear s20
 refine wpC_seq ?_
 refine sr (fun LL hLL => ?_)
 simp only [ptrTo, oxs, simprocAttr]
 refine hLL _ _ ?_
 refine xp11 1 (by repeat (first | exact tput_le _ _ _ _ (.inr (by omega)) | refine tput_le _ _ _ _ (.inl ?_))) (fun R => ?_)
 simp only [ptrTo, oxs, simprocAttr, show List.range 1 = [0] from rfl]
 refine fg12 (fun R => ?_)
 refine wpC_block ?_
 refine wpC_loop (fun m T h' => ∃ (k : Nat) (TT TT2 : List (List (Nat × Tb))) (u0 u1 u2 u3 u4 u5 u6 u7 u8 : Value) (R : List Value), m + k = Q.length ∧ RunK G L P' RR S TT (Q.drop k) ∧ RunK G L P' RR S2 TT2 (Q2.drop k) ∧ TT2.map ptrs = LP ∧ St h h' (rrunS br G sb sn se id qa2 O' qc2 ka2 LI kc2 ga2 RR gc2 xa2 EE xc2 wa P' wc ta S3 tc LP ma2 mc2 Q2 TT2 k (runS rb tb G id P' LI S TT ua uc la' lc' ma mc Q k (F9))) ∧ T = u0 :: u1 :: u2 :: u3 :: u4 :: u5 :: u6 :: u7 :: u8 :: .pointer (some ⟨rb, 0, none⟩) :: .pointer (some ⟨br, 0, none⟩) :: .int .i64 k :: R) ?_ Q.length _ _ ⟨0, TT, TT2, _, _, _, _, _, _, _, _, _, R, by omega, hJ.toK, hJ2.toK, hLP, s21, rfl⟩
 clear s21 hLP hJ hJ2
 rintro m T h' ⟨k, TT, TT2, u0, u1, u2, u3, u4, u5, u6, u7, u8, R, hmk, hK, hK2, hLP, s, rfl⟩
 refine wpC_seq (sr fun LL hLL => ?_)
 simp only [ptrTo, oxs, simprocAttr, eq_true (show (k : Int) < 300 by omega)]
 refine hLL _ _ ?_
 refine wpC_if ?_
 simp only [ptrTo, oxs, simprocAttr]
 refine wpC_skip ?_
 simp only [ptrTo, oxs, simprocAttr]
 refine fg12 (fun R => ?_)
 refine wpC_seq (wpC_block ?_)
 have sA : St h h' (runS rb tb G id P' LI S TT ua uc la' lc' ma mc Q k (rrunS br G sb sn se id qa2 O' qc2 ka2 LI kc2 ga2 RR gc2 xa2 EE xc2 wa P' wc ta S3 tc LP ma2 mc2 Q2 TT2 k (F9))) := s.sel 17 [10, 11, 12, 13, 14, 15, 16, 0, 1, 2, 3, 4, 5, 6, 7, 8, 9]
 by_cases hkQ : k < Q.length
 ·refine sr (fun LL hLL => ?_)
  simp only [ptrTo, pend, pend0, Pd.old, pendU, pendU0, Nat.testBit, oxh, simprocAttr]
  refine man_no _ sA hkQ _ fun h1 sB => ?_
  have sC := sB.push (.cells false 0 [.int .i64 0, .slice none 0 0, .slice none 0 0, .slice none 0 0, .slice none 0 0] 30)
  obtain ⟨b12, eb12⟩ : ∃ b, b = h1.next := ⟨_, rfl⟩
  rw [← eb12] at sC
  have gC := sC.get
  have sD := sC.set (.cells false 0 [.int .i64 0, .slice none 0 0, .slice none 0 0, .slice none 0 0, .slice none 0 0] 30)
  obtain ⟨h2, e2⟩ : ∃ h2, h2 = (h1.push (.cells false 0 [.int .i64 0, .slice none 0 0, .slice none 0 0, .slice none 0 0, .slice none 0 0] 30)).set b12 (.cells false 0 [.int .i64 0, .slice none 0 0, .slice none 0 0, .slice none 0 0, .slice none 0 0] 30) := ⟨_, rfl⟩
  rw [← e2] at sD
  simp only [ptrTo, pend, pend0, Pd.old, pendU, pendU0, Nat.testBit, oxh, simprocAttr, gC, ← eb12, ← e2]
  refine hLL _ _ ?_
  refine xp12 2 (by repeat (first | exact tput_le _ _ _ _ (.inr (by omega)) | refine tput_le _ _ _ _ (.inl ?_))) (fun R => ?_)
  simp only [ptrTo, oxs, simprocAttr, show List.range 2 = [0, 1] from rfl]
  refine fg14 (fun R => ?_)
  have sE : St h h2 (rrunS br G sb sn se id qa2 O' qc2 ka2 LI kc2 ga2 RR gc2 xa2 EE xc2 wa P' wc ta S3 tc LP ma2 mc2 Q2 TT2 k (own b12 (.cells false 0 [.int .i64 0, .slice none 0 0, .slice none 0 0, .slice none 0 0, .slice none 0 0] 30) :: runS rb tb G id P' LI S TT ua uc la' lc' ma mc Q k (F9))) := sD.sel 18 [8, 9, 10, 11, 12, 13, 14, 15, 16, 17, 0, 1, 2, 3, 4, 5, 6, 7]
  refine sr (fun LL hLL => ?_)
  simp only [ptrTo, pend, pend0, Pd.old, pendU, pendU0, Nat.testBit, oxh, simprocAttr]
  refine rman_no _ sE (by omega) _ fun h3 sF => ?_
  have sG := sF.push (.cells false 0 [.int .i64 0, .slice none 0 0, .slice none 0 0, .slice none 0 0, .slice none 0 0] 30)
  obtain ⟨b14, eb14⟩ : ∃ b, b = h3.next := ⟨_, rfl⟩
  rw [← eb14] at sG
  have gG := sG.get
  have sH := sG.set (.cells false 0 [.int .i64 0, .slice none 0 0, .slice none 0 0, .slice none 0 0, .slice none 0 0] 30)
  obtain ⟨h4, e4⟩ : ∃ h4, h4 = (h3.push (.cells false 0 [.int .i64 0, .slice none 0 0, .slice none 0 0, .slice none 0 0, .slice none 0 0] 30)).set b14 (.cells false 0 [.int .i64 0, .slice none 0 0, .slice none 0 0, .slice none 0 0, .slice none 0 0] 30) := ⟨_, rfl⟩
  rw [← e4] at sH
  simp only [ptrTo, pend, pend0, Pd.old, pendU, pendU0, Nat.testBit, oxh, simprocAttr, gG, ← eb14, ← e4]
  refine hLL _ _ ?_
  refine xp14 2 (by repeat (first | exact tput_le _ _ _ _ (.inr (by omega)) | refine tput_le _ _ _ _ (.inl ?_))) (fun R => ?_)
  simp only [ptrTo, oxs, simprocAttr, show List.range 2 = [0, 1] from rfl]
  refine fg16 (fun R => ?_)
  have g12 := (sH.mv 11).get
  have g14 := sH.get
  clear sB sC sD sE sF sG gC gG sA s
  refine wpC_seq (sr fun LL hLL => ?_)
  simp only [ptrTo, pend, pend0, Pd.old, pendU, pendU0, Nat.testBit, oxh, simprocAttr, g12, g14, neBo, bne_self_eq_false]
  refine sameMan_ok 0 none ([] : List Int) 0 none ([] : List (List Int)) 0 none ([] : List (List Rw)) 0 none 0 none 0 none 0 none 0 none 0 _ (fun _ _ => .inl rfl) (fun _ _ => ⟨[], rfl, .inl rfl, fun i hi _ => by simp at hi⟩) (fun _ _ => ⟨[], rfl, .inl rfl, fun i hi _ => by simp at hi⟩) (fun _ _ => .inl rfl) (fun _ _ => ⟨[], rfl, .inl rfl, fun i hi _ => by simp at hi⟩) (fun _ _ => ⟨[], rfl, .inl rfl, fun i hi _ => by simp at hi⟩) (by simp) (by simp) (by simp) (by simp) (by simp) sH _ fun h5 sI => ?_
  have g12' := (sI.mv 11).get
  have g14' := sI.get
  simp only [ptrTo, pend, pend0, Pd.old, pendU, pendU0, Nat.testBit, oxh, simprocAttr, g12', g14', Bool.not_true]
  have sJ : St h h5 (runS rb tb G id P' LI S TT ua uc la' lc' ma mc Q k (own b14 (.cells false 0 [.int .i64 0, .slice none 0 0, .slice none 0 0, .slice none 0 0, .slice none 0 0] 30) :: rrunS br G sb sn se id qa2 O' qc2 ka2 LI kc2 ga2 RR gc2 xa2 EE xc2 wa P' wc ta S3 tc LP ma2 mc2 Q2 TT2 k (own b12 (.cells false 0 [.int .i64 0, .slice none 0 0, .slice none 0 0, .slice none 0 0, .slice none 0 0] 30) :: F9))) := sI.sel 19 [12, 13, 14, 15, 16, 17, 18, 0, 1, 2, 3, 4, 5, 6, 7, 8, 9, 10, 11]
  refine left_ok _ sJ _ ?_
  simp only [ptrTo, pend, pend0, Pd.old, pendU, pendU0, Nat.testBit, oxh, simprocAttr, g12', g14']
  have sK : St h h5 (rrunS br G sb sn se id qa2 O' qc2 ka2 LI kc2 ga2 RR gc2 xa2 EE xc2 wa P' wc ta S3 tc LP ma2 mc2 Q2 TT2 k (runS rb tb G id P' LI S TT ua uc la' lc' ma mc Q k (own b12 (.cells false 0 [.int .i64 0, .slice none 0 0, .slice none 0 0, .slice none 0 0, .slice none 0 0] 30) :: F9))) := sI.sel 19 [1, 2, 3, 4, 5, 6, 7, 8, 9, 10, 12, 13, 14, 15, 16, 17, 18, 11]
  refine rleft_ok _ sK _ ?_
  rw [hQQ]
  simp only [ptrTo, pend, pend0, Pd.old, pendU, pendU0, Nat.testBit, oxh, simprocAttr, g12', g14', ne_eq, not_true_eq_false]
  refine hLL _ _ ?_
  refine wpC_if ?_
  simp only [ptrTo, oxs, simprocAttr]
  refine wpC_skip ?_
  simp only [ptrTo, oxs, simprocAttr]
  refine fg16 (fun R => ?_)
  have g12'' := (sK.mv 17).get
  refine sr (fun LL hLL => ?_)
  simp only [ptrTo, pend, pend0, Pd.old, pendU, pendU0, Nat.testBit, oxh, simprocAttr, g12'']
  have sL := ((sK.nest_nil (f := r2cell) (k := 2) (e := 130) (E := 110)).nest_nil (f := rcell) (k := 3) (e := 52) (E := 48)).nest_nil (f := icell) (k := 1) (e := 3) (E := 25) |>.wn_nil (f := icell) (k := 1) (e := 3)
  refine spoilMan_ok 0 none [] 0 none [] 0 none [] 0 none [] 0 _ (by simp) (by simp) (by simp) (by simp) (by simp) (by simp) (by simp) sL _ fun h6 sM => ?_
  simp only [ptrTo, pend, pend0, Pd.old, pendU, pendU0, Nat.testBit, oxh, simprocAttr]
  refine hLL _ _ ?_
  have sN : St h h6 (runS rb tb G id P' LI S TT ua uc la' lc' ma mc Q k (rrunS br G sb sn se id qa2 O' qc2 ka2 LI kc2 ga2 RR gc2 xa2 EE xc2 wa P' wc ta S3 tc LP ma2 mc2 Q2 TT2 k (own b12 (.cells false 0 [.int .i64 0, .slice none 0 0, .slice none 0 0, .slice none 0 0, .slice none 0 0] 30) :: F9))) := sM.sel 18 [10, 11, 12, 13, 14, 15, 16, 0, 1, 2, 3, 4, 5, 6, 7, 8, 9, 17]
  refine sr (fun LL hLL => ?_)
  simp only [ptrTo, pend, pend0, Pd.old, pendU, pendU0, Nat.testBit, oxh, simprocAttr]
  refine step_ok hPl hsr hw hK hkQ (by omega) _ sN _ fun TT' h7 hK' sO => ?_
  simp only [ptrTo, pend, pend0, Pd.old, pendU, pendU0, Nat.testBit, oxh, simprocAttr]
  refine hLL _ _ ?_
  refine xp16 1 (by repeat (first | exact tput_le _ _ _ _ (.inr (by omega)) | refine tput_le _ _ _ _ (.inl ?_))) (fun R => ?_)
  simp only [ptrTo, oxs, simprocAttr, show List.range 1 = [0] from rfl]
  refine fg17 (fun R => ?_)
  have sP : St h h7 (rrunS br G sb sn se id qa2 O' qc2 ka2 LI kc2 ga2 RR gc2 xa2 EE xc2 wa P' wc ta S3 tc LP ma2 mc2 Q2 TT2 k (runS rb tb G id P' LI S TT' ua uc la' lc' ma mc Q (k + 1) (own b12 (.cells false 0 [.int .i64 0, .slice none 0 0, .slice none 0 0, .slice none 0 0, .slice none 0 0] 30) :: F9))) := sO.sel 18 [7, 8, 9, 10, 11, 12, 13, 14, 15, 16, 0, 1, 2, 3, 4, 5, 6, 17]
  refine wpC_seq (sr fun LL hLL => ?_)
  simp only [ptrTo, pend, pend0, Pd.old, pendU, pendU0, Nat.testBit, oxh, simprocAttr]
  refine rstep_ok hPl hsr hw hK2 hLP hS3 (by omega) (by omega) _ sP _ fun TT2' h8 hK2' hLP' sQ => ?_
  simp only [ptrTo, pend, pend0, Pd.old, pendU, pendU0, Nat.testBit, oxh, simprocAttr, neBo, bne_self_eq_false]
  refine hLL _ _ ?_
  refine wpC_if ?_
  simp only [ptrTo, oxs, simprocAttr]
  refine wpC_skip ?_
  simp only [ptrTo, oxs, simprocAttr]
  refine fg17 (fun R => ?_)
  refine sr (fun LL hLL => ?_)
  simp only [ptrTo, oxs, simprocAttr, Bool.not_true]
  refine hLL _ _ ?_
  refine wpC_if ?_
  simp only [ptrTo, oxs, simprocAttr]
  refine wpC_skip ?_
  simp only [ptrTo, oxs, simprocAttr]
  refine fg12 (fun R => ?_)
  refine rg (fun LL hLL => ?_)
  simp only [ptrTo, oxs, simprocAttr, wsucc (show k < 9223372036854775807 by omega)]
  refine hLL _ _ ?_
  simp only [ptrTo, oxs, simprocAttr]
  exact ⟨m - 1, by omega, k + 1, TT', TT2', _, _, _, _, _, _, _, _, _, _, by omega, hK', hK2', hLP', sQ.sel 18 [0, 1, 2, 3, 4, 5, 6, 7, 8, 9, 10, 11, 12, 13, 14, 15, 16], rfl⟩
 ·have hkl : k = Q.length := by omega
  obtain ⟨OR, eOR⟩ : ∃ OR, OR = outR G L RR := ⟨_, rfl⟩
  have hORl : OR.length = L.length := by rw [eOR]; exact outR_len G L RR
  have hORlen : ∀ l ∈ OR, l.length ≤ 2000 := by rw [eOR]; exact outR_lens hsr
  refine sr (fun LL hLL => ?_)
  simp only [ptrTo, pend, pend0, Pd.old, pendU, pendU0, Nat.testBit, oxh, simprocAttr]
  refine man_ok hn12 (by omega) (by omega) hPl hPr (by omega) hsl hsr hw hK (by omega) _ sA _ fun p1 p2 l1 l2 r1 r2 h1 sB => ?_
  rw [← eOR] at sB ⊢
  have sC := sB.push (.cells false 0 [.int .i64 0, .slice none 0 0, .slice none 0 0, .slice none 0 0, .slice none 0 0] 30)
  obtain ⟨b12, eb12⟩ : ∃ b, b = h1.next := ⟨_, rfl⟩
  rw [← eb12] at sC
  have gC := sC.get
  have sD := sC.set (.cells false 0 [.int .i64 (IntKind.i64.wrap (id + 1)), .slice p1 P'.length p2, .slice l1 LI.length l2, .slice r1 OR.length r2, .slice none 0 0] 30)
  obtain ⟨h2, e2⟩ : ∃ h2, h2 = (h1.push (.cells false 0 [.int .i64 0, .slice none 0 0, .slice none 0 0, .slice none 0 0, .slice none 0 0] 30)).set b12 (.cells false 0 [.int .i64 (IntKind.i64.wrap (id + 1)), .slice p1 P'.length p2, .slice l1 LI.length l2, .slice r1 OR.length r2, .slice none 0 0] 30) := ⟨_, rfl⟩
  rw [← e2] at sD
  simp only [ptrTo, pend, pend0, Pd.old, pendU, pendU0, Nat.testBit, oxh, simprocAttr, gC, ← eb12, ← e2]
  refine hLL _ _ ?_
  refine xp12 2 (by repeat (first | exact tput_le _ _ _ _ (.inr (by omega)) | refine tput_le _ _ _ _ (.inl ?_))) (fun R => ?_)
  simp only [ptrTo, oxs, simprocAttr, show List.range 2 = [0, 1] from rfl]
  refine fg14 (fun R => ?_)
  have sE : St h h2 (rrunS br G sb sn se id qa2 O' qc2 ka2 LI kc2 ga2 RR gc2 xa2 EE xc2 wa P' wc ta S3 tc LP ma2 mc2 Q2 TT2 k (own b12 (.cells false 0 [.int .i64 (IntKind.i64.wrap (id + 1)), .slice p1 P'.length p2, .slice l1 LI.length l2, .slice r1 OR.length r2, .slice none 0 0] 30) :: wn icell 1 3 p1 p2 P' :: nest icell 1 3 25 l1 l2 LI :: nest rcell 3 52 48 r1 r2 OR :: runS rb tb G id P' LI S TT ua uc la' lc' ma mc Q k (F9))) := sD.sel 21 [11, 12, 13, 14, 15, 16, 17, 18, 19, 20, 0, 1, 2, 3, 4, 5, 6, 7, 8, 9, 10]
  refine sr (fun LL hLL => ?_)
  simp only [ptrTo, pend, pend0, Pd.old, pendU, pendU0, Nat.testBit, oxh, simprocAttr]
  refine rman_ok hn12 (by omega) (by omega) hOl hPl hPr (by omega) (by omega) (by omega) hsl hsr hE7 hw hK2 hLP hS3 (by omega) _ sE _ fun p3 p4 l3 l4 r3 r4 h3 sF => ?_
  rw [← eOR] at sF ⊢
  have sG := sF.push (.cells false 0 [.int .i64 0, .slice none 0 0, .slice none 0 0, .slice none 0 0, .slice none 0 0] 30)
  obtain ⟨b14, eb14⟩ : ∃ b, b = h3.next := ⟨_, rfl⟩
  rw [← eb14] at sG
  have gG := sG.get
  have sH := sG.set (.cells false 0 [.int .i64 (IntKind.i64.wrap (id + 1)), .slice p3 P'.length p4, .slice l3 LI.length l4, .slice r3 OR.length r4, .slice none 0 0] 30)
  obtain ⟨h4, e4⟩ : ∃ h4, h4 = (h3.push (.cells false 0 [.int .i64 0, .slice none 0 0, .slice none 0 0, .slice none 0 0, .slice none 0 0] 30)).set b14 (.cells false 0 [.int .i64 (IntKind.i64.wrap (id + 1)), .slice p3 P'.length p4, .slice l3 LI.length l4, .slice r3 OR.length r4, .slice none 0 0] 30) := ⟨_, rfl⟩
  rw [← e4] at sH
  simp only [ptrTo, pend, pend0, Pd.old, pendU, pendU0, Nat.testBit, oxh, simprocAttr, gG, ← eb14, ← e4]
  refine hLL _ _ ?_
  refine xp14 2 (by repeat (first | exact tput_le _ _ _ _ (.inr (by omega)) | refine tput_le _ _ _ _ (.inl ?_))) (fun R => ?_)
  simp only [ptrTo, oxs, simprocAttr, show List.range 2 = [0, 1] from rfl]
  refine fg16 (fun R => ?_)
  have g12 := (sH.mv 14).get
  have g14 := sH.get
  clear sB sC sD sE sF sG gC gG sA s
  refine wpC_seq (sr fun LL hLL => ?_)
  simp only [ptrTo, pend, pend0, Pd.old, pendU, pendU0, Nat.testBit, oxh, simprocAttr, g12, g14, neBo, bne_self_eq_false]
  refine sameMan_ok (IntKind.i64.wrap (id + 1)) p1 P' p2 l1 LI l2 r1 OR r2 none 0 p3 p4 l3 l4 r3 r4 none 0 _ (fun _ s => (s.mv 15).rs icell.len) (fun _ s => (s.mv 16).rsn icell.len) (fun _ s => (s.mv 17).rsn rcell.len) (fun _ s => (s.mv 1).rs icell.len) (fun _ s => (s.mv 2).rsn icell.len) (fun _ s => (s.mv 3).rsn rcell.len) (by omega) (by omega) (by omega) hsl hORlen sH _ fun h5 sI => ?_
  have g12' := (sI.mv 14).get
  have g14' := sI.get
  simp only [ptrTo, pend, pend0, Pd.old, pendU, pendU0, Nat.testBit, oxh, simprocAttr, g12', g14', Bool.not_true]
  have sJ : St h h5 (runS rb tb G id P' LI S TT ua uc la' lc' ma mc Q k (own b14 (.cells false 0 [.int .i64 (IntKind.i64.wrap (id + 1)), .slice p3 P'.length p4, .slice l3 LI.length l4, .slice r3 OR.length r4, .slice none 0 0] 30) :: wn icell 1 3 p3 p4 P' :: nest icell 1 3 25 l3 l4 LI :: nest rcell 3 52 48 r3 r4 OR :: rrunS br G sb sn se id qa2 O' qc2 ka2 LI kc2 ga2 RR gc2 xa2 EE xc2 wa P' wc ta S3 tc LP ma2 mc2 Q2 TT2 k (own b12 (.cells false 0 [.int .i64 (IntKind.i64.wrap (id + 1)), .slice p1 P'.length p2, .slice l1 LI.length l2, .slice r1 OR.length r2, .slice none 0 0] 30) :: wn icell 1 3 p1 p2 P' :: nest icell 1 3 25 l1 l2 LI :: nest rcell 3 52 48 r1 r2 OR :: F9))) := sI.sel 25 [18, 19, 20, 21, 22, 23, 24, 0, 1, 2, 3, 4, 5, 6, 7, 8, 9, 10, 11, 12, 13, 14, 15, 16, 17]
  refine left_ok _ sJ _ ?_
  simp only [ptrTo, pend, pend0, Pd.old, pendU, pendU0, Nat.testBit, oxh, simprocAttr, g12', g14']
  have sK : St h h5 (rrunS br G sb sn se id qa2 O' qc2 ka2 LI kc2 ga2 RR gc2 xa2 EE xc2 wa P' wc ta S3 tc LP ma2 mc2 Q2 TT2 k (runS rb tb G id P' LI S TT ua uc la' lc' ma mc Q k (own b14 (.cells false 0 [.int .i64 (IntKind.i64.wrap (id + 1)), .slice p3 P'.length p4, .slice l3 LI.length l4, .slice r3 OR.length r4, .slice none 0 0] 30) :: own b12 (.cells false 0 [.int .i64 (IntKind.i64.wrap (id + 1)), .slice p1 P'.length p2, .slice l1 LI.length l2, .slice r1 OR.length r2, .slice none 0 0] 30) :: wn icell 1 3 p1 p2 P' :: nest icell 1 3 25 l1 l2 LI :: nest rcell 3 52 48 r1 r2 OR :: F9))) := sI.sel 25 [4, 5, 6, 7, 8, 9, 10, 11, 12, 13, 18, 19, 20, 21, 22, 23, 24, 0, 14, 15, 16, 17]
  refine rleft_ok _ sK _ ?_
  rw [hQQ]
  simp only [ptrTo, pend, pend0, Pd.old, pendU, pendU0, Nat.testBit, oxh, simprocAttr, g12', g14', ne_eq, not_true_eq_false]
  refine hLL _ _ ?_
  refine wpC_if ?_
  simp only [ptrTo, oxs, simprocAttr]
  refine wpC_skip ?_
  simp only [ptrTo, oxs, simprocAttr]
  refine fg16 (fun R => ?_)
  have g12'' := (sK.mv 18).get
  refine sr (fun LL hLL => ?_)
  simp only [ptrTo, pend, pend0, Pd.old, pendU, pendU0, Nat.testBit, oxh, simprocAttr, g12'']
  have sL0 : St h h5 (nest r2cell 2 130 110 none 0 [] :: _) := (sK.sel 22 [19, 20, 21, 0, 1, 2, 3, 4, 5, 6, 7, 8, 9, 10, 11, 12, 13, 14, 15, 16, 17]).nest_nil
  have sL := sL0.sel 4 [1, 2, 3, 0]
  refine spoilMan_ok (IntKind.i64.wrap (id + 1)) p1 P' p2 l1 LI l2 r1 OR r2 none [] 0 _ (by omega) (by omega) (by omega) (by simp) hsl hORlen (by simp) sL _ fun h6 sM => ?_
  simp only [ptrTo, pend, pend0, Pd.old, pendU, pendU0, Nat.testBit, oxh, simprocAttr]
  refine hLL _ _ ?_
  have sN : St h h6 (runS rb tb G id P' LI S TT ua uc la' lc' ma mc Q k (rrunS br G sb sn se id qa2 O' qc2 ka2 LI kc2 ga2 RR gc2 xa2 EE xc2 wa P' wc ta S3 tc LP ma2 mc2 Q2 TT2 k (F9))) := sM.sel 18 [10, 11, 12, 13, 14, 15, 16, 0, 1, 2, 3, 4, 5, 6, 7, 8, 9]
  refine sr (fun LL hLL => ?_)
  simp only [ptrTo, pend, pend0, Pd.old, pendU, pendU0, Nat.testBit, oxh, simprocAttr]
  refine step_no _ sN (by omega) _ ?_
  simp only [ptrTo, pend, pend0, Pd.old, pendU, pendU0, Nat.testBit, oxh, simprocAttr]
  refine hLL _ _ ?_
  refine xp16 1 (by repeat (first | exact tput_le _ _ _ _ (.inr (by omega)) | refine tput_le _ _ _ _ (.inl ?_))) (fun R => ?_)
  simp only [ptrTo, oxs, simprocAttr, show List.range 1 = [0] from rfl]
  refine fg17 (fun R => ?_)
  have sP : St h h6 (rrunS br G sb sn se id qa2 O' qc2 ka2 LI kc2 ga2 RR gc2 xa2 EE xc2 wa P' wc ta S3 tc LP ma2 mc2 Q2 TT2 k (runS rb tb G id P' LI S TT ua uc la' lc' ma mc Q k (F9))) := sN.sel 17 [7, 8, 9, 10, 11, 12, 13, 14, 15, 16, 0, 1, 2, 3, 4, 5, 6]
  refine wpC_seq (sr fun LL hLL => ?_)
  simp only [ptrTo, pend, pend0, Pd.old, pendU, pendU0, Nat.testBit, oxh, simprocAttr]
  refine rstep_no _ sP (by omega) _ ?_
  simp only [ptrTo, pend, pend0, Pd.old, pendU, pendU0, Nat.testBit, oxh, simprocAttr, neBo, bne_self_eq_false]
  refine hLL _ _ ?_
  refine wpC_if ?_
  simp only [ptrTo, oxs, simprocAttr]
  refine wpC_skip ?_
  simp only [ptrTo, oxs, simprocAttr]
  refine fg17 (fun R => ?_)
  refine sr (fun LL hLL => ?_)
  simp only [ptrTo, oxs, simprocAttr, Bool.not_false]
  refine hLL _ _ ?_
  refine wpC_if ?_
  simp only [ptrTo, oxs, simprocAttr]
  refine sr (fun LL hLL => ?_)
  simp only [ptrTo, pend, pend0, Pd.old, pendU, pendU0, Nat.testBit, oxh, simprocAttr]
  refine wpF_ext rfl ?_
  simp only [ptrTo, pend, pend0, Pd.old, pendU, pendU0, Nat.testBit, oxh, simprocAttr]
  refine hLL _ _ ?_
  refine wpC_ret (out_ret ?_)
  simp only [ptrTo, oxs, simprocAttr]
  exact hk _ sP.base
end Go.Proofs

namespace Go.Proofs
open Go Go.Ox
set_option maxRecDepth 100000
set_option maxHeartbeats 1000000
def ManE (h : AHeap) (xs : List Value) (m : MfX × List (List Rc2)) : Prop := ManR h xs m.1 ∧ RsN r2cell 2 h m.1.ea m.2 ∧ m.1.ES.map Sv.len = m.2.map List.length
section
variable {H : Type} {enc : TypeId × Value → H} {W : World}
theorem impManE : IsImpW enc Tryz.prog W 30 ManE := by
 refine IsImpW.conv (IsImpW.struct (t := 30) (n := 5) Tryz.underlying30 (by rfl) (FI.cons (k := 1) (n := 4) rfl rfl impI (FI.cons (k := 1) (n := 3) rfl rfl impIs (FI.cons (k := 1) (n := 2) rfl rfl (IsImpW.slice (t := 26) (e := 25) (k := 0) (by rfl) (by rfl) impIs) (FI.cons (k := 1) (n := 1) rfl rfl (IsImpW.slice (t := 27) (e := 48) (k := 0) (by rfl) (by rfl) impRws) (FI.cons (k := 1) (n := 0) rfl rfl (IsImpW.slice (t := 28) (e := 110) (k := 0) (by rfl) (by rfl) impRcs) FI.nil)))))) ?_ (fun h h' xs a ⟨⟨h1, h2, h3⟩, h4, h5⟩ hf => ⟨⟨h1, h2.fr hf, h3⟩, h4.fr hf, h5⟩)
 rintro h xs ⟨no, P, LI, RR, EE, u⟩ ⟨u1, v1, rfl, h1, u2, v2, rfl, h2, u3, v3, rfl, h3, u4, v4, rfl, h4, u5, v5, rfl, h5, h6⟩
 obtain ⟨pa, pc, e2, _⟩ := id h2.1
 simp only at e2
 rw [e2] at h2
 obtain ⟨a', c', e2', rp, bp⟩ := ints_arg h2
 cases e2'
 obtain ⟨h3, b3⟩ := h3
 obtain ⟨la, lc, e3, _⟩ := id h3
 simp only at e3 b3
 rw [e3] at h3
 obtain ⟨a', c', e3', rl, _, _, _, bl1⟩ := sl_rsn (f := icell) icell.len (fun _ _ _ k => k.1) h3
 cases e3'
 obtain ⟨h4, b4⟩ := h4
 obtain ⟨ra, rc, e4, _⟩ := id h4
 simp only at e4 b4
 rw [e4] at h4
 obtain ⟨a', c', e4', rr, _, _, _, br1⟩ := sl_rsn (f := rcell) rcell.len (fun _ _ _ k => k.1) h4
 cases e4'
 obtain ⟨h5, b5⟩ := h5
 obtain ⟨ea, ec, e5, _⟩ := id h5
 simp only at e5 b5
 rw [e5] at h5
 obtain ⟨a', c', e5', re, _, _, _, be1⟩ := sl_rsn (f := r2cell) (k := 2) (fun _ => rfl) (fun _ _ _ k => k) h5
 cases e5'
 have re0 := re
 obtain ⟨ES, hES, re1, _⟩ := re
 have hESl : ES.length = EE.length := by simpa using congrArg List.length hES
 rw [bytes25] at b3
 rw [bytes42] at b4
 rw [bytes101] at b5
 simp only [bytes3, reachBytes] at bl1 b3
 simp only [bytes46, reachBytes] at br1 b4
 simp only [bytes119, reachBytes] at be1 b5
 refine ⟨(⟨no, pa, P, pc, la, LI, lc, ra, RR, rc, ea, ES, ec⟩, EE), ⟨?_, ⟨rp, rl, rr, re1⟩, ⟨bp, ?_, ?_, ?_, ?_, ?_, ?_⟩, ?_⟩, re0, hES⟩
 ·rw [h1.1, e2, e3, e4, e5, h6, ← hESl]; rfl
 ·simp only; omega
 ·simp only; omega
 ·simp only; omega
 ·intro x hx; have := bl1 x hx; omega
 ·intro x hx; have := br1 x hx; omega
 ·intro x hx
  have hx' : x ∈ ES := hx
  obtain ⟨i, hi, rfl⟩ := List.mem_iff_getElem.1 hx'
  have hi2 : i < EE.length := by omega
  have e := lens_at hES i hi hi2
  have := be1 EE[i] (List.getElem_mem _)
  simp only at e
  omega
 ·intro l hl r hr
  obtain ⟨ys, hys⟩ := sl_each h4 l hl
  obtain ⟨zs, hzs⟩ := sl_each hys.1 r hr
  exact hzs.2
end
theorem oxLaw3 (s : Int × Option Addr × List OpX × Nat) (x : List Value) (m : MfX × List (List Rc2)) (y : List Value) (P : List Int) (z : Value) (h : AHeap) (hs : SpecR h x s) (hm : ManE h y m) (hp : SlRb Tryz.prog (IntR .i64) 3 h [z] P) : wpF Tryz.prog (.fn 3) [.agg x.toArray, .agg y.toArray, z] h fun v _ => v = .bool true := by
 obtain ⟨a, c, rfl, rp, bp⟩ := ints_arg hp
 obtain ⟨rfl, sp⟩ := hs
 obtain ⟨⟨rfl, mr, mb, hw⟩, re, hE⟩ := hm
 exact runs_body s.1 s.2.1 s.2.2.2 s.2.2.1 m.1 m.2 a c P h sp mr mb re hE hw rp bp _ fun _ _ => rfl
end Go.Proofs

namespace Go.Proofs
open Go Go.Ox
set_option maxRecDepth 100000
set_option maxHeartbeats 8000000
theorem steps_body (g : Int) (a : Option Addr) (c : Nat) (L : List OpX) (m : MfX) (pa2 : Option Addr) (pc2 : Nat) (P2 : List Int) (h : AHeap) (sp : SpR h a L) (mr : MfR h m) (mb : MfB m) (hw : ∀ l ∈ m.RR, ∀ r ∈ l, (Lit.int .i64 r.1).wf = true) (rp : Rs icell 1 h pa2 P2) (hp : P2.length < 17592186045000) (K : Value → AHeap → Prop) (hk : ∀ h', Fr h h' [] → K (.bool true) h') :
  wpF Tryz.prog (.fn 24) [.agg #[.int .i64 g, .slice a L.length c], .agg m.cells.toArray, .slice pa2 P2.length pc2] h K := by
 have s := St.init h
 refine wpF_fun 118 [.tmp 6] Tryz.func24 rfl rfl rfl rfl ?_
 obtain ⟨bs, ebs⟩ : ∃ b, b = h.next := ⟨_, rfl⟩
 obtain ⟨bm, ebm⟩ : ∃ b, b = bs + 1 := ⟨_, rfl⟩
 have s1 := (s.push (spB g a L.length c)).push (.cells false 0 m.cells 30)
 simp only [AHeap.next_push, ← ebs, ← ebm] at s1
 obtain ⟨h1, e1⟩ : ∃ h1, h1 = (h.push (spB g a L.length c)).push (.cells false 0 m.cells 30) := ⟨_, rfl⟩
 rw [← e1] at s1
 refine sr (fun LL hLL => ?_)
 simp only [ptrTo, oxs, simprocAttr, AHeap.next_push, ← ebs, ← ebm, ← e1, MfX.len]
 refine hLL _ _ ?_
 have gm := s1.get
 have gs := (s1.mv 1).get
 refine wpC_seq (sr fun LL hLL => ?_)
 simp only [ptrTo, pend, pend0, Pd.old, pendU, pendU0, Nat.testBit, oxh, simprocAttr, gm, gs, MfX.len]
 refine may_law g a c L sp m mr mb _ s1 _ fun b h2 hb s2 => ?_
 simp only [ptrTo, pend, pend0, Pd.old, pendU, pendU0, Nat.testBit, oxh, simprocAttr]
 refine hLL _ _ ?_
 cases b
 ·refine wpC_if ?_
  simp only [ptrTo, oxs, simprocAttr]
  refine sr (fun LL hLL => ?_)
  simp only [ptrTo, oxs, simprocAttr]
  refine wpF_ext rfl ?_
  refine hLL _ _ ?_
  refine wpC_ret (out_ret ?_)
  simp only [ptrTo, oxs, simprocAttr]
  exact hk _ s2.base
 obtain ⟨hms, hg1, hg64, hn1, hn12⟩ := hb rfl
 obtain ⟨G, rfl⟩ : ∃ G : Nat, g = (G : Int) := ⟨g.toNat, by omega⟩
 refine wpC_if ?_
 simp only [ptrTo, oxs, simprocAttr]
 refine wpC_skip ?_
 simp only [ptrTo, oxs, simprocAttr]
 refine fg9 (fun R => ?_)
 obtain ⟨id, pa, O, pc, la, LI, lc, ra, RR, rc, ea, ES, ec⟩ := m
 obtain ⟨bp, bl, br, be, bl1, br1, be1⟩ := mb
 obtain ⟨hsn, hsl, hsr⟩ := hms
 simp only at *
 unfold MfX.cells at s2
 simp only at s2
 have gm := s2.get
 have gs := (s2.mv 1).get
 refine sr (fun LL hLL => ?_)
 simp only [ptrTo, pend, pend0, Pd.old, pendU, pendU0, Nat.testBit, oxh, simprocAttr, gm, gs]
 refine pars_ok G hg1 a c L hn12 pa pc O bp _ (Rd.of_base mr.p) s2 _ fun qa qc h3 s3 => ?_
 have gm3 := (s3.mv 1).get
 have gs3 := (s3.mv 2).get
 have s4 := (s3.mv 1).set (.cells false 0 [.int .i64 id, .slice qa (parsOf G L.length O).length qc, .slice la LI.length lc, .slice ra RR.length rc, .slice ea ES.length ec] 30)
 obtain ⟨h4, e4⟩ : ∃ h4, h4 = h3.set bm (.cells false 0 [.int .i64 id, .slice qa (parsOf G L.length O).length qc, .slice la LI.length lc, .slice ra RR.length rc, .slice ea ES.length ec] 30) := ⟨_, rfl⟩
 rw [← e4] at s4
 simp only [ptrTo, pend, pend0, Pd.old, pendU, pendU0, Nat.testBit, oxh, simprocAttr, gm3, gs3, ← e4]
 refine hLL _ _ ?_
 refine fg9 (fun R => ?_)
 have gm4 := s4.get
 have gs4 := (s4.mv 2).get
 refine sr (fun LL hLL => ?_)
 simp only [ptrTo, pend, pend0, Pd.old, pendU, pendU0, Nat.testBit, oxh, simprocAttr, gs4]
 refine pars_ok G hg1 a c L hn12 pa2 pc2 P2 hp _ (Rd.of_base rp) s4 _ fun ya yc h5 s5 => ?_
 simp only [ptrTo, pend, pend0, Pd.old, pendU, pendU0, Nat.testBit, oxh, simprocAttr]
 refine hLL _ _ ?_
 refine fg9 (fun R => ?_)
 have gm5 := (s5.mv 1).get
 have gs5 := (s5.mv 3).get
 obtain ⟨O', eO'⟩ : ∃ O', O' = parsOf G L.length O := ⟨_, rfl⟩
 obtain ⟨P', eP'⟩ : ∃ P', P' = parsOf G L.length P2 := ⟨_, rfl⟩
 have hOl : O'.length = L.length := by rw [eO', parsOf_len]
 have hPl : P'.length = L.length := by rw [eP', parsOf_len]
 have hOr : ∀ x ∈ O', 1 ≤ x ∧ x ≤ 8 ∧ x ≤ (G : Int) := by rw [eO']; exact parsOf_range hg1 _ _
 have hPr : ∀ x ∈ P', 1 ≤ x ∧ x ≤ 8 ∧ x ≤ (G : Int) := by rw [eP']; exact parsOf_range hg1 _ _
 rw [← eO', ← eP'] at s5
 rw [← eO'] at gm5
 rw [← eP']
 refine sr (fun LL hLL => ?_)
 simp only [ptrTo, pend, pend0, Pd.old, pendU, pendU0, Nat.testBit, oxh, simprocAttr, gm5, gs5]
 refine new_run (by omega) (by omega) a c L hn12 ⟨id, qa, O', qc, la, LI, lc, ra, RR, rc, ea, ES, ec⟩ ya yc P' _ sp ⟨fun h s => (s.mv 2).rs icell.len, RdN.of_base mr.l, RdN.of_base mr.r⟩ ⟨by show O'.length < _; omega, bl, br, be, bl1, br1, be1⟩ (fun h s => s.rs icell.len) (wnNil s5) hOl hPl hOr hPr ⟨hsn, hsl, hsr⟩ hw s5 _ fun rb tb S TT Q za zc ka kc ma mc h6 hJ s6 => ?_
 simp only [ptrTo, pend, pend0, Pd.old, pendU, pendU0, Nat.testBit, oxh, simprocAttr]
 refine hLL _ _ ?_
 refine fg9 (fun R => ?_)
 rw [← mvV_zero] at s6
 have s7 : St h h6 (runS rb tb G id P' LI S TT za zc ka kc ma mc Q 0 _) := s6
 refine wpC_seq (sr fun LL hLL => ?_)
 simp only [ptrTo, oxs, simprocAttr]
 refine hLL _ _ ?_
 refine wpC_if ?_
 simp only [ptrTo, oxs, simprocAttr]
 refine wpC_skip ?_
 simp only [ptrTo, oxs, simprocAttr]
 refine fg9 (fun R => ?_)
 refine sr (fun LL hLL => ?_)
 simp only [ptrTo, oxs, simprocAttr]
 refine hLL _ _ ?_
 refine fg9 (fun R => ?_)
 have gs7 := (s7.mv 10).get
 have gm7 := (s7.mv 8).get
 have rO := (s7.mv 9).rs icell.len
 have rP := (s7.mv 7).rs icell.len
 obtain ⟨chgP, ecp⟩ : ∃ f : Nat → Prop, f = fun k => ∃ j, ∃ (h2 : j < L.length) (h3 : j < P'.length) (h4 : j < O'.length), j < k ∧ stf L[j] = true ∧ O'[j] ≠ P'[j] := ⟨_, rfl⟩
 have hchg : ∀ k (h2 : k < L.length) (h3 : k < P'.length) (h4 : k < O'.length), chgP (k + 1) ↔ chgP k ∨ (stf L[k] = true ∧ O'[k] ≠ P'[k]) := fun k h2 h3 h4 => by
  rw [ecp]; simp only
  refine ⟨fun ⟨j, a, b, c, d, e⟩ => ?_, fun h => ?_⟩
  ·by_cases hj : j = k
   ·subst hj; exact .inr e
   ·exact .inl ⟨j, a, b, c, by omega, e⟩
  ·rcases h with ⟨j, a, b, c, d, e⟩ | e
   ·exact ⟨j, a, b, c, by omega, e⟩
   ·exact ⟨k, h2, h3, h4, by omega, e⟩
 refine sm (fun T h' => h' = h6 ∧ ∃ (chg : Bool) (u0 u1 u5 u6 : Value) (R : List Value), (chg = true ↔ chgP L.length) ∧ T = u0 :: u1 :: .slice ya P'.length yc :: .pointer (some ⟨bs, 0, none⟩) :: .pointer (some ⟨bm, 0, none⟩) :: u5 :: u6 :: .pointer (some ⟨rb, 0, none⟩) :: .bool chg :: R) ?_ ?_
 ·have hcg0 : (false = true ↔ chgP 0) := by
   constructor
   ·intro h; cases h
   ·intro h
    rw [ecp] at h
    obtain ⟨j, _, _, _, hj, _⟩ := h
    omega
  refine sr (fun LL hLL => ?_)
  simp only [ptrTo, oxs, simprocAttr]
  refine hLL _ _ ?_
  refine xp9 1 (by repeat (first | exact tput_le _ _ _ _ (.inr (by omega)) | refine tput_le _ _ _ _ (.inl ?_))) (fun R => ?_)
  simp only [ptrTo, oxs, simprocAttr, show List.range 1 = [0] from rfl]
  refine fg10 (fun R => ?_)
  refine wpC_block ?_
  refine wpC_loop (fun m T h' => ∃ (k : Nat) (chg : Bool) (u0 u1 u5 u6 : Value) (R : List Value), h' = h6 ∧ m + k = L.length ∧ (chg = true ↔ chgP k) ∧ T = u0 :: u1 :: .slice ya P'.length yc :: .pointer (some ⟨bs, 0, none⟩) :: .pointer (some ⟨bm, 0, none⟩) :: u5 :: u6 :: .pointer (some ⟨rb, 0, none⟩) :: .bool chg :: .int .i64 k :: R) ?_ L.length _ _ ⟨0, false, _, _, _, _, R, rfl, by omega, hcg0, rfl⟩
  rintro m T h' ⟨k, chg, u0, u1, u5, u6, R, rfl, hmk, hcg, rfl⟩
  refine wpC_seq (sr fun LL hLL => ?_)
  simp only [ptrTo, oxs, simprocAttr, gs7]
  refine hLL _ _ ?_
  refine wpC_if ?_
  simp only [ptrTo, oxs, simprocAttr]
  refine gC_of (fun hc => ?_) (fun hc => ?_)
  ·refine wpC_skip ?_
   simp only [ptrTo, oxs, simprocAttr]
   refine fg10 (fun R => ?_)
   have hk' : k < L.length := by omega
   have hkO : k < O'.length := by omega
   have hkP : k < P'.length := by omega
   have hnx := hchg k hk' hkP hkO
   obtain ⟨b1, o1, ro1, sz1, C1, T1, ea, p1, g1, w0, w1, w2, x2, w8, x8⟩ := (sp.fr s7.base).at k hk'
   obtain ⟨b2, o2, ro2, sz2, C2, T2, e2, p2, g2, r2, q2⟩ := rO.resolve_left (by rintro rfl; simp at hkO)
   obtain ⟨b3, o3, ro3, sz3, C3, T3, e3, p3, g3, r3, q3⟩ := rP.resolve_left (by rintro rfl; simp at hkP)
   have v2 : C2[o2 + k * 1]? = some (.int .i64 O'[k]) := Rs.cell icell.len r2 q2 k hkO 0 (by omega)
   have v3 : C3[o3 + k * 1]? = some (.int .i64 P'[k]) := Rs.cell icell.len r3 q3 k hkP 0 (by omega)
   have sv : ∀ (a : Option Addr) (m n : Nat), veq 6 (.slice a m n) (.slice a m n) = true := by intro a m n; simp [veq]
   rw [ea] at gs7
   rw [e2] at gm7
   rw [e3]
   refine wpC_seq (wpC_block ?_)
   by_cases hcc : chg = true
   ·subst hcc
    refine du [some 41, some 42, some 43, some 44, some 45, some 46, some 47, some 48, some 49, some 50, some 51, some 52, some 53, some 54, some 55, some 56, some 57, some 58, some 59, some 60, some 61, some 62, some 63, some 64, some 65, some 66, some 67, some 68, some 69, some 70, some 71, some 8] 32 [0, 1, 3, 7, 3, 31, 63, 127, 255, 511, 1023, 2047, 1023, 8191, 16383, 32767, 65535, 131071, 262143, 524287, 1048575, 524287, 4194303, 8388607, 524287, 524287, 50855935, 117964799, 268435455, 536870911, 1073741823, 2147483647] (by rfl) (by rfl) (by decide +kernel) (by decide +kernel) (by decide +kernel) (fun LL hLL => ?_)
    simp only [ptrTo, pend, pend0, Pd.old, pendU, pendU0, Nat.testBit, oxs, simprocAttr, gs7, gm7]
    refine hLL _ _ ?_
    simp only [ptrTo, oxs, simprocAttr]
    refine fg10 (fun R => ?_)
    refine rg (fun LL hLL => ?_)
    simp only [ptrTo, oxs, simprocAttr, wsucc (show k < 9223372036854775807 by omega)]
    refine hLL _ _ ?_
    simp only [ptrTo, oxs, simprocAttr]
    exact ⟨m - 1, by omega, k + 1, true, _, _, _, _, _, by omega, by rw [hnx]; simp [hcg.1 rfl], rfl⟩
   ·have hcf : chg = false := by simpa using hcc
    subst hcf
    have hnot : ¬ chgP k := fun h => by have := hcg.2 h; cases this
    have hfin : ∀ d : Bool, (d = true ↔ (stf L[k] = true ∧ O'[k] ≠ P'[k])) → (d = true ↔ chgP (k + 1)) := fun d hd => by rw [hd, hnx]; simp [hnot]
    by_cases k5 : L[k].kind = 5
    ·by_cases hne : O'[k] = P'[k]
     ·refine du [some 41, some 42, some 43, some 44, some 45, some 46, some 47, some 48, some 49, some 50, some 51, some 52, some 53, some 54, some 55, some 56, some 57, some 58, some 59, some 60, some 61, some 62, some 63, some 64, some 65, some 66, some 67, some 68, some 69, some 70, some 71, some 8] 32 [0, 1, 3, 7, 3, 31, 63, 127, 255, 511, 1023, 2047, 1023, 8191, 16383, 32767, 65535, 131071, 262143, 524287, 1048575, 524287, 4194303, 8388607, 524287, 524287, 50855935, 117964799, 268435455, 536870911, 1073741823, 2147483647] (by rfl) (by rfl) (by decide +kernel) (by decide +kernel) (by decide +kernel) (fun LL hLL => ?_)
      simp only [ptrTo, pend, pend0, Pd.old, pendU, pendU0, Nat.testBit, oxs, simprocAttr, gs7, gm7, ixF hk', ixF hkO, ixF hkP, g1, w0, g2, v2, g3, v3, eq_true k5, eq_true hne, sv, not_true_eq_false]
      refine hLL _ _ ?_
      simp only [ptrTo, oxs, simprocAttr]
      refine fg10 (fun R => ?_)
      refine rg (fun LL hLL => ?_)
      simp only [ptrTo, oxs, simprocAttr, wsucc (show k < 9223372036854775807 by omega)]
      refine hLL _ _ ?_
      simp only [ptrTo, oxs, simprocAttr]
      exact ⟨m - 1, by omega, k + 1, false, _, _, _, _, _, by omega, hfin _ (by simp [hne]), rfl⟩
     ·refine du [some 41, some 42, some 43, some 44, some 45, some 46, some 47, some 48, some 49, some 50, some 51, some 52, some 53, some 54, some 55, some 56, some 57, some 58, some 59, some 60, some 61, some 62, some 63, some 64, some 65, some 66, some 67, some 68, some 69, some 70, some 71, some 8] 32 [0, 1, 3, 7, 3, 31, 63, 127, 255, 511, 1023, 2047, 1023, 8191, 16383, 32767, 65535, 131071, 262143, 524287, 1048575, 524287, 4194303, 8388607, 524287, 524287, 50855935, 117964799, 268435455, 536870911, 1073741823, 2147483647] (by rfl) (by rfl) (by decide +kernel) (by decide +kernel) (by decide +kernel) (fun LL hLL => ?_)
      simp only [ptrTo, pend, pend0, Pd.old, pendU, pendU0, Nat.testBit, oxs, simprocAttr, gs7, gm7, ixF hk', ixF hkO, ixF hkP, g1, w0, g2, v2, g3, v3, eq_true k5, eq_false hne, sv, not_false_eq_true]
      refine hLL _ _ ?_
      simp only [ptrTo, oxs, simprocAttr]
      refine fg10 (fun R => ?_)
      refine rg (fun LL hLL => ?_)
      simp only [ptrTo, oxs, simprocAttr, wsucc (show k < 9223372036854775807 by omega)]
      refine hLL _ _ ?_
      simp only [ptrTo, oxs, simprocAttr]
      exact ⟨m - 1, by omega, k + 1, true, _, _, _, _, _, by omega, hfin _ (by simp [hne, stf, k5]), rfl⟩
    ·by_cases k6 : L[k].kind = 6
     ·by_cases hne : O'[k] = P'[k]
      ·refine du [some 41, some 42, some 43, some 44, some 45, some 46, some 47, some 48, some 49, some 50, some 51, some 52, some 53, some 54, some 55, some 56, some 57, some 58, some 59, some 60, some 61, some 62, some 63, some 64, some 65, some 66, some 67, some 68, some 69, some 70, some 71, some 8] 32 [0, 1, 3, 7, 3, 31, 63, 127, 255, 511, 1023, 2047, 1023, 8191, 16383, 32767, 65535, 131071, 262143, 524287, 1048575, 524287, 4194303, 8388607, 524287, 524287, 50855935, 117964799, 268435455, 536870911, 1073741823, 2147483647] (by rfl) (by rfl) (by decide +kernel) (by decide +kernel) (by decide +kernel) (fun LL hLL => ?_)
       simp only [ptrTo, pend, pend0, Pd.old, pendU, pendU0, Nat.testBit, oxs, simprocAttr, gs7, gm7, ixF hk', ixF hkO, ixF hkP, g1, w0, g2, v2, g3, v3, eq_false k5, eq_true k6, eq_true hne, sv, not_true_eq_false]
       refine hLL _ _ ?_
       simp only [ptrTo, oxs, simprocAttr]
       refine fg10 (fun R => ?_)
       refine rg (fun LL hLL => ?_)
       simp only [ptrTo, oxs, simprocAttr, wsucc (show k < 9223372036854775807 by omega)]
       refine hLL _ _ ?_
       simp only [ptrTo, oxs, simprocAttr]
       exact ⟨m - 1, by omega, k + 1, false, _, _, _, _, _, by omega, hfin _ (by simp [hne]), rfl⟩
      ·refine du [some 41, some 42, some 43, some 44, some 45, some 46, some 47, some 48, some 49, some 50, some 51, some 52, some 53, some 54, some 55, some 56, some 57, some 58, some 59, some 60, some 61, some 62, some 63, some 64, some 65, some 66, some 67, some 68, some 69, some 70, some 71, some 8] 32 [0, 1, 3, 7, 3, 31, 63, 127, 255, 511, 1023, 2047, 1023, 8191, 16383, 32767, 65535, 131071, 262143, 524287, 1048575, 524287, 4194303, 8388607, 524287, 524287, 50855935, 117964799, 268435455, 536870911, 1073741823, 2147483647] (by rfl) (by rfl) (by decide +kernel) (by decide +kernel) (by decide +kernel) (fun LL hLL => ?_)
       simp only [ptrTo, pend, pend0, Pd.old, pendU, pendU0, Nat.testBit, oxs, simprocAttr, gs7, gm7, ixF hk', ixF hkO, ixF hkP, g1, w0, g2, v2, g3, v3, eq_false k5, eq_true k6, eq_false hne, sv, not_false_eq_true]
       refine hLL _ _ ?_
       simp only [ptrTo, oxs, simprocAttr]
       refine fg10 (fun R => ?_)
       refine rg (fun LL hLL => ?_)
       simp only [ptrTo, oxs, simprocAttr, wsucc (show k < 9223372036854775807 by omega)]
       refine hLL _ _ ?_
       simp only [ptrTo, oxs, simprocAttr]
       exact ⟨m - 1, by omega, k + 1, true, _, _, _, _, _, by omega, hfin _ (by simp [hne, stf, k6]), rfl⟩
     ·refine du [some 41, some 42, some 43, some 44, some 45, some 46, some 47, some 48, some 49, some 50, some 51, some 52, some 53, some 54, some 55, some 56, some 57, some 58, some 59, some 60, some 61, some 62, some 63, some 64, some 65, some 66, some 67, some 68, some 69, some 70, some 71, some 8] 32 [0, 1, 3, 7, 3, 31, 63, 127, 255, 511, 1023, 2047, 1023, 8191, 16383, 32767, 65535, 131071, 262143, 524287, 1048575, 524287, 4194303, 8388607, 524287, 524287, 50855935, 117964799, 268435455, 536870911, 1073741823, 2147483647] (by rfl) (by rfl) (by decide +kernel) (by decide +kernel) (by decide +kernel) (fun LL hLL => ?_)
      simp only [ptrTo, pend, pend0, Pd.old, pendU, pendU0, Nat.testBit, oxs, simprocAttr, gs7, gm7, ixF hk', g1, w0, eq_false k5, eq_false k6, sv]
      refine hLL _ _ ?_
      simp only [ptrTo, oxs, simprocAttr]
      refine fg10 (fun R => ?_)
      refine rg (fun LL hLL => ?_)
      simp only [ptrTo, oxs, simprocAttr, wsucc (show k < 9223372036854775807 by omega)]
      refine hLL _ _ ?_
      simp only [ptrTo, oxs, simprocAttr]
      exact ⟨m - 1, by omega, k + 1, false, _, _, _, _, _, by omega, hfin _ (by simp [stf, k5, k6]), rfl⟩
  ·have : k = L.length := by omega
   subst this
   refine wpC_exit ?_
   simp only [ptrTo, oxs, simprocAttr]
   exact ⟨chg, _, _, _, _, _, hcg, rfl⟩
 rintro T h' ⟨rfl, chg, u0, u1, u5, u6, R, hcg, rfl⟩
 have hchgQ : chgP L.length ↔ Q ≠ [] := by rw [ecp]; exact hJ.chg.symm
 have hQ180 : Q.length ≤ 180 := by have := hJ.few; omega
 have hcQ : chg = decide (0 < Q.length) := by
  by_cases h0 : 0 < Q.length
  ·rw [decide_eq_true h0]; exact hcg.2 (hchgQ.2 fun e => by rw [e] at h0; simp at h0)
  ·rw [decide_eq_false h0]
   cases chg with
   | false => rfl
   | true => exact absurd (hchgQ.1 (hcg.1 rfl)) (by intro hne; exact hne (List.length_eq_zero_iff.1 (by omega)))
 refine sr (fun LL hLL => ?_)
 simp only [ptrTo, pend, pend0, Pd.old, pendU, pendU0, Nat.testBit, oxh, simprocAttr]
 refine left_ok _ s7 _ ?_
 simp only [ptrTo, pend, pend0, Pd.old, pendU, pendU0, Nat.testBit, oxh, simprocAttr]
 refine hLL _ _ ?_
 refine xp9 2 (by repeat (first | exact tput_le _ _ _ _ (.inr (by omega)) | refine tput_le _ _ _ _ (.inl ?_))) (fun R => ?_)
 simp only [ptrTo, oxs, simprocAttr, show List.range 2 = [0, 1] from rfl]
 refine fg11 (fun R => ?_)
 have hgt : decide ((0 : Int) < ((Q.length - 0 : Nat) : Int)) = decide (0 < Q.length) := by
  by_cases h0 : 0 < Q.length
  ·rw [decide_eq_true h0, decide_eq_true (by omega)]
  ·rw [decide_eq_false h0, decide_eq_false (by omega)]
 refine wpC_seq (sr fun LL hLL => ?_)
 simp only [ptrTo, oxs, simprocAttr, hgt, hcQ, neBo, bne_self_eq_false]
 refine hLL _ _ ?_
 refine wpC_if ?_
 simp only [ptrTo, oxs, simprocAttr]
 refine wpC_skip ?_
 simp only [ptrTo, oxs, simprocAttr]
 refine fg11 (fun R => ?_)
 refine wpC_seq (wpC_block ?_)
 obtain ⟨F7, eF7⟩ : ∃ F7, F7 = [wn icell 1 3 ya yc P', own bm (.cells false 0 [.int .i64 id, .slice qa O'.length qc, .slice la LI.length lc, .slice ra RR.length rc, .slice ea ES.length ec] 30), wn icell 1 3 qa qc O', own bs (spB G a L.length c)] := ⟨_, rfl⟩
 rw [← eF7] at s7
 refine wpC_loop (fun m T h' => ∃ (k : Nat) (TT : List (List (Nat × Tb))) (u0 u1 u2 u3 u4 u5 u6 u8 u9 : Value) (R : List Value), m + k = Q.length ∧ RunK G L P' RR S TT (Q.drop k) ∧ St h h' (runS rb tb G id P' LI S TT za zc ka kc ma mc Q k F7) ∧
  T = u0 :: u1 :: u2 :: u3 :: u4 :: u5 :: u6 :: .pointer (some ⟨rb, 0, none⟩) :: u8 :: u9 :: .int .i64 ((Q.length - k : Nat) : Int) :: R) ?_ Q.length _ _ ⟨0, TT, _, _, _, _, _, _, _, _, _, _, by omega, hJ.toK, s7, rfl⟩
 clear gs7 gm7 rO rP s7 hJ
 rintro m T h' ⟨k, TT, u0, u1, u2, u3, u4, u5, u6, u8, u9, R, hmk, hK, s7, rfl⟩
 by_cases hkQ : k < Q.length
 ·refine wpC_seq (sr fun LL hLL => ?_)
  simp only [ptrTo, oxs, simprocAttr, eq_true (show (0 : Int) < ((Q.length - k : Nat) : Int) by omega)]
  refine hLL _ _ ?_
  refine wpC_if ?_
  simp only [ptrTo, oxs, simprocAttr]
  refine wpC_skip ?_
  simp only [ptrTo, oxs, simprocAttr]
  refine fg11 (fun R => ?_)
  refine wpC_seq (wpC_block ?_)
  refine sr (fun LL hLL => ?_)
  simp only [ptrTo, pend, pend0, Pd.old, pendU, pendU0, Nat.testBit, oxh, simprocAttr]
  refine man_no _ s7 hkQ _ fun h8 s8 => ?_
  have s9 := s8.push (.cells false 0 [.int .i64 0, .slice none 0 0, .slice none 0 0, .slice none 0 0, .slice none 0 0] 30)
  have g9 := s9.get
  have s10 := s9.set (.cells false 0 [.int .i64 0, .slice none 0 0, .slice none 0 0, .slice none 0 0, .slice none 0 0] 30)
  simp only [ptrTo, pend, pend0, Pd.old, pendU, pendU0, Nat.testBit, oxh, simprocAttr, g9]
  refine hLL _ _ ?_
  refine xp11 2 (by repeat (first | exact tput_le _ _ _ _ (.inr (by omega)) | refine tput_le _ _ _ _ (.inl ?_))) (fun R => ?_)
  simp only [ptrTo, oxs, simprocAttr, show List.range 2 = [0, 1] from rfl]
  refine fg13 (fun R => ?_)
  have s11 := s10.drop
  refine sr (fun LL hLL => ?_)
  simp only [ptrTo, pend, pend0, Pd.old, pendU, pendU0, Nat.testBit, oxh, simprocAttr]
  refine left_ok _ s11 _ ?_
  simp only [ptrTo, pend, pend0, Pd.old, pendU, pendU0, Nat.testBit, oxh, simprocAttr, not_true_eq_false]
  refine step_ok hPl hsr hw hK hkQ (by omega) _ s11 _ fun TT' h12 hK' s12 => ?_
  simp only [ptrTo, pend, pend0, Pd.old, pendU, pendU0, Nat.testBit, oxh, simprocAttr]
  refine hLL _ _ ?_
  refine wpC_if ?_
  simp only [ptrTo, oxs, simprocAttr]
  refine wpC_skip ?_
  simp only [ptrTo, oxs, simprocAttr]
  refine fg11 (fun R => ?_)
  have hw1 : IntKind.i64.wrap (((Q.length - k : Nat) : Int) - 1) = ((Q.length - (k + 1) : Nat) : Int) := by rw [wrap_i64 (by omega) (by omega)]; omega
  refine rg (fun LL hLL => ?_)
  simp only [ptrTo, oxs, simprocAttr, hw1]
  refine hLL _ _ ?_
  simp only [ptrTo, oxs, simprocAttr]
  exact ⟨m - 1, by omega, k + 1, TT', _, _, _, _, _, _, _, _, _, _, by omega, hK', s12, rfl⟩
 ·have hkl : k = Q.length := by
   by_cases h : k ≤ Q.length
   ·omega
   ·omega
  refine wpC_seq (sr fun LL hLL => ?_)
  simp only [ptrTo, oxs, simprocAttr, eq_false (show ¬ (0 : Int) < ((Q.length - k : Nat) : Int) by omega)]
  refine hLL _ _ ?_
  refine wpC_if ?_
  simp only [ptrTo, oxs, simprocAttr]
  refine wpC_exit ?_
  simp only [ptrTo, oxs, simprocAttr]
  refine fg11 (fun R => ?_)
  refine sr (fun LL hLL => ?_)
  simp only [ptrTo, pend, pend0, Pd.old, pendU, pendU0, Nat.testBit, oxh, simprocAttr]
  refine man_ok hn12 (by omega) (by omega) hPl hPr (by omega) hsl hsr hw hK (by omega) _ s7 _ fun wa wc va vc ga gc h8 s8 => ?_
  have s9 := s8.push (.cells false 0 [.int .i64 0, .slice none 0 0, .slice none 0 0, .slice none 0 0, .slice none 0 0] 30)
  have g9 := s9.get
  have s10 := s9.set (.cells false 0 [.int .i64 (IntKind.i64.wrap (id + 1)), .slice wa P'.length wc, .slice va LI.length vc, .slice ga (outR G L RR).length gc, .slice none 0 0] 30)
  simp only [ptrTo, pend, pend0, Pd.old, pendU, pendU0, Nat.testBit, oxh, simprocAttr, g9]
  refine hLL _ _ ?_
  have s11 := (s10).sel 4 []
  simp only [oxf] at s11
  refine sr (fun LL hLL => ?_)
  simp only [ptrTo, pend, pend0, Pd.old, pendU, pendU0, Nat.testBit, oxh, simprocAttr]
  refine left_ok _ s11 _ ?_
  rw [show Q.length - k = 0 by omega]
  simp only [ptrTo, pend, pend0, Pd.old, pendU, pendU0, Nat.testBit, oxh, simprocAttr]
  refine step_no _ s11 (by omega) _ ?_
  simp only [ptrTo, pend, pend0, Pd.old, pendU, pendU0, Nat.testBit, oxh, simprocAttr]
  refine wpF_ext rfl ?_
  simp only [ptrTo, pend, pend0, Pd.old, pendU, pendU0, Nat.testBit, oxh, simprocAttr]
  refine hLL _ _ ?_
  refine wpC_ret (out_ret ?_)
  simp only [ptrTo, oxs, simprocAttr]
  exact hk _ s11.base
end Go.Proofs

namespace Go.Proofs
open Go Go.Ox
set_option maxRecDepth 100000
set_option maxHeartbeats 8000000
theorem clVe (c : Cl) : clV c = .agg #[.int .i64 c.1, .int .i64 c.2] := rfl
theorem keeps_body (g : Int) (a : Option Addr) (c : Nat) (L : List OpX) (m : MfX) (pa2 : Option Addr) (pc2 : Nat) (P2 : List Int) (h : AHeap) (sp : SpR h a L) (mr : MfR h m) (mb : MfB m) (hw : ∀ l ∈ m.RR, ∀ r ∈ l, (Lit.int .i64 r.1).wf = true) (rp : Rs icell 1 h pa2 P2) (hp : P2.length < 17592186045000) (K : Value → AHeap → Prop) (hk : ∀ h', Fr h h' [] → K (.bool true) h') :
  wpF Tryz.prog (.fn 22) [.agg #[.int .i64 g, .slice a L.length c], .agg m.cells.toArray, .slice pa2 P2.length pc2] h K := by
 have s := St.init h
 refine wpF_fun 224 [.tmp 6] Tryz.func22 rfl rfl rfl rfl ?_
 obtain ⟨bs, ebs⟩ : ∃ b, b = h.next := ⟨_, rfl⟩
 obtain ⟨bm, ebm⟩ : ∃ b, b = bs + 1 := ⟨_, rfl⟩
 have s1 := (s.push (spB g a L.length c)).push (.cells false 0 m.cells 30)
 simp only [AHeap.next_push, ← ebs, ← ebm] at s1
 obtain ⟨h1, e1⟩ : ∃ h1, h1 = (h.push (spB g a L.length c)).push (.cells false 0 m.cells 30) := ⟨_, rfl⟩
 rw [← e1] at s1
 refine sr (fun LL hLL => ?_)
 simp only [ptrTo, oxs, simprocAttr, AHeap.next_push, ← ebs, ← ebm, ← e1, MfX.len]
 refine hLL _ _ ?_
 have gm := s1.get
 have gs := (s1.mv 1).get
 refine wpC_seq (sr fun LL hLL => ?_)
 simp only [ptrTo, pend, pend0, Pd.old, pendU, pendU0, Nat.testBit, oxh, simprocAttr, gm, gs, MfX.len]
 refine may_law g a c L sp m mr mb _ s1 _ fun b h2 hb s2 => ?_
 simp only [ptrTo, pend, pend0, Pd.old, pendU, pendU0, Nat.testBit, oxh, simprocAttr]
 refine hLL _ _ ?_
 cases b
 ·refine wpC_if ?_
  simp only [ptrTo, oxs, simprocAttr]
  refine sr (fun LL hLL => ?_)
  simp only [ptrTo, oxs, simprocAttr]
  refine wpF_ext rfl ?_
  refine hLL _ _ ?_
  refine wpC_ret (out_ret ?_)
  simp only [ptrTo, oxs, simprocAttr]
  exact hk _ s2.base
 obtain ⟨hms, hg1, hg64, hn1, hn12⟩ := hb rfl
 obtain ⟨G, rfl⟩ : ∃ G : Nat, g = (G : Int) := ⟨g.toNat, by omega⟩
 refine wpC_if ?_
 simp only [ptrTo, oxs, simprocAttr]
 refine wpC_skip ?_
 simp only [ptrTo, oxs, simprocAttr]
 refine fg7 (fun R => ?_)
 obtain ⟨id, pa, O, pc, la, LI, lc, ra, RR, rc, ea, ES, ec⟩ := m
 obtain ⟨bp, bl, br, be, bl1, br1, be1⟩ := mb
 obtain ⟨hsn, hsl, hsr⟩ := hms
 simp only at *
 unfold MfX.cells at s2
 simp only at s2
 have gm := s2.get
 have gs := (s2.mv 1).get
 refine sr (fun LL hLL => ?_)
 simp only [ptrTo, pend, pend0, Pd.old, pendU, pendU0, Nat.testBit, oxh, simprocAttr, gm, gs]
 refine pars_ok G hg1 a c L hn12 pa pc O bp _ (Rd.of_base mr.p) s2 _ fun qa qc h3 s3 => ?_
 have gm3 := (s3.mv 1).get
 have gs3 := (s3.mv 2).get
 have s4 := (s3.mv 1).set (.cells false 0 [.int .i64 id, .slice qa (parsOf G L.length O).length qc, .slice la LI.length lc, .slice ra RR.length rc, .slice ea ES.length ec] 30)
 obtain ⟨h4, e4⟩ : ∃ h4, h4 = h3.set bm (.cells false 0 [.int .i64 id, .slice qa (parsOf G L.length O).length qc, .slice la LI.length lc, .slice ra RR.length rc, .slice ea ES.length ec] 30) := ⟨_, rfl⟩
 rw [← e4] at s4
 simp only [ptrTo, pend, pend0, Pd.old, pendU, pendU0, Nat.testBit, oxh, simprocAttr, gm3, gs3, ← e4]
 refine hLL _ _ ?_
 refine fg7 (fun R => ?_)
 have gm4 := s4.get
 have gs4 := (s4.mv 2).get
 refine sr (fun LL hLL => ?_)
 simp only [ptrTo, pend, pend0, Pd.old, pendU, pendU0, Nat.testBit, oxh, simprocAttr, gs4]
 refine pars_ok G hg1 a c L hn12 pa2 pc2 P2 hp _ (Rd.of_base rp) s4 _ fun ya yc h5 s5 => ?_
 simp only [ptrTo, pend, pend0, Pd.old, pendU, pendU0, Nat.testBit, oxh, simprocAttr]
 refine hLL _ _ ?_
 refine fg7 (fun R => ?_)
 have gm5 := (s5.mv 1).get
 have gs5 := (s5.mv 3).get
 obtain ⟨O', eO'⟩ : ∃ O', O' = parsOf G L.length O := ⟨_, rfl⟩
 obtain ⟨P', eP'⟩ : ∃ P', P' = parsOf G L.length P2 := ⟨_, rfl⟩
 have hOl : O'.length = L.length := by rw [eO', parsOf_len]
 have hPl : P'.length = L.length := by rw [eP', parsOf_len]
 have hOr : ∀ x ∈ O', 1 ≤ x ∧ x ≤ 8 ∧ x ≤ (G : Int) := by rw [eO']; exact parsOf_range hg1 _ _
 have hPr : ∀ x ∈ P', 1 ≤ x ∧ x ≤ 8 ∧ x ≤ (G : Int) := by rw [eP']; exact parsOf_range hg1 _ _
 rw [← eO', ← eP'] at s5
 rw [← eO'] at gm5
 rw [← eP']
 refine sr (fun LL hLL => ?_)
 simp only [ptrTo, pend, pend0, Pd.old, pendU, pendU0, Nat.testBit, oxh, simprocAttr, gm5, gs5]
 refine done_ok (by omega) (by omega) a c L hn12 ⟨id, qa, O', qc, la, LI, lc, ra, RR, rc, ea, ES, ec⟩ ya yc P' _ sp ⟨fun h s => (s.mv 2).rs icell.len, RdN.of_base mr.l, RdN.of_base mr.r⟩ ⟨by show O'.length < _; omega, bl, br, be, bl1, br1, be1⟩ (fun h s => s.rs icell.len) (wnNil s5) hOl hPl hOr hPr ⟨hsn, hsl, hsr⟩ hw s5 _ fun za zc ka kc ga gc h6 s6 => ?_
 have s7 := s6.push (.cells false 0 [.int .i64 0, .slice none 0 0, .slice none 0 0, .slice none 0 0, .slice none 0 0] 30)
 obtain ⟨b7, eb7⟩ : ∃ b, b = h6.next := ⟨_, rfl⟩
 rw [← eb7] at s7
 have g7 := s7.get
 obtain ⟨OR, eOR⟩ : ∃ OR, OR = outR G L RR := ⟨_, rfl⟩
 have hORl : OR.length = L.length := by rw [eOR]; exact outR_len G L RR
 have hORat : ∀ j (hj : j < L.length) (h : j < OR.length), OR[j] = if stf L[j] = true then rowsOf G (tlay [] (RR[j]?.getD [])) else [] := fun j hj h => by subst eOR; exact outR_at G L RR j hj h
 have hORlen : ∀ l ∈ OR, l.length ≤ 2000 := by rw [eOR]; exact outR_lens hsr
 rw [← eOR] at s7
 rw [← eOR]
 have s8 := s7.set (.cells false 0 [.int .i64 (IntKind.i64.wrap (id + 1)), .slice za P'.length zc, .slice ka LI.length kc, .slice ga OR.length gc, .slice none 0 0] 30)
 obtain ⟨h8, eh8⟩ : ∃ h8, h8 = (h6.push (.cells false 0 [.int .i64 0, .slice none 0 0, .slice none 0 0, .slice none 0 0, .slice none 0 0] 30)).set b7 (.cells false 0 [.int .i64 (IntKind.i64.wrap (id + 1)), .slice za P'.length zc, .slice ka LI.length kc, .slice ga OR.length gc, .slice none 0 0] 30) := ⟨_, rfl⟩
 rw [← eh8] at s8
 have gm6 := (s8.mv 5).get
 simp only [ptrTo, pend, pend0, Pd.old, pendU, pendU0, Nat.testBit, oxh, simprocAttr, g7, ← eb7, ← eh8]
 refine hLL _ _ ?_
 refine xp7 2 (by repeat (first | exact tput_le _ _ _ _ (.inr (by omega)) | refine tput_le _ _ _ _ (.inl ?_))) (fun R => ?_)
 simp only [ptrTo, oxs, simprocAttr, show List.range 2 = [0, 1] from rfl]
 refine fg9 (fun R => ?_)
 have g8 := s8.get
 have gs8 := (s8.mv 7).get
 have rz := (s8.mv 1).rs icell.len
 have ry := (s8.mv 4).rs icell.len
 have rk := (s8.mv 2).rsn icell.len
 refine wpC_seq (sr fun LL hLL => ?_)
 simp only [ptrTo, pend, pend0, Pd.old, pendU, pendU0, Nat.testBit, oxh, simprocAttr, g8, gm6, gs8, ne_eq, not_true_eq_false]
 refine sameInts_ok P' P' za ya zc yc _ _ rz ry (by omega) ?_
 simp only [ptrTo, pend, pend0, Pd.old, pendU, pendU0, Nat.testBit, oxh, simprocAttr, g8, gm6, gs8, decide_true, Bool.not_true]
 refine sameIntLists_ok LI LI ka la kc lc _ _ rk (mr.l.fr s8.base) (by omega) bl1 ?_
 simp only [ptrTo, pend, pend0, Pd.old, pendU, pendU0, Nat.testBit, oxh, simprocAttr, g8, gm6, gs8, decide_true, Bool.not_true, hORl, ne_eq, not_true_eq_false]
 refine hLL _ _ ?_
 refine wpC_if ?_
 simp only [ptrTo, oxs, simprocAttr]
 refine wpC_skip ?_
 simp only [ptrTo, oxs, simprocAttr]
 refine fg9 (fun R => ?_)
 refine wpC_seq ?_
 refine sr (fun LL hLL => ?_)
 simp only [ptrTo, oxs, simprocAttr]
 refine hLL _ _ ?_
 refine xp9 1 (by repeat (first | exact tput_le _ _ _ _ (.inr (by omega)) | refine tput_le _ _ _ _ (.inl ?_))) (fun R => ?_)
 simp only [ptrTo, oxs, simprocAttr, show List.range 1 = [0] from rfl]
 refine fg10 (fun R => ?_)
 obtain ⟨S2, s9, rdo⟩ := nest_rdn rcell.len (s8.mv 3)
 have rdm : ∀ F, RdN h F rcell 3 ra RR := fun F => RdN.of_base mr.r
 clear gm gs gm3 gs3 gm4 gs4 gm5 gs5 g7 g8 gm6 gs8 rz ry rk s1 s2 s3 s4 s5 s6 s7 s8
 obtain ⟨F9, eF9⟩ : ∃ F9, F9 = wn Sv.cells 1 48 ga gc S2 :: star (wns rcell 3 52 S2 OR) :: own b7 (.cells false 0 [.int .i64 (IntKind.i64.wrap (id + 1)), .slice za P'.length zc, .slice ka LI.length kc, .slice ga OR.length gc, .slice none 0 0] 30) :: wn icell 1 3 za zc P' :: nest icell 1 3 25 ka kc LI :: wn icell 1 3 ya yc P' :: own bm (.cells false 0 [.int .i64 id, .slice qa O'.length qc, .slice la LI.length lc, .slice ra RR.length rc, .slice ea ES.length ec] 30) :: wn icell 1 3 qa qc O' :: [own bs (spB G a L.length c)] := ⟨_, rfl⟩
 have getn : ∀ h', St h h' F9 → h'.get b7 = some (.cells false 0 [.int .i64 (IntKind.i64.wrap (id + 1)), .slice za P'.length zc, .slice ka LI.length kc, .slice ga OR.length gc, .slice none 0 0] 30) := fun h' s => by subst eF9; exact (s.mv 2).get
 have getm : ∀ h', St h h' F9 → h'.get bm = some (.cells false 0 [.int .i64 id, .slice qa O'.length qc, .slice la LI.length lc, .slice ra RR.length rc, .slice ea ES.length ec] 30) := fun h' s => by subst eF9; exact (s.mv 6).get
 have gets : ∀ h', St h h' F9 → h'.get bs = some (spB G a L.length c) := fun h' s => by subst eF9; exact (s.mv 8).get
 have s10 : St h h8 F9 := by subst eF9; exact s9
 have rdo' : RdN h F9 rcell 3 ga OR := by subst eF9; exact rdo
 clear rdo s9 eF9
 refine wpC_block ?_
 refine wpC_loop (fun m T h' => ∃ (k : Nat) (u0 u1 u5 u6 u8 : Value) (R : List Value), m + k = L.length ∧ St h h' F9 ∧ T = u0 :: u1 :: .slice ya P'.length yc :: .pointer (some ⟨bs, 0, none⟩) :: .pointer (some ⟨bm, 0, none⟩) :: u5 :: u6 :: .pointer (some ⟨b7, 0, none⟩) :: u8 :: .int .i64 k :: R) ?_ L.length _ _ ⟨0, _, _, _, _, _, _, by omega, s10, rfl⟩
 clear s10
 rintro m T h' ⟨k, u0, u1, u5, u6, u8, R, hmk, s11, rfl⟩
 have gs := gets _ s11
 refine wpC_seq (sr fun LL hLL => ?_)
 simp only [ptrTo, oxs, simprocAttr, gs]
 refine hLL _ _ ?_
 refine wpC_if ?_
 simp only [ptrTo, oxs, simprocAttr]
 refine gC_of (fun hc => ?_) (fun hc => ?_)
 ·refine wpC_skip ?_
  simp only [ptrTo, oxs, simprocAttr]
  refine fg10 (fun R => ?_)
  have hk' : k < L.length := by omega
  have hkO : k < OR.length := by omega
  refine wpC_seq (wpC_block ?_)
  obtain ⟨b1, o1, ro1, sz1, C1, T1, ea, p1, g1, w0, w1, w2, x2, w8, x8⟩ := (sp.fr s11.base).at k hk'
  obtain ⟨ai, ci, rat, rdk, _⟩ := rdnAt rdo' k hkO
  have sv : ∀ (a : Option Addr) (m n : Nat), veq 6 (.slice a m n) (.slice a m n) = true := by intro a m n; simp [veq]
  refine sm (fun T hh => h' = hh ∧ ∃ (u0 u1 u5 u6 u8 : Value) (R : List Value), T = u0 :: u1 :: .slice ya P'.length yc :: .pointer (some ⟨bs, 0, none⟩) :: .pointer (some ⟨bm, 0, none⟩) :: u5 :: u6 :: .pointer (some ⟨b7, 0, none⟩) :: u8 :: .int .i64 k :: .bool (stf L[k]) :: R) ?_ ?_
  ·rw [ea] at gs
   by_cases k5 : L[k].kind = 5
   ·refine rg (fun LL hLL => ?_)
    simp only [ptrTo, oxs, simprocAttr, gs, ixF hk', g1, w0, eq_true k5]
    refine hLL _ _ ?_
    simp only [ptrTo, oxs, simprocAttr, tput_hd]
    exact ⟨_, _, _, _, _, _, by rw [show stf L[k] = true by simp [stf, k5]]⟩
   ·by_cases k6 : L[k].kind = 6
    ·refine rg (fun LL hLL => ?_)
     simp only [ptrTo, oxs, simprocAttr, gs, ixF hk', g1, w0, eq_false k5, eq_true k6]
     refine hLL _ _ ?_
     simp only [ptrTo, oxs, simprocAttr, tput_hd]
     exact ⟨_, _, _, _, _, _, by rw [show stf L[k] = true by simp [stf, k6]]⟩
    ·refine rg (fun LL hLL => ?_)
     simp only [ptrTo, oxs, simprocAttr, gs, ixF hk', g1, w0, eq_false k5, eq_false k6]
     refine hLL _ _ ?_
     simp only [ptrTo, oxs, simprocAttr, tput_hd]
     exact ⟨_, _, _, _, _, _, by rw [show stf L[k] = false by simp [stf, k5, k6]]⟩
  clear g1 w0 w1 w2 x2 w8 x8 p1
  rintro T hh ⟨rfl, u0, u1, u5, u6, u8, R, rfl⟩
  have hOR0 : stf L[k] = false → OR[k].length = 0 := fun hf => by rw [hORat k hk' hkO, if_neg (by simp [hf])]; rfl
  have hOR1 : stf L[k] = true → OR[k] = rowsOf G (tlay [] (RR[k]?.getD [])) := fun hf => by rw [hORat k hk' hkO, if_pos hf]
  have hORk : OR[k].length ≤ 2000 := hORlen _ (List.getElem_mem hkO)
  obtain ⟨st, est⟩ : ∃ st, st = stf L[k] := ⟨_, rfl⟩
  rw [← est] at hOR0 hOR1 ⊢
  refine sm (fun T hh => h' = hh ∧ ∃ (u0 u1 u5 u6 u8 : Value) (R : List Value), T = u0 :: u1 :: .slice ya P'.length yc :: .pointer (some ⟨bs, 0, none⟩) :: .pointer (some ⟨bm, 0, none⟩) :: u5 :: u6 :: .pointer (some ⟨b7, 0, none⟩) :: u8 :: .int .i64 k :: .bool st :: R) ?_ ?_
  ·obtain ⟨bo, oo, roo, szo, Co, To, eo, go, vo⟩ := rat _ s11
   have gn := getn _ s11
   rw [eo] at gn
   cases st
   ·rw [hOR0 rfl] at vo
    refine sr (fun LL hLL => ?_)
    simp only [ptrTo, oxs, simprocAttr, gn, ixF hkO, go, vo]
    refine hLL _ _ ?_
    refine wpC_if ?_
    simp only [ptrTo, oxs, simprocAttr]
    refine wpC_skip ?_
    simp only [ptrTo, oxs, simprocAttr]
    exact ⟨_, _, _, _, _, _, rfl⟩
   ·refine sr (fun LL hLL => ?_)
    simp only [ptrTo, oxs, simprocAttr]
    refine hLL _ _ ?_
    refine wpC_if ?_
    simp only [ptrTo, oxs, simprocAttr]
    refine wpC_skip ?_
    simp only [ptrTo, oxs, simprocAttr]
    exact ⟨_, _, _, _, _, _, rfl⟩
  rintro T hh ⟨rfl, u0, u1, u5, u6, u8, R, rfl⟩
  refine sm (fun T hh => St h hh F9 ∧ ∃ (u0 u1 u5 u6 u8 : Value) (R : List Value), T = u0 :: u1 :: .slice ya P'.length yc :: .pointer (some ⟨bs, 0, none⟩) :: .pointer (some ⟨bm, 0, none⟩) :: u5 :: u6 :: .pointer (some ⟨b7, 0, none⟩) :: u8 :: .int .i64 k :: .bool st :: R) ?_ ?_
  ·refine sr (fun LL hLL => ?_)
   simp only [ptrTo, oxs, simprocAttr]
   refine hLL _ _ ?_
   refine xp11 1 (by repeat (first | exact tput_le _ _ _ _ (.inr (by omega)) | refine tput_le _ _ _ _ (.inl ?_))) (fun R => ?_)
   simp only [ptrTo, oxs, simprocAttr, show List.range 1 = [0] from rfl]
   refine fg12 (fun R => ?_)
   refine wpC_block ?_
   refine wpC_loop (fun m T hh => ∃ (i : Nat) (u0 u1 u5 u6 u8 : Value) (R : List Value), m + i = OR[k].length ∧ St h hh F9 ∧ T = u0 :: u1 :: .slice ya P'.length yc :: .pointer (some ⟨bs, 0, none⟩) :: .pointer (some ⟨bm, 0, none⟩) :: u5 :: u6 :: .pointer (some ⟨b7, 0, none⟩) :: u8 :: .int .i64 k :: .bool st :: .int .i64 i :: R) ?_ OR[k].length _ _ ⟨0, _, _, _, _, _, _, by omega, s11, rfl⟩
   clear s11 gs
   rintro m T hh ⟨i, u0, u1, u5, u6, u8, R, hmi, s12, rfl⟩
   obtain ⟨bo, oo, roo, szo, Co, To, eo, go, vo⟩ := rat _ s12
   have gn := getn _ s12
   rw [eo] at gn
   refine wpC_seq (sr fun LL hLL => ?_)
   simp only [ptrTo, oxs, simprocAttr, gn, ixF hkO, go, vo]
   refine hLL _ _ ?_
   refine wpC_if ?_
   simp only [ptrTo, oxs, simprocAttr]
   refine gC_of (fun hc => ?_) (fun hc => ?_)
   ·refine wpC_skip ?_
    simp only [ptrTo, oxs, simprocAttr]
    refine fg12 (fun R => ?_)
    have hi : i < OR[k].length := by omega
    refine wpC_seq (wpC_block ?_)
    have hst : st = true := by
     cases st with
     | true => rfl
     | false => exact absurd (hOR0 rfl) (by omega)
    obtain ⟨x, ex⟩ : ∃ x, x = OR[k][i] := ⟨_, rfl⟩
    obtain ⟨hx1, hx2, hx3, hx4⟩ := out_row (g := G) (getD_wf hw k) x (by rw [ex, ← hOR1 hst]; exact List.getElem_mem hi)
    have hkR : k < RR.length := by
     rcases Nat.lt_or_ge k RR.length with h | h
     ·exact h
     ·exact absurd (by rw [List.getElem?_eq_none h]; rfl) hx3
    have eR : RR[k]?.getD [] = RR[k] := by rw [List.getElem?_eq_getElem hkR]; rfl
    rw [eR] at hx2
    have hx1' : ¬ ((x.2.1, x.2.2) : Cl) = (0, 0) := hx1
    have hneO : OR[k] ≠ [] := by intro e; rw [e] at hi; simp at hi
    obtain ⟨bx, ox, rox, szx, Cx, Tx, eax, px, gx, rx, qx⟩ := (rdk _ s12).resolve_left hneO
    obtain ⟨wx, xx⟩ := Rs.row rcell.len rx qx i hi
    rw [← ex] at wx
    rw [eax] at vo
    have sp1 := s12.push (.cells false 0 [.int .i64 0, .int .i64 0, .int .i64 0] 52)
    obtain ⟨bq, ebq⟩ : ∃ b, b = hh.next := ⟨_, rfl⟩
    rw [← ebq] at sp1
    have gp := sp1.get
    have sq := sp1.set (.cells false 0 [.int .i64 x.1, .int .i64 x.2.1, .int .i64 x.2.2] 52)
    obtain ⟨hq, ehq⟩ : ∃ hq, hq = (hh.push (.cells false 0 [.int .i64 0, .int .i64 0, .int .i64 0] 52)).set bq (.cells false 0 [.int .i64 x.1, .int .i64 x.2.1, .int .i64 x.2.2] 52) := ⟨_, rfl⟩
    rw [← ehq] at sq
    refine sr (fun LL hLL => ?_)
    simp only [ptrTo, oxs, simprocAttr, gn, ixF hkO, go, vo, ixF hi, gx, wx, xx, gp, rcell.len, rcell, ← ebq, ← ehq]
    refine hLL _ _ ?_
    refine xp12 1 (by repeat (first | exact tput_le _ _ _ _ (.inr (by omega)) | refine tput_le _ _ _ _ (.inl ?_))) (fun R => ?_)
    simp only [ptrTo, oxs, simprocAttr, show List.range 1 = [0] from rfl]
    refine fg13 (fun R => ?_)
    have gq := sq.get
    have gmq := getm _ sq.drop
    have gsq := gets _ sq.drop
    obtain ⟨aj, cj, ratm, rdkm, _⟩ := rdnAt (rdm (own bq (.cells false 0 [.int .i64 x.1, .int .i64 x.2.1, .int .i64 x.2.2] 52) :: F9)) k hkR
    obtain ⟨bp2, op2, rop2, szp2, Cp2, Tp2, ep2, gp2, vp2⟩ := ratm _ sq
    rw [ep2] at gmq
    have hge : ¬ ((RR.length : Nat) : Int) ≤ (k : Int) := by omega
    have vc : ∀ x y : Int, veq 6 (.agg #[.int .i64 x, .int .i64 y]) (.agg #[.int .i64 x, .int .i64 y]) = true := fun x y => by simp [veq]
    refine sd [0, 1, 2, 3, 4, 5, 6, 7, 8, 9, 10, 11, 12, 13, 14, 15, 16, 17, 18, 20, 21, 19, 22, 23, 24, 25, 26, 27, 28, 29, 30, 31, 32, 33, 34, 35, 36, 37, 38, 39, 40, 41, 42, 43, 44, 45] [0, 0, 2, 6, 15, 31, 63, 127, 63, 511, 1023, 2047, 4095, 8191, 4095, 32767, 65535, 4095, 135167, 4095, 1052671, 524287, 4194303, 8388607, 16777215, 33554431, 67108863, 134217727, 268435455, 536870911, 268435455, 2147483647, 4294967295, 268435455, 8858370047, 34359738367, 68719476735, 137438953471, 268435455, 275146342399, 268435455, 1099780063231, 4398046511103, 8796093022207, 17592186044415, 35184372088831] (by decide +kernel) (by decide +kernel) (by decide +kernel) (fun LL hLL => ?_)
    simp only [ptrTo, pend, pend0, Pd.old, pendU, pendU0, Nat.testBit, oxh, simprocAttr, gmq, gq, gsq, ixF hkR, gp2, vp2, eq_false hge, eqCl, eq_false hx1', vc, sv]
    refine at_ok RR[k] aj cj x.1 _ rdkm (by have := hsr _ (List.getElem_mem hkR); omega) sq _ fun h14 s14 => ?_
    rw [hx2]
    have gq4 := s14.get
    have gm4 := getm _ s14.drop
    have gs4 := gets _ s14.drop
    obtain ⟨bp4, op4, rop4, szp4, Cp4, Tp4, ep4, gp4, vp4⟩ := ratm _ s14
    rw [ep4] at gm4
    rcases Nat.eq_zero_or_pos i with hi0 | hi0
    ·have hns : (!decide (((x.2.1, x.2.2) : Cl) = (x.2.1, x.2.2))) = false := by simp
     simp only [ptrTo, pend, pend0, Pd.old, pendU, pendU0, Nat.testBit, oxh, simprocAttr, gmq, gq, gsq, ixF hkR, gp2, vp2, eq_false hge, eqCl, eq_false hx1', vc, sv, clVe, neCl, gq4, gm4, gs4, gp4, vp4, hns, eq_false (show ¬ (0 : Int) < (i : Int) by omega)]
     refine hLL _ _ ?_
     refine wpC_if ?_
     simp only [ptrTo, oxs, simprocAttr]
     refine wpC_skip ?_
     simp only [ptrTo, oxs, simprocAttr]
     refine fg12 (fun R => ?_)
     refine rg (fun LL hLL => ?_)
     simp only [ptrTo, oxs, simprocAttr, wsucc (show i < 9223372036854775807 by omega)]
     refine hLL _ _ ?_
     simp only [ptrTo, oxs, simprocAttr]
     exact ⟨m - 1, by omega, i + 1, _, _, _, _, _, _, by omega, s14.drop, rfl⟩
    ·have hns : (!decide (((x.2.1, x.2.2) : Cl) = (x.2.1, x.2.2))) = false := by simp
     obtain ⟨j, rfl⟩ : ∃ j, i = j + 1 := ⟨i - 1, by omega⟩
     have hj : j < OR[k].length := by omega
     have hwj : IntKind.i64.wrap (((j + 1 : Nat) : Int) - 1) = (j : Int) := by rw [wrap_i64 (by omega) (by omega)]; omega
     have gn4 := getn _ s14.drop
     obtain ⟨bo4, oo4, roo4, szo4, Co4, To4, eo4, go4, vo4⟩ := rat _ s14.drop
     obtain ⟨bx4, ox4, rox4, szx4, Cx4, Tx4, eax4, px4, gx4, rx4, qx4⟩ := (rdk _ s14.drop).resolve_left hneO
     rw [eo4] at gn4
     rw [eax4] at vo4
     have gnq := getn _ sq.drop
     obtain ⟨bo5, oo5, roo5, szo5, Co5, To5, eo5, go5, vo5⟩ := rat _ sq.drop
     obtain ⟨bx5, ox5, rox5, szx5, Cx5, Tx5, eax5, px5, gx5, rx5, qx5⟩ := (rdk _ sq.drop).resolve_left hneO
     rw [eo5] at gnq
     rw [eax5] at vo5
     have wx4 : Cx4[ox4 + j * 3]? = some (.int .i64 OR[k][j].1) := Rs.cell rcell.len rx4 qx4 j hj 0 (by omega)
     have wx5 : Cx5[ox5 + j * 3]? = some (.int .i64 OR[k][j].1) := Rs.cell rcell.len rx5 qx5 j hj 0 (by omega)
     have hso := out_sorted (g := G) (getD_wf hw k) OR[k] (hOR1 hst) j hi hj
     rw [← ex] at hso
     have hpos : (0 : Int) < ((j + 1 : Nat) : Int) := by omega
     simp only [ptrTo, pend, pend0, Pd.old, pendU, pendU0, Nat.testBit, oxh, simprocAttr, gmq, gq, gsq, ixF hkR, gp2, vp2, eq_false hge, eqCl, eq_false hx1', vc, sv, clVe, neCl, gq4, gm4, gs4, gp4, vp4, hns, eq_true hpos, hwj, gn4, ixF hkO, go4, vo4, ixF hj, gx4, wx4, gnq, go5, vo5, gx5, wx5]
     refine ahead_ok OR[k][j].1 x.1 G _ _ ?_
     rw [decide_eq_true hso]
     simp only [ptrTo, pend, pend0, Pd.old, pendU, pendU0, Nat.testBit, oxh, simprocAttr, gmq, gq, gsq, ixF hkR, gp2, vp2, eq_false hge, eqCl, eq_false hx1', vc, sv, clVe, neCl, gq4, gm4, gs4, gp4, vp4, hns, eq_true hpos, hwj, gn4, ixF hkO, go4, vo4, ixF hj, gx4, wx4, gnq, go5, vo5, gx5, wx5, Bool.not_true]
     refine hLL _ _ ?_
     refine wpC_if ?_
     simp only [ptrTo, oxs, simprocAttr]
     refine wpC_skip ?_
     simp only [ptrTo, oxs, simprocAttr]
     refine fg12 (fun R => ?_)
     refine rg (fun LL hLL => ?_)
     simp only [ptrTo, oxs, simprocAttr, wsucc (show j + 1 < 9223372036854775807 by omega)]
     refine hLL _ _ ?_
     simp only [ptrTo, oxs, simprocAttr]
     exact ⟨m - 1, by omega, j + 1 + 1, _, _, _, _, _, _, by omega, s14.drop, rfl⟩
   ·refine wpC_exit ?_
    simp only [ptrTo, oxs, simprocAttr]
    exact ⟨s12, _, _, _, _, _, _, rfl⟩
  rintro T hh ⟨s13, u0, u1, u5, u6, u8, R, rfl⟩
  clear s11
  have ratm := fun F => rdnAt (rdm F) k
  refine sr (fun LL hLL => ?_)
  simp only [ptrTo, oxs, simprocAttr]
  refine hLL _ _ ?_
  refine xp11 3 (by repeat (first | exact tput_le _ _ _ _ (.inr (by omega)) | refine tput_le _ _ _ _ (.inl ?_))) (fun R => ?_)
  simp only [ptrTo, oxs, simprocAttr, show List.range 3 = [0, 1, 2] from rfl]
  refine fg14 (fun R => ?_)
  refine wpC_block ?_
  refine wpC_loop (fun mi T hh => ∃ (i : Nat) (u0 u1 u5 u6 u8 u11 u12 : Value) (R : List Value), mi + i = (RR[k]?.getD []).length ∧ St h hh F9 ∧ T = u0 :: u1 :: .slice ya P'.length yc :: .pointer (some ⟨bs, 0, none⟩) :: .pointer (some ⟨bm, 0, none⟩) :: u5 :: u6 :: .pointer (some ⟨b7, 0, none⟩) :: u8 :: .int .i64 k :: .bool st :: u11 :: u12 :: .int .i64 i :: R) ?_ (RR[k]?.getD []).length _ _ ⟨0, _, _, _, _, _, _, _, _, by omega, s13, rfl⟩
  clear s13
  rintro mi T hh ⟨i, u0, u1, u5, u6, u8, u11, u12, R, hmi, s14, rfl⟩
  have gm := getm _ s14
  cases st with
  | false =>
   refine wpC_seq (sr fun LL hLL => ?_)
   simp only [ptrTo, oxs, simprocAttr]
   refine hLL _ _ ?_
   refine wpC_if ?_
   simp only [ptrTo, oxs, simprocAttr]
   refine wpC_exit ?_
   simp only [ptrTo, oxs, simprocAttr]
   refine fg10 (fun R => ?_)
   refine rg (fun LL hLL => ?_)
   simp only [ptrTo, oxs, simprocAttr, wsucc (show k < 9223372036854775807 by omega)]
   refine hLL _ _ ?_
   simp only [ptrTo, oxs, simprocAttr]
   exact ⟨m - 1, by omega, k + 1, _, _, _, _, _, _, by omega, s14, rfl⟩
  | true =>
   by_cases hkR : k < RR.length
   ·have eR : RR[k]?.getD [] = RR[k] := by rw [List.getElem?_eq_getElem hkR]; rfl
    rw [eR] at hmi hOR1
    obtain ⟨aj, cj, rat2, rdk2, _⟩ := ratm F9 hkR
    obtain ⟨bp2, op2, rop2, szp2, Cp2, Tp2, ep2, gp2, vp2⟩ := rat2 _ s14
    rw [ep2] at gm
    refine wpC_seq (sr fun LL hLL => ?_)
    simp only [ptrTo, oxs, simprocAttr, gm, ixF hkR, gp2, vp2]
    refine hLL _ _ ?_
    refine wpC_if ?_
    simp only [ptrTo, oxs, simprocAttr]
    refine gC_of (fun hc => ?_) (fun hc => ?_)
    ·refine wpC_skip ?_
     simp only [ptrTo, oxs, simprocAttr]
     refine fg14 (fun R => ?_)
     have hi : i < RR[k].length := by omega
     have hneR : RR[k] ≠ [] := by intro e; rw [e] at hi; simp at hi
     refine wpC_seq (wpC_block ?_)
     have gn := getn _ s14
     obtain ⟨bo, oo, roo, szo, Co, To, eo, go, vo⟩ := rat _ s14
     obtain ⟨bx, ox, rox, szx, Cx, Tx, eax, px, gx, rx, qx⟩ := (rdk2 _ s14).resolve_left hneR
     rw [eo] at gn
     have vp2' := vp2
     rw [eax] at vp2'
     have wx : Cx[ox + i * 3]? = some (.int .i64 RR[k][i].1) := Rs.cell rcell.len rx qx i hi 0 (by omega)
     obtain ⟨key, ekey⟩ : ∃ key, key = RR[k][i].1 := ⟨_, rfl⟩
     rw [← ekey] at wx
     have hoa : (lastOf OR[k] key).getD (0, 0) = (lastOf RR[k] key).getD (0, 0) := by rw [hOR1 rfl]; exact out_at (hw _ (List.getElem_mem hkR)) key
     obtain ⟨rv, erv⟩ : ∃ rv, rv = (lastOf RR[k] key).getD (0, 0) := ⟨_, rfl⟩
     have hns : (!decide (((rv.1, rv.2) : Cl) = (rv.1, rv.2))) = false := by simp
     have vc : ∀ x y : Int, veq 6 (.agg #[.int .i64 x, .int .i64 y]) (.agg #[.int .i64 x, .int .i64 y]) = true := fun x y => by simp [veq]
     subst eax
     refine sd [0, 1, 2, 3, 4, 5, 6, 7, 8, 9, 10, 11, 12, 13, 15, 16, 17, 18, 19, 20, 21, 22, 23, 24, 25, 26, 27, 28, 14, 29, 30] [0, 1, 0, 7, 15, 0, 32, 0, 224, 480, 0, 2016, 4064, 8160, 0, 32768, 0, 229376, 491520, 0, 1048576, 0, 7340032, 15728640, 0, 66060288, 133169152, 267386880, 16383, 536870911, 1073741823] (by decide +kernel) (by decide +kernel) (by decide +kernel) (fun LL hLL => ?_)
     simp only [ptrTo, pend, pend0, Pd.old, pendU, pendU0, Nat.testBit, oxh, simprocAttr, gn, ixF hkO, go, vo, gm, ixF hkR, gp2, vp2, ixF hi, gx, wx, sv]
     refine at_ok OR[k] ai ci key _ rdk (by omega) s14 _ fun h15 s15 => ?_
     rw [hoa, ← erv]
     have gn5 := getn _ s15
     have gm5 := getm _ s15
     obtain ⟨bo5, oo5, roo5, szo5, Co5, To5, eo5, go5, vo5⟩ := rat _ s15
     obtain ⟨bp5, op5, rop5, szp5, Cp5, Tp5, ep5, gp5, vp5⟩ := rat2 _ s15
     obtain ⟨bx5, ox5, rox5, szx5, Cx5, Tx5, eax5, px5, gx5, rx5, qx5⟩ := (rdk2 _ s15).resolve_left hneR
     cases eax5
     have e1 := eo.symm.trans eo5
     cases e1
     have e2 := ep2.symm.trans ep5
     cases e2
     rw [eo] at gn5
     rw [ep2] at gm5
     have wx5 : Cx5[ox + i * 3]? = some (.int .i64 key) := by rw [ekey]; exact Rs.cell rcell.len rx5 qx5 i hi 0 (by omega)
     simp only [ptrTo, pend, pend0, Pd.old, pendU, pendU0, Nat.testBit, oxh, simprocAttr, gn, ixF hkO, go, vo, gm, ixF hkR, gp2, vp2, ixF hi, gx, wx, sv, vc, clVe, gn5, gm5, go5, vo5, gp5, vp5, gx5, wx5]
     refine at_ok RR[k] _ cj key _ rdk2 (by have := hsr _ (List.getElem_mem hkR); omega) s15 _ fun h16 s16 => ?_
     rw [← erv]
     simp only [ptrTo, pend, pend0, Pd.old, pendU, pendU0, Nat.testBit, oxh, simprocAttr, gn, ixF hkO, go, vo, gm, ixF hkR, gp2, vp2, ixF hi, gx, wx, sv, vc, clVe, neCl, hns, gn5, gm5, go5, vo5, gp5, vp5, gx5, wx5]
     refine hLL _ _ ?_
     refine wpC_if ?_
     simp only [ptrTo, oxs, simprocAttr]
     refine wpC_skip ?_
     simp only [ptrTo, oxs, simprocAttr]
     refine fg14 (fun R => ?_)
     refine rg (fun LL hLL => ?_)
     simp only [ptrTo, oxs, simprocAttr, wsucc (show i < 9223372036854775807 by have := hsr _ (List.getElem_mem hkR); omega)]
     refine hLL _ _ ?_
     simp only [ptrTo, oxs, simprocAttr]
     exact ⟨mi - 1, by omega, i + 1, _, _, _, _, _, _, _, _, by rw [eR]; omega, s16, rfl⟩
    ·refine wpC_exit ?_
     simp only [ptrTo, oxs, simprocAttr]
     refine fg10 (fun R => ?_)
     refine rg (fun LL hLL => ?_)
     simp only [ptrTo, oxs, simprocAttr, wsucc (show k < 9223372036854775807 by omega)]
     refine hLL _ _ ?_
     simp only [ptrTo, oxs, simprocAttr]
     exact ⟨m - 1, by omega, k + 1, _, _, _, _, _, _, by omega, s14, rfl⟩
   ·refine wpC_seq (sr fun LL hLL => ?_)
    simp only [ptrTo, oxs, simprocAttr, gm, eq_false (show ¬ (k : Int) < (RR.length : Int) by omega)]
    refine hLL _ _ ?_
    refine wpC_if ?_
    simp only [ptrTo, oxs, simprocAttr]
    refine wpC_exit ?_
    simp only [ptrTo, oxs, simprocAttr]
    refine fg10 (fun R => ?_)
    refine rg (fun LL hLL => ?_)
    simp only [ptrTo, oxs, simprocAttr, wsucc (show k < 9223372036854775807 by omega)]
    refine hLL _ _ ?_
    simp only [ptrTo, oxs, simprocAttr]
    exact ⟨m - 1, by omega, k + 1, _, _, _, _, _, _, by omega, s14, rfl⟩
 ·refine wpC_exit ?_
  simp only [ptrTo, oxs, simprocAttr]
  refine sr (fun LL hLL => ?_)
  simp only [ptrTo, pend, pend0, Pd.old, pendU, pendU0, Nat.testBit, oxh, simprocAttr]
  refine wpF_ext rfl ?_
  simp only [ptrTo, pend, pend0, Pd.old, pendU, pendU0, Nat.testBit, oxh, simprocAttr]
  refine hLL _ _ ?_
  refine wpC_ret (out_ret ?_)
  simp only [ptrTo, oxs, simprocAttr]
  exact hk _ s11.base
end Go.Proofs

namespace Go.Proofs
open Go Go.Ox
set_option maxRecDepth 100000
set_option maxHeartbeats 8000000
theorem wrapE (n : Int) : IntKind.i64.wrap n = if 9223372036854775808 ≤ n % 18446744073709551616 then n % 18446744073709551616 - 18446744073709551616 else n % 18446744073709551616 := by
 show (if (true && decide (n % (2 ^ 64 : Int) ≥ (2 ^ (64 - 1) : Int))) = true then n % (2 ^ 64 : Int) - (2 ^ 64 : Int) else n % (2 ^ 64 : Int)) = _
 by_cases h : 9223372036854775808 ≤ n % 18446744073709551616
 ·rw [if_pos h, if_pos (by simpa using h)]; rfl
 ·rw [if_neg h, if_neg (by simpa using h)]; rfl
theorem wrapS (n k : Int) : IntKind.i64.wrap (IntKind.i64.wrap n + k) = IntKind.i64.wrap (n + k) := by
 have h1 : (IntKind.i64.wrap n + k) % 18446744073709551616 = (n + k) % 18446744073709551616 := by
  rw [wrapE n]; split <;> omega
 rw [wrapE (_ + k), wrapE (n + k), h1]
theorem MfD.up {h0 : AHeap} {F : List Asn} {m : MfX} {A : Asn} (d : MfD h0 F m) : MfD h0 (A :: F) m := ⟨d.p.up, d.l.up, d.r.up⟩
abbrev manP (qa : Option Addr) (qc : Nat) (P : List Int) (ka : Option Addr) (kc : Nat) (LI : List (List Int)) (S1 : List Sv) (ga : Option Addr) (gc : Nat) (RR : List (List Rw)) (S2 : List Sv) (F : List Asn) : List Asn :=
 wn Sv.cells 1 48 ga gc S2 :: star (wns rcell 3 52 S2 RR) :: wn Sv.cells 1 25 ka kc S1 :: star (wns icell 1 3 S1 LI) :: wn icell 1 3 qa qc P :: F
theorem man_open {h0 h : AHeap} {F : List Asn} {qa : Option Addr} {qc : Nat} {P : List Int} {ka : Option Addr} {kc : Nat} {LI : List (List Int)} {ga : Option Addr} {gc : Nat} {RR : List (List Rw)} (s : St h0 h (wn icell 1 3 qa qc P :: nest icell 1 3 25 ka kc LI :: nest rcell 3 52 48 ga gc RR :: F)) (id : Int) :
  ∃ S1 S2, St h0 h (manP qa qc P ka kc LI S1 ga gc RR S2 F) ∧ MfD h0 (manP qa qc P ka kc LI S1 ga gc RR S2 F) ⟨id, qa, P, qc, ka, LI, kc, ga, RR, gc, none, [], 0⟩ := by
 obtain ⟨S1, e1, s1⟩ := (s.mv 1).nest_out
 obtain ⟨S2, e2, s2⟩ := (s1.mv 3).nest_out
 exact ⟨S1, S2, s2, fun h s => (s.mv 4).rs icell.len, ⟨S1, e1, fun h s => (s.mv 2).rs Sv.len1, fun i hi hj => ⟨fun h s => ((s.mv 3).wns_rs icell.len i hi hj).1, ((s2.mv 3).wns_rs icell.len i hi hj).2⟩⟩, ⟨S2, e2, fun h s => s.rs Sv.len1, fun i hi hj => ⟨fun h s => ((s.mv 1).wns_rs rcell.len i hi hj).1, ((s2.mv 1).wns_rs rcell.len i hi hj).2⟩⟩⟩
theorem back_body (g : Int) (a : Option Addr) (c : Nat) (L : List OpX) (m : MfX) (pa2 : Option Addr) (pc2 : Nat) (P2 : List Int) (pa3 : Option Addr) (pc3 : Nat) (P3 : List Int) (h : AHeap) (sp : SpR h a L) (mr : MfR h m) (mb : MfB m) (hw : ∀ l ∈ m.RR, ∀ r ∈ l, (Lit.int .i64 r.1).wf = true) (rp : Rs icell 1 h pa2 P2) (hp : P2.length < 17592186045000) (rp3 : Rs icell 1 h pa3 P3) (hp3 : P3.length < 17592186045000) (K : Value → AHeap → Prop) (hk : ∀ h', Fr h h' [] → K (.bool true) h') :
  wpF Tryz.prog (.fn 23) [.agg #[.int .i64 g, .slice a L.length c], .agg m.cells.toArray, .slice pa2 P2.length pc2, .slice pa3 P3.length pc3] h K := by
 have s := St.init h
 refine wpF_fun 129 [.tmp 8] Tryz.func23 rfl rfl rfl rfl ?_
 obtain ⟨bs, ebs⟩ : ∃ b, b = h.next := ⟨_, rfl⟩
 obtain ⟨bm, ebm⟩ : ∃ b, b = bs + 1 := ⟨_, rfl⟩
 have s1 := (s.push (spB g a L.length c)).push (.cells false 0 m.cells 30)
 simp only [AHeap.next_push, ← ebs, ← ebm] at s1
 obtain ⟨h1, e1⟩ : ∃ h1, h1 = (h.push (spB g a L.length c)).push (.cells false 0 m.cells 30) := ⟨_, rfl⟩
 rw [← e1] at s1
 refine sr (fun LL hLL => ?_)
 simp only [ptrTo, oxs, simprocAttr, AHeap.next_push, ← ebs, ← ebm, ← e1, MfX.len]
 refine hLL _ _ ?_
 have gm := s1.get
 have gs := (s1.mv 1).get
 refine wpC_seq (sr fun LL hLL => ?_)
 simp only [ptrTo, pend, pend0, Pd.old, pendU, pendU0, Nat.testBit, oxh, simprocAttr, gm, gs, MfX.len]
 refine may_law g a c L sp m mr mb _ s1 _ fun b h2 hb s2 => ?_
 simp only [ptrTo, pend, pend0, Pd.old, pendU, pendU0, Nat.testBit, oxh, simprocAttr]
 refine hLL _ _ ?_
 cases b
 ·refine wpC_if ?_
  simp only [ptrTo, oxs, simprocAttr]
  refine sr (fun LL hLL => ?_)
  simp only [ptrTo, oxs, simprocAttr]
  refine wpF_ext rfl ?_
  refine hLL _ _ ?_
  refine wpC_ret (out_ret ?_)
  simp only [ptrTo, oxs, simprocAttr]
  exact hk _ s2.base
 obtain ⟨hms, hg1, hg64, hn1, hn12⟩ := hb rfl
 obtain ⟨G, rfl⟩ : ∃ G : Nat, g = (G : Int) := ⟨g.toNat, by omega⟩
 refine wpC_if ?_
 simp only [ptrTo, oxs, simprocAttr]
 refine wpC_skip ?_
 simp only [ptrTo, oxs, simprocAttr]
 refine fg9 (fun R => ?_)
 obtain ⟨id, pa, O, pc, la, LI, lc, ra, RR, rc, ea, ES, ec⟩ := m
 obtain ⟨bp, bl, br, be, bl1, br1, be1⟩ := mb
 obtain ⟨hsn, hsl, hsr⟩ := hms
 simp only at *
 unfold MfX.cells at s2
 simp only at s2
 have gm := s2.get
 have gs := (s2.mv 1).get
 refine sr (fun LL hLL => ?_)
 simp only [ptrTo, pend, pend0, Pd.old, pendU, pendU0, Nat.testBit, oxh, simprocAttr, gm, gs]
 refine pars_ok G hg1 a c L hn12 pa pc O bp _ (Rd.of_base mr.p) s2 _ fun qa qc h3 s3 => ?_
 have gm3 := (s3.mv 1).get
 have gs3 := (s3.mv 2).get
 obtain ⟨O', eO'⟩ : ∃ O', O' = parsOf G L.length O := ⟨_, rfl⟩
 have hOl : O'.length = L.length := by rw [eO', parsOf_len]
 have hOr : ∀ x ∈ O', 1 ≤ x ∧ x ≤ 8 ∧ x ≤ (G : Int) := by rw [eO']; exact parsOf_range hg1 _ _
 rw [← eO'] at s3
 rw [← eO']
 have s4 := (s3.mv 1).set (.cells false 0 [.int .i64 id, .slice qa O'.length qc, .slice la LI.length lc, .slice ra RR.length rc, .slice ea ES.length ec] 30)
 obtain ⟨h4, e4⟩ : ∃ h4, h4 = h3.set bm (.cells false 0 [.int .i64 id, .slice qa O'.length qc, .slice la LI.length lc, .slice ra RR.length rc, .slice ea ES.length ec] 30) := ⟨_, rfl⟩
 rw [← e4] at s4
 simp only [ptrTo, pend, pend0, Pd.old, pendU, pendU0, Nat.testBit, oxh, simprocAttr, gm3, gs3, ← e4]
 refine hLL _ _ ?_
 refine fg9 (fun R => ?_)
 have gm4 := s4.get
 have gs4 := (s4.mv 2).get
 have mr4 : MfD h [own bm (.cells false 0 [.int .i64 id, .slice qa O'.length qc, .slice la LI.length lc, .slice ra RR.length rc, .slice ea ES.length ec] 30), wn icell 1 3 qa qc O', own bs (spB G a L.length c)] ⟨id, qa, O', qc, la, LI, lc, ra, RR, rc, ea, ES, ec⟩ := ⟨fun h s => (s.mv 1).rs icell.len, RdN.of_base mr.l, RdN.of_base mr.r⟩
 have mb4 : MfB ⟨id, qa, O', qc, la, LI, lc, ra, RR, rc, ea, ES, ec⟩ := ⟨by show O'.length < _; omega, bl, br, be, bl1, br1, be1⟩
 have ms4 : MfS ⟨id, qa, O', qc, la, LI, lc, ra, RR, rc, ea, ES, ec⟩ := ⟨hsn, hsl, hsr⟩
 refine sr (fun LL hLL => ?_)
 simp only [ptrTo, pend, pend0, Pd.old, pendU, pendU0, Nat.testBit, oxh, simprocAttr, gm4, gs4]
 refine done_ok (by omega) (by omega) a c L hn12 ⟨id, qa, O', qc, la, LI, lc, ra, RR, rc, ea, ES, ec⟩ qa qc O' _ sp mr4 mb4 mr4.p (wnNil (s4.mv 1)) hOl hOl hOr hOr ms4 hw s4 _ fun za zc ka kc ga gc h5 s5 => ?_
 simp only
 obtain ⟨OR, eOR⟩ : ∃ OR, OR = outR G L RR := ⟨_, rfl⟩
 have hORl : OR.length = L.length := by rw [eOR]; exact outR_len G L RR
 have hORw : ∀ l ∈ OR, ∀ r ∈ l, (Lit.int .i64 r.1).wf = true := by rw [eOR]; exact outR_wf hw
 have hORlen : ∀ l ∈ OR, l.length ≤ 2000 := by rw [eOR]; exact outR_lens hsr
 have hORa : outR G L OR = OR := by rw [eOR]; exact outR_again hw
 rw [← eOR] at s5 ⊢
 have s6 := s5.push (.cells false 0 [.int .i64 0, .slice none 0 0, .slice none 0 0, .slice none 0 0, .slice none 0 0] 30)
 obtain ⟨b9, eb9⟩ : ∃ b, b = h5.next := ⟨_, rfl⟩
 rw [← eb9] at s6
 have g6 := s6.get
 have s7 := s6.set (.cells false 0 [.int .i64 (IntKind.i64.wrap (id + 1)), .slice za O'.length zc, .slice ka LI.length kc, .slice ga OR.length gc, .slice none 0 0] 30)
 obtain ⟨h7, eh7⟩ : ∃ h7, h7 = (h5.push (.cells false 0 [.int .i64 0, .slice none 0 0, .slice none 0 0, .slice none 0 0, .slice none 0 0] 30)).set b9 (.cells false 0 [.int .i64 (IntKind.i64.wrap (id + 1)), .slice za O'.length zc, .slice ka LI.length kc, .slice ga OR.length gc, .slice none 0 0] 30) := ⟨_, rfl⟩
 rw [← eh7] at s7
 simp only [ptrTo, pend, pend0, Pd.old, pendU, pendU0, Nat.testBit, oxh, simprocAttr, g6, ← eb9, ← eh7]
 refine hLL _ _ ?_
 refine xp9 2 (by repeat (first | exact tput_le _ _ _ _ (.inr (by omega)) | refine tput_le _ _ _ _ (.inl ?_))) (fun R => ?_)
 simp only [ptrTo, oxs, simprocAttr, show List.range 2 = [0, 1] from rfl]
 refine fg11 (fun R => ?_)
 clear s5 s6 g6 gm4 gs4 gm3 gs3 s3 s1 s2 gm gs
 have gm7 := (s7.mv 4).get
 have gs7 := (s7.mv 6).get
 have sv : ∀ (a : Option Addr) (m n : Nat), veq 6 (.slice a m n) (.slice a m n) = true := by intro a m n; simp [veq]
 have s8 := s7.push (.cells false 0 [.int .i64 0, .slice none 0 0, .slice none 0 0, .slice none 0 0, .slice none 0 0] 30)
 obtain ⟨b11, eb11⟩ : ∃ b, b = h7.next := ⟨_, rfl⟩
 obtain ⟨h8, eh8⟩ : ∃ h8, h8 = h7.push (.cells false 0 [.int .i64 0, .slice none 0 0, .slice none 0 0, .slice none 0 0, .slice none 0 0] 30) := ⟨_, rfl⟩
 rw [← eb11, ← eh8] at s8
 have gm8 := (s8.mv 5).get
 have gs8 := (s8.mv 7).get
 refine sd [0, 1, 2, 3, 9, 4, 5, 6, 7, 8, 10, 11] [0, 0, 0, 0, 0, 12, 31, 63, 127, 127, 767, 2047] (by decide +kernel) (by decide +kernel) (by decide +kernel) (fun LL hLL => ?_)
 simp only [ptrTo, pend, pend0, Pd.old, pendU, pendU0, Nat.testBit, oxh, simprocAttr, gm7, gs7, ← eb11, ← eh8, gm8, gs8, sv]
 refine pars_ok G hg1 a c L hn12 pa2 pc2 P2 hp _ (Rd.of_base rp) s8 _ fun ya yc h9 s9 => ?_
 obtain ⟨P', eP'⟩ : ∃ P', P' = parsOf G L.length P2 := ⟨_, rfl⟩
 have hPl : P'.length = L.length := by rw [eP', parsOf_len]
 have hPr : ∀ x ∈ P', 1 ≤ x ∧ x ≤ 8 ∧ x ≤ (G : Int) := by rw [eP']; exact parsOf_range hg1 _ _
 rw [← eP'] at s9
 rw [← eP']
 have gm9 := (s9.mv 6).get
 have gs9 := (s9.mv 8).get
 have mr9 := ((((mr4.up (A := nest rcell 3 52 48 ga gc OR)).up (A := nest icell 1 3 25 ka kc LI)).up (A := wn icell 1 3 za zc O')).up (A := own b9 (.cells false 0 [.int .i64 (IntKind.i64.wrap (id + 1)), .slice za O'.length zc, .slice ka LI.length kc, .slice ga OR.length gc, .slice none 0 0] 30))).up (A := own b11 (.cells false 0 [.int .i64 0, .slice none 0 0, .slice none 0 0, .slice none 0 0, .slice none 0 0] 30)) |>.up (A := wn icell 1 3 ya yc P')
 simp only [ptrTo, pend, pend0, Pd.old, pendU, pendU0, Nat.testBit, oxh, simprocAttr, gm7, gs7, gm8, gs8, gm9, gs9, sv]
 refine done_ok (by omega) (by omega) a c L hn12 ⟨id, qa, O', qc, la, LI, lc, ra, RR, rc, ea, ES, ec⟩ ya yc P' _ sp mr9 mb4 (fun h s => s.rs icell.len) (wnNil s9) hOl hPl hOr hPr ms4 hw s9 _ fun zb zd kb kd gb gd h10 s10 => ?_
 simp only
 rw [← eOR] at s10 ⊢
 have g10 := (s10.mv 4).get
 have gm10 := (s10.mv 9).get
 have gs10 := (s10.mv 11).get
 have s11 := (s10.mv 4).set (.cells false 0 [.int .i64 (IntKind.i64.wrap (id + 1)), .slice zb P'.length zd, .slice kb LI.length kd, .slice gb OR.length gd, .slice none 0 0] 30)
 obtain ⟨h11, eh11⟩ : ∃ h11, h11 = h10.set b11 (.cells false 0 [.int .i64 (IntKind.i64.wrap (id + 1)), .slice zb P'.length zd, .slice kb LI.length kd, .slice gb OR.length gd, .slice none 0 0] 30) := ⟨_, rfl⟩
 rw [← eh11] at s11
 simp only [ptrTo, pend, pend0, Pd.old, pendU, pendU0, Nat.testBit, oxh, simprocAttr, gm7, gs7, gm8, gs8, gm9, gs9, gm10, gs10, g10, ← eh11, sv]
 refine hLL _ _ ?_
 refine xp11 2 (by repeat (first | exact tput_le _ _ _ _ (.inr (by omega)) | refine tput_le _ _ _ _ (.inl ?_))) (fun R => ?_)
 simp only [ptrTo, oxs, simprocAttr, show List.range 2 = [0, 1] from rfl]
 refine fg13 (fun R => ?_)
 have s12 := (s11).sel 12 [1, 2, 3, 0, 5, 8, 9, 10, 11]
 simp only [oxf] at s12
 clear s7 s8 s9 s10 s11 mr9 g10 gm10 gs10 gm9 gs9 gm8 gs8 gm7 gs7
 obtain ⟨S1, S2, s13, mr13⟩ := man_open s12 (IntKind.i64.wrap (id + 1))
 have mb13 : MfB ⟨IntKind.i64.wrap (id + 1), zb, P', zd, kb, LI, kd, gb, OR, gd, none, [], 0⟩ := ⟨by show P'.length < _; omega, bl, by show OR.length < _; omega, by show (0 : Nat) < _; omega, bl1, fun x hx => by have := hORlen x hx; omega, fun x hx => by cases hx⟩
 have ms13 : MfS ⟨IntKind.i64.wrap (id + 1), zb, P', zd, kb, LI, kd, gb, OR, gd, none, [], 0⟩ := ⟨⟨by show LI.length ≤ 60; omega, by show OR.length ≤ 60; omega, by simp, fun x hx => by cases hx⟩, hsl, hORlen⟩
 have g13 := (s13.mv 5).get
 have gs13 := (s13.mv 10).get
 have s14 := s13.push (.cells false 0 [.int .i64 0, .slice none 0 0, .slice none 0 0, .slice none 0 0, .slice none 0 0] 30)
 obtain ⟨b13, eb13⟩ : ∃ b, b = h11.next := ⟨_, rfl⟩
 obtain ⟨h14, eh14⟩ : ∃ h14, h14 = h11.push (.cells false 0 [.int .i64 0, .slice none 0 0, .slice none 0 0, .slice none 0 0, .slice none 0 0] 30) := ⟨_, rfl⟩
 rw [← eb13, ← eh14] at s14
 have g14 := (s14.mv 6).get
 have gs14 := (s14.mv 11).get
 refine sd [0, 1, 2, 3, 9, 4, 5, 6, 7, 8, 10, 11] [0, 0, 0, 0, 0, 12, 31, 63, 127, 127, 767, 2047] (by decide +kernel) (by decide +kernel) (by decide +kernel) (fun LL hLL => ?_)
 simp only [ptrTo, pend, pend0, Pd.old, pendU, pendU0, Nat.testBit, oxh, simprocAttr, g13, gs13, ← eb13, ← eh14, g14, gs14, sv]
 refine pars_ok G hg1 a c L hn12 pa3 pc3 P3 hp3 _ (Rd.of_base rp3) s14 _ fun xa xc h15 s15 => ?_
 obtain ⟨P3', eP3'⟩ : ∃ P', P' = parsOf G L.length P3 := ⟨_, rfl⟩
 have hP3l : P3'.length = L.length := by rw [eP3', parsOf_len]
 have hP3r : ∀ x ∈ P3', 1 ≤ x ∧ x ≤ 8 ∧ x ≤ (G : Int) := by rw [eP3']; exact parsOf_range hg1 _ _
 rw [← eP3'] at s15
 rw [← eP3']
 have g15 := (s15.mv 7).get
 have gs15 := (s15.mv 12).get
 have mr15 := (mr13.up (A := own b13 (.cells false 0 [.int .i64 0, .slice none 0 0, .slice none 0 0, .slice none 0 0, .slice none 0 0] 30))).up (A := wn icell 1 3 xa xc P3')
 simp only [ptrTo, pend, pend0, Pd.old, pendU, pendU0, Nat.testBit, oxh, simprocAttr, g13, gs13, g14, gs14, g15, gs15, sv]
 refine done_ok (by omega) (by omega) a c L hn12 ⟨IntKind.i64.wrap (id + 1), zb, P', zd, kb, LI, kd, gb, OR, gd, none, [], 0⟩ xa xc P3' _ sp mr15 mb13 (fun h s => s.rs icell.len) (wnNil s15) hPl hP3l hPr hP3r ms13 hORw s15 _ fun wb wd vb vd ub ud h16 s16 => ?_
 simp only
 rw [hORa] at s16 ⊢
 have g16 := (s16.mv 4).get
 have gx16 := (s16.mv 10).get
 have gs16 := (s16.mv 15).get
 have s17 := (s16.mv 4).set (.cells false 0 [.int .i64 (IntKind.i64.wrap (IntKind.i64.wrap (id + 1) + 1)), .slice wb P3'.length wd, .slice vb LI.length vd, .slice ub OR.length ud, .slice none 0 0] 30)
 obtain ⟨h17, eh17⟩ : ∃ h17, h17 = h16.set b13 (.cells false 0 [.int .i64 (IntKind.i64.wrap (IntKind.i64.wrap (id + 1) + 1)), .slice wb P3'.length wd, .slice vb LI.length vd, .slice ub OR.length ud, .slice none 0 0] 30) := ⟨_, rfl⟩
 rw [← eh17] at s17
 simp only [ptrTo, pend, pend0, Pd.old, pendU, pendU0, Nat.testBit, oxh, simprocAttr, g13, gs13, g14, gs14, g15, gs15, g16, gx16, gs16, ← eh17, sv]
 refine hLL _ _ ?_
 refine xp13 2 (by repeat (first | exact tput_le _ _ _ _ (.inr (by omega)) | refine tput_le _ _ _ _ (.inl ?_))) (fun R => ?_)
 simp only [ptrTo, oxs, simprocAttr, show List.range 2 = [0, 1] from rfl]
 refine fg15 (fun R => ?_)
 have s18 := (s17).sel 16 [1, 2, 3, 0, 11, 12, 13, 14, 15]
 simp only [oxf] at s18
 clear s12 s13 s14 s15 s16 s17 mr13 mr15 g13 gs13 g14 gs14 g15 gs15 g16 gx16 gs16
 obtain ⟨S3, S4, s19, mr19⟩ := man_open s18 (IntKind.i64.wrap (IntKind.i64.wrap (id + 1) + 1))
 have mb19 : MfB ⟨(IntKind.i64.wrap (IntKind.i64.wrap (id + 1) + 1)), wb, P3', wd, vb, LI, vd, ub, OR, ud, none, [], 0⟩ := ⟨by show P3'.length < _; omega, bl, by show OR.length < _; omega, by show (0 : Nat) < _; omega, bl1, fun x hx => by have := hORlen x hx; omega, fun x hx => by cases hx⟩
 have ms19 : MfS ⟨(IntKind.i64.wrap (IntKind.i64.wrap (id + 1) + 1)), wb, P3', wd, vb, LI, vd, ub, OR, ud, none, [], 0⟩ := ⟨⟨by show LI.length ≤ 60; omega, by show OR.length ≤ 60; omega, by simp, fun x hx => by cases hx⟩, hsl, hORlen⟩
 have g19 := (s19.mv 5).get
 have gm19 := (s19.mv 8).get
 have gs19 := (s19.mv 10).get
 refine sr (fun LL hLL => ?_)
 simp only [ptrTo, pend, pend0, Pd.old, pendU, pendU0, Nat.testBit, oxh, simprocAttr, g19, gm19, gs19]
 refine done_ok (by omega) (by omega) a c L hn12 ⟨(IntKind.i64.wrap (IntKind.i64.wrap (id + 1) + 1)), wb, P3', wd, vb, LI, vd, ub, OR, ud, none, [], 0⟩ qa qc O' _ sp mr19 mb19 (fun h s => (s.mv 9).rs icell.len) (wnNil (s19.mv 9)) hP3l hOl hP3r hOr ms19 hORw s19 _ fun ob od nb nd tb td h20 s20 => ?_
 simp only
 rw [hORa] at s20 ⊢
 have e3 : IntKind.i64.wrap (IntKind.i64.wrap (IntKind.i64.wrap (id + 1) + 1) + 1) = IntKind.i64.wrap (id + 3) := by
  rw [wrapS, show IntKind.i64.wrap (id + 1) + 1 + 1 = IntKind.i64.wrap (id + 1) + 2 by omega, wrapS, show id + 1 + 2 = id + 3 by omega]
 rw [e3]
 have s21 := s20.push (.cells false 0 [.int .i64 0, .slice none 0 0, .slice none 0 0, .slice none 0 0, .slice none 0 0] 30)
 obtain ⟨b15, eb15⟩ : ∃ b, b = h20.next := ⟨_, rfl⟩
 rw [← eb15] at s21
 have g21 := s21.get
 have s22 := s21.set (.cells false 0 [.int .i64 (IntKind.i64.wrap (id + 3)), .slice ob O'.length od, .slice nb LI.length nd, .slice tb OR.length td, .slice none 0 0] 30)
 obtain ⟨h22, eh22⟩ : ∃ h22, h22 = (h20.push (.cells false 0 [.int .i64 0, .slice none 0 0, .slice none 0 0, .slice none 0 0, .slice none 0 0] 30)).set b15 (.cells false 0 [.int .i64 (IntKind.i64.wrap (id + 3)), .slice ob O'.length od, .slice nb LI.length nd, .slice tb OR.length td, .slice none 0 0] 30) := ⟨_, rfl⟩
 rw [← eh22] at s22
 simp only [ptrTo, pend, pend0, Pd.old, pendU, pendU0, Nat.testBit, oxh, simprocAttr, g21, ← eb15, ← eh22]
 refine hLL _ _ ?_
 refine xp15 2 (by repeat (first | exact tput_le _ _ _ _ (.inr (by omega)) | refine tput_le _ _ _ _ (.inl ?_))) (fun R => ?_)
 simp only [ptrTo, oxs, simprocAttr, show List.range 2 = [0, 1] from rfl]
 refine fg17 (fun R => ?_)
 have gz := s22.get
 have gn := (s22.mv 10).get
 have gm := (s22.mv 12).get
 have rz := (s22.mv 1).rs icell.len
 have rq := (s22.mv 13).rs icell.len
 have rk := (s22.mv 2).rsn icell.len
 have rO := (s22.mv 3).rsn rcell.len
 have rN := (s22.mv 11).rsn rcell.len
 have hLI := mr.l.fr s22.base
 have hbase := s22.base
 clear s18 s19 s20 s21 s22 mr19 g19 gm19 gs19 g21 mr4
 refine wpC_seq (sr fun LL hLL => ?_)
 simp only [ptrTo, pend, pend0, Pd.old, pendU, pendU0, Nat.testBit, oxh, simprocAttr, gz, gm, ne_eq, not_true_eq_false, Bool.not_true]
 refine sameInts_ok O' O' ob qa od qc _ _ rz rq (by omega) ?_
 simp only [ptrTo, pend, pend0, Pd.old, pendU, pendU0, Nat.testBit, oxh, simprocAttr, gz, gm, decide_true, Bool.not_true]
 refine sameIntLists_ok LI LI nb la nd lc _ _ rk hLI (by omega) bl1 ?_
 simp only [ptrTo, pend, pend0, Pd.old, pendU, pendU0, Nat.testBit, oxh, simprocAttr, gz, gm, gn, decide_true, Bool.not_true, ne_eq, not_true_eq_false]
 refine hLL _ _ ?_
 refine wpC_if ?_
 simp only [ptrTo, oxs, simprocAttr]
 refine wpC_skip ?_
 simp only [ptrTo, oxs, simprocAttr]
 refine fg17 (fun R => ?_)
 refine wpC_seq ?_
 refine sr (fun LL hLL => ?_)
 simp only [ptrTo, oxs, simprocAttr]
 refine hLL _ _ ?_
 refine xp17 1 (by repeat (first | exact tput_le _ _ _ _ (.inr (by omega)) | refine tput_le _ _ _ _ (.inl ?_))) (fun R => ?_)
 simp only [ptrTo, oxs, simprocAttr, show List.range 1 = [0] from rfl]
 refine fg18 (fun R => ?_)
 refine wpC_block ?_
 refine wpC_loop (fun m T hh => ∃ (k : Nat) (u0 u1 u2 u3 u4 u5 u6 u7 u8 u10 u11 u12 u13 u14 u16 : Value) (R : List Value), hh = h22 ∧ m + k = OR.length ∧ T = u0 :: u1 :: u2 :: u3 :: u4 :: u5 :: u6 :: u7 :: u8 :: .pointer (some ⟨b9, 0, none⟩) :: u10 :: u11 :: u12 :: u13 :: u14 :: .pointer (some ⟨b15, 0, none⟩) :: u16 :: .int .i64 k :: R) ?_ OR.length _ _ ⟨0, _, _, _, _, _, _, _, _, _, _, _, _, _, _, _, _, rfl, by omega, rfl⟩
 rintro m T hh ⟨k, u0, u1, u2, u3, u4, u5, u6, u7, u8, u10, u11, u12, u13, u14, u16, R, rfl, hmk, rfl⟩
 refine wpC_seq (sr fun LL hLL => ?_)
 simp only [ptrTo, oxs, simprocAttr, gz]
 refine hLL _ _ ?_
 refine wpC_if ?_
 simp only [ptrTo, oxs, simprocAttr]
 refine gC_of (fun hc => ?_) (fun hc => ?_)
 ·refine wpC_skip ?_
  simp only [ptrTo, oxs, simprocAttr]
  refine fg18 (fun R => ?_)
  have hk' : k < OR.length := by omega
  obtain ⟨q1, o1, ro1, sz1, C1, T1, ai, ci, e1, p1, g1, v1, r1, n1⟩ := rsnAt rO k hk'
  obtain ⟨q2, o2, ro2, sz2, C2, T2, aj, cj, e2, p2, g2, v2, r2, n2⟩ := rsnAt rN k hk'
  rw [e1] at gz
  rw [e2] at gn
  refine wpC_seq (wpC_block ?_)
  refine su [some 116, some 117, some 118, some 119, some 120, some 121, some 122, some 123, some 124, some 125, some 126, some 127] 12 [0, 1, 0, 7, 15, 0, 32, 0, 224, 480, 1023, 2047] (by rfl) (by rfl) (by decide +kernel) (by decide +kernel) (by decide +kernel) (fun LL hLL => ?_)
  simp only [ptrTo, pend, pend0, Pd.old, pendU, pendU0, Nat.testBit, oxh, simprocAttr, gz, gn, ixF hk', g1, v1, g2, v2]
  refine sameRows_ok (by unfold Out; decide) OR[k] OR[k] ai aj ci cj _ _ r1 r2 (by have := hORlen _ (List.getElem_mem hk'); omega) ?_
  rw [decide_eq_true rfl]
  simp only [ptrTo, pend, pend0, Pd.old, pendU, pendU0, Nat.testBit, oxh, simprocAttr, gz, gn, ixF hk', g1, v1, g2, v2, Bool.not_true]
  refine hLL _ _ ?_
  refine wpC_if ?_
  simp only [ptrTo, oxs, simprocAttr]
  refine wpC_skip ?_
  simp only [ptrTo, oxs, simprocAttr]
  refine fg18 (fun R => ?_)
  refine rg (fun LL hLL => ?_)
  simp only [ptrTo, oxs, simprocAttr, wsucc (show k < 9223372036854775807 by omega)]
  refine hLL _ _ ?_
  simp only [ptrTo, oxs, simprocAttr]
  exact ⟨m - 1, by omega, k + 1, _, _, _, _, _, _, _, _, _, _, _, _, _, _, _, _, by omega, rfl⟩
 ·refine wpC_exit ?_
  simp only [ptrTo, oxs, simprocAttr]
  refine sr (fun LL hLL => ?_)
  simp only [ptrTo, pend, pend0, Pd.old, pendU, pendU0, Nat.testBit, oxh, simprocAttr]
  refine wpF_ext rfl ?_
  simp only [ptrTo, pend, pend0, Pd.old, pendU, pendU0, Nat.testBit, oxh, simprocAttr]
  refine hLL _ _ ?_
  refine wpC_ret (out_ret ?_)
  simp only [ptrTo, oxs, simprocAttr]
  exact hk _ hbase
end Go.Proofs

namespace Go.Proofs
open Go Go.Ox
set_option maxRecDepth 100000
set_option maxHeartbeats 4000000
def jobL (b1 b2 : Nat) : List OpX := [⟨1, [], none, 0, 0, 0, 0, 1, 1, 1⟩, ⟨5, [0], some ⟨b1, 0, none⟩, 1, 1, 0, 0, 0, 0, 1⟩, ⟨8, [1], some ⟨b2, 0, none⟩, 1, 0, 0, 0, 0, 0, 1⟩]
theorem job_ok {h0 : AHeap} {F : List Asn} (h : AHeap) (s : St h0 h F) (K : Value → AHeap → Prop)
  (hk : ∀ b1 b2 b3 h', St h0 h' (own b1 (.cells false 1 [.int .i64 0] 3) :: own b2 (.cells false 1 [.int .i64 1] 3) :: own b3 (.cells false 8 ((jobL b1 b2).flatMap OpX.cells) 69) :: F) → K (.agg #[.int .i64 4, .slice (some ⟨b3, 0, none⟩) 3 3]) h') :
  wpF Tryz.prog (.fn 21) [] h K := by
 have z1 : aZeros [.int .i64 0] 1 = [.int .i64 0] := rfl
 have z3 : aZeros [.int .i64 0, .slice none 0 0, .int .i64 0, .int .i64 0, .int .i64 0, .int .i64 0, .int .i64 0, .int .i64 0] 3 = [.int .i64 0, .slice none 0 0, .int .i64 0, .int .i64 0, .int .i64 0, .int .i64 0, .int .i64 0, .int .i64 0, .int .i64 0, .slice none 0 0, .int .i64 0, .int .i64 0, .int .i64 0, .int .i64 0, .int .i64 0, .int .i64 0, .int .i64 0, .slice none 0 0, .int .i64 0, .int .i64 0, .int .i64 0, .int .i64 0, .int .i64 0, .int .i64 0] := rfl
 refine wpF_fun 9 [.cell 0 24] Tryz.func21 rfl rfl rfl rfl ?_
 obtain ⟨b0, eb0⟩ : ∃ b, b = h.next := ⟨_, rfl⟩
 have s1 := s.push (.cells false 0 [.int .i64 0, .slice none 0 0] 24)
 rw [← eb0] at s1
 obtain ⟨h1, e1⟩ : ∃ h1, h1 = h.push (.cells false 0 [.int .i64 0, .slice none 0 0] 24) := ⟨_, rfl⟩
 rw [← e1] at s1
 refine sr (fun LL hLL => ?_)
 simp only [ptrTo, oxs, simprocAttr, ← eb0, ← e1]
 refine hLL _ _ ?_
 obtain ⟨b1, eb1⟩ : ∃ b, b = h1.next := ⟨_, rfl⟩
 have s2 := s1.push (.cells false 1 [.int .i64 0] 3)
 rw [← eb1] at s2
 obtain ⟨h2, e2⟩ : ∃ h2, h2 = h1.push (.cells false 1 [.int .i64 0] 3) := ⟨_, rfl⟩
 rw [← e2] at s2
 obtain ⟨b2, eb2⟩ : ∃ b, b = h2.next := ⟨_, rfl⟩
 have s3 := s2.push (.cells false 1 [.int .i64 1] 3)
 rw [← eb2] at s3
 obtain ⟨h3, e3⟩ : ∃ h3, h3 = h2.push (.cells false 1 [.int .i64 1] 3) := ⟨_, rfl⟩
 rw [← e3] at s3
 obtain ⟨b3, eb3⟩ : ∃ b, b = h3.next := ⟨_, rfl⟩
 have s4 := s3.push (.cells false 8 ((jobL b1 b2).flatMap OpX.cells) 69)
 rw [← eb3] at s4
 obtain ⟨h4, e4⟩ : ∃ h4, h4 = h3.push (.cells false 8 ((jobL b1 b2).flatMap OpX.cells) 69) := ⟨_, rfl⟩
 rw [← e4] at s4
 have e4' : h4 = h3.push (.cells false 8 [.int .i64 1, .slice none 0 0, .int .i64 0, .int .i64 0, .int .i64 0, .int .i64 1, .int .i64 1, .int .i64 1, .int .i64 5, .slice (some ⟨b1, 0, none⟩) 1 1, .int .i64 1, .int .i64 0, .int .i64 0, .int .i64 0, .int .i64 0, .int .i64 1, .int .i64 8, .slice (some ⟨b2, 0, none⟩) 1 1, .int .i64 0, .int .i64 0, .int .i64 0, .int .i64 0, .int .i64 0, .int .i64 1] 69) := e4
 have g0 := (s4.mv 3).get
 refine sr (fun LL hLL => ?_)
 simp only [ptrTo, oxs, simprocAttr, z1, z3, ← eb1, ← e2, ← eb2, ← e3, ← eb3, ← e4', g0]
 refine hLL _ _ ?_
 refine wpC_ret (out_ret ?_)
 simp only [ptrTo, oxs, simprocAttr]
 have s5 := (s4.mv 3).set (.cells false 0 [.int .i64 4, .slice (some ⟨b3, 0, none⟩) 3 3] 24)
 simp only [s5.get]
 exact hk _ _ _ _ (s5.sel 4 [3, 2, 1])
/-- The rows. -/
def krows (n : Nat) : List Rw := (List.range n).map fun (i : Nat) => (((i : Int) * 13 - 200, ((i : Int), (1 : Int))) : Rw)
theorem krows_len (n : Nat) : (krows n).length = n := by simp [krows]
theorem krows_snoc (n : Nat) : krows (n + 1) = krows n ++ [(((n : Int) * 13 - 200, ((n : Int), (1 : Int))) : Rw)] := by simp [krows, List.range_succ]
theorem krows_wf (n : Nat) (hn : n ≤ 40) : ∀ r ∈ krows n, (Lit.int .i64 r.1).wf = true := fun r hr => by
 obtain ⟨i, hi, rfl⟩ := List.mem_map.1 hr
 rw [List.mem_range] at hi
 refine wfOf ⟨?_, ?_⟩ <;> simp [IntKind.min, IntKind.max, IntKind.signed, IntKind.bits] <;> omega
end Go.Proofs

namespace Go.Proofs
open Go Go.Ox
set_option maxRecDepth 100000
set_option maxHeartbeats 8000000
theorem oxLaw4 (h : AHeap) : wpF Tryz.prog (.fn 4) [] h fun v _ => v = .bool true := by
 have s := St.init h
 refine wpF_fun 70 [.tmp 0] Tryz.func4 rfl rfl rfl rfl ?_
 refine sr (fun LL hLL => ?_)
 simp only [ptrTo, oxs, simprocAttr]
 refine hLL _ _ ?_
 refine sr (fun LL hLL => ?_)
 simp only [ptrTo, pend, pend0, Pd.old, pendU, pendU0, Nat.testBit, oxh, simprocAttr]
 refine job_ok _ s _ fun b1 b2 b3 h1 s1 => ?_
 have s2 := s1.push (.cells false 0 [.int .i64 0, .slice none 0 0] 24)
 obtain ⟨bs, ebs⟩ : ∃ b, b = h1.next := ⟨_, rfl⟩
 rw [← ebs] at s2
 have g2 := s2.get
 have s3 := s2.set (.cells false 0 [.int .i64 4, .slice (some ⟨b3, 0, none⟩) 3 3] 24)
 obtain ⟨h3, e3⟩ : ∃ h3, h3 = (h1.push (.cells false 0 [.int .i64 0, .slice none 0 0] 24)).set bs (.cells false 0 [.int .i64 4, .slice (some ⟨b3, 0, none⟩) 3 3] 24) := ⟨_, rfl⟩
 rw [← e3] at s3
 simp only [ptrTo, pend, pend0, Pd.old, pendU, pendU0, Nat.testBit, oxh, simprocAttr, g2, ← ebs, ← e3]
 refine hLL _ _ ?_
 have g3 := s3.get
 have s4 := s3.set (.cells false 0 [.int .i64 5, .slice (some ⟨b3, 0, none⟩) 3 3] 24)
 obtain ⟨h4, e4⟩ : ∃ h4, h4 = h3.set bs (.cells false 0 [.int .i64 5, .slice (some ⟨b3, 0, none⟩) 3 3] 24) := ⟨_, rfl⟩
 rw [← e4] at s4
 refine sr (fun LL hLL => ?_)
 simp only [ptrTo, oxs, simprocAttr, g3, ← e4]
 refine hLL _ _ ?_
 refine sr (fun LL hLL => ?_)
 simp only [ptrTo, oxs, simprocAttr]
 refine hLL _ _ ?_
 refine sm (fun T h' => ∃ (ra : Option Addr) (rc : Nat) (u0 : Value) (R : List Value), St h h' (wn rcell 3 52 ra rc (krows 40) :: own bs (.cells false 0 [.int .i64 5, .slice (some ⟨b3, 0, none⟩) 3 3] 24) :: own b1 (.cells false 1 [.int .i64 0] 3) :: own b2 (.cells false 1 [.int .i64 1] 3) :: own b3 (.cells false 8 ((jobL b1 b2).flatMap OpX.cells) 69) :: []) ∧
  T = u0 :: .pointer (some ⟨bs, 0, none⟩) :: .slice ra (krows 40).length rc :: R) ?_ ?_
 ·refine sr (fun LL hLL => ?_)
  simp only [ptrTo, oxs, simprocAttr]
  refine hLL _ _ ?_
  refine fg4 (fun R => ?_)
  refine wpC_block ?_
  have s5 := s4.wn_nil (f := rcell) (k := 3) (e := 52)
  refine wpC_loop (fun m T h' => ∃ (i : Nat) (ra : Option Addr) (rc : Nat) (u0 : Value) (R : List Value), m + i = 40 ∧ St h h' (wn rcell 3 52 ra rc (krows i) :: own bs (.cells false 0 [.int .i64 5, .slice (some ⟨b3, 0, none⟩) 3 3] 24) :: own b1 (.cells false 1 [.int .i64 0] 3) :: own b2 (.cells false 1 [.int .i64 1] 3) :: own b3 (.cells false 8 ((jobL b1 b2).flatMap OpX.cells) 69) :: []) ∧
   T = u0 :: .pointer (some ⟨bs, 0, none⟩) :: .slice ra (krows i).length rc :: .int .i64 i :: R) ?_ 40 _ _ ⟨0, none, 0, _, R, by omega, s5, rfl⟩
  rintro m T h' ⟨i, ra, rc, u0, R, hmi, s6, rfl⟩
  have hkl := krows_len i
  by_cases hi : i < 40
  ·refine wpC_seq (sr fun LL hLL => ?_)
   simp only [ptrTo, oxs, simprocAttr, eq_true (show (i : Int) < 40 by omega)]
   refine hLL _ _ ?_
   refine wpC_if ?_
   simp only [ptrTo, oxs, simprocAttr]
   refine wpC_skip ?_
   simp only [ptrTo, oxs, simprocAttr]
   refine fg4 (fun R => ?_)
   have w1 : IntKind.i64.wrap ((i : Int) * 13) = (i : Int) * 13 := wrap_i64 (by omega) (by omega)
   have w2 : IntKind.i64.wrap ((i : Int) * 13 - 200) = (i : Int) * 13 - 200 := wrap_i64 (by omega) (by omega)
   have zz : aZeros [.int .i64 0, .int .i64 0, .int .i64 0] 1 = [.int .i64 0, .int .i64 0, .int .i64 0] := rfl
   obtain ⟨aE, cE, h7, y1, y2⟩ := s6.app1 (bytes := 24) (((i : Int) * 13 - 200, ((i : Int), 1)) : Rw) rcell.len rcell.oc (by omega) (by omega)
   have y1' := y1
   simp only [rcell] at y1'
   refine wpC_seq (wpC_block ?_)
   refine rg (fun LL hLL => ?_)
   simp only [ptrTo, oxs, simprocAttr, w1, w2, zz]
   rw [y1']
   simp only [ptrTo, oxs, simprocAttr]
   refine hLL _ _ ?_
   simp only [ptrTo, oxs, simprocAttr]
   refine fg4 (fun R => ?_)
   refine rg (fun LL hLL => ?_)
   simp only [ptrTo, oxs, simprocAttr, wsucc (show i < 9223372036854775807 by omega)]
   refine hLL _ _ ?_
   simp only [ptrTo, oxs, simprocAttr]
   rw [← krows_snoc] at y2
   rw [show (krows i).length + 1 = (krows (i + 1)).length by rw [krows_len, krows_len]]
   exact ⟨m - 1, by omega, i + 1, aE, cE, _, _, by omega, y2, rfl⟩
  ·obtain rfl : i = 40 := by omega
   refine wpC_seq (sr fun LL hLL => ?_)
   simp only [ptrTo, oxs, simprocAttr, eq_false (show ¬ ((40 : Nat) : Int) < 40 by omega)]
   refine hLL _ _ ?_
   refine wpC_if ?_
   simp only [ptrTo, oxs, simprocAttr]
   refine wpC_exit ?_
   simp only [ptrTo, oxs, simprocAttr]
   exact ⟨ra, rc, _, _, s6, rfl⟩
 rintro T h' ⟨ra, rc, u0, R, s6, rfl⟩
 clear s2 s3 s4 g2 g3 s1
 obtain ⟨F0, eF0⟩ : ∃ F0, F0 = wn rcell 3 52 ra rc (krows 40) :: own bs (.cells false 0 [.int .i64 5, .slice (some ⟨b3, 0, none⟩) 3 3] 24) :: own b1 (.cells false 1 [.int .i64 0] 3) :: own b2 (.cells false 1 [.int .i64 1] 3) :: own b3 (.cells false 8 ((jobL b1 b2).flatMap OpX.cells) 69) :: [] := ⟨_, rfl⟩
 have gets : ∀ h', St h h' F0 → h'.get bs = some (.cells false 0 [.int .i64 5, .slice (some ⟨b3, 0, none⟩) 3 3] 24) := fun h' s => by subst eF0; exact (s.mv 1).get
 have rrw : ∀ h', St h h' F0 → Rs rcell 3 h' ra (krows 40) := fun h' s => by subst eF0; exact s.rs rcell.len
 have hra : ra = none → krows 40 = [] ∧ rc = 0 := fun hn => by
  obtain ⟨B, w⟩ := s6.wnB
  rcases w with ⟨h1, _, h2, _⟩ | ⟨c, h, _⟩
  ·exact ⟨h1, h2⟩
  ·rw [hn] at h; cases h
 have spJ : ∀ h', St h h' F0 → SpR h' (some ⟨b3, 0, none⟩) (jobL b1 b2) := fun h' s => by
  subst eF0
  refine ⟨((s.mv 4).wn_own (f := OpX.cells) (jobL b1 b2) rfl).rs OpX.len, fun x hx => ?_, by show (3 : Nat) < _; omega⟩
  have hx' : x = ⟨1, [], none, 0, 0, 0, 0, 1, 1, 1⟩ ∨ x = ⟨5, [0], some ⟨b1, 0, none⟩, 1, 1, 0, 0, 0, 0, 1⟩ ∨ x = ⟨8, [1], some ⟨b2, 0, none⟩, 1, 0, 0, 0, 0, 0, 1⟩ := by simpa [jobL] using hx
  rcases hx' with rfl | rfl | rfl
  ·exact ⟨.inl rfl, by show (0 : Nat) < _; omega⟩
  ·exact ⟨((s.mv 2).wn_own (f := icell) [0] rfl).rs icell.len, by show (1 : Nat) < _; omega⟩
  ·exact ⟨((s.mv 3).wn_own (f := icell) [1] rfl).rs icell.len, by show (1 : Nat) < _; omega⟩
 rw [← eF0] at s6
 have hk40 := krows_len 40
 rw [hk40]
 have z1 : aZeros [.int .i64 0] 1 = [.int .i64 0] := rfl
 have z2 : aZeros [.int .i64 0] 2 = [.int .i64 0, .int .i64 0] := rfl
 have z3 : aZeros [.int .i64 0] 3 = [.int .i64 0, .int .i64 0, .int .i64 0] := rfl
 have y1 : aZeros [.slice none 0 0] 1 = [.slice none 0 0] := rfl
 have y2 : aZeros [.slice none 0 0] 2 = [.slice none 0 0, .slice none 0 0] := rfl
 clear eF0
 refine sm (fun T h' => St h h' F0 ∧ ∃ (u0 u1 u2 : Value) (R : List Value), T = u0 :: u1 :: u2 :: R) ?_ ?_
 ·refine sr (fun LL hLL => ?_)
  simp only [ptrTo, oxs, simprocAttr]
  refine hLL _ _ ?_
  refine xp3 2 (by repeat (first | exact tput_le _ _ _ _ (.inr (by omega)) | refine tput_le _ _ _ _ (.inl ?_))) (fun R => ?_)
  simp only [ptrTo, oxs, simprocAttr, show List.range 2 = [0, 1] from rfl]
  refine fg5 (fun R => ?_)
  refine wpC_block ?_
  refine wpC_loop (fun m T h' => ∃ (i : Nat) (u0 u3 : Value) (R : List Value), m + i = 5 ∧ St h h' F0 ∧ T = u0 :: .pointer (some ⟨bs, 0, none⟩) :: .slice ra 40 rc :: u3 :: .int .i64 i :: R) ?_ 5 _ _ ⟨0, _, _, R, by omega, s6, rfl⟩
  clear s6
  rintro m T h' ⟨i, u0, u3, R, hmi, s6, rfl⟩
  by_cases hi : i < 5
  ·refine wpC_seq (sr fun LL hLL => ?_)
   simp only [ptrTo, oxs, simprocAttr, eq_true (show (i : Int) < 5 by omega)]
   refine hLL _ _ ?_
   refine wpC_if ?_
   simp only [ptrTo, oxs, simprocAttr]
   refine wpC_skip ?_
   simp only [ptrTo, oxs, simprocAttr]
   refine fg5 (fun R => ?_)
   refine wpC_seq (wpC_block ?_)
   refine sr (fun LL hLL => ?_)
   simp only [ptrTo, oxs, simprocAttr]
   refine hLL _ _ ?_
   refine xp5 1 (by repeat (first | exact tput_le _ _ _ _ (.inr (by omega)) | refine tput_le _ _ _ _ (.inl ?_))) (fun R => ?_)
   simp only [ptrTo, oxs, simprocAttr, show List.range 1 = [0] from rfl]
   refine fg6 (fun R => ?_)
   refine wpC_block ?_
   refine wpC_loop (fun mj T h' => ∃ (j : Nat) (u0 u3 : Value) (R : List Value), mj + j = 5 ∧ St h h' F0 ∧ T = u0 :: .pointer (some ⟨bs, 0, none⟩) :: .slice ra 40 rc :: u3 :: .int .i64 i :: .int .i64 j :: R) ?_ 5 _ _ ⟨0, _, _, R, by omega, s6, rfl⟩
   clear s6
   rintro mj T h' ⟨j, u0, u3, R, hmj, s6, rfl⟩
   by_cases hj : j < 5
   ·refine wpC_seq (sr fun LL hLL => ?_)
    simp only [ptrTo, oxs, simprocAttr, eq_true (show (j : Int) < 5 by omega)]
    refine hLL _ _ ?_
    refine wpC_if ?_
    simp only [ptrTo, oxs, simprocAttr]
    refine wpC_skip ?_
    simp only [ptrTo, oxs, simprocAttr]
    refine fg6 (fun R => ?_)
    have s7 := s6.push (.cells false 1 [.int .i64 0, .int .i64 (i : Int), .int .i64 0] 3)
    obtain ⟨q1, eq1⟩ : ∃ b, b = h'.next := ⟨_, rfl⟩
    obtain ⟨h7, eh7⟩ : ∃ x, x = h'.push (.cells false 1 [.int .i64 0, .int .i64 (i : Int), .int .i64 0] 3) := ⟨_, rfl⟩
    rw [← eq1, ← eh7] at s7
    have s8 := s7.push (.cells false 1 [.int .i64 3] 3)
    obtain ⟨q2, eq2⟩ : ∃ b, b = h7.next := ⟨_, rfl⟩
    obtain ⟨h8, eh8⟩ : ∃ x, x = h7.push (.cells false 1 [.int .i64 3] 3) := ⟨_, rfl⟩
    rw [← eq2, ← eh8] at s8
    have s9 := s8.push (.cells false 1 [.slice (some ⟨q2, 0, none⟩) 1 1] 25)
    obtain ⟨q3, eq3⟩ : ∃ b, b = h8.next := ⟨_, rfl⟩
    obtain ⟨h9, eh9⟩ : ∃ x, x = h8.push (.cells false 1 [.slice (some ⟨q2, 0, none⟩) 1 1] 25) := ⟨_, rfl⟩
    rw [← eq3, ← eh9] at s9
    have s10 := s9.push (.cells false 1 [.slice ra 40 rc, .slice ra 40 rc] 48)
    obtain ⟨q4, eq4⟩ : ∃ b, b = h9.next := ⟨_, rfl⟩
    obtain ⟨h10, eh10⟩ : ∃ x, x = h9.push (.cells false 1 [.slice ra 40 rc, .slice ra 40 rc] 48) := ⟨_, rfl⟩
    rw [← eq4, ← eh10] at s10
    have s11 := s10.push (.cells false 0 [.int .i64 0, .slice none 0 0, .slice none 0 0, .slice none 0 0, .slice none 0 0] 30)
    obtain ⟨b6, eb6⟩ : ∃ b, b = h10.next := ⟨_, rfl⟩
    obtain ⟨h11, eh11⟩ : ∃ x, x = h10.push (.cells false 0 [.int .i64 0, .slice none 0 0, .slice none 0 0, .slice none 0 0, .slice none 0 0] 30) := ⟨_, rfl⟩
    rw [← eb6, ← eh11] at s11
    have g11 := s11.get
    have s12 := s11.set (.cells false 0 [.int .i64 1, .slice (some ⟨q1, 0, none⟩) 3 3, .slice (some ⟨q3, 0, none⟩) 1 1, .slice (some ⟨q4, 0, none⟩) 2 2, .slice none 0 0] 30)
    obtain ⟨h12, e12⟩ : ∃ x, x = h11.set b6 (.cells false 0 [.int .i64 1, .slice (some ⟨q1, 0, none⟩) 3 3, .slice (some ⟨q3, 0, none⟩) 1 1, .slice (some ⟨q4, 0, none⟩) 2 2, .slice none 0 0] 30) := ⟨_, rfl⟩
    rw [← e12] at s12
    refine wpC_seq (wpC_block ?_)
    refine sr (fun LL hLL => ?_)
    simp only [ptrTo, oxs, simprocAttr, z1, z3, y1, y2, ← eq1, ← eh7, ← eq2, ← eh8, ← eq3, ← eh9, ← eq4, ← eh10, ← eb6, ← eh11, g11, ← e12]
    refine hLL _ _ ?_
    refine xp6 1 (by repeat (first | exact tput_le _ _ _ _ (.inr (by omega)) | refine tput_le _ _ _ _ (.inl ?_))) (fun R => ?_)
    simp only [ptrTo, oxs, simprocAttr, show List.range 1 = [0] from rfl]
    refine fg7 (fun R => ?_)
    clear s7 s8 s9 s10 s11 g11
    obtain ⟨FM, eFM⟩ : ∃ FM, FM = own b6 (.cells false 0 [.int .i64 1, .slice (some ⟨q1, 0, none⟩) 3 3, .slice (some ⟨q3, 0, none⟩) 1 1, .slice (some ⟨q4, 0, none⟩) 2 2, .slice none 0 0] 30) :: own q4 (.cells false 1 [.slice ra 40 rc, .slice ra 40 rc] 48) :: own q3 (.cells false 1 [.slice (some ⟨q2, 0, none⟩) 1 1] 25) :: own q2 (.cells false 1 [.int .i64 3] 3) :: own q1 (.cells false 1 [.int .i64 0, .int .i64 (i : Int), .int .i64 0] 3) :: F0 := ⟨_, rfl⟩
    have toF0 : ∀ h', St h h' FM → St h h' F0 := fun h' s => by subst eFM; exact s.drop.drop.drop.drop.drop
    have getm : ∀ h', St h h' FM → h'.get b6 = some (.cells false 0 [.int .i64 1, .slice (some ⟨q1, 0, none⟩) 3 3, .slice (some ⟨q3, 0, none⟩) 1 1, .slice (some ⟨q4, 0, none⟩) 2 2, .slice none 0 0] 30) := fun h' s => by subst eFM; exact s.get
    obtain ⟨m, em⟩ : ∃ m : MfX, m = ⟨1, some ⟨q1, 0, none⟩, [0, (i : Int), 0], 3, some ⟨q3, 0, none⟩, [[3]], 1, some ⟨q4, 0, none⟩, [krows 40, krows 40], 2, none, [], 0⟩ := ⟨_, rfl⟩
    have mrd : ∀ h', St h h' FM → MfR h' m := fun h' s => by
     subst em
     have sF := rrw _ (toF0 _ s)
     subst eFM
     refine ⟨((s.mv 4).wn_own (f := icell) [0, (i : Int), 0] rfl).rs icell.len, ⟨[⟨some ⟨q2, 0, none⟩, 1, 1⟩], rfl, ((s.mv 2).wn_own (f := Sv.cells) [⟨some ⟨q2, 0, none⟩, 1, 1⟩] rfl).rs Sv.len1, fun n hn hj => ?_⟩, ⟨[⟨ra, 40, rc⟩, ⟨ra, 40, rc⟩], by simp [hk40], ((s.mv 1).wn_own (f := Sv.cells) [⟨ra, 40, rc⟩, ⟨ra, 40, rc⟩] rfl).rs Sv.len1, fun n hn hj => ?_⟩, .inl rfl⟩
     ·have : n = 0 := by simp at hn; omega
      subst this
      exact ⟨((s.mv 3).wn_own (f := icell) [3] rfl).rs icell.len, fun h => by cases h⟩
     ·have : n = 0 ∨ n = 1 := by simp at hn; omega
      rcases this with rfl | rfl
      ·exact ⟨sF, hra⟩
      ·exact ⟨sF, hra⟩
    have mb : MfB m := by
     subst em
     refine ⟨by show (3 : Nat) < _; omega, by show (1 : Nat) < _; omega, by show (2 : Nat) < _; omega, by show (0 : Nat) < _; omega, fun x hx => ?_, fun x hx => ?_, fun x hx => by cases hx⟩
     ·obtain rfl : x = [3] := by simpa using hx
      show (1 : Nat) < _; omega
     ·obtain rfl : x = krows 40 := by simpa using hx
      rw [hk40]; omega
    have mw : ∀ l ∈ m.RR, ∀ r ∈ l, (Lit.int .i64 r.1).wf = true := by
     subst em
     intro l hl
     obtain rfl : l = krows 40 := by simpa using hl
     exact krows_wf 40 (by omega)
    have mc : m.cells = [.int .i64 1, .slice (some ⟨q1, 0, none⟩) 3 3, .slice (some ⟨q3, 0, none⟩) 1 1, .slice (some ⟨q4, 0, none⟩) 2 2, .slice none 0 0] := by rw [em]; rfl
    have me : m.ea = none ∧ m.ES = [] := by rw [em]; exact ⟨rfl, rfl⟩
    rw [← eFM] at s12
    clear eFM em
    have call1 : ∀ q h1 K, St h h1 (own q (.cells false 1 [.int .i64 0, .int .i64 (j : Int), .int .i64 4] 3) :: FM) → (∀ h2, St h h2 FM → K (.bool true) h2) → wpF Tryz.prog (.fn 3) [.agg #[.int .i64 5, .slice (some ⟨b3, 0, none⟩) 3 3], .agg #[.int .i64 1, .slice (some ⟨q1, 0, none⟩) 3 3, .slice (some ⟨q3, 0, none⟩) 1 1, .slice (some ⟨q4, 0, none⟩) 2 2, .slice none 0 0], .slice (some ⟨q, 0, none⟩) 3 3] h1 K := fun q h1 K s hK => by
     have := runs_body 5 (some ⟨b3, 0, none⟩) 3 (jobL b1 b2) m [] (some ⟨q, 0, none⟩) 3 [0, (j : Int), 4] h1 (spJ _ (toF0 _ s.drop)) (mrd _ s.drop) mb (by rw [me.1]; exact ⟨[], rfl, .inl rfl, fun i hi _ => by simp at hi⟩) (by rw [me.2]; rfl) mw ((s.wn_own (f := icell) [0, (j : Int), 4] rfl).rs icell.len) (by show (3 : Nat) < _; omega) K fun h2 fr => hK h2 (s.drop.fr fr)
     rw [mc] at this
     exact this
    have call2 : ∀ q h1 K, St h h1 (own q (.cells false 1 [.int .i64 0, .int .i64 (j : Int), .int .i64 4] 3) :: FM) → (∀ h2, St h h2 FM → K (.bool true) h2) → wpF Tryz.prog (.fn 22) [.agg #[.int .i64 5, .slice (some ⟨b3, 0, none⟩) 3 3], .agg #[.int .i64 1, .slice (some ⟨q1, 0, none⟩) 3 3, .slice (some ⟨q3, 0, none⟩) 1 1, .slice (some ⟨q4, 0, none⟩) 2 2, .slice none 0 0], .slice (some ⟨q, 0, none⟩) 3 3] h1 K := fun q h1 K s hK => by
     have := keeps_body 5 (some ⟨b3, 0, none⟩) 3 (jobL b1 b2) m (some ⟨q, 0, none⟩) 3 [0, (j : Int), 4] h1 (spJ _ (toF0 _ s.drop)) (mrd _ s.drop) mb mw ((s.wn_own (f := icell) [0, (j : Int), 4] rfl).rs icell.len) (by show (3 : Nat) < _; omega) K fun h2 fr => hK h2 (s.drop.fr fr)
     rw [mc] at this
     exact this
    have call3 : ∀ q q' h1 K, St h h1 (own q' (.cells false 1 [.int .i64 0, .int .i64 4] 3) :: own q (.cells false 1 [.int .i64 0, .int .i64 (j : Int)] 3) :: FM) → (∀ h2, St h h2 FM → K (.bool true) h2) → wpF Tryz.prog (.fn 23) [.agg #[.int .i64 5, .slice (some ⟨b3, 0, none⟩) 3 3], .agg #[.int .i64 1, .slice (some ⟨q1, 0, none⟩) 3 3, .slice (some ⟨q3, 0, none⟩) 1 1, .slice (some ⟨q4, 0, none⟩) 2 2, .slice none 0 0], .slice (some ⟨q, 0, none⟩) 2 2, .slice (some ⟨q', 0, none⟩) 2 2] h1 K := fun q q' h1 K s hK => by
     have := back_body 5 (some ⟨b3, 0, none⟩) 3 (jobL b1 b2) m (some ⟨q, 0, none⟩) 2 [0, (j : Int)] (some ⟨q', 0, none⟩) 2 [0, 4] h1 (spJ _ (toF0 _ s.drop.drop)) (mrd _ s.drop.drop) mb mw (((s.mv 1).wn_own (f := icell) [0, (j : Int)] rfl).rs icell.len) (by show (2 : Nat) < _; omega) ((s.wn_own (f := icell) [0, 4] rfl).rs icell.len) (by show (2 : Nat) < _; omega) K fun h2 fr => hK h2 (s.drop.drop.fr fr)
     rw [mc] at this
     exact this
    have call4 : ∀ q h1 K, St h h1 (own q (.cells false 1 [.int .i64 1, .int .i64 (j : Int), .int .i64 1] 3) :: FM) → (∀ h2, St h h2 FM → K (.bool true) h2) → wpF Tryz.prog (.fn 24) [.agg #[.int .i64 5, .slice (some ⟨b3, 0, none⟩) 3 3], .agg #[.int .i64 1, .slice (some ⟨q1, 0, none⟩) 3 3, .slice (some ⟨q3, 0, none⟩) 1 1, .slice (some ⟨q4, 0, none⟩) 2 2, .slice none 0 0], .slice (some ⟨q, 0, none⟩) 3 3] h1 K := fun q h1 K s hK => by
     have := steps_body 5 (some ⟨b3, 0, none⟩) 3 (jobL b1 b2) m (some ⟨q, 0, none⟩) 3 [1, (j : Int), 1] h1 (spJ _ (toF0 _ s.drop)) (mrd _ s.drop) mb mw ((s.wn_own (f := icell) [1, (j : Int), 1] rfl).rs icell.len) (by show (3 : Nat) < _; omega) K fun h2 fr => hK h2 (s.drop.fr fr)
     rw [mc] at this
     exact this
    have gs1 := gets _ (toF0 _ s12)
    have gm1 := getm _ s12
    have s13 := s12.push (.cells false 1 [.int .i64 0, .int .i64 (j : Int), .int .i64 4] 3)
    obtain ⟨p1, ep1⟩ : ∃ b, b = h12.next := ⟨_, rfl⟩
    obtain ⟨h13, eh13⟩ : ∃ x, x = h12.push (.cells false 1 [.int .i64 0, .int .i64 (j : Int), .int .i64 4] 3) := ⟨_, rfl⟩
    rw [← ep1, ← eh13] at s13
    refine sr (fun LL hLL => ?_)
    simp only [ptrTo, pend, pend0, Pd.old, pendU, pendU0, Nat.testBit, oxh, simprocAttr, gs1, gm1, z3, ← ep1, ← eh13]
    refine call1 _ _ _ s13 fun h14 s14 => ?_
    have gs2 := gets _ (toF0 _ s14)
    have gm2 := getm _ s14
    have s15 := s14.push (.cells false 1 [.int .i64 0, .int .i64 (j : Int), .int .i64 4] 3)
    obtain ⟨p2, ep2⟩ : ∃ b, b = h14.next := ⟨_, rfl⟩
    obtain ⟨h15, eh15⟩ : ∃ x, x = h14.push (.cells false 1 [.int .i64 0, .int .i64 (j : Int), .int .i64 4] 3) := ⟨_, rfl⟩
    rw [← ep2, ← eh15] at s15
    simp only [ptrTo, pend, pend0, Pd.old, pendU, pendU0, Nat.testBit, oxh, simprocAttr, gs2, gm2, z3, ← ep2, ← eh15, Bool.not_true]
    refine call2 _ _ _ s15 fun h16 s16 => ?_
    have gs3 := gets _ (toF0 _ s16)
    have gm3 := getm _ s16
    have s17 := s16.push (.cells false 1 [.int .i64 0, .int .i64 (j : Int)] 3)
    obtain ⟨p3, ep3⟩ : ∃ b, b = h16.next := ⟨_, rfl⟩
    obtain ⟨h17, eh17⟩ : ∃ x, x = h16.push (.cells false 1 [.int .i64 0, .int .i64 (j : Int)] 3) := ⟨_, rfl⟩
    rw [← ep3, ← eh17] at s17
    have s18 := s17.push (.cells false 1 [.int .i64 0, .int .i64 4] 3)
    obtain ⟨p4, ep4⟩ : ∃ b, b = h17.next := ⟨_, rfl⟩
    obtain ⟨h18, eh18⟩ : ∃ x, x = h17.push (.cells false 1 [.int .i64 0, .int .i64 4] 3) := ⟨_, rfl⟩
    rw [← ep4, ← eh18] at s18
    simp only [ptrTo, pend, pend0, Pd.old, pendU, pendU0, Nat.testBit, oxh, simprocAttr, gs3, gm3, z2, ← ep3, ← eh17, ← ep4, ← eh18, Bool.not_true]
    refine call3 _ _ _ _ s18 fun h19 s19 => ?_
    have gs4 := gets _ (toF0 _ s19)
    have gm4 := getm _ s19
    have s20 := s19.push (.cells false 1 [.int .i64 1, .int .i64 (j : Int), .int .i64 1] 3)
    obtain ⟨p5, ep5⟩ : ∃ b, b = h19.next := ⟨_, rfl⟩
    obtain ⟨h20, eh20⟩ : ∃ x, x = h19.push (.cells false 1 [.int .i64 1, .int .i64 (j : Int), .int .i64 1] 3) := ⟨_, rfl⟩
    rw [← ep5, ← eh20] at s20
    simp only [ptrTo, pend, pend0, Pd.old, pendU, pendU0, Nat.testBit, oxh, simprocAttr, gs4, gm4, z3, ← ep5, ← eh20, Bool.not_true]
    refine call4 _ _ _ s20 fun h21 s21 => ?_
    simp only [ptrTo, pend, pend0, Pd.old, pendU, pendU0, Nat.testBit, oxh, simprocAttr, Bool.not_true]
    refine hLL _ _ ?_
    refine wpC_if ?_
    simp only [ptrTo, oxs, simprocAttr]
    refine wpC_skip ?_
    simp only [ptrTo, oxs, simprocAttr]
    refine fg6 (fun R => ?_)
    refine rg (fun LL hLL => ?_)
    simp only [ptrTo, oxs, simprocAttr, wsucc (show j < 9223372036854775807 by omega)]
    refine hLL _ _ ?_
    simp only [ptrTo, oxs, simprocAttr]
    exact ⟨mj - 1, by omega, j + 1, _, _, _, by omega, toF0 _ s21, rfl⟩
   ·refine wpC_seq (sr fun LL hLL => ?_)
    simp only [ptrTo, oxs, simprocAttr, eq_false (show ¬ (j : Int) < 5 by omega)]
    refine hLL _ _ ?_
    refine wpC_if ?_
    simp only [ptrTo, oxs, simprocAttr]
    refine wpC_exit ?_
    simp only [ptrTo, oxs, simprocAttr]
    refine fg5 (fun R => ?_)
    refine rg (fun LL hLL => ?_)
    simp only [ptrTo, oxs, simprocAttr, wsucc (show i < 9223372036854775807 by omega)]
    refine hLL _ _ ?_
    simp only [ptrTo, oxs, simprocAttr]
    exact ⟨m - 1, by omega, i + 1, _, _, _, by omega, s6, rfl⟩
  ·refine wpC_seq (sr fun LL hLL => ?_)
   simp only [ptrTo, oxs, simprocAttr, eq_false (show ¬ (i : Int) < 5 by omega)]
   refine hLL _ _ ?_
   refine wpC_if ?_
   simp only [ptrTo, oxs, simprocAttr]
   refine wpC_exit ?_
   simp only [ptrTo, oxs, simprocAttr]
   exact ⟨s6, _, _, _, _, rfl⟩
 rintro T h' ⟨s7, u0, u1, u2, R, rfl⟩
 refine sr (fun LL hLL => ?_)
 simp only [ptrTo, pend, pend0, Pd.old, pendU, pendU0, Nat.testBit, oxh, simprocAttr]
 refine wpF_ext rfl ?_
 simp only [ptrTo, pend, pend0, Pd.old, pendU, pendU0, Nat.testBit, oxh, simprocAttr]
 refine hLL _ _ ?_
 refine wpC_ret (out_ret ?_)
 simp only [ptrTo, oxs, simprocAttr]
end Go.Proofs

