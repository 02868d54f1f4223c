/-
  A part of the proof: what functions of the program do on an abstract heap. CONDITIONS: none.
-/
import Derived.Test.YtcnlilnkbhefbaaGreatOxZMf
set_option linter.unusedSimpArgs false
set_option linter.unusedVariables false
namespace Go.Proofs
open Go Go.Ox
set_option maxRecDepth 100000
set_option maxHeartbeats 8000000
theorem RunK.one {g : Nat} {L : List OpX} {P : List Int} {RR : List (List Rw)} {S : List Sv} {TT : List (List (Nat × Tb))} {Q : List MvX} (r : RunK g L P RR S TT Q) (hP : P.length = L.length) (hR : ∀ l ∈ RR, l.length ≤ 2000) (hw : ∀ l ∈ RR, ∀ r ∈ l, (Lit.int .i64 r.1).wf = true) (i : Nat) (hi : i < TT.length) (j : Nat) (hj : j < TT[i].length) : TbOk TT[i][j].2 ∧ TT[i][j].2.length ≤ 2000 := by
  have hiL : i < L.length := by rw [← r.len]; exact hi
  have hiP : i < P.length := by omega
  have okM : TbOk (tlay [] (RR[i]?.getD [])) := TbOk.nil.lay (getD_wf hw i)
  have hlay := tlay_few [] (RR[i]?.getD [])
  have hrl := getD_len hR i
  cases hst : stf L[i] with
  | true =>
    obtain ⟨_, _, f, t, _⟩ := r.ok i hi hiL hiP hst
    have := t.len okM j hj
    simp only [List.length_nil] at hlay
    exact ⟨(t j hj).1, by omega⟩
  | false => rw [(r.no i hi hiL hst).1] at hj; simp at hj
abbrev rrunS (br : Nat) (g : Nat) (sb : Option Addr) (sn se : Nat) (id : Int) (qa : Option Addr) (O : List Int) (qc : Nat) (ka : Option Addr) (LI : List (List Int)) (kc : Nat) (ga : Option Addr) (RR : List (List Rw)) (gc : Nat) (xa : Option Addr) (EE : List (List Rc2)) (xc : Nat) (wa : Option Addr) (P : List Int) (wc : Nat) (ta : Option Addr) (S3 : List Sv) (tc : Nat) (LP : List (List (Option Nat))) (ma : Option Addr) (mc : Nat) (Q : List MvX) (TT : List (List (Nat × Tb))) (k : Nat) (F : List Asn) : List Asn :=
  own br (.cells false 0 [.int .i64 g, .slice sb sn se, .int .i64 id, .slice qa O.length qc, .slice ka LI.length kc, .slice ga RR.length gc, .slice xa EE.length xc, .slice wa P.length wc, .slice ta S3.length tc, mvV ma mc Q k] 82) :: wn Sv.cells 1 83 ta tc S3 :: star (wns ptc 1 85 S3 LP) :: star (TT.map (rtabsA g)) :: wn rmvc 5 90 ma mc Q :: wn icell 1 3 wa wc P :: wn icell 1 3 qa qc O :: nest icell 1 3 25 ka kc LI :: nest rcell 3 52 48 ga gc RR :: nest r2cell 2 130 110 xa xc EE :: F
section
variable {h0 : AHeap} {F : List Asn} {br g : Nat} {sb : Option Addr} {sn se : Nat} {id : Int} {qa : Option Addr} {O : List Int} {qc : Nat} {ka : Option Addr} {LI : List (List Int)} {kc : Nat} {ga : Option Addr} {RR : List (List Rw)} {gc : Nat} {xa : Option Addr} {EE : List (List Rc2)} {xc : Nat} {wa : Option Addr} {P : List Int} {wc : Nat} {ta : Option Addr} {S3 : List Sv} {tc : Nat} {LP : List (List (Option Nat))} {ma : Option Addr} {mc : Nat} {Q : List MvX} {TT : List (List (Nat × Tb))} {k : Nat}
theorem rleft_ok (h : AHeap) (s : St h0 h (rrunS br g sb sn se id qa O qc ka LI kc ga RR gc xa EE xc wa P wc ta S3 tc LP ma mc Q TT k F)) (K : Value → AHeap → Prop) (hk : K (.int .i64 ((Q.length - k : Nat) : Int)) h) : wpF Tryz.prog (.fn 18) [.pointer (some ⟨br, 0, none⟩)] h K := by
  have gr := s.get
  unfold mvV at gr
  refine wpF_fun 8 [.tmp 2] Tryz.func18 rfl rfl rfl rfl ?_
  refine sr (fun LL hLL => ?_)
  simp only [ptrTo, oxq, ↓reduceIte, simprocAttr, gR_some]
  refine hLL _ _ ?_
  refine sr (fun LL hLL => ?_)
  simp only [ptrTo, oxq, ↓reduceIte, simprocAttr, gR_some, gr]
  refine hLL _ _ ?_
  refine wpC_ret (out_ret ?_)
  simp only [ptrTo, oxq, ↓reduceIte, simprocAttr, gR_some]
  exact hk
theorem rstep_no (h : AHeap) (s : St h0 h (rrunS br g sb sn se id qa O qc ka LI kc ga RR gc xa EE xc wa P wc ta S3 tc LP ma mc Q TT k F)) (hd : Q.length ≤ k) (K : Value → AHeap → Prop) (hk : K (.bool false) h) : wpF Tryz.prog (.fn 20) [.pointer (some ⟨br, 0, none⟩)] h K := by
  have gr := s.get
  unfold mvV at gr
  rw [show Q.length - k = 0 by omega] at gr
  refine wpF_fun 58 [.tmp 2] Tryz.func20 rfl rfl rfl rfl ?_
  refine sr (fun LL hLL => ?_)
  simp only [ptrTo, oxq, ↓reduceIte, simprocAttr, gR_some]
  refine hLL _ _ ?_
  refine wpC_seq (sr fun LL hLL => ?_)
  simp only [ptrTo, oxq, ↓reduceIte, simprocAttr, gR_some, gr]
  refine hLL _ _ ?_
  refine wpC_if ?_
  simp only [ptrTo, oxq, ↓reduceIte, simprocAttr, gR_some]
  refine sr (fun LL hLL => ?_)
  simp only [ptrTo, oxq, ↓reduceIte, simprocAttr, gR_some]
  refine hLL _ _ ?_
  refine wpC_ret (out_ret ?_)
  simp only [ptrTo, oxq, ↓reduceIte, simprocAttr, gR_some]
  exact hk
theorem rstep_ok {L : List OpX} {S : List Sv} (hPl : P.length = L.length) (hR : ∀ l ∈ RR, l.length ≤ 2000) (hw : ∀ l ∈ RR, ∀ r ∈ l, (Lit.int .i64 r.1).wf = true) (r : RunK g L P RR S TT (Q.drop k)) (hLP : TT.map ptrs = LP) (hS3 : S3.map Sv.len = LP.map List.length) (hkl : k < Q.length) (hQ : Q.length ≤ 200) (h : AHeap) (s : St h0 h (rrunS br g sb sn se id qa O qc ka LI kc ga RR gc xa EE xc wa P wc ta S3 tc LP ma mc Q TT k F)) (K : Value → AHeap → Prop)
    (hk : ∀ TT' h', RunK g L P RR S TT' (Q.drop (k + 1)) → TT'.map ptrs = LP → St h0 h' (rrunS br g sb sn se id qa O qc ka LI kc ga RR gc xa EE xc wa P wc ta S3 tc LP ma mc Q TT' (k + 1) F) → K (.bool true) h') : wpF Tryz.prog (.fn 20) [.pointer (some ⟨br, 0, none⟩)] h K := by
  have rAll := r
  rw [List.drop_eq_getElem_cons hkl] at r
  obtain ⟨x, ex⟩ : ∃ x, x = Q[k] := ⟨_, rfl⟩
  rw [← ex] at r
  obtain ⟨j1, j2, sv0, sl, fr, to, A, B, hf, ht, ef, et, hne, eA, eB, okA, hA, hpt, rK⟩ := r.head hPl hR hw
  have hLl : LP.length = TT.length := by rw [← hLP]; simp
  have hS3l : S3.length = TT.length := by rw [lens hS3]; exact hLl
  have hj3 : x.1 < S3.length := by omega
  have hjL : x.1 < LP.length := by omega
  have hLat : LP[x.1] = ptrs TT[x.1] := by subst hLP; simp
  have hneQ : Q ≠ [] := by rintro rfl; simp at hkl
  obtain ⟨mb, ema, hmc, s1⟩ := (s.mv 4).wn_out (.inl hneQ)
  subst ema
  have gmb := s1.get
  have gr := (s1.mv 1).get
  unfold mvV at gr
  simp only [Option.map_some, Nat.zero_add] at gr
  have hrow := flat_row rmvc.len Q k hkl
  rw [← ex] at hrow
  have hle := flat_le rmvc.len Q k hkl
  have exc : rmvc x = [.int .i64 x.1, .int .i64 x.2.2.fr, .int .i64 x.2.2.to, .int .i64 x.2.2.lo, .int .i64 x.2.2.hi] := rfl
  rw [exc] at hrow
  refine wpF_fun 58 [.tmp 2] Tryz.func20 rfl rfl rfl rfl ?_
  refine sr (fun LL hLL => ?_)
  simp only [ptrTo, oxq, ↓reduceIte, simprocAttr, gR_some]
  refine hLL _ _ ?_
  refine wpC_seq (sr fun LL hLL => ?_)
  simp only [ptrTo, oxq, ↓reduceIte, simprocAttr, gR_some, gr, eq_false (show ¬ ((Q.length - k : Nat) : Int) = 0 by omega)]
  refine hLL _ _ ?_
  refine wpC_if ?_
  simp only [ptrTo, oxq, ↓reduceIte, simprocAttr, gR_some]
  refine wpC_skip ?_
  simp only [ptrTo, oxq, ↓reduceIte, simprocAttr, gR_some]
  have i0 : (0 ≤ (0 : Int)) = True ∧ ((0 : Int) < ((Q.length - k : Nat) : Int)) = True ∧ (0 : Int).toNat = 0 := ⟨by simp, eq_true (by omega), rfl⟩
  obtain ⟨bx, ebx⟩ : ∃ b, b = h.next := ⟨_, rfl⟩
  have s2 := s1.push (.cells false 0 [.int .i64 0, .int .i64 0, .int .i64 0, .int .i64 0, .int .i64 0] 90)
  rw [← ebx] at s2
  have g2 := s2.get
  have s3 := s2.set (.cells false 0 [.int .i64 x.1, .int .i64 x.2.2.fr, .int .i64 x.2.2.to, .int .i64 x.2.2.lo, .int .i64 x.2.2.hi] 90)
  obtain ⟨h3, e3⟩ : ∃ h3, h3 = (h.push (.cells false 0 [.int .i64 0, .int .i64 0, .int .i64 0, .int .i64 0, .int .i64 0] 90)).set bx (.cells false 0 [.int .i64 x.1, .int .i64 x.2.2.fr, .int .i64 x.2.2.to, .int .i64 x.2.2.lo, .int .i64 x.2.2.hi] 90) := ⟨_, rfl⟩
  rw [← e3] at s3
  refine sr (fun LL hLL => ?_)
  simp only [ptrTo, oxq, ↓reduceIte, simprocAttr, gR_some, gr, gmb, i0, Nat.zero_mul, Nat.add_zero, hrow, eq_true (show k * 5 + 5 ≤ (Q.flatMap rmvc).length by omega), ← ebx, g2, ← e3]
  refine hLL _ _ ?_
  refine fg4 (fun R => ?_)
  have hcap : Q.length - k ≤ capN (mc - k) := by
    have hb : (1180591620717411303424 : Nat) = big := rfl
    unfold capN
    rcases hmc with e | e <;> split <;> omega
  have gmb3 := (s3.mv 1).get
  have gr3 := (s3.mv 2).get
  unfold mvV at gr3
  simp only [Option.map_some, Nat.zero_add] at gr3
  have hsl : aSlice Tryz.prog h3 80 (.slice (some ⟨mb, k * 5, none⟩) (Q.length - k) (mc - k)) (some (.int .i64 1)) none none = some (.slice (some ⟨mb, k * 5 + 1 * 5, none⟩) (Q.length - k - 1) (mc - k - 1)) :=
    sl_from (i := 1) (P := Tryz.prog) Tryz.underlying80 (by rfl) (by rfl) (by omega) hcap gmb3 (.inl rfl)
  have hmv : (Value.slice (some ⟨mb, k * 5 + 5, none⟩) (Q.length - k - 1) (mc - k - 1)) = mvV (some ⟨mb, 0, none⟩) mc Q (k + 1) := by
    unfold mvV
    simp only [Option.map_some, Nat.zero_add, Nat.add_mul]
    rfl
  have s4 := (s3.mv 2).set (.cells false 0 [.int .i64 g, .slice sb sn se, .int .i64 id, .slice qa O.length qc, .slice ka LI.length kc, .slice ga RR.length gc, .slice xa EE.length xc, .slice wa P.length wc, .slice ta S3.length tc, mvV (some ⟨mb, 0, none⟩) mc Q (k + 1)] 82)
  obtain ⟨h4, e4⟩ : ∃ h4, h4 = h3.set br (.cells false 0 [.int .i64 g, .slice sb sn se, .int .i64 id, .slice qa O.length qc, .slice ka LI.length kc, .slice ga RR.length gc, .slice xa EE.length xc, .slice wa P.length wc, .slice ta S3.length tc, mvV (some ⟨mb, 0, none⟩) mc Q (k + 1)] 82) := ⟨_, rfl⟩
  rw [← e4] at s4
  refine sr (fun LL hLL => ?_)
  simp only [ptrTo, oxq, ↓reduceIte, simprocAttr, gR_some, gr3, hsl]
  rw [hmv, ← e4]
  refine hLL _ _ ?_
  refine fg4 (fun R => ?_)
  have s5 := (s4).sel 11 [0, 3, 4, 5, 2, 6, 7, 8, 9, 10, 1]
  simp only [List.filterMap_cons, List.filterMap_nil, List.getElem?_cons_succ, List.getElem?_cons_zero, List.drop_succ_cons, List.drop_zero, List.cons_append, List.nil_append] at s5
  have gx5 := (s5.mv 10).get
  have hTs1 : fr < TT[x.1].length := hf
  have hTx : x.1 < (TT.map (rtabsA (g : Int))).length := by simpa using j1
  have sv : ∀ (a : Option Addr) (m n : Nat), veq 6 (.slice a m n) (.slice a m n) = true := by intro a m n; simp [veq]
  have s4w := (s4.mv 2)
  -- where a table's pointer is read
  have rd2 : ∀ (G : List Asn) (h' : AHeap) (V : Value), St h0 h' (own br (.cells false 0 [.int .i64 g, .slice sb sn se, .int .i64 id, .slice qa O.length qc, .slice ka LI.length kc, .slice ga RR.length gc, .slice xa EE.length xc, .slice wa P.length wc, .slice ta S3.length tc, V] 82) :: wn Sv.cells 1 83 ta tc S3 :: star (wns ptc 1 85 S3 LP) :: G) → ∃ (b o : Nat) (ro : Bool) (sz : Nat) (C : List Value) (E : TypeId) (b2 o2 : Nat) (ro2 : Bool) (sz2 : Nat) (C2 : List Value) (E2 : TypeId), ta = some ⟨b, o, none⟩ ∧ h'.get b = some (.cells ro sz C E) ∧ S3[x.1].a = some ⟨b2, o2, none⟩ ∧ C[o + x.1 * 1]? = some (.slice (some ⟨b2, o2, none⟩) TT[x.1].length S3[x.1].cap) ∧ h'.get b2 = some (.cells ro2 sz2 C2 E2) ∧ C2[o2 + fr * 1]? = some (.pointer (some ⟨A.1, 0, none⟩)) ∧ C2[o2 + to * 1]? = some (.pointer (some ⟨B.1, 0, none⟩)) := fun G h' V s => by
    obtain ⟨b, o, ro, sz, C, E, e1, p1, g1, r1, q1⟩ := ((s.mv 1).rs Sv.len1).resolve_left (by rintro rfl; simp at hj3)
    have v1 : C[o + x.1 * 1]? = some (.slice S3[x.1].a S3[x.1].len S3[x.1].cap) := Rs.cell Sv.len1 r1 q1 x.1 hj3 0 (by omega)
    have hl := lens_at hS3 x.1 hj3 hjL
    rw [hLat, ptrs_len] at hl
    rw [hl] at v1
    have rr := ((s.mv 2).wns_rs ptc.len x.1 hj3 hjL).1
    rw [hLat] at rr
    have hne : ptrs TT[x.1] ≠ [] := by intro e; have := ptrs_len TT[x.1]; rw [e] at this; simp at this; omega
    obtain ⟨b2, o2, ro2, sz2, C2, E2, e2, p2, g2, r2, q2⟩ := rr.resolve_left hne
    have w1 := Rs.cell ptc.len r2 q2 fr (by rw [ptrs_len]; exact hf) 0 (by omega)
    have w2 := Rs.cell ptc.len r2 q2 to (by rw [ptrs_len]; exact ht) 0 (by omega)
    rw [ptrs_at TT[x.1] fr hf, ← eA] at w1
    rw [ptrs_at TT[x.1] to ht, ← eB] at w2
    rw [e2] at v1
    exact ⟨b, o, ro, sz, C, E, b2, o2, ro2, sz2, C2, E2, e1, g1, e2, v1, g2, w1, w2⟩
  obtain ⟨qb, qo, ro, sz, C, E, q2, p2, ro2, sz2, C2, E2, e1, g1, ex2, v1, gq2, w1, w2⟩ := rd2 _ _ _ s5
  subst e1
  have gr5 := s5.get
  unfold mvV at gr5
  simp only [Option.map_some, Nat.zero_add] at gr5
  refine su [some 24, some 25, some 26, some 27, some 28, some 29, some 30, some 31, some 32, some 33, some 34, some 35, some 36, some 37, some 38, some 39, some 40, some 41, some 42, some 43, some 44, some 45, some 46, some 47, some 48, some 49, some 50, some 51, some 52, some 53, some 54, some 55, some 56, some 57] 34 [0, 1, 3, 7, 0, 16, 63, 127, 0, 256, 768, 2047, 4095, 0, 8192, 24576, 57344, 0, 131072, 516096, 1040384, 0, 2097152, 6291456, 16769024, 33546240, 0, 67108864, 201326592, 0, 536870912, 1610612736, 4294959104, 8589934591] (by rfl) (by rfl) (by decide +kernel) (by decide +kernel) (by decide +kernel) (fun LL hLL => ?_)
  simp only [ptrTo, pend, pend0, Pd.old, pendU, pendU0, oxq, Nat.testBit, ↓reduceIte, simprocAttr, gR_held, gr5, gx5, ixF j1, ixF hj3, g1, v1, gq2, ef, et, ixF hf, ixF ht, w1, w2, sv]
  have s6 := (s5.mv 3).pick x.1 hTx
  rw [List.getElem_map] at s6
  have s7 := rtabs_pick s6 fr hf
  rw [← eA] at s7
  refine rcut_ok x.2.2.lo x.2.2.hi okA (by omega) _ s7 _ fun ar cr h8 s8 => ?_
  obtain ⟨KS, eKS⟩ : ∃ KS, KS = keysIn g x.2.2.lo x.2.2.hi A.2 := ⟨_, rfl⟩
  have hKl : KS.length ≤ A.2.length := by rw [eKS]; exact keysIn_len g _ _ A.2
  have hKw : ∀ r ∈ rowK A.2 KS, (Lit.int .i64 r.1).wf = true := by rw [eKS]; exact rowK_wf okA (keysIn_sub g _ _ A.2)
  rw [← eKS] at s8 ⊢
  have hrl : (rowK A.2 KS).length = KS.length := by simp [rowK]
  have s9 := (s8).sel 3 [1, 2, 0]
  simp only [List.filterMap_cons, List.filterMap_nil, List.getElem?_cons_succ, List.getElem?_cons_zero, List.drop_succ_cons, List.drop_zero, List.cons_append, List.nil_append] at s9
  have s10 := rtabs_unpick fr hf _ _ s9
  obtain ⟨T1, eT1⟩ : ∃ T1, T1 = TT[x.1].set fr (A.1, tcut A.2 KS) := ⟨_, rfl⟩
  rw [← eT1] at s10
  have ht1 : to < T1.length := by rw [eT1, List.length_set]; exact ht
  have eB1 : T1[to] = B := by subst eT1; rw [List.getElem_set_ne hne]; exact eB.symm
  have okB : TbOk B.2 ∧ B.2.length ≤ 2000 := by rw [eB]; exact rAll.one hPl hR hw x.1 j1 to ht
  have s11 := (s10).sel 6 [3, 4, 5, 0, 1, 2]
  simp only [List.filterMap_cons, List.filterMap_nil, List.getElem?_cons_succ, List.getElem?_cons_zero, List.drop_succ_cons, List.drop_zero, List.cons_append, List.nil_append] at s11
  obtain ⟨qb', qo', ro', sz', C', E', q2', p2', ro2', sz2', C2', E2', e1', g1', ex2', v1', gq2', w1', w2'⟩ := rd2 _ _ _ s11
  cases e1'
  rw [ex2] at ex2'
  cases ex2'
  have gr8 := s11.get
  unfold mvV at gr8
  simp only [Option.map_some, Nat.zero_add] at gr8
  have gx8 := (s10.mv 12).get
  have s12 := rtabs_pick s10 to ht1
  rw [eB1] at s12
  simp only [ptrTo, pend, pend0, Pd.old, pendU, pendU0, oxq, Nat.testBit, ↓reduceIte, simprocAttr, gR_held, gr5, gx5, ixF j1, ixF hj3, g1, v1, gq2, ef, et, ixF hf, ixF ht, w1, w2, sv, gr8, gx8, g1', v1', gq2', w1', w2']
  refine rlay_ok okB.1 ar cr (rowK A.2 KS) hKw _ s12 (fun h s => (s.mv 1).rs rcell.len) (by omega) _ fun h13 s13 => ?_
  have s14 := rtabs_unpick to ht1 _ _ s13
  have em : mvT g TT[x.1] x.2.2 A B = T1.set to (B.1, tlay B.2 (rowK A.2 KS)) := by
    unfold mvT; rw [ef, et, Int.toNat_natCast, Int.toNat_natCast, eT1, eKS]
  rw [← em] at s14
  obtain ⟨T', eT'⟩ : ∃ T', T' = mvT g TT[x.1] x.2.2 A B := ⟨_, rfl⟩
  rw [← eT'] at s14 rK hpt
  have s15 := (s14).sel 6 [3, 4, 5, 0, 1, 2]
  simp only [List.filterMap_cons, List.filterMap_nil, List.getElem?_cons_succ, List.getElem?_cons_zero, List.drop_succ_cons, List.drop_zero, List.cons_append, List.nil_append] at s15
  obtain ⟨qb3, qo3, ro3, sz3, C3, E3, q23, p23, ro23, sz23, C23, E23, e13, g13, ex23, v13, gq23, w13, w23⟩ := rd2 _ _ _ s15
  cases e13
  rw [ex2] at ex23
  cases ex23
  have gr13 := s15.get
  unfold mvV at gr13
  simp only [Option.map_some, Nat.zero_add] at gr13
  have gx13 := (s14.mv 12).get
  simp only [ptrTo, pend, pend0, Pd.old, pendU, pendU0, oxq, Nat.testBit, ↓reduceIte, simprocAttr, gR_held, gr5, gx5, ixF j1, ixF hj3, g1, v1, gq2, ef, et, ixF hf, ixF ht, w1, w2, sv, gr8, gx8, g1', v1', gq2', w1', w2', gr13, gx13, g13, v13, gq23, w13, w23]
  refine hLL _ _ ?_
  refine fg4 (fun R => ?_)
  refine sr (fun LL hLL => ?_)
  simp only [ptrTo, oxq, ↓reduceIte, simprocAttr, gR_some]
  refine hLL _ _ ?_
  refine wpC_ret (out_ret ?_)
  simp only [ptrTo, oxq, ↓reduceIte, simprocAttr, gR_some]
  have s16 := (s14).sel 13 [0, 2, 3, 4, 5, 6, 7, 8, 9, 10, 11]
  simp only [List.filterMap_cons, List.filterMap_nil, List.getElem?_cons_succ, List.getElem?_cons_zero, List.drop_succ_cons, List.drop_zero, List.cons_append, List.nil_append] at s16
  have s17 := s16.unpick x.1 hTx
  rw [← List.map_set] at s17
  have s18 := (s17).sel 5 [4, 1, 2, 3, 0]
  simp only [List.filterMap_cons, List.filterMap_nil, List.getElem?_cons_succ, List.getElem?_cons_zero, List.drop_succ_cons, List.drop_zero, List.cons_append, List.nil_append] at s18
  have s19 := s18.wn_in (f := rmvc) (L := Q) hmc
  have hLP' : (TT.set x.1 T').map ptrs = LP := by
    have e : ptrs TT[x.1] = (TT.map ptrs)[x.1]'(by simpa using j1) := by simp
    rw [List.map_set, hpt, e, List.set_getElem_self]
    exact hLP
  exact hk _ _ rK hLP' (s19.sel 5 [1, 2, 3, 4, 0])
end
end Go.Proofs

namespace Go.Proofs
open Go Go.Ox
set_option maxRecDepth 100000
set_option maxHeartbeats 8000000
theorem open3 {h0 h : AHeap} {F : List Asn} {ka : Option Addr} {kc : Nat} {LI : List (List Int)} {ga : Option Addr} {gc : Nat} {RR : List (List Rw)} {xa : Option Addr} {xc : Nat} {EE : List (List Rc2)} (s : St h0 h (nest icell 1 3 25 ka kc LI :: nest rcell 3 52 48 ga gc RR :: nest r2cell 2 130 110 xa xc EE :: F)) :
    ∃ A1 A2 A3 A4 A5 A6, St h0 h (A1 :: A2 :: A3 :: A4 :: A5 :: A6 :: F) ∧ (∀ F, RdN h0 (A1 :: A2 :: A3 :: A4 :: A5 :: A6 :: F) icell 1 ka LI ∧ RdN h0 (A1 :: A2 :: A3 :: A4 :: A5 :: A6 :: F) rcell 3 ga RR ∧ RdN h0 (A1 :: A2 :: A3 :: A4 :: A5 :: A6 :: F) r2cell 2 xa EE) ∧
      ∀ F h', St h0 h' (A1 :: A2 :: A3 :: A4 :: A5 :: A6 :: F) → St h0 h' (nest icell 1 3 25 ka kc LI :: nest rcell 3 52 48 ga gc RR :: nest r2cell 2 130 110 xa xc EE :: F) := by
  obtain ⟨S1, e1, s1⟩ := s.nest_out
  obtain ⟨S2, e2, s2⟩ := (s1.mv 2).nest_out
  have s3 := (s2).sel 5 [4, 2, 3, 0, 1]
  simp only [List.filterMap_cons, List.filterMap_nil, List.getElem?_cons_succ, List.getElem?_cons_zero, List.drop_succ_cons, List.drop_zero, List.cons_append, List.nil_append] at s3
  obtain ⟨S3, e3, s4⟩ := s3.nest_out
  have s5 := (s4).sel 6 [2, 3, 4, 5, 0, 1]
  simp only [List.filterMap_cons, List.filterMap_nil, List.getElem?_cons_succ, List.getElem?_cons_zero, List.drop_succ_cons, List.drop_zero, List.cons_append, List.nil_append] at s5
  refine ⟨_, _, _, _, _, _, s5, fun F => ⟨⟨S1, e1, fun h s => s.rs Sv.len1, fun i hi hj => ⟨fun h s => ((s.mv 1).wns_rs icell.len i hi hj).1, ((s5.mv 1).wns_rs icell.len i hi hj).2⟩⟩, ⟨S2, e2, fun h s => (s.mv 2).rs Sv.len1, fun i hi hj => ⟨fun h s => ((s.mv 3).wns_rs rcell.len i hi hj).1, ((s5.mv 3).wns_rs rcell.len i hi hj).2⟩⟩, ⟨S3, e3, fun h s => (s.mv 4).rs Sv.len1, fun i hi hj => ⟨fun h s => ((s.mv 5).wns_rs r2cell.len i hi hj).1, ((s5.mv 5).wns_rs r2cell.len i hi hj).2⟩⟩⟩, fun F h' s => ?_⟩
  have t1 := (s).sel 6 [4, 5, 0, 1, 2, 3]
  simp only [List.filterMap_cons, List.filterMap_nil, List.getElem?_cons_succ, List.getElem?_cons_zero, List.drop_succ_cons, List.drop_zero, List.cons_append, List.nil_append] at t1
  have t2 := t1.nest_in e3
  have t3 := (t2).sel 5 [3, 4, 0, 1, 2]
  simp only [List.filterMap_cons, List.filterMap_nil, List.getElem?_cons_succ, List.getElem?_cons_zero, List.drop_succ_cons, List.drop_zero, List.cons_append, List.nil_append] at t3
  have t4 := t3.nest_in e2
  have t5 := (t4).sel 4 [2, 3, 0, 1]
  simp only [List.filterMap_cons, List.filterMap_nil, List.getElem?_cons_succ, List.getElem?_cons_zero, List.drop_succ_cons, List.drop_zero, List.cons_append, List.nil_append] at t5
  exact t5.nest_in e1
section
variable {h0 : AHeap} {F : List Asn} {br g : Nat} {sb : Option Addr} {sn se : Nat} {id : Int} {qa : Option Addr} {O : List Int} {qc : Nat} {ka : Option Addr} {LI : List (List Int)} {kc : Nat} {ga : Option Addr} {RR : List (List Rw)} {gc : Nat} {xa : Option Addr} {EE : List (List Rc2)} {xc : Nat} {wa : Option Addr} {P : List Int} {wc : Nat} {ta : Option Addr} {S3 : List Sv} {tc : Nat} {LP : List (List (Option Nat))} {ma : Option Addr} {mc : Nat} {Q : List MvX} {TT : List (List (Nat × Tb))} {k : Nat}
theorem rman_no (h : AHeap) (s : St h0 h (rrunS br g sb sn se id qa O qc ka LI kc ga RR gc xa EE xc wa P wc ta S3 tc LP ma mc Q TT k F)) (hd : k < Q.length) (K : Value → AHeap → Prop) (hk : ∀ h', St h0 h' (rrunS br g sb sn se id qa O qc ka LI kc ga RR gc xa EE xc wa P wc ta S3 tc LP ma mc Q TT k F) → K (.tuple #[.agg #[.int .i64 0, .slice none 0 0, .slice none 0 0, .slice none 0 0, .slice none 0 0], .bool false]) h') :
    wpF Tryz.prog (.fn 15) [.pointer (some ⟨br, 0, none⟩)] h K := by
  refine wpF_fun 84 [.cell 2 30, .tmp 3] Tryz.func15 rfl rfl rfl rfl ?_
  have s1 := s.push (.cells false 0 [.int .i64 0, .slice none 0 0, .slice none 0 0, .slice none 0 0, .slice none 0 0] 30)
  obtain ⟨h1, e1⟩ : ∃ h1, h1 = h.push (.cells false 0 [.int .i64 0, .slice none 0 0, .slice none 0 0, .slice none 0 0, .slice none 0 0] 30) := ⟨_, rfl⟩
  obtain ⟨b2, eb2⟩ : ∃ b, b = h.next := ⟨_, rfl⟩
  rw [← e1, ← eb2] at s1
  refine sr (fun LL hLL => ?_)
  simp only [ptrTo, oxq, ↓reduceIte, simprocAttr, gR_some, ← e1, ← eb2]
  refine hLL _ _ ?_
  have g2 := s1.get
  have gr := (s1.mv 1).get
  unfold mvV at gr
  refine wpC_seq (sr fun LL hLL => ?_)
  simp only [ptrTo, oxq, ↓reduceIte, simprocAttr, gR_some, gr, eq_true (show (0 : Int) < ((Q.length - k : Nat) : Int) by omega)]
  refine hLL _ _ ?_
  refine wpC_if ?_
  simp only [ptrTo, oxq, ↓reduceIte, simprocAttr, gR_some]
  have s2 := s1.set (.cells false 0 [.int .i64 0, .slice none 0 0, .slice none 0 0, .slice none 0 0, .slice none 0 0] 30)
  have g22 := s2.get
  refine sr (fun LL hLL => ?_)
  simp only [ptrTo, oxq, ↓reduceIte, simprocAttr, gR_some, g2]
  refine hLL _ _ ?_
  refine wpC_ret (out_ret ?_)
  simp only [ptrTo, oxq, ↓reduceIte, simprocAttr, gR_some]
  simp only [g22]
  exact hk _ s2.drop
/-- The rows of one operator, told table by table. -/
theorem RunK.rows {g : Nat} {L : List OpX} {P : List Int} {RR : List (List Rw)} {S : List Sv} {TT : List (List (Nat × Tb))} (r : RunK g L P RR S TT []) (hPl : P.length = L.length) (hP : ∀ x ∈ P, 1 ≤ x ∧ x ≤ 8 ∧ x ≤ (g : Int)) (h1 : 1 ≤ g) (h64 : g ≤ 64) (hw : ∀ l ∈ RR, ∀ r ∈ l, (Lit.int .i64 r.1).wf = true) (i : Nat) (hi : i < TT.length) (hiP : i < P.length) (hiO : i < (outR g L RR).length) :
    (TT[i].take (min TT[i].length P[i].toNat)).flatMap (fun x => rowsOf g x.2) = (outR g L RR)[i] ∧ TT[i].length ≤ 8 := by
  have hiL : i < L.length := by rw [← r.len]; exact hi
  have hPi := hP P[i] (List.getElem_mem hiP)
  have okM : TbOk (tlay [] (RR[i]?.getD [])) := TbOk.nil.lay (getD_wf hw i)
  rw [outR_at g L RR i hiL]
  cases hst : stf L[i] with
  | true =>
    obtain ⟨k1, k8, f, t, pk⟩ := r.ok i hi hiL hiP hst
    have pk' : PlanOk g TT[i].length f [] (ownr P[i] g) := pk
    have t2 := t.congr (by omega) (by omega) pk'.nil_inv
    refine ⟨?_, k8⟩
    rw [if_pos rfl, show min TT[i].length P[i].toNat = P[i].toNat by omega]
    exact t2.rows (by omega) (by omega) hPi.1 okM (by omega)
  | false => rw [(r.no i hi hiL hst).1]; simp
theorem rrows_at {g : Nat} {TT : List (List (Nat × Tb))} (i j : Nat) (hi : i < TT.length) (hj : j < TT[i].length) (hl : TT[i][j].2.length ≤ 2000) (h : AHeap) (s : St h0 h (star (TT.map (rtabsA g)) :: F)) (K : Value → AHeap → Prop)
    (hk : ∀ a c h', St h0 h' (wn rcell 3 52 a c (rowsOf g TT[i][j].2) :: star (TT.map (rtabsA g)) :: F) → K (.slice a (rowsOf g TT[i][j].2).length c) h') : wpF Tryz.prog (.fn 47) [.pointer (some ⟨TT[i][j].1, 0, none⟩)] h K := by
  have hm : i < (TT.map (rtabsA (g : Int))).length := by simpa using hi
  have s1 := s.pick i hm
  rw [List.getElem_map] at s1
  have s2 := rtabs_pick s1 j hj
  refine rrows_ok (by omega) _ s2 _ fun a c h' s3 => hk a c h' ?_
  have s4 := (s3).sel 4 [1, 2, 3, 0]
  simp only [List.filterMap_cons, List.filterMap_nil, List.getElem?_cons_succ, List.getElem?_cons_zero, List.drop_succ_cons, List.drop_zero, List.cons_append, List.nil_append] at s4
  have s5 := rtabs_unpick j hj _ _ s4
  rw [show (TT[i][j].1, TT[i][j].2) = TT[i][j] from rfl, List.set_getElem_self] at s5
  have s6 := s5.unpick i hm
  have e : rtabsA (g : Int) TT[i] = (TT.map (rtabsA (g : Int)))[i] := by rw [List.getElem_map]
  rw [e, List.set_getElem_self] at s6
  exact s6.mv 1
theorem rman_ok {L : List OpX} {S : List Sv} (hn : L.length ≤ 12) (h1g : 1 ≤ g) (h64 : g ≤ 64) (hOl : O.length = L.length) (hPl : P.length = L.length) (hPb : ∀ x ∈ P, 1 ≤ x ∧ x ≤ 8 ∧ x ≤ (g : Int)) (b2' : LI.length ≤ 2000) (b3 : RR.length ≤ 2000) (b4' : EE.length ≤ 2000) (b5' : ∀ x ∈ LI, x.length ≤ 2000) (b6 : ∀ x ∈ RR, x.length ≤ 2000) (b7 : ∀ x ∈ EE, x.length ≤ 2000) (hw : ∀ l ∈ RR, ∀ r ∈ l, (Lit.int .i64 r.1).wf = true)
    (r : RunK g L P RR S TT (Q.drop k)) (hLP : TT.map ptrs = LP) (hS3 : S3.map Sv.len = LP.map List.length) (hd : Q.length ≤ k) (h : AHeap) (s : St h0 h (rrunS br g sb sn se id qa O qc ka LI kc ga RR gc xa EE xc wa P wc ta S3 tc LP ma mc Q TT k F)) (K : Value → AHeap → Prop)
    (hk : ∀ pa2 pc2 ka2 kc2 ra2 rc2 h', St h0 h' (wn icell 1 3 pa2 pc2 P :: nest icell 1 3 25 ka2 kc2 LI :: nest rcell 3 52 48 ra2 rc2 (outR g L RR) :: rrunS br g sb sn se id qa O qc ka LI kc ga RR gc xa EE xc wa P wc ta S3 tc LP ma mc Q TT k F) →
      K (.tuple #[.agg #[.int .i64 (IntKind.i64.wrap (id + 1)), .slice pa2 P.length pc2, .slice ka2 LI.length kc2, .slice ra2 (outR g L RR).length rc2, .slice none 0 0], .bool true]) h') :
    wpF Tryz.prog (.fn 15) [.pointer (some ⟨br, 0, none⟩)] h K := by
  have sv : ∀ (a : Option Addr) (m n : Nat), veq 6 (.slice a m n) (.slice a m n) = true := by intro a m n; simp [veq]
  have r0 : RunK g L P RR S TT [] := by rw [List.drop_eq_nil_of_le hd] at r; exact r
  have hTl := r0.len
  have hLPl : LP.length = TT.length := by rw [← hLP]; simp
  have hS3l : S3.length = TT.length := by rw [lens hS3]; exact hLPl
  refine wpF_fun 84 [.cell 2 30, .tmp 3] Tryz.func15 rfl rfl rfl rfl ?_
  have s1 := s.push (.cells false 0 [.int .i64 0, .slice none 0 0, .slice none 0 0, .slice none 0 0, .slice none 0 0] 30)
  obtain ⟨h1, e1⟩ : ∃ h1, h1 = h.push (.cells false 0 [.int .i64 0, .slice none 0 0, .slice none 0 0, .slice none 0 0, .slice none 0 0] 30) := ⟨_, rfl⟩
  obtain ⟨b2, eb2⟩ : ∃ b, b = h.next := ⟨_, rfl⟩
  rw [← e1, ← eb2] at s1
  refine sr (fun LL hLL => ?_)
  simp only [ptrTo, oxq, ↓reduceIte, simprocAttr, gR_some, ← e1, ← eb2]
  refine hLL _ _ ?_
  have gr := (s1.mv 1).get
  obtain ⟨mz, emz⟩ : ∃ v, v = mvV ma mc Q k := ⟨_, rfl⟩
  have gr0 := gr
  unfold mvV at gr0
  refine wpC_seq (sr fun LL hLL => ?_)
  simp only [ptrTo, oxq, ↓reduceIte, simprocAttr, gR_some, gr0, eq_false (show ¬ (0 : Int) < ((Q.length - k : Nat) : Int) by omega)]
  refine hLL _ _ ?_
  refine wpC_if ?_
  simp only [ptrTo, oxq, ↓reduceIte, simprocAttr, gR_some]
  refine wpC_skip ?_
  simp only [ptrTo, oxq, ↓reduceIte, simprocAttr, gR_some]
  refine fg9 (fun R => ?_)
  rw [← emz] at gr
  have s2 := (s1).sel 11 [8, 9, 10, 0, 1, 2, 3, 4, 5, 6, 7]
  simp only [List.filterMap_cons, List.filterMap_nil, List.getElem?_cons_succ, List.getElem?_cons_zero, List.drop_succ_cons, List.drop_zero, List.cons_append, List.nil_append] at s2
  obtain ⟨A1, A2, A3, A4, A5, A6, s3, rdA, back⟩ := open3 s2
  have gr3 := (s3.mv 7).get
  rw [← emz] at gr3
  obtain ⟨d1, d2, d3⟩ := rdA _
  refine sr (fun LL hLL => ?_)
  simp only [ptrTo, pend, pend0, Pd.old, pendU, pendU0, oxq, Nat.testBit, ↓reduceIte, simprocAttr, gR_held, gr3]
  refine copyMan_ok id qa O qc ka LI kc ga RR gc xa EE xc _ (fun h s => (s.mv 13).rs icell.len) d1 d2 d3 (by omega) b2' b3 b4' b5' b6 b7 s3 _ fun qa2 qc2 ka2 kc2 ga2 gc2 xa2 xc2 h4 s4 => ?_
  have s5 := s4.push (.cells false 0 [.int .i64 0, .slice none 0 0, .slice none 0 0, .slice none 0 0, .slice none 0 0] 30)
  obtain ⟨b4, eb4⟩ : ∃ b, b = h4.next := ⟨_, rfl⟩
  rw [← eb4] at s5
  have g5 := s5.get
  have s6 := s5.set (.cells false 0 [.int .i64 id, .slice qa2 O.length qc2, .slice ka2 LI.length kc2, .slice ga2 RR.length gc2, .slice xa2 EE.length xc2] 30)
  obtain ⟨h6, e6⟩ : ∃ h6, h6 = (h4.push (.cells false 0 [.int .i64 0, .slice none 0 0, .slice none 0 0, .slice none 0 0, .slice none 0 0] 30)).set b4 (.cells false 0 [.int .i64 id, .slice qa2 O.length qc2, .slice ka2 LI.length kc2, .slice ga2 RR.length gc2, .slice xa2 EE.length xc2] 30) := ⟨_, rfl⟩
  rw [← e6] at s6
  simp only [ptrTo, pend, pend0, Pd.old, pendU, pendU0, oxq, Nat.testBit, ↓reduceIte, simprocAttr, gR_held, g5, ← eb4, ← e6]
  refine hLL _ _ ?_
  refine fg9 (fun R => ?_)
  have s7 := (s6).sel 19 [5, 6, 7, 8, 9, 10, 0, 2, 11, 12, 13, 14, 15, 16, 17, 18]
  simp only [List.filterMap_cons, List.filterMap_nil, List.getElem?_cons_succ, List.getElem?_cons_zero, List.drop_succ_cons, List.drop_zero, List.cons_append, List.nil_append] at s7
  have s8 := back _ _ s7
  have s9 := (s8).sel 13 [3, 4, 5, 6, 7, 8, 9, 11, 10, 12, 0, 1, 2]
  simp only [List.filterMap_cons, List.filterMap_nil, List.getElem?_cons_succ, List.getElem?_cons_zero, List.drop_succ_cons, List.drop_zero, List.cons_append, List.nil_append] at s9
  clear s1 s2 s3 s4 s5 s6 s7 s8 gr0 gr gr3 g5 d1 d2 d3 rdA back
  have g4 := s9.get
  have gr9 := (s9.mv 3).get
  rw [← emz] at gr9
  have s10 := s9.push (.cells false 0 [.int .i64 0, .slice none 0 0, .slice none 0 0, .slice none 0 0, .slice none 0 0] 30)
  obtain ⟨b5, eb5⟩ : ∃ b, b = h6.next := ⟨_, rfl⟩
  obtain ⟨h10, e10⟩ : ∃ h10, h10 = h6.push (.cells false 0 [.int .i64 0, .slice none 0 0, .slice none 0 0, .slice none 0 0, .slice none 0 0] 30) := ⟨_, rfl⟩
  rw [← eb5, ← e10] at s10
  have g410 := (s10.mv 1).get
  have gr10 := (s10.mv 4).get
  rw [← emz] at gr10
  refine sd [0, 1, 2, 3, 4, 5, 6, 8, 9, 11, 7, 10, 12] [0, 1, 3, 0, 8, 24, 56, 0, 256, 0, 120, 1023, 4095] (by decide +kernel) (by decide +kernel) (by decide +kernel) (fun LL hLL => ?_)
  simp only [ptrTo, pend, pend0, Pd.old, pendU, pendU0, oxq, Nat.testBit, ↓reduceIte, simprocAttr, gR_held, g4, gr9, ← eb5, ← e10, g410, gr10, sv]
  refine copyInts_ok P wa wc _ (fun h s => (s.mv 8).rs icell.len) (by omega) s10 _ fun pa2 pc2 h11 s11 => ?_
  have g411 := (s11.mv 2).get
  have gr11 := (s11.mv 5).get
  rw [← emz] at gr11
  have g511 := (s11.mv 1).get
  have s12 := (s11.mv 1).set (.cells false 0 [.int .i64 (IntKind.i64.wrap (id + 1)), .slice pa2 P.length pc2, .slice ka2 LI.length kc2, .slice none 0 0, .slice none 0 0] 30)
  obtain ⟨h12, e12⟩ : ∃ h12, h12 = h11.set b5 (.cells false 0 [.int .i64 (IntKind.i64.wrap (id + 1)), .slice pa2 P.length pc2, .slice ka2 LI.length kc2, .slice none 0 0, .slice none 0 0] 30) := ⟨_, rfl⟩
  rw [← e12] at s12
  simp only [ptrTo, pend, pend0, Pd.old, pendU, pendU0, oxq, Nat.testBit, ↓reduceIte, simprocAttr, gR_held, g4, gr9, g410, gr10, g411, gr11, g511, ← e12, sv]
  refine hLL _ _ ?_
  refine fg9 (fun R => ?_)
  have s13 := (s12).sel 15 [0, 8, 5, 6, 7, 9, 3, 1, 4, 10, 11, 12, 13, 14]
  simp only [List.filterMap_cons, List.filterMap_nil, List.getElem?_cons_succ, List.getElem?_cons_zero, List.drop_succ_cons, List.drop_zero, List.cons_append, List.nil_append] at s13
  obtain ⟨OR, eOR⟩ : ∃ OR, OR = outR g L RR := ⟨_, rfl⟩
  have hORl : OR.length = L.length := by rw [eOR]; exact outR_len g L RR
  rw [← eOR] at hk
  obtain ⟨GX, eGX⟩ : ∃ GX, GX = own br (.cells false 0 [.int .i64 g, .slice sb sn se, .int .i64 id, .slice qa O.length qc, .slice ka LI.length kc, .slice ga RR.length gc, .slice xa EE.length xc, .slice wa P.length wc, .slice ta S3.length tc, mvV ma mc Q k] 82) :: wn Sv.cells 1 83 ta tc S3 :: star (wns ptc 1 85 S3 LP) :: wn icell 1 3 wa wc P :: nest icell 1 3 25 ka2 kc2 LI :: wn icell 1 3 pa2 pc2 P :: own b2 (.cells false 0 [.int .i64 0, .slice none 0 0, .slice none 0 0, .slice none 0 0, .slice none 0 0] 30) :: wn rmvc 5 90 ma mc Q :: wn icell 1 3 qa qc O :: nest icell 1 3 25 ka kc LI :: nest rcell 3 52 48 ga gc RR :: nest r2cell 2 130 110 xa xc EE :: F := ⟨_, rfl⟩
  have getr : ∀ h', St h0 h' GX → h'.get br = some (.cells false 0 [.int .i64 g, .slice sb sn se, .int .i64 id, .slice qa O.length qc, .slice ka LI.length kc, .slice ga RR.length gc, .slice xa EE.length xc, .slice wa P.length wc, .slice ta S3.length tc, mz] 82) := fun h' s => by subst eGX emz; exact s.get
  have rdP : ∀ h', St h0 h' GX → Rs icell 1 h' wa P := fun h' s => by subst eGX; exact (s.mv 3).rs icell.len
  have rdH : ∀ h', St h0 h' GX → ∀ (i : Nat) (hi : i < TT.length) (hi3 : i < S3.length), ∃ b o ro sz C E, ta = some ⟨b, o, none⟩ ∧ h'.get b = some (.cells ro sz C E) ∧ C[o + i * 1]? = some (.slice S3[i].a TT[i].length S3[i].cap) ∧ Rs ptc 1 h' S3[i].a (ptrs TT[i]) := fun h' s i hi hi3 => by
    subst eGX
    obtain ⟨b, o, ro, sz, C, E, e1, p1, g1, r1, q1⟩ := ((s.mv 1).rs Sv.len1).resolve_left (by rintro rfl; simp at hi3)
    have v1 : C[o + i * 1]? = some (.slice S3[i].a S3[i].len S3[i].cap) := Rs.cell Sv.len1 r1 q1 i hi3 0 (by omega)
    have hiL : i < LP.length := by omega
    have hLat : LP[i] = ptrs TT[i] := by subst hLP; simp
    have hl := lens_at hS3 i hi3 hiL
    rw [hLat, ptrs_len] at hl
    rw [hl] at v1
    have rr := ((s.mv 2).wns_rs ptc.len i hi3 hiL).1
    rw [hLat] at rr
    exact ⟨b, o, ro, sz, C, E, e1, g1, v1, rr⟩
  have fin : ∀ h' oa oc, St h0 h' (nest rcell 3 52 48 oa oc OR :: star (TT.map (rtabsA g)) :: GX) → ∃ G, St h0 h' (own b2 (.cells false 0 [.int .i64 0, .slice none 0 0, .slice none 0 0, .slice none 0 0, .slice none 0 0] 30) :: G) ∧ ∀ h'', St h0 h'' (own b2 (.cells false 0 [.int .i64 (IntKind.i64.wrap (id + 1)), .slice pa2 P.length pc2, .slice ka2 LI.length kc2, .slice oa OR.length oc, .slice none 0 0] 30) :: G) → St h0 h'' (wn icell 1 3 pa2 pc2 P :: nest icell 1 3 25 ka2 kc2 LI :: nest rcell 3 52 48 oa oc OR :: rrunS br g sb sn se id qa O qc ka LI kc ga RR gc xa EE xc wa P wc ta S3 tc LP ma mc Q TT k F) := fun h' oa oc s => by
    subst eGX
    refine ⟨_, s.sel 14 [8, 7, 6, 0, 2, 3, 4, 1, 9, 5, 10, 11, 12, 13], fun h'' s2 => ?_⟩
    exact s2.sel 14 [1, 2, 3, 4, 5, 6, 7, 8, 9, 10, 11, 12, 13]
  have s14 : St h0 h12 (own b5 (.cells false 0 [.int .i64 (IntKind.i64.wrap (id + 1)), .slice pa2 P.length pc2, .slice ka2 LI.length kc2, .slice none 0 0, .slice none 0 0] 30) :: star (TT.map (rtabsA g)) :: GX) := by
    subst eGX
    exact s13.sel 14 [0, 1, 2, 3, 4, 5, 6, 7, 8, 9, 10, 11, 12, 13]
  clear s9 s10 s11 s12 s13 g4 gr9 g410 gr10 g411 gr11 g511 eGX
  refine sm (fun T h' => ∃ (oa : Option Addr) (oc : Nat) (u1 u3 u4 : Value) (R : List Value), St h0 h' (nest rcell 3 52 48 oa oc (OR) :: own b5 (.cells false 0 [.int .i64 (IntKind.i64.wrap (id + 1)), .slice pa2 P.length pc2, .slice ka2 LI.length kc2, .slice oa (OR).length oc, .slice none 0 0] 30) :: star (TT.map (rtabsA g)) :: GX) ∧ T = .pointer (some ⟨br, 0, none⟩) :: u1 :: .pointer (some ⟨b2, 0, none⟩) :: u3 :: u4 :: .pointer (some ⟨b5, 0, none⟩) :: R) ?_ ?_
  · refine sr (fun LL hLL => ?_)
    simp only [ptrTo, oxq, ↓reduceIte, simprocAttr, gR_some]
    refine hLL _ _ ?_
    refine fg9 (fun R => ?_)
    refine wpC_block ?_
    refine wpC_loop (fun m T h' => ∃ (i : Nat) (oa : Option Addr) (oc : Nat) (u1 u3 u4 u7 u8 : Value) (R : List Value), m + i = L.length ∧ St h0 h' (nest rcell 3 52 48 oa oc (OR.take i) :: own b5 (.cells false 0 [.int .i64 (IntKind.i64.wrap (id + 1)), .slice pa2 P.length pc2, .slice ka2 LI.length kc2, .slice oa (OR.take i).length oc, .slice none 0 0] 30) :: star (TT.map (rtabsA g)) :: GX) ∧ T = .pointer (some ⟨br, 0, none⟩) :: u1 :: .pointer (some ⟨b2, 0, none⟩) :: u3 :: u4 :: .pointer (some ⟨b5, 0, none⟩) :: .int .i64 i :: u7 :: u8 :: R) ?_ L.length _ _ ⟨0, none, 0, _, _, _, _, _, R, by omega, s14.nest_nil, rfl⟩
    clear s14
    rintro m T h' ⟨i, oa, oc, u1, u3, u4, u7, u8, R, hmi, s15, rfl⟩
    have gr := getr _ s15.drop.drop.drop
    refine wpC_seq (sr fun LL hLL => ?_)
    simp only [ptrTo, oxq, ↓reduceIte, simprocAttr, gR_some, gr]
    refine hLL _ _ ?_
    refine wpC_if ?_
    simp only [ptrTo, oxq, ↓reduceIte, simprocAttr, gR_some]
    refine gC_of (fun hc => ?_) (fun hc => ?_)
    · refine wpC_skip ?_
      simp only [ptrTo, oxq, ↓reduceIte, simprocAttr, gR_some]
      refine fg9 (fun R => ?_)
      have hi : i < L.length := by omega
      have hiT : i < TT.length := by omega
      have hi3 : i < S3.length := by omega
      have hiP : i < P.length := by omega
      have hiO : i < OR.length := by omega
      have hPi := hPb P[i] (List.getElem_mem hiP)
      obtain ⟨cn, ecn⟩ : ∃ c, c = min TT[i].length P[i].toNat := ⟨_, rfl⟩
      have hrw := r0.rows hPl hPb h1g h64 hw i hiT hiP (by rw [← eOR]; exact hiO)
      have hall : (TT[i].take cn).flatMap (fun x => rowsOf g x.2) = OR[i] := by subst eOR ecn; exact hrw.1
      have hT8 := hrw.2
      have hone := fun j hj => r0.one hPl b6 hw i hiT j hj
      obtain ⟨fl, efl⟩ : ∃ fl : Nat → List Rw, fl = fun j => (TT[i].take j).flatMap (fun x => rowsOf g x.2) := ⟨_, rfl⟩
      have hfl0 : fl 0 = [] := by rw [efl]; rfl
      have hfls : ∀ j (hj : j < TT[i].length), fl (j + 1) = fl j ++ rowsOf g TT[i][j].2 := fun j hj => by
        rw [efl]; simp only
        rw [List.take_succ_eq_append_getElem hj, List.flatMap_append]; simp
      have hfll : ∀ j, j ≤ TT[i].length → (fl j).length ≤ j * 2000 := fun j => by
        induction j with
        | zero => intro _; rw [efl]; simp
        | succ j ih =>
          intro hj
          rw [hfls j (by omega), List.length_append, rows_len]
          have := ih (by omega)
          have := (hone j (by omega)).2
          omega
      have hflcn : fl cn = OR[i] := by rw [efl]; exact hall
      have zz : aZeros [.slice none 0 0] 1 = [.slice none 0 0] := rfl
      refine wpC_seq (wpC_block ?_)
      refine sr (fun LL hLL => ?_)
      simp only [ptrTo, oxq, ↓reduceIte, simprocAttr, gR_some]
      refine hLL _ _ ?_
      refine fg9 (fun R => ?_)
      refine sm (fun T h' => ∃ (ra' : Option Addr) (rc' : Nat) (u1 u3 u4 u8 : Value) (R : List Value), St h0 h' (wn rcell 3 52 ra' rc' OR[i] :: nest rcell 3 52 48 oa oc (OR.take i) :: own b5 (.cells false 0 [.int .i64 (IntKind.i64.wrap (id + 1)), .slice pa2 P.length pc2, .slice ka2 LI.length kc2, .slice oa (OR.take i).length oc, .slice none 0 0] 30) :: star (TT.map (rtabsA g)) :: GX) ∧ T = .pointer (some ⟨br, 0, none⟩) :: u1 :: .pointer (some ⟨b2, 0, none⟩) :: u3 :: u4 :: .pointer (some ⟨b5, 0, none⟩) :: .int .i64 i :: .slice ra' OR[i].length rc' :: u8 :: R) ?_ ?_
      · refine sr (fun LL hLL => ?_)
        simp only [ptrTo, oxq, ↓reduceIte, simprocAttr, gR_some]
        refine hLL _ _ ?_
        refine fg9 (fun R => ?_)
        refine wpC_block ?_
        have s16 := s15.wn_nil (f := rcell) (k := 3) (e := 52)
        rw [← hfl0] at s16
        refine wpC_loop (fun m T h' => ∃ (j : Nat) (ra' : Option Addr) (rc' : Nat) (u1 u3 u4 : Value) (R : List Value), m + j = cn ∧ St h0 h' (wn rcell 3 52 ra' rc' (fl j) :: nest rcell 3 52 48 oa oc (OR.take i) :: own b5 (.cells false 0 [.int .i64 (IntKind.i64.wrap (id + 1)), .slice pa2 P.length pc2, .slice ka2 LI.length kc2, .slice oa (OR.take i).length oc, .slice none 0 0] 30) :: star (TT.map (rtabsA g)) :: GX) ∧ T = .pointer (some ⟨br, 0, none⟩) :: u1 :: .pointer (some ⟨b2, 0, none⟩) :: u3 :: u4 :: .pointer (some ⟨b5, 0, none⟩) :: .int .i64 i :: .slice ra' (fl j).length rc' :: .int .i64 j :: R) ?_ cn _ _ ⟨0, none, 0, _, _, _, R, by omega, s16, by rw [hfl0]; rfl⟩
        clear s15 s16 gr
        rintro m T h' ⟨j, ra', rc', u1, u3, u4, R, hmj, s17, rfl⟩
        have FX := s17.drop.drop.drop.drop
        have gr := getr _ FX
        obtain ⟨qb, qo, ro, sz, C, E, e1, g1, v1, rpt⟩ := rdH _ FX i hiT hi3
        obtain ⟨pb, po, rop, szp, Cp, Ep, ep, pp, gp, rp, qp⟩ := (rdP _ FX).resolve_left (by rintro rfl; simp at hiP)
        have vP : Cp[po + i * 1]? = some (.int .i64 P[i]) := Rs.cell icell.len rp qp i hiP 0 (by omega)
        rw [e1, ep] at gr
        by_cases c1 : j < TT[i].length
        · by_cases c2 : (j : Int) < P[i]
          · refine wpC_seq (sr fun LL hLL => ?_)
            simp only [ptrTo, oxq, ↓reduceIte, simprocAttr, gR_some, gr, ixF hi3, g1, v1, eq_true (show (j : Int) < ((TT[i].length : Nat) : Int) by omega), ixF hiP, gp, vP, eq_true c2]
            refine hLL _ _ ?_
            refine wpC_if ?_
            simp only [ptrTo, oxq, ↓reduceIte, simprocAttr, gR_some]
            refine wpC_skip ?_
            simp only [ptrTo, oxq, ↓reduceIte, simprocAttr, gR_some]
            refine fg9 (fun R => ?_)
            have hne : ptrs TT[i] ≠ [] := by intro e; have := ptrs_len TT[i]; rw [e] at this; simp at this; omega
            obtain ⟨tb, to', rot, szt, Ct, Et, et, pt, gt, rt, qt⟩ := rpt.resolve_left hne
            have w1 := Rs.cell ptc.len rt qt j (by rw [ptrs_len]; exact c1) 0 (by omega)
            rw [ptrs_at TT[i] j c1] at w1
            rw [et] at v1
            have wT : Ct[to' + j * 1]? = some (.pointer (some ⟨TT[i][j].1, 0, none⟩)) := w1
            refine wpC_seq (wpC_block ?_)
            refine rg (fun LL hLL => ?_)
            simp only [ptrTo, pend, pend0, Pd.old, pendU, pendU0, oxq, Nat.testBit, ↓reduceIte, simprocAttr, gR_held, gr, ixF hi3, g1, v1, ixF c1, gt, wT]
            refine rrows_at i j hiT c1 (hone j c1).2 _ (s17.mv 3) _ fun ar cr h18 s18 => ?_
            have hfst := wnFstR s18
            have hb1 := hfll j (by omega)
            have hb2 := (hone j c1).2
            have hb3 := rows_len (g : Int) TT[i][j].2
            obtain ⟨aE, cE, h19, y1, y2⟩ := (s18.mv 2).app (bytes := 24) (d := cr) (M := rowsOf g TT[i][j].2) rcell.len rcell.oc hfst (by omega) (by omega)
            simp only [ptrTo, pend, pend0, Pd.old, pendU, pendU0, oxq, Nat.testBit, ↓reduceIte, simprocAttr, gR_held]
            rw [y1]
            simp only [ptrTo, pend, pend0, Pd.old, pendU, pendU0, oxq, Nat.testBit, ↓reduceIte, simprocAttr, gR_held]
            refine hLL _ _ ?_
            simp only [ptrTo, oxq, ↓reduceIte, simprocAttr, gR_some]
            refine fg9 (fun R => ?_)
            refine rg (fun LL hLL => ?_)
            simp only [ptrTo, oxq, ↓reduceIte, simprocAttr, gR_some, wsucc (show j < 9223372036854775807 by omega)]
            refine hLL _ _ ?_
            simp only [ptrTo, oxq, ↓reduceIte, simprocAttr, gR_some]
            rw [← hfls j c1] at y2 ⊢
            have s20 := (y2).sel 5 [0, 3, 4, 2]
            simp only [List.filterMap_cons, List.filterMap_nil, List.getElem?_cons_succ, List.getElem?_cons_zero, List.drop_succ_cons, List.drop_zero, List.cons_append, List.nil_append] at s20
            refine ⟨m - 1, by omega, j + 1, aE, cE, _, _, _, _, by omega, s20, rfl⟩
          · refine wpC_seq (sr fun LL hLL => ?_)
            simp only [ptrTo, oxq, ↓reduceIte, simprocAttr, gR_some, gr, ixF hi3, g1, v1, eq_true (show (j : Int) < ((TT[i].length : Nat) : Int) by omega), ixF hiP, gp, vP, eq_false c2]
            refine hLL _ _ ?_
            refine wpC_if ?_
            simp only [ptrTo, oxq, ↓reduceIte, simprocAttr, gR_some]
            refine wpC_exit ?_
            simp only [ptrTo, oxq, ↓reduceIte, simprocAttr, gR_some]
            have : j = cn := by omega
            rw [this, hflcn] at s17
            rw [this, hflcn]
            exact ⟨ra', rc', _, _, _, _, _, s17, rfl⟩
        · refine wpC_seq (sr fun LL hLL => ?_)
          simp only [ptrTo, oxq, ↓reduceIte, simprocAttr, gR_some, gr, ixF hi3, g1, v1, eq_false (show ¬ (j : Int) < ((TT[i].length : Nat) : Int) by omega)]
          refine hLL _ _ ?_
          refine wpC_if ?_
          simp only [ptrTo, oxq, ↓reduceIte, simprocAttr, gR_some]
          refine wpC_exit ?_
          simp only [ptrTo, oxq, ↓reduceIte, simprocAttr, gR_some]
          have : j = cn := by omega
          rw [this, hflcn] at s17
          rw [this, hflcn]
          exact ⟨ra', rc', _, _, _, _, _, s17, rfl⟩
      clear s15 gr
      rintro T h' ⟨ra', rc', u1, u3, u4, u8, R, s17, rfl⟩
      have ht : OR.take (i + 1) = OR.take i ++ [OR[i]] := List.take_succ_eq_append_getElem hiO
      have hli : (OR.take i).length = i := by rw [List.length_take]; omega
      have g5 := (s17.mv 2).get
      obtain ⟨aE, cE, h18, y1, y2⟩ := s17.nest_app (by omega)
      have g58 := (y2.mv 1).get
      refine rg (fun LL hLL => ?_)
      simp only [ptrTo, oxq, ↓reduceIte, simprocAttr, gR_some, g5, zz]
      rw [y1]
      simp only [ptrTo, oxq, ↓reduceIte, simprocAttr, gR_some, g58]
      rw [show (OR.take i).length + 1 = (OR.take (i + 1)).length by rw [hli, List.length_take]; omega]
      refine hLL _ _ ?_
      simp only [ptrTo, oxq, ↓reduceIte, simprocAttr, gR_some]
      refine fg9 (fun R => ?_)
      refine rg (fun LL hLL => ?_)
      simp only [ptrTo, oxq, ↓reduceIte, simprocAttr, gR_some, wsucc (show i < 9223372036854775807 by omega)]
      refine hLL _ _ ?_
      simp only [ptrTo, oxq, ↓reduceIte, simprocAttr, gR_some]
      have s19 := (y2.mv 1).set (.cells false 0 [.int .i64 (IntKind.i64.wrap (id + 1)), .slice pa2 P.length pc2, .slice ka2 LI.length kc2, .slice aE (OR.take (i + 1)).length cE, .slice none 0 0] 30)
      rw [← ht] at s19
      exact ⟨m - 1, by omega, i + 1, aE, cE, _, _, _, _, _, _, by omega, s19.mv 1, rfl⟩
    · have : i = L.length := by omega
      subst this
      rw [List.take_of_length_le (by omega)] at s15
      refine wpC_exit ?_
      simp only [ptrTo, oxq, ↓reduceIte, simprocAttr, gR_some]
      exact ⟨oa, oc, _, _, _, _, s15, rfl⟩
  rintro T h' ⟨oa, oc, u1, u3, u4, R, s15, rfl⟩
  have g5 := (s15.mv 1).get
  have s16 := (s15).sel 2 [0]
  simp only [List.filterMap_cons, List.filterMap_nil, List.getElem?_cons_succ, List.getElem?_cons_zero, List.drop_succ_cons, List.drop_zero, List.cons_append, List.nil_append] at s16
  obtain ⟨G, s17, bk⟩ := fin _ _ _ s16
  have g2 := s17.get
  have s18 := s17.set (.cells false 0 [.int .i64 (IntKind.i64.wrap (id + 1)), .slice pa2 P.length pc2, .slice ka2 LI.length kc2, .slice oa OR.length oc, .slice none 0 0] 30)
  have g18 := s18.get
  refine sr (fun LL hLL => ?_)
  simp only [ptrTo, oxq, ↓reduceIte, simprocAttr, gR_some, g5, g2]
  refine hLL _ _ ?_
  refine wpC_ret (out_ret ?_)
  simp only [ptrTo, oxq, ↓reduceIte, simprocAttr, gR_some]
  simp only [g18]
  exact hk _ _ _ _ _ _ _ (bk _ s18)
end
end Go.Proofs

namespace Go.Proofs
open Go Go.Ox
set_option maxRecDepth 100000
set_option maxHeartbeats 8000000
theorem runs_body (g : Int) (a : Option Addr) (c : Nat) (L : List OpX) (m : MfX) (EE : List (List Rc2)) (pa2 : Option Addr) (pc2 : Nat) (P2 : List Int) (h : AHeap) (sp : SpR h a L) (mr : MfR h m) (mb : MfB m) (re : RsN r2cell 2 h m.ea EE) (hEl : m.ES.map Sv.len = EE.map List.length) (hw : ∀ l ∈ m.RR, ∀ r ∈ l, (Lit.int .i64 r.1).wf = true) (rp : Rs icell 1 h pa2 P2) (hp : P2.length < 17592186045000) (K : Value → AHeap → Prop) (hk : ∀ h', Fr h h' [] → K (.bool true) h') :
    wpF Tryz.prog (.fn 3) [.agg #[.int .i64 g, .slice a L.length c], .agg m.cells.toArray, .slice pa2 P2.length pc2] h K := by
  have s := St.init h
  refine wpF_fun 89 [.tmp 6] Tryz.func3 rfl rfl rfl rfl ?_
  obtain ⟨bs, ebs⟩ : ∃ b, b = h.next := ⟨_, rfl⟩
  obtain ⟨bm, ebm⟩ : ∃ b, b = bs + 1 := ⟨_, rfl⟩
  have s1 := (s.push (spB g a L.length c)).push (.cells false 0 m.cells 30)
  simp only [AHeap.next_push, ← ebs, ← ebm] at s1
  obtain ⟨h1, e1⟩ : ∃ h1, h1 = (h.push (spB g a L.length c)).push (.cells false 0 m.cells 30) := ⟨_, rfl⟩
  rw [← e1] at s1
  refine sr (fun LL hLL => ?_)
  simp only [ptrTo, oxq, ↓reduceIte, simprocAttr, gR_some, AHeap.next_push, ← ebs, ← ebm, ← e1, MfX.len]
  refine hLL _ _ ?_
  have gm := s1.get
  have gs := (s1.mv 1).get
  refine wpC_seq (sr fun LL hLL => ?_)
  simp only [ptrTo, pend, pend0, Pd.old, pendU, pendU0, oxq, Nat.testBit, ↓reduceIte, simprocAttr, gR_held, gm, gs, MfX.len]
  refine may_law g a c L sp m mr mb _ s1 _ fun b h2 hb s2 => ?_
  simp only [ptrTo, pend, pend0, Pd.old, pendU, pendU0, oxq, Nat.testBit, ↓reduceIte, simprocAttr, gR_held]
  refine hLL _ _ ?_
  cases b
  · refine wpC_if ?_
    simp only [ptrTo, oxq, ↓reduceIte, simprocAttr, gR_some]
    refine sr (fun LL hLL => ?_)
    simp only [ptrTo, oxq, ↓reduceIte, simprocAttr, gR_some]
    refine wpF_ext rfl ?_
    refine hLL _ _ ?_
    refine wpC_ret (out_ret ?_)
    simp only [ptrTo, oxq, ↓reduceIte, simprocAttr, gR_some]
    exact hk _ s2.base
  obtain ⟨hms, hg1, hg64, ⟨hn1, hi20⟩, hn12⟩ := hb rfl
  obtain ⟨G, rfl⟩ : ∃ G : Nat, g = (G : Int) := ⟨g.toNat, by omega⟩
  refine wpC_if ?_
  simp only [ptrTo, oxq, ↓reduceIte, simprocAttr, gR_some]
  refine wpC_skip ?_
  simp only [ptrTo, oxq, ↓reduceIte, simprocAttr, gR_some]
  refine fg7 (fun R => ?_)
  obtain ⟨id, pa, O, pc, la, LI, lc, ra, RR, rc, ea, ES, ec⟩ := m
  obtain ⟨bp, bl, br', be, bl1, br1, be1⟩ := mb
  obtain ⟨⟨hsn1, hsn2, hsn3, hsn4⟩, hsl, hsr⟩ := hms
  simp only at *
  have hEE : EE.length = ES.length := by simpa using (congrArg List.length hEl).symm
  have hE7 : ∀ x ∈ EE, x.length ≤ 2000 := fun x hx => by
    obtain ⟨i, hi, rfl⟩ := List.mem_iff_getElem.1 hx
    have := lens_at hEl i (by omega) hi
    rw [← this]
    exact hsn4 _ (List.getElem_mem (by omega))
  unfold MfX.cells at s2
  simp only at s2
  have gm := s2.get
  have gs := (s2.mv 1).get
  refine sr (fun LL hLL => ?_)
  simp only [ptrTo, pend, pend0, Pd.old, pendU, pendU0, oxq, Nat.testBit, ↓reduceIte, simprocAttr, gR_held, gm, gs]
  refine pars_ok G hg1 a c L hn12 pa pc O bp _ (Rd.of_base mr.p) s2 _ fun qa qc h3 s3 => ?_
  have gm3 := (s3.mv 1).get
  have gs3 := (s3.mv 2).get
  obtain ⟨O', eO'⟩ : ∃ O', O' = parsOf G L.length O := ⟨_, rfl⟩
  have hOl : O'.length = L.length := by rw [eO', parsOf_len]
  have hOr : ∀ x ∈ O', 1 ≤ x ∧ x ≤ 8 ∧ x ≤ (G : Int) := by rw [eO']; exact parsOf_range hg1 _ _
  rw [← eO'] at s3
  rw [← eO']
  rw [← hEE] at s3 gm3 
  have s4 := (s3.mv 1).set (.cells false 0 [.int .i64 id, .slice qa O'.length qc, .slice la LI.length lc, .slice ra RR.length rc, .slice ea EE.length ec] 30)
  obtain ⟨h4, e4⟩ : ∃ h4, h4 = h3.set bm (.cells false 0 [.int .i64 id, .slice qa O'.length qc, .slice la LI.length lc, .slice ra RR.length rc, .slice ea EE.length ec] 30) := ⟨_, rfl⟩
  rw [← e4] at s4
  simp only [ptrTo, pend, pend0, Pd.old, pendU, pendU0, oxq, Nat.testBit, ↓reduceIte, simprocAttr, gR_held, gm3, gs3, ← e4]
  refine hLL _ _ ?_
  refine fg7 (fun R => ?_)
  have gm4 := s4.get
  have gs4 := (s4.mv 2).get
  refine sr (fun LL hLL => ?_)
  simp only [ptrTo, pend, pend0, Pd.old, pendU, pendU0, oxq, Nat.testBit, ↓reduceIte, simprocAttr, gR_held, gs4]
  refine pars_ok G hg1 a c L hn12 pa2 pc2 P2 hp _ (Rd.of_base rp) s4 _ fun ya yc h5 s5 => ?_
  obtain ⟨P', eP'⟩ : ∃ P', P' = parsOf G L.length P2 := ⟨_, rfl⟩
  have hPl : P'.length = L.length := by rw [eP', parsOf_len]
  have hPr : ∀ x ∈ P', 1 ≤ x ∧ x ≤ 8 ∧ x ≤ (G : Int) := by rw [eP']; exact parsOf_range hg1 _ _
  rw [← eP'] at s5
  rw [← eP']
  simp only [ptrTo, pend, pend0, Pd.old, pendU, pendU0, oxq, Nat.testBit, ↓reduceIte, simprocAttr, gR_held]
  refine hLL _ _ ?_
  refine fg7 (fun R => ?_)
  have gm5 := (s5.mv 1).get
  refine sr (fun LL hLL => ?_)
  simp only [ptrTo, pend, pend0, Pd.old, pendU, pendU0, oxq, Nat.testBit, ↓reduceIte, simprocAttr, gR_held, gm5]
  refine copyMan_ok id qa O' qc la LI lc ra RR rc ea EE ec _ (fun h s => (s.mv 2).rs icell.len) (RdN.of_base mr.l) (RdN.of_base mr.r) (RdN.of_base re) (by omega) (by omega) (by omega) (by omega) hsl hsr hE7 s5 _ fun za zc ka kc ga gc xa xc h6 s6 => ?_
  have s7 := s6.push (.cells false 0 [.int .i64 0, .slice none 0 0, .slice none 0 0, .slice none 0 0, .slice none 0 0] 30)
  obtain ⟨b7, eb7⟩ : ∃ b, b = h6.next := ⟨_, rfl⟩
  rw [← eb7] at s7
  have g7 := s7.get
  have s8 := s7.set (.cells false 0 [.int .i64 id, .slice za O'.length zc, .slice ka LI.length kc, .slice ga RR.length gc, .slice xa EE.length xc] 30)
  obtain ⟨h8, e8⟩ : ∃ h8, h8 = (h6.push (.cells false 0 [.int .i64 0, .slice none 0 0, .slice none 0 0, .slice none 0 0, .slice none 0 0] 30)).set b7 (.cells false 0 [.int .i64 id, .slice za O'.length zc, .slice ka LI.length kc, .slice ga RR.length gc, .slice xa EE.length xc] 30) := ⟨_, rfl⟩
  rw [← e8] at s8
  simp only [ptrTo, pend, pend0, Pd.old, pendU, pendU0, oxq, Nat.testBit, ↓reduceIte, simprocAttr, gR_held, g7, ← eb7, ← e8]
  refine hLL _ _ ?_
  refine xp7 1 (by repeat (first | exact tput_le _ _ _ _ (.inr (by omega)) | refine tput_le _ _ _ _ (.inl ?_))) (fun R => ?_)
  simp only [ptrTo, oxq, ↓reduceIte, simprocAttr, gR_some, show List.range 1 = [0] from rfl]
  refine fg8 (fun R => ?_)
  refine sr (fun LL hLL => ?_)
  simp only [ptrTo, pend, pend0, Pd.old, pendU, pendU0, oxq, Nat.testBit, ↓reduceIte, simprocAttr, gR_held]
  refine copyInts_ok P' ya yc _ (fun h s => (s.mv 5).rs icell.len) (by omega) s8 _ fun va vc h9 s9 => ?_
  simp only [ptrTo, pend, pend0, Pd.old, pendU, pendU0, oxq, Nat.testBit, ↓reduceIte, simprocAttr, gR_held]
  refine hLL _ _ ?_
  refine xp8 1 (by repeat (first | exact tput_le _ _ _ _ (.inr (by omega)) | refine tput_le _ _ _ _ (.inl ?_))) (fun R => ?_)
  simp only [ptrTo, oxq, ↓reduceIte, simprocAttr, gR_some, show List.range 1 = [0] from rfl]
  refine fg9 (fun R => ?_)
  have s10 := (s9).sel 10 [3, 4, 5, 0, 1, 2, 6, 7, 8, 9]
  simp only [List.filterMap_cons, List.filterMap_nil, List.getElem?_cons_succ, List.getElem?_cons_zero, List.drop_succ_cons, List.drop_zero, List.cons_append, List.nil_append] at s10
  obtain ⟨A1, A2, A3, A4, A5, A6, s11, rdA, back⟩ := open3 s10
  clear s1 s2 s3 s4 s5 s6 s7 s8 s9 s10 gm gs gm3 gs3 gm4 gs4 gm5 g7
  obtain ⟨FF, eFF⟩ : ∃ FF, FF = A1 :: A2 :: A3 :: A4 :: A5 :: A6 :: wn icell 1 3 va vc P' :: own b7 (.cells false 0 [.int .i64 id, .slice za O'.length zc, .slice ka LI.length kc, .slice ga RR.length gc, .slice xa EE.length xc] 30) :: wn icell 1 3 za zc O' :: wn icell 1 3 ya yc P' :: own bm (.cells false 0 [.int .i64 id, .slice qa O'.length qc, .slice la LI.length lc, .slice ra RR.length rc, .slice ea EE.length ec] 30) :: wn icell 1 3 qa qc O' :: [own bs (spB G a L.length c)] := ⟨_, rfl⟩
  have getb7 : ∀ h', St h h' FF → h'.get b7 = some (.cells false 0 [.int .i64 id, .slice za O'.length zc, .slice ka LI.length kc, .slice ga RR.length gc, .slice xa EE.length xc] 30) := fun h' s => by subst eFF; exact (s.mv 7).get
  have getbm : ∀ h', St h h' FF → h'.get bm = some (.cells false 0 [.int .i64 id, .slice qa O'.length qc, .slice la LI.length lc, .slice ra RR.length rc, .slice ea EE.length ec] 30) := fun h' s => by subst eFF; exact (s.mv 10).get
  have getbs : ∀ h', St h h' FF → h'.get bs = some (spB G a L.length c) := fun h' s => by subst eFF; exact (s.mv 12).get
  have rdv : Rd h FF icell 1 va P' := fun h' s => by subst eFF; exact (s.mv 6).rs icell.len
  have rdz : Rd h FF icell 1 za O' := fun h' s => by subst eFF; exact (s.mv 8).rs icell.len
  have rdy : Rd h FF icell 1 ya P' := fun h' s => by subst eFF; exact (s.mv 9).rs icell.len
  have rdq : Rd h FF icell 1 qa O' := fun h' s => by subst eFF; exact (s.mv 11).rs icell.len
  have nv : va = none → P' = [] ∧ vc = 0 := wnNil (s11.mv 6)
  have d12 : RdN h FF icell 1 ka LI ∧ RdN h FF rcell 3 ga RR := by subst eFF; exact ⟨(rdA _).1, (rdA _).2.1⟩
  rw [← eFF] at s11
  have hnew : ∀ K', (∀ rb tb S TT Q pa pc la lc ma mc h', RunJ G L O' P' RR L.length S TT Q → St h h' (runA rb tb G id P' LI S TT pa pc la lc (.slice ma Q.length mc) ++ wn mvc 5 77 ma mc Q :: FF) → K' (.pointer (some ⟨rb, 0, none⟩)) h') →
      wpF Tryz.prog (.fn 10) [.agg #[.int .i64 G, .slice a L.length c], .agg #[.int .i64 id, .slice za O'.length zc, .slice ka LI.length kc, .slice ga RR.length gc, .slice xa EE.length xc], .slice va P'.length vc] h9 K' := fun K' hk' => by
    rw [hEE]
    exact new_run (by omega) (by omega) a c L hn12 ⟨id, za, O', zc, ka, LI, kc, ga, RR, gc, xa, ES, xc⟩ va vc P' _ sp ⟨rdz, d12.1, d12.2⟩ ⟨by show O'.length < _; omega, bl, br', be, bl1, br1, be1⟩ rdv nv hOl hPl hOr hPr ⟨⟨hsn1, hsn2, hsn3, hsn4⟩, hsl, hsr⟩ hw s11 _ hk'
  have g7 := getb7 _ s11
  have gs := getbs _ s11
  refine sr (fun LL hLL => ?_)
  simp only [ptrTo, pend, pend0, Pd.old, pendU, pendU0, oxq, Nat.testBit, ↓reduceIte, simprocAttr, gR_held, g7, gs]
  refine hnew _ fun rb tb S TT Q ua uc la' lc' ma mc h10 hJ s12 => ?_
  rw [← mvV_zero] at s12
  have s13 : St h h10 (runS rb tb G id P' LI S TT ua uc la' lc' ma mc Q 0 FF) := s12
  simp only [ptrTo, pend, pend0, Pd.old, pendU, pendU0, oxq, Nat.testBit, ↓reduceIte, simprocAttr, gR_held]
  refine hLL _ _ ?_
  refine xp9 1 (by repeat (first | exact tput_le _ _ _ _ (.inr (by omega)) | refine tput_le _ _ _ _ (.inl ?_))) (fun R => ?_)
  simp only [ptrTo, oxq, ↓reduceIte, simprocAttr, gR_some, show List.range 1 = [0] from rfl]
  refine fg10 (fun R => ?_)
  have toFF : ∀ h', St h h' (runS rb tb G id P' LI S TT ua uc la' lc' ma mc Q 0 FF) → St h h' FF := fun h' s => s.drop.drop.drop.drop.drop.drop.drop
  have gs := getbs _ (toFF _ s13)
  have gm := getbm _ (toFF _ s13)
  refine sr (fun LL hLL => ?_)
  simp only [ptrTo, pend, pend0, Pd.old, pendU, pendU0, oxq, Nat.testBit, ↓reduceIte, simprocAttr, gR_held, gs, gm]
  refine refNew_ok (by omega) (by omega) a c L hn1 hn12 hi20 id qa O' qc la LI lc ra RR rc ea EE ec ya yc P' _ sp (fun h' s => rdq _ (toFF _ s)) (RdN.of_base mr.l) (RdN.of_base mr.r) (RdN.of_base re) (fun h' s => rdy _ (toFF _ s)) hOl hPl hOr hPr (by omega) (by omega) (by omega) hsl hsr hE7 hw s13 _ fun br sb sn se qa2 qc2 ka2 kc2 ga2 gc2 xa2 xc2 wa wc S3 S2 TT2 Q2 ta tc ma2 mc2 h11 hJ2 hS3 s14 => ?_
  rw [← mvV_zero] at s14
  simp only [ptrTo, pend, pend0, Pd.old, pendU, pendU0, oxq, Nat.testBit, ↓reduceIte, simprocAttr, gR_held]
  refine hLL _ _ ?_
  refine xp10 1 (by repeat (first | exact tput_le _ _ _ _ (.inr (by omega)) | refine tput_le _ _ _ _ (.inl ?_))) (fun R => ?_)
  simp only [ptrTo, oxq, ↓reduceIte, simprocAttr, gR_some, show List.range 1 = [0] from rfl]
  refine fg11 (fun R => ?_)
  have hQQ : Q2.length = Q.length := by
    have e1 := congrArg List.length hJ.all
    have e2 := congrArg List.length hJ2.all
    simp only [List.length_map] at e1 e2
    omega
  have hQ180 : Q.length ≤ 180 := by have := hJ.few; omega
  refine wpC_seq (sr fun LL hLL => ?_)
  simp only [ptrTo, oxq, ↓reduceIte, simprocAttr, gR_some]
  refine hLL _ _ ?_
  refine wpC_if ?_
  simp only [ptrTo, oxq, ↓reduceIte, simprocAttr, gR_some]
  refine wpC_skip ?_
  simp only [ptrTo, oxq, ↓reduceIte, simprocAttr, gR_some]
  refine fg11 (fun R => ?_)
  subst eFF
  have s15 := (s14).sel 30 [17, 18, 19, 20, 21, 22, 25, 0, 1, 2, 3, 4, 5, 6, 7, 8, 9, 10, 11, 12, 13, 14, 15, 16, 23, 24, 26, 27, 28, 29]
  simp only [List.filterMap_cons, List.filterMap_nil, List.getElem?_cons_succ, List.getElem?_cons_zero, List.drop_succ_cons, List.drop_zero, List.cons_append, List.nil_append] at s15
  have s16 := back _ _ s15
  have s17 := (s16).sel 4 [3, 0, 1, 2]
  simp only [List.filterMap_cons, List.filterMap_nil, List.getElem?_cons_succ, List.getElem?_cons_zero, List.drop_succ_cons, List.drop_zero, List.cons_append, List.nil_append] at s17
  have g7 := (s17.mv 22).get
  clear s11 s12 s13 s14 s15 s16 hnew getb7 getbm getbs rdv rdz rdy rdq toFF rdA back d12 gs gm
  refine sr (fun LL hLL => ?_)
  simp only [ptrTo, pend, pend0, Pd.old, pendU, pendU0, oxq, Nat.testBit, ↓reduceIte, simprocAttr, gR_held, g7]
  refine spoilMan_ok id za O' zc ka LI kc ga RR gc xa EE xc _ (by omega) (by omega) (by omega) (by omega) hsl hsr hE7 s17 _ fun h12 s18 => ?_
  simp only [ptrTo, pend, pend0, Pd.old, pendU, pendU0, oxq, Nat.testBit, ↓reduceIte, simprocAttr, gR_held]
  refine hLL _ _ ?_
  refine sr (fun LL hLL => ?_)
  simp only [ptrTo, pend, pend0, Pd.old, pendU, pendU0, oxq, Nat.testBit, ↓reduceIte, simprocAttr, gR_held]
  refine spoilInts_ok P' va vc _ (s18.mv 17) (by omega) _ fun V' h13 hV s19 => ?_
  have s20 := s19.drop
  simp only [ptrTo, pend, pend0, Pd.old, pendU, pendU0, oxq, Nat.testBit, ↓reduceIte, simprocAttr, gR_held]
  refine hLL _ _ ?_
  obtain ⟨F9, eF9⟩ : ∃ F9, F9 = own b7 (.cells false 0 [.int .i64 id, .slice za O'.length zc, .slice ka LI.length kc, .slice ga RR.length gc, .slice xa EE.length xc] 30) :: wn icell 1 3 ya yc P' :: own bm (.cells false 0 [.int .i64 id, .slice qa O'.length qc, .slice la LI.length lc, .slice ra RR.length rc, .slice ea EE.length ec] 30) :: wn icell 1 3 qa qc O' :: [own bs (spB G a L.length c)] := ⟨_, rfl⟩
  rw [← eF9] at s20
  clear s17 s18 s19 g7
  obtain ⟨LP, hLP⟩ : ∃ LP, TT2.map ptrs = LP := ⟨_, rfl⟩
  rw [hLP] at s20 hS3
  have s21 : St h h13 (rrunS br G sb sn se id qa2 O' qc2 ka2 LI kc2 ga2 RR gc2 xa2 EE xc2 wa P' wc ta S3 tc LP ma2 mc2 Q2 TT2 0 (runS rb tb G id P' LI S TT ua uc la' lc' ma mc Q 0 (F9))) := s20
  clear s20
  refine wpC_seq ?_
  refine sr (fun LL hLL => ?_)
  simp only [ptrTo, oxq, ↓reduceIte, simprocAttr, gR_some]
  refine hLL _ _ ?_
  refine xp11 1 (by repeat (first | exact tput_le _ _ _ _ (.inr (by omega)) | refine tput_le _ _ _ _ (.inl ?_))) (fun R => ?_)
  simp only [ptrTo, oxq, ↓reduceIte, simprocAttr, gR_some, show List.range 1 = [0] from rfl]
  refine fg12 (fun R => ?_)
  refine wpC_block ?_
  refine wpC_loop (fun m T h' => ∃ (k : Nat) (TT TT2 : List (List (Nat × Tb))) (u0 u1 u2 u3 u4 u5 u6 u7 u8 : Value) (R : List Value), m + k = Q.length ∧ RunK G L P' RR S TT (Q.drop k) ∧ RunK G L P' RR S2 TT2 (Q2.drop k) ∧ TT2.map ptrs = LP ∧ St h h' (rrunS br G sb sn se id qa2 O' qc2 ka2 LI kc2 ga2 RR gc2 xa2 EE xc2 wa P' wc ta S3 tc LP ma2 mc2 Q2 TT2 k (runS rb tb G id P' LI S TT ua uc la' lc' ma mc Q k (F9))) ∧ T = u0 :: u1 :: u2 :: u3 :: u4 :: u5 :: u6 :: u7 :: u8 :: .pointer (some ⟨rb, 0, none⟩) :: .pointer (some ⟨br, 0, none⟩) :: .int .i64 k :: R) ?_ Q.length _ _ ⟨0, TT, TT2, _, _, _, _, _, _, _, _, _, R, by omega, hJ.toK, hJ2.toK, hLP, s21, rfl⟩
  clear s21 hLP hJ hJ2
  rintro m T h' ⟨k, TT, TT2, u0, u1, u2, u3, u4, u5, u6, u7, u8, R, hmk, hK, hK2, hLP, s, rfl⟩
  refine wpC_seq (sr fun LL hLL => ?_)
  simp only [ptrTo, oxq, ↓reduceIte, simprocAttr, gR_some, eq_true (show (k : Int) < 300 by omega)]
  refine hLL _ _ ?_
  refine wpC_if ?_
  simp only [ptrTo, oxq, ↓reduceIte, simprocAttr, gR_some]
  refine wpC_skip ?_
  simp only [ptrTo, oxq, ↓reduceIte, simprocAttr, gR_some]
  refine fg12 (fun R => ?_)
  refine wpC_seq (wpC_block ?_)
  have sA : St h h' (runS rb tb G id P' LI S TT ua uc la' lc' ma mc Q k (rrunS br G sb sn se id qa2 O' qc2 ka2 LI kc2 ga2 RR gc2 xa2 EE xc2 wa P' wc ta S3 tc LP ma2 mc2 Q2 TT2 k (F9))) := s.sel 17 [10, 11, 12, 13, 14, 15, 16, 0, 1, 2, 3, 4, 5, 6, 7, 8, 9]
  by_cases hkQ : k < Q.length
  · refine sr (fun LL hLL => ?_)
    simp only [ptrTo, pend, pend0, Pd.old, pendU, pendU0, oxq, Nat.testBit, ↓reduceIte, simprocAttr, gR_held]
    refine man_no _ sA hkQ _ fun h1 sB => ?_
    have sC := sB.push (.cells false 0 [.int .i64 0, .slice none 0 0, .slice none 0 0, .slice none 0 0, .slice none 0 0] 30)
    obtain ⟨b12, eb12⟩ : ∃ b, b = h1.next := ⟨_, rfl⟩
    rw [← eb12] at sC
    have gC := sC.get
    have sD := sC.set (.cells false 0 [.int .i64 0, .slice none 0 0, .slice none 0 0, .slice none 0 0, .slice none 0 0] 30)
    obtain ⟨h2, e2⟩ : ∃ h2, h2 = (h1.push (.cells false 0 [.int .i64 0, .slice none 0 0, .slice none 0 0, .slice none 0 0, .slice none 0 0] 30)).set b12 (.cells false 0 [.int .i64 0, .slice none 0 0, .slice none 0 0, .slice none 0 0, .slice none 0 0] 30) := ⟨_, rfl⟩
    rw [← e2] at sD
    simp only [ptrTo, pend, pend0, Pd.old, pendU, pendU0, oxq, Nat.testBit, ↓reduceIte, simprocAttr, gR_held, gC, ← eb12, ← e2]
    refine hLL _ _ ?_
    refine xp12 2 (by repeat (first | exact tput_le _ _ _ _ (.inr (by omega)) | refine tput_le _ _ _ _ (.inl ?_))) (fun R => ?_)
    simp only [ptrTo, oxq, ↓reduceIte, simprocAttr, gR_some, show List.range 2 = [0, 1] from rfl]
    refine fg14 (fun R => ?_)
    have sE : St h h2 (rrunS br G sb sn se id qa2 O' qc2 ka2 LI kc2 ga2 RR gc2 xa2 EE xc2 wa P' wc ta S3 tc LP ma2 mc2 Q2 TT2 k (own b12 (.cells false 0 [.int .i64 0, .slice none 0 0, .slice none 0 0, .slice none 0 0, .slice none 0 0] 30) :: runS rb tb G id P' LI S TT ua uc la' lc' ma mc Q k (F9))) := sD.sel 18 [8, 9, 10, 11, 12, 13, 14, 15, 16, 17, 0, 1, 2, 3, 4, 5, 6, 7]
    refine sr (fun LL hLL => ?_)
    simp only [ptrTo, pend, pend0, Pd.old, pendU, pendU0, oxq, Nat.testBit, ↓reduceIte, simprocAttr, gR_held]
    refine rman_no _ sE (by omega) _ fun h3 sF => ?_
    have sG := sF.push (.cells false 0 [.int .i64 0, .slice none 0 0, .slice none 0 0, .slice none 0 0, .slice none 0 0] 30)
    obtain ⟨b14, eb14⟩ : ∃ b, b = h3.next := ⟨_, rfl⟩
    rw [← eb14] at sG
    have gG := sG.get
    have sH := sG.set (.cells false 0 [.int .i64 0, .slice none 0 0, .slice none 0 0, .slice none 0 0, .slice none 0 0] 30)
    obtain ⟨h4, e4⟩ : ∃ h4, h4 = (h3.push (.cells false 0 [.int .i64 0, .slice none 0 0, .slice none 0 0, .slice none 0 0, .slice none 0 0] 30)).set b14 (.cells false 0 [.int .i64 0, .slice none 0 0, .slice none 0 0, .slice none 0 0, .slice none 0 0] 30) := ⟨_, rfl⟩
    rw [← e4] at sH
    simp only [ptrTo, pend, pend0, Pd.old, pendU, pendU0, oxq, Nat.testBit, ↓reduceIte, simprocAttr, gR_held, gG, ← eb14, ← e4]
    refine hLL _ _ ?_
    refine xp14 2 (by repeat (first | exact tput_le _ _ _ _ (.inr (by omega)) | refine tput_le _ _ _ _ (.inl ?_))) (fun R => ?_)
    simp only [ptrTo, oxq, ↓reduceIte, simprocAttr, gR_some, show List.range 2 = [0, 1] from rfl]
    refine fg16 (fun R => ?_)
    have g12 := (sH.mv 11).get
    have g14 := sH.get
    clear sB sC sD sE sF sG gC gG sA s
    refine wpC_seq (sr fun LL hLL => ?_)
    simp only [ptrTo, pend, pend0, Pd.old, pendU, pendU0, oxq, Nat.testBit, ↓reduceIte, simprocAttr, gR_held, g12, g14, neBo, bne_self_eq_false]
    refine sameMan_ok 0 none ([] : List Int) 0 none ([] : List (List Int)) 0 none ([] : List (List Rw)) 0 none 0 none 0 none 0 none 0 none 0 _ (fun _ _ => .inl rfl) (fun _ _ => ⟨[], rfl, .inl rfl, fun i hi _ => by simp at hi⟩) (fun _ _ => ⟨[], rfl, .inl rfl, fun i hi _ => by simp at hi⟩) (fun _ _ => .inl rfl) (fun _ _ => ⟨[], rfl, .inl rfl, fun i hi _ => by simp at hi⟩) (fun _ _ => ⟨[], rfl, .inl rfl, fun i hi _ => by simp at hi⟩) (by simp) (by simp) (by simp) (by simp) (by simp) sH _ fun h5 sI => ?_
    have g12' := (sI.mv 11).get
    have g14' := sI.get
    simp only [ptrTo, pend, pend0, Pd.old, pendU, pendU0, oxq, Nat.testBit, ↓reduceIte, simprocAttr, gR_held, g12', g14', Bool.not_true]
    have sJ : St h h5 (runS rb tb G id P' LI S TT ua uc la' lc' ma mc Q k (own b14 (.cells false 0 [.int .i64 0, .slice none 0 0, .slice none 0 0, .slice none 0 0, .slice none 0 0] 30) :: rrunS br G sb sn se id qa2 O' qc2 ka2 LI kc2 ga2 RR gc2 xa2 EE xc2 wa P' wc ta S3 tc LP ma2 mc2 Q2 TT2 k (own b12 (.cells false 0 [.int .i64 0, .slice none 0 0, .slice none 0 0, .slice none 0 0, .slice none 0 0] 30) :: F9))) := sI.sel 19 [12, 13, 14, 15, 16, 17, 18, 0, 1, 2, 3, 4, 5, 6, 7, 8, 9, 10, 11]
    refine left_ok _ sJ _ ?_
    simp only [ptrTo, pend, pend0, Pd.old, pendU, pendU0, oxq, Nat.testBit, ↓reduceIte, simprocAttr, gR_held, g12', g14']
    have sK : St h h5 (rrunS br G sb sn se id qa2 O' qc2 ka2 LI kc2 ga2 RR gc2 xa2 EE xc2 wa P' wc ta S3 tc LP ma2 mc2 Q2 TT2 k (runS rb tb G id P' LI S TT ua uc la' lc' ma mc Q k (own b12 (.cells false 0 [.int .i64 0, .slice none 0 0, .slice none 0 0, .slice none 0 0, .slice none 0 0] 30) :: F9))) := sI.sel 19 [1, 2, 3, 4, 5, 6, 7, 8, 9, 10, 12, 13, 14, 15, 16, 17, 18, 11]
    refine rleft_ok _ sK _ ?_
    rw [hQQ]
    simp only [ptrTo, pend, pend0, Pd.old, pendU, pendU0, oxq, Nat.testBit, ↓reduceIte, simprocAttr, gR_held, g12', g14', ne_eq, not_true_eq_false]
    refine hLL _ _ ?_
    refine wpC_if ?_
    simp only [ptrTo, oxq, ↓reduceIte, simprocAttr, gR_some]
    refine wpC_skip ?_
    simp only [ptrTo, oxq, ↓reduceIte, simprocAttr, gR_some]
    refine fg16 (fun R => ?_)
    have g12'' := (sK.mv 17).get
    refine sr (fun LL hLL => ?_)
    simp only [ptrTo, pend, pend0, Pd.old, pendU, pendU0, oxq, Nat.testBit, ↓reduceIte, simprocAttr, gR_held, g12'']
    have sL := ((sK.nest_nil (f := r2cell) (k := 2) (e := 130) (E := 110)).nest_nil (f := rcell) (k := 3) (e := 52) (E := 48)).nest_nil (f := icell) (k := 1) (e := 3) (E := 25) |>.wn_nil (f := icell) (k := 1) (e := 3)
    refine spoilMan_ok 0 none [] 0 none [] 0 none [] 0 none [] 0 _ (by simp) (by simp) (by simp) (by simp) (by simp) (by simp) (by simp) sL _ fun h6 sM => ?_
    simp only [ptrTo, pend, pend0, Pd.old, pendU, pendU0, oxq, Nat.testBit, ↓reduceIte, simprocAttr, gR_held]
    refine hLL _ _ ?_
    have sN : St h h6 (runS rb tb G id P' LI S TT ua uc la' lc' ma mc Q k (rrunS br G sb sn se id qa2 O' qc2 ka2 LI kc2 ga2 RR gc2 xa2 EE xc2 wa P' wc ta S3 tc LP ma2 mc2 Q2 TT2 k (own b12 (.cells false 0 [.int .i64 0, .slice none 0 0, .slice none 0 0, .slice none 0 0, .slice none 0 0] 30) :: F9))) := sM.sel 18 [10, 11, 12, 13, 14, 15, 16, 0, 1, 2, 3, 4, 5, 6, 7, 8, 9, 17]
    refine sr (fun LL hLL => ?_)
    simp only [ptrTo, pend, pend0, Pd.old, pendU, pendU0, oxq, Nat.testBit, ↓reduceIte, simprocAttr, gR_held]
    refine step_ok hPl hsr hw hK hkQ (by omega) _ sN _ fun TT' h7 hK' sO => ?_
    simp only [ptrTo, pend, pend0, Pd.old, pendU, pendU0, oxq, Nat.testBit, ↓reduceIte, simprocAttr, gR_held]
    refine hLL _ _ ?_
    refine xp16 1 (by repeat (first | exact tput_le _ _ _ _ (.inr (by omega)) | refine tput_le _ _ _ _ (.inl ?_))) (fun R => ?_)
    simp only [ptrTo, oxq, ↓reduceIte, simprocAttr, gR_some, show List.range 1 = [0] from rfl]
    refine fg17 (fun R => ?_)
    have sP : St h h7 (rrunS br G sb sn se id qa2 O' qc2 ka2 LI kc2 ga2 RR gc2 xa2 EE xc2 wa P' wc ta S3 tc LP ma2 mc2 Q2 TT2 k (runS rb tb G id P' LI S TT' ua uc la' lc' ma mc Q (k + 1) (own b12 (.cells false 0 [.int .i64 0, .slice none 0 0, .slice none 0 0, .slice none 0 0, .slice none 0 0] 30) :: F9))) := sO.sel 18 [7, 8, 9, 10, 11, 12, 13, 14, 15, 16, 0, 1, 2, 3, 4, 5, 6, 17]
    refine wpC_seq (sr fun LL hLL => ?_)
    simp only [ptrTo, pend, pend0, Pd.old, pendU, pendU0, oxq, Nat.testBit, ↓reduceIte, simprocAttr, gR_held]
    refine rstep_ok hPl hsr hw hK2 hLP hS3 (by omega) (by omega) _ sP _ fun TT2' h8 hK2' hLP' sQ => ?_
    simp only [ptrTo, pend, pend0, Pd.old, pendU, pendU0, oxq, Nat.testBit, ↓reduceIte, simprocAttr, gR_held, neBo, bne_self_eq_false]
    refine hLL _ _ ?_
    refine wpC_if ?_
    simp only [ptrTo, oxq, ↓reduceIte, simprocAttr, gR_some]
    refine wpC_skip ?_
    simp only [ptrTo, oxq, ↓reduceIte, simprocAttr, gR_some]
    refine fg17 (fun R => ?_)
    refine sr (fun LL hLL => ?_)
    simp only [ptrTo, oxq, ↓reduceIte, simprocAttr, gR_some, Bool.not_true]
    refine hLL _ _ ?_
    refine wpC_if ?_
    simp only [ptrTo, oxq, ↓reduceIte, simprocAttr, gR_some]
    refine wpC_skip ?_
    simp only [ptrTo, oxq, ↓reduceIte, simprocAttr, gR_some]
    refine fg12 (fun R => ?_)
    refine rg (fun LL hLL => ?_)
    simp only [ptrTo, oxq, ↓reduceIte, simprocAttr, gR_some, wsucc (show k < 9223372036854775807 by omega)]
    refine hLL _ _ ?_
    simp only [ptrTo, oxq, ↓reduceIte, simprocAttr, gR_some]
    exact ⟨m - 1, by omega, k + 1, TT', TT2', _, _, _, _, _, _, _, _, _, _, by omega, hK', hK2', hLP', sQ.sel 18 [0, 1, 2, 3, 4, 5, 6, 7, 8, 9, 10, 11, 12, 13, 14, 15, 16], rfl⟩
  · have hkl : k = Q.length := by omega
    obtain ⟨OR, eOR⟩ : ∃ OR, OR = outR G L RR := ⟨_, rfl⟩
    have hORl : OR.length = L.length := by rw [eOR]; exact outR_len G L RR
    have hORlen : ∀ l ∈ OR, l.length ≤ 2000 := by rw [eOR]; exact outR_lens hsr
    refine sr (fun LL hLL => ?_)
    simp only [ptrTo, pend, pend0, Pd.old, pendU, pendU0, oxq, Nat.testBit, ↓reduceIte, simprocAttr, gR_held]
    refine man_ok hn12 (by omega) (by omega) hPl hPr (by omega) hsl hsr hw hK (by omega) _ sA _ fun p1 p2 l1 l2 r1 r2 h1 sB => ?_
    rw [← eOR] at sB ⊢
    have sC := sB.push (.cells false 0 [.int .i64 0, .slice none 0 0, .slice none 0 0, .slice none 0 0, .slice none 0 0] 30)
    obtain ⟨b12, eb12⟩ : ∃ b, b = h1.next := ⟨_, rfl⟩
    rw [← eb12] at sC
    have gC := sC.get
    have sD := sC.set (.cells false 0 [.int .i64 (IntKind.i64.wrap (id + 1)), .slice p1 P'.length p2, .slice l1 LI.length l2, .slice r1 OR.length r2, .slice none 0 0] 30)
    obtain ⟨h2, e2⟩ : ∃ h2, h2 = (h1.push (.cells false 0 [.int .i64 0, .slice none 0 0, .slice none 0 0, .slice none 0 0, .slice none 0 0] 30)).set b12 (.cells false 0 [.int .i64 (IntKind.i64.wrap (id + 1)), .slice p1 P'.length p2, .slice l1 LI.length l2, .slice r1 OR.length r2, .slice none 0 0] 30) := ⟨_, rfl⟩
    rw [← e2] at sD
    simp only [ptrTo, pend, pend0, Pd.old, pendU, pendU0, oxq, Nat.testBit, ↓reduceIte, simprocAttr, gR_held, gC, ← eb12, ← e2]
    refine hLL _ _ ?_
    refine xp12 2 (by repeat (first | exact tput_le _ _ _ _ (.inr (by omega)) | refine tput_le _ _ _ _ (.inl ?_))) (fun R => ?_)
    simp only [ptrTo, oxq, ↓reduceIte, simprocAttr, gR_some, show List.range 2 = [0, 1] from rfl]
    refine fg14 (fun R => ?_)
    have sE : St h h2 (rrunS br G sb sn se id qa2 O' qc2 ka2 LI kc2 ga2 RR gc2 xa2 EE xc2 wa P' wc ta S3 tc LP ma2 mc2 Q2 TT2 k (own b12 (.cells false 0 [.int .i64 (IntKind.i64.wrap (id + 1)), .slice p1 P'.length p2, .slice l1 LI.length l2, .slice r1 OR.length r2, .slice none 0 0] 30) :: wn icell 1 3 p1 p2 P' :: nest icell 1 3 25 l1 l2 LI :: nest rcell 3 52 48 r1 r2 OR :: runS rb tb G id P' LI S TT ua uc la' lc' ma mc Q k (F9))) := sD.sel 21 [11, 12, 13, 14, 15, 16, 17, 18, 19, 20, 0, 1, 2, 3, 4, 5, 6, 7, 8, 9, 10]
    refine sr (fun LL hLL => ?_)
    simp only [ptrTo, pend, pend0, Pd.old, pendU, pendU0, oxq, Nat.testBit, ↓reduceIte, simprocAttr, gR_held]
    refine rman_ok hn12 (by omega) (by omega) hOl hPl hPr (by omega) (by omega) (by omega) hsl hsr hE7 hw hK2 hLP hS3 (by omega) _ sE _ fun p3 p4 l3 l4 r3 r4 h3 sF => ?_
    rw [← eOR] at sF ⊢
    have sG := sF.push (.cells false 0 [.int .i64 0, .slice none 0 0, .slice none 0 0, .slice none 0 0, .slice none 0 0] 30)
    obtain ⟨b14, eb14⟩ : ∃ b, b = h3.next := ⟨_, rfl⟩
    rw [← eb14] at sG
    have gG := sG.get
    have sH := sG.set (.cells false 0 [.int .i64 (IntKind.i64.wrap (id + 1)), .slice p3 P'.length p4, .slice l3 LI.length l4, .slice r3 OR.length r4, .slice none 0 0] 30)
    obtain ⟨h4, e4⟩ : ∃ h4, h4 = (h3.push (.cells false 0 [.int .i64 0, .slice none 0 0, .slice none 0 0, .slice none 0 0, .slice none 0 0] 30)).set b14 (.cells false 0 [.int .i64 (IntKind.i64.wrap (id + 1)), .slice p3 P'.length p4, .slice l3 LI.length l4, .slice r3 OR.length r4, .slice none 0 0] 30) := ⟨_, rfl⟩
    rw [← e4] at sH
    simp only [ptrTo, pend, pend0, Pd.old, pendU, pendU0, oxq, Nat.testBit, ↓reduceIte, simprocAttr, gR_held, gG, ← eb14, ← e4]
    refine hLL _ _ ?_
    refine xp14 2 (by repeat (first | exact tput_le _ _ _ _ (.inr (by omega)) | refine tput_le _ _ _ _ (.inl ?_))) (fun R => ?_)
    simp only [ptrTo, oxq, ↓reduceIte, simprocAttr, gR_some, show List.range 2 = [0, 1] from rfl]
    refine fg16 (fun R => ?_)
    have g12 := (sH.mv 14).get
    have g14 := sH.get
    clear sB sC sD sE sF sG gC gG sA s
    refine wpC_seq (sr fun LL hLL => ?_)
    simp only [ptrTo, pend, pend0, Pd.old, pendU, pendU0, oxq, Nat.testBit, ↓reduceIte, simprocAttr, gR_held, g12, g14, neBo, bne_self_eq_false]
    refine sameMan_ok (IntKind.i64.wrap (id + 1)) p1 P' p2 l1 LI l2 r1 OR r2 none 0 p3 p4 l3 l4 r3 r4 none 0 _ (fun _ s => (s.mv 15).rs icell.len) (fun _ s => (s.mv 16).rsn icell.len) (fun _ s => (s.mv 17).rsn rcell.len) (fun _ s => (s.mv 1).rs icell.len) (fun _ s => (s.mv 2).rsn icell.len) (fun _ s => (s.mv 3).rsn rcell.len) (by omega) (by omega) (by omega) hsl hORlen sH _ fun h5 sI => ?_
    have g12' := (sI.mv 14).get
    have g14' := sI.get
    simp only [ptrTo, pend, pend0, Pd.old, pendU, pendU0, oxq, Nat.testBit, ↓reduceIte, simprocAttr, gR_held, g12', g14', Bool.not_true]
    have sJ : St h h5 (runS rb tb G id P' LI S TT ua uc la' lc' ma mc Q k (own b14 (.cells false 0 [.int .i64 (IntKind.i64.wrap (id + 1)), .slice p3 P'.length p4, .slice l3 LI.length l4, .slice r3 OR.length r4, .slice none 0 0] 30) :: wn icell 1 3 p3 p4 P' :: nest icell 1 3 25 l3 l4 LI :: nest rcell 3 52 48 r3 r4 OR :: rrunS br G sb sn se id qa2 O' qc2 ka2 LI kc2 ga2 RR gc2 xa2 EE xc2 wa P' wc ta S3 tc LP ma2 mc2 Q2 TT2 k (own b12 (.cells false 0 [.int .i64 (IntKind.i64.wrap (id + 1)), .slice p1 P'.length p2, .slice l1 LI.length l2, .slice r1 OR.length r2, .slice none 0 0] 30) :: wn icell 1 3 p1 p2 P' :: nest icell 1 3 25 l1 l2 LI :: nest rcell 3 52 48 r1 r2 OR :: F9))) := sI.sel 25 [18, 19, 20, 21, 22, 23, 24, 0, 1, 2, 3, 4, 5, 6, 7, 8, 9, 10, 11, 12, 13, 14, 15, 16, 17]
    refine left_ok _ sJ _ ?_
    simp only [ptrTo, pend, pend0, Pd.old, pendU, pendU0, oxq, Nat.testBit, ↓reduceIte, simprocAttr, gR_held, g12', g14']
    have sK : St h h5 (rrunS br G sb sn se id qa2 O' qc2 ka2 LI kc2 ga2 RR gc2 xa2 EE xc2 wa P' wc ta S3 tc LP ma2 mc2 Q2 TT2 k (runS rb tb G id P' LI S TT ua uc la' lc' ma mc Q k (own b14 (.cells false 0 [.int .i64 (IntKind.i64.wrap (id + 1)), .slice p3 P'.length p4, .slice l3 LI.length l4, .slice r3 OR.length r4, .slice none 0 0] 30) :: own b12 (.cells false 0 [.int .i64 (IntKind.i64.wrap (id + 1)), .slice p1 P'.length p2, .slice l1 LI.length l2, .slice r1 OR.length r2, .slice none 0 0] 30) :: wn icell 1 3 p1 p2 P' :: nest icell 1 3 25 l1 l2 LI :: nest rcell 3 52 48 r1 r2 OR :: F9))) := sI.sel 25 [4, 5, 6, 7, 8, 9, 10, 11, 12, 13, 18, 19, 20, 21, 22, 23, 24, 0, 14, 15, 16, 17]
    refine rleft_ok _ sK _ ?_
    rw [hQQ]
    simp only [ptrTo, pend, pend0, Pd.old, pendU, pendU0, oxq, Nat.testBit, ↓reduceIte, simprocAttr, gR_held, g12', g14', ne_eq, not_true_eq_false]
    refine hLL _ _ ?_
    refine wpC_if ?_
    simp only [ptrTo, oxq, ↓reduceIte, simprocAttr, gR_some]
    refine wpC_skip ?_
    simp only [ptrTo, oxq, ↓reduceIte, simprocAttr, gR_some]
    refine fg16 (fun R => ?_)
    have g12'' := (sK.mv 18).get
    refine sr (fun LL hLL => ?_)
    simp only [ptrTo, pend, pend0, Pd.old, pendU, pendU0, oxq, Nat.testBit, ↓reduceIte, simprocAttr, gR_held, g12'']
    have sL0 : St h h5 (nest r2cell 2 130 110 none 0 [] :: _) := (sK.sel 22 [19, 20, 21, 0, 1, 2, 3, 4, 5, 6, 7, 8, 9, 10, 11, 12, 13, 14, 15, 16, 17]).nest_nil
    have sL := sL0.sel 4 [1, 2, 3, 0]
    refine spoilMan_ok (IntKind.i64.wrap (id + 1)) p1 P' p2 l1 LI l2 r1 OR r2 none [] 0 _ (by omega) (by omega) (by omega) (by simp) hsl hORlen (by simp) sL _ fun h6 sM => ?_
    simp only [ptrTo, pend, pend0, Pd.old, pendU, pendU0, oxq, Nat.testBit, ↓reduceIte, simprocAttr, gR_held]
    refine hLL _ _ ?_
    have sN : St h h6 (runS rb tb G id P' LI S TT ua uc la' lc' ma mc Q k (rrunS br G sb sn se id qa2 O' qc2 ka2 LI kc2 ga2 RR gc2 xa2 EE xc2 wa P' wc ta S3 tc LP ma2 mc2 Q2 TT2 k (F9))) := sM.sel 18 [10, 11, 12, 13, 14, 15, 16, 0, 1, 2, 3, 4, 5, 6, 7, 8, 9]
    refine sr (fun LL hLL => ?_)
    simp only [ptrTo, pend, pend0, Pd.old, pendU, pendU0, oxq, Nat.testBit, ↓reduceIte, simprocAttr, gR_held]
    refine step_no _ sN (by omega) _ ?_
    simp only [ptrTo, pend, pend0, Pd.old, pendU, pendU0, oxq, Nat.testBit, ↓reduceIte, simprocAttr, gR_held]
    refine hLL _ _ ?_
    refine xp16 1 (by repeat (first | exact tput_le _ _ _ _ (.inr (by omega)) | refine tput_le _ _ _ _ (.inl ?_))) (fun R => ?_)
    simp only [ptrTo, oxq, ↓reduceIte, simprocAttr, gR_some, show List.range 1 = [0] from rfl]
    refine fg17 (fun R => ?_)
    have sP : St h h6 (rrunS br G sb sn se id qa2 O' qc2 ka2 LI kc2 ga2 RR gc2 xa2 EE xc2 wa P' wc ta S3 tc LP ma2 mc2 Q2 TT2 k (runS rb tb G id P' LI S TT ua uc la' lc' ma mc Q k (F9))) := sN.sel 17 [7, 8, 9, 10, 11, 12, 13, 14, 15, 16, 0, 1, 2, 3, 4, 5, 6]
    refine wpC_seq (sr fun LL hLL => ?_)
    simp only [ptrTo, pend, pend0, Pd.old, pendU, pendU0, oxq, Nat.testBit, ↓reduceIte, simprocAttr, gR_held]
    refine rstep_no _ sP (by omega) _ ?_
    simp only [ptrTo, pend, pend0, Pd.old, pendU, pendU0, oxq, Nat.testBit, ↓reduceIte, simprocAttr, gR_held, neBo, bne_self_eq_false]
    refine hLL _ _ ?_
    refine wpC_if ?_
    simp only [ptrTo, oxq, ↓reduceIte, simprocAttr, gR_some]
    refine wpC_skip ?_
    simp only [ptrTo, oxq, ↓reduceIte, simprocAttr, gR_some]
    refine fg17 (fun R => ?_)
    refine sr (fun LL hLL => ?_)
    simp only [ptrTo, oxq, ↓reduceIte, simprocAttr, gR_some, Bool.not_false]
    refine hLL _ _ ?_
    refine wpC_if ?_
    simp only [ptrTo, oxq, ↓reduceIte, simprocAttr, gR_some]
    refine sr (fun LL hLL => ?_)
    simp only [ptrTo, pend, pend0, Pd.old, pendU, pendU0, oxq, Nat.testBit, ↓reduceIte, simprocAttr, gR_held]
    refine wpF_ext rfl ?_
    simp only [ptrTo, pend, pend0, Pd.old, pendU, pendU0, oxq, Nat.testBit, ↓reduceIte, simprocAttr, gR_held]
    refine hLL _ _ ?_
    refine wpC_ret (out_ret ?_)
    simp only [ptrTo, oxq, ↓reduceIte, simprocAttr, gR_some]
    exact hk _ sP.base
end Go.Proofs

namespace Go.Proofs
open Go Go.Ox
set_option maxRecDepth 100000
set_option maxHeartbeats 1000000
def ManE (h : AHeap) (xs : List Value) (m : MfX × List (List Rc2)) : Prop := ManR h xs m.1 ∧ RsN r2cell 2 h m.1.ea m.2 ∧ m.1.ES.map Sv.len = m.2.map List.length
section
variable {H : Type} {enc : TypeId × Value → H} {W : World}
theorem impManE : IsImpW enc Tryz.prog W 30 ManE := by
  refine IsImpW.conv (IsImpW.struct (t := 30) (n := 5) Tryz.underlying30 (by rfl) (FI.cons (k := 1) (n := 4) rfl rfl impI (FI.cons (k := 1) (n := 3) rfl rfl impIs (FI.cons (k := 1) (n := 2) rfl rfl (IsImpW.slice (t := 26) (e := 25) (k := 0) (by rfl) (by rfl) impIs) (FI.cons (k := 1) (n := 1) rfl rfl (IsImpW.slice (t := 27) (e := 48) (k := 0) (by rfl) (by rfl) impRws) (FI.cons (k := 1) (n := 0) rfl rfl (IsImpW.slice (t := 28) (e := 110) (k := 0) (by rfl) (by rfl) impRcs) FI.nil)))))) ?_ (fun h h' xs a ⟨⟨h1, h2, h3⟩, h4, h5⟩ hf => ⟨⟨h1, h2.fr hf, h3⟩, h4.fr hf, h5⟩)
  rintro h xs ⟨no, P, LI, RR, EE, u⟩ ⟨u1, v1, rfl, h1, u2, v2, rfl, h2, u3, v3, rfl, h3, u4, v4, rfl, h4, u5, v5, rfl, h5, h6⟩
  obtain ⟨pa, pc, e2, _⟩ := id h2.1
  simp only at e2
  rw [e2] at h2
  obtain ⟨a', c', e2', rp, bp⟩ := ints_arg h2
  cases e2'
  obtain ⟨h3, b3⟩ := h3
  obtain ⟨la, lc, e3, _⟩ := id h3
  simp only at e3 b3
  rw [e3] at h3
  obtain ⟨a', c', e3', rl, _, _, _, bl1⟩ := sl_rsn (f := icell) icell.len (fun _ _ _ k => k.1) h3
  cases e3'
  obtain ⟨h4, b4⟩ := h4
  obtain ⟨ra, rc, e4, _⟩ := id h4
  simp only at e4 b4
  rw [e4] at h4
  obtain ⟨a', c', e4', rr, _, _, _, br1⟩ := sl_rsn (f := rcell) rcell.len (fun _ _ _ k => k.1) h4
  cases e4'
  obtain ⟨h5, b5⟩ := h5
  obtain ⟨ea, ec, e5, _⟩ := id h5
  simp only at e5 b5
  rw [e5] at h5
  obtain ⟨a', c', e5', re, _, _, _, be1⟩ := sl_rsn (f := r2cell) (k := 2) (fun _ => rfl) (fun _ _ _ k => k) h5
  cases e5'
  have re0 := re
  obtain ⟨ES, hES, re1, _⟩ := re
  have hESl : ES.length = EE.length := by simpa using congrArg List.length hES
  rw [bytes25] at b3
  rw [bytes42] at b4
  rw [bytes101] at b5
  simp only [bytes3, reachBytes] at bl1 b3
  simp only [bytes46, reachBytes] at br1 b4
  simp only [bytes119, reachBytes] at be1 b5
  refine ⟨(⟨no, pa, P, pc, la, LI, lc, ra, RR, rc, ea, ES, ec⟩, EE), ⟨?_, ⟨rp, rl, rr, re1⟩, ⟨bp, ?_, ?_, ?_, ?_, ?_, ?_⟩, ?_⟩, re0, hES⟩
  · rw [h1.1, e2, e3, e4, e5, h6, ← hESl]; rfl
  · simp only; omega
  · simp only; omega
  · simp only; omega
  · intro x hx; have := bl1 x hx; omega
  · intro x hx; have := br1 x hx; omega
  · intro x hx
    have hx' : x ∈ ES := hx
    obtain ⟨i, hi, rfl⟩ := List.mem_iff_getElem.1 hx'
    have hi2 : i < EE.length := by omega
    have e := lens_at hES i hi hi2
    have := be1 EE[i] (List.getElem_mem _)
    simp only at e
    omega
  · intro l hl r hr
    obtain ⟨ys, hys⟩ := sl_each h4 l hl
    obtain ⟨zs, hzs⟩ := sl_each hys.1 r hr
    exact hzs.2
end
theorem oxLaw3 (s : Int × Option Addr × List OpX × Nat) (x : List Value) (m : MfX × List (List Rc2)) (y : List Value) (P : List Int) (z : Value) (h : AHeap) (hs : SpecR h x s) (hm : ManE h y m) (hp : SlRb Tryz.prog (IntR .i64) 3 h [z] P) : wpF Tryz.prog (.fn 3) [.agg x.toArray, .agg y.toArray, z] h fun v _ => v = .bool true := by
  obtain ⟨a, c, rfl, rp, bp⟩ := ints_arg hp
  obtain ⟨rfl, sp⟩ := hs
  obtain ⟨⟨rfl, mr, mb, hw⟩, re, hE⟩ := hm
  exact runs_body s.1 s.2.1 s.2.2.2 s.2.2.1 m.1 m.2 a c P h sp mr mb re hE hw rp bp _ fun _ _ => rfl
end Go.Proofs

