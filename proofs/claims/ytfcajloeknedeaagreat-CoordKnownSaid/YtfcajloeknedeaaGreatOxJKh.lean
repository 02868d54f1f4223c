/-
  A part of the proof: what functions of the program do on an abstract heap. CONDITIONS: none.
-/
import Derived.Test.YtfcajloeknedeaaGreatOxJKg
import Derived.Test.YtfcajloeknedeaaGreatOxJKf
set_option linter.unusedSimpArgs false
set_option linter.unusedVariables false
namespace Go.Proofs.Cd
open Go Go.Ox
set_option maxRecDepth 100000
set_option maxHeartbeats 16000000
theorem manO_take {L : List OpX} {P : List Int} {C : Nat → AckX} (op : Nat) (hop : op < L.length) : (manO L P C).take (op + 1) = (manO L P C).take op ++ [layO L[op] (atOp P C (tasksL P).length op)] := by
 have h : op < (manO L P C).length := by rw [manO_len]; exact hop
 rw [List.take_succ_eq_append_getElem h, manO_at L P C op hop]
theorem manR_take {G : Int} {L : List OpX} {P : List Int} {C : Nat → AckX} (op : Nat) (hop : op < L.length) : (manR G L P C).take (op + 1) = (manR G L P C).take op ++ [layR G L[op] (atOp P C (tasksL P).length op)] := by
 have h : op < (manR G L P C).length := by rw [manR_len]; exact hop
 rw [List.take_succ_eq_append_getElem h, manR_at G L P C op hop]
theorem manT_take {L : List OpX} {P : List Int} {C : Nat → AckX} (op : Nat) (hop : op < L.length) : (manT L P C).take (op + 1) = (manT L P C).take op ++ [layT L[op] (atOp P C (tasksL P).length op)] := by
 have h : op < (manT L P C).length := by rw [manT_len]; exact hop
 rw [List.take_succ_eq_append_getElem h, manT_at L P C op hop]
theorem refManY_ok {h0 : AHeap} {F : List Asn} (G : Int) (sa : Option Addr) (sc : Nat) (L : List OpX) (sp : SpR h0 sa L) (hn : L.length ≤ 12) (hpt : ∀ x ∈ L, x.kind = 1 → 1 ≤ x.parts ∧ x.parts ≤ 8) (pa : Option Addr) (pc : Nat) (P : List Int) (rP : Rd h0 F icell 1 pa P) (hP : P.length = L.length) (hPb : ∀ x ∈ P, 1 ≤ x ∧ x ≤ 8)
  {γ : Nat} {no since : Int} {stop : Bool} {LX : List AckX} (hl : LX.length < 1000000) (hsm : ∀ x ∈ LX, AckSm x) (hr : (tasksL P).length ≤ LX.length) (h : AHeap) (s : St h0 h (rfG γ true no (tasksL P).length since stop LX :: F)) (K : Value → AHeap → Prop)
  (hk : ∀ qa qc a1 c1 a2 c2 a3 c3 h', St h0 h' (wn icell 1 3 qa qc P :: nest icell 1 3 25 a1 c1 (manO L P (contX LX)) :: nest rcell 3 63 30 a2 c2 (manR G L P (contX LX)) :: nest r2cell 2 65 31 a3 c3 (manT L P (contX LX)) :: rfG γ true no (tasksL P).length since stop LX :: F) →
   K (.tuple #[.agg #[.int .i64 no, .slice qa P.length qc, .slice a1 L.length c1, .slice a2 L.length c2, .slice a3 L.length c3], .bool true]) h') :
  wpF Tryz.prog (.fn 45) [.pointer (some ⟨γ, 0, none⟩), .agg #[.int .i64 G, .slice sa L.length sc], .slice pa P.length pc] h K := by
 have hT12 := preT_few P (B := 8) (fun x hx => (hPb x hx).2) P.length
 have hTL : (tasksL P).length ≤ 96 := by unfold tasksL; omega
 obtain ⟨C, eC⟩ : ∃ C, C = contX LX := ⟨_, rfl⟩
 have cs : ∀ t, AckSm (C t) := fun t => by rw [eC]; exact contX_sm hsm t
 obtain ⟨nT, enT⟩ : ∃ n, n = (tasksL P).length := ⟨_, rfl⟩
 rw [← eC, ← enT] at hk
 rw [← enT] at s hr hTL
 have s1 := (s.push (spB G sa L.length sc)).push (.cells false 0 manZ 48)
 obtain ⟨bs, ebs⟩ : ∃ b, b = h.next := ⟨_, rfl⟩
 obtain ⟨br, ebr⟩ : ∃ b, b = (h.push (spB G sa L.length sc)).next := ⟨_, rfl⟩
 obtain ⟨h1, e1⟩ : ∃ h1, h1 = (h.push (spB G sa L.length sc)).push (.cells false 0 manZ 48) := ⟨_, rfl⟩
 have ebr2 : br = h.next + 1 := by rw [ebr, AHeap.next_push]
 rw [← e1, ← ebs, ← ebr] at s1
 refine wpF_fun 179 [.cell 6 48, .tmp 7] Tryz.func45 rfl rfl rfl rfl ?_
 refine sr (fun LL hLL => ?_)
 simp only [oxz, simprocAttr]
 refine hLL _ _ ?_
 rw [← ebr2, ← e1, ← ebs]
 clear e1
 refine sr (fun LL hLL => ?_)
 simp only [oxk, simprocAttr]
 refine refTasks_ok P pa pc _ (rdUps [_, _, _] rP) (by omega) (fun x hx => by have := hPb x hx; omega) s1 _ fun ab ad h2 s2 => ?_
 simp only [oxk, simprocAttr]
 refine hLL _ _ ?_
 clear s1 s
 rw [← enT]
 obtain ⟨la, lc, s3⟩ := rfG_out (s2.mv 3)
 have gc := s3.get
 have gr := (s2.mv 1).get
 have hd1 : decide ((nT : Int) ≤ (LX.length : Int)) = true := by simp; omega
 have hd2 : ((nT : Int) ≤ (LX.length : Int)) = True := by simp; omega
 refine wpC_seq (sr fun LL hLL => ?_)
 simp only [oxk, simprocAttr]
 refine refReady_ok (s2.mv 3) _ ?_
 simp only [oxk, simprocAttr, gc, Bool.true_and, hd1, hd2, not_true_eq_false]
 refine hLL _ _ ?_
 refine wpC_if ?_
 simp only [oxz, simprocAttr]
 refine wpC_skip ?_
 simp only [oxz, simprocAttr]
 have s4 := (s2.push (.cells false 0 manZ 48)).set (.cells false 0 [.int .i64 no, .slice none 0 0, .slice none 0 0, .slice none 0 0, .slice none 0 0] 48)
 have gz := (s2.push (.cells false 0 manZ 48)).get
 obtain ⟨bm, ebm⟩ : ∃ b, b = h2.next := ⟨_, rfl⟩
 refine sr (fun LL hLL => ?_)
 simp only [oxz, simprocAttr, gc, gz]
 refine hLL _ _ ?_
 obtain ⟨h4, e4⟩ : ∃ h4, h4 = (h2.push (.cells false 0 manZ 48)).set h2.next (.cells false 0 [.int .i64 no, .slice none 0 0, .slice none 0 0, .slice none 0 0, .slice none 0 0] 48) := ⟨_, rfl⟩
 rw [← e4, ← ebm] at s4
 rw [← e4, ← ebm]
 clear e4 gz gc gr s3
 obtain ⟨Q, eQ⟩ : ∃ Q, Q = wn spc 2 52 ab ad (tasksL P) :: own br (.cells false 0 manZ 48) :: own bs (spB G sa L.length sc) :: F := ⟨_, rfl⟩
 have toF : ∀ h', St h0 h' Q → St h0 h' F := fun h' s => by rw [eQ] at s; exact s.drop.drop.drop
 have getS : ∀ h', St h0 h' Q → h'.get bs = some (spB G sa L.length sc) := fun h' s => by rw [eQ] at s; exact (s.mv 2).get
 have rsT : ∀ h', St h0 h' Q → Rs spc 2 h' ab (tasksL P) := fun h' s => by rw [eQ] at s; exact s.rs spc.len
 have s5 : St h0 h4 (own bm (.cells false 0 [.int .i64 no, .slice none 0 0, .slice none 0 0, .slice none 0 0, .slice none 0 0] 48) :: rfG γ true no nT since stop LX :: Q) := by rw [eQ]; exact s4.sel 5 [0, 4, 1, 2, 3]
 have s6 := (((s5.nest_nil (f := r2cell) (k := 2) (e := 65) (E := 31)).nest_nil (f := rcell) (k := 3) (e := 63) (E := 30)).nest_nil (f := icell) (k := 1) (e := 3) (E := 25)).wn_nil (f := icell) (k := 1) (e := 3)
 clear s5 s4 s2
 have sv : ∀ (a : Option Addr) (m n : Nat), veq 6 (.slice a m n) (.slice a m n) = true := by intro a m n; simp [veq]
 have vr : ∀ a b c : Int, veq 6 (.agg #[.int .i64 a, .int .i64 b, .int .i64 c]) (.agg #[.int .i64 a, .int .i64 b, .int .i64 c]) = true := by intros; simp [veq]
 have zi : aZeros [.int .i64 0] 1 = [.int .i64 0] := rfl
 have zs : aZeros [.slice none 0 0] 1 = [.slice none 0 0] := rfl
 refine sm (fun T h' => ∃ (a1 : Option Addr) (c1 : Nat) (a2 : Option Addr) (c2 : Nat) (a3 : Option Addr) (c3 : Nat) (a4 : Option Addr) (c4 : Nat) (u1 u3 u5 : Value) (R : List Value), St h0 h' (wn icell 1 3 a1 c1 P :: nest icell 1 3 25 a2 c2 (manO L P C) :: nest rcell 3 63 30 a3 c3 (manR G L P C) :: nest r2cell 2 65 31 a4 c4 (manT L P C) :: own bm (.cells false 0 [.int .i64 no, .slice a1 P.length c1, .slice a2 L.length c2, .slice a3 L.length c3, .slice a4 L.length c4] 48) :: rfG γ true no nT since stop LX :: Q) ∧
  T = .pointer (some ⟨γ, 0, none⟩) :: u1 :: .slice pa P.length pc :: u3 :: .pointer (some ⟨bs, 0, none⟩) :: u5 :: .pointer (some ⟨br, 0, none⟩) :: .bool false :: R ∧ tget R 1 = .pointer (some ⟨bm, 0, none⟩)) ?_ ?_
 ·refine sr (fun LL hLL => ?_)
  simp only [oxz, simprocAttr]
  refine hLL _ _ ?_
  refine wpC_block ?_
  refine wpC_loop (fun m T h' => ∃ (op : Nat) (a1 : Option Addr) (c1 : Nat) (a2 : Option Addr) (c2 : Nat) (a3 : Option Addr) (c3 : Nat) (a4 : Option Addr) (c4 : Nat) (u1 u3 u5 : Value) (R : List Value), m + op = L.length ∧ St h0 h' (wn icell 1 3 a1 c1 (P.take op) :: nest icell 1 3 25 a2 c2 ((manO L P C).take op) :: nest rcell 3 63 30 a3 c3 ((manR G L P C).take op) :: nest r2cell 2 65 31 a4 c4 ((manT L P C).take op) :: own bm (.cells false 0 [.int .i64 no, .slice a1 op c1, .slice a2 op c2, .slice a3 op c3, .slice a4 op c4] 48) :: rfG γ true no nT since stop LX :: Q) ∧
   T = .pointer (some ⟨γ, 0, none⟩) :: u1 :: .slice pa P.length pc :: u3 :: .pointer (some ⟨bs, 0, none⟩) :: u5 :: .pointer (some ⟨br, 0, none⟩) :: .bool false :: R ∧ tget R 0 = .slice ab nT ad ∧ tget R 1 = .pointer (some ⟨bm, 0, none⟩) ∧ tget R 2 = .int .i64 op) ?_ L.length _ _ ⟨0, none, 0, none, 0, none, 0, none, 0, _, _, _, _, by omega, s6, rfl, rfl, rfl, rfl⟩
  clear s6
  rintro m T h' ⟨op, a1, c1, a2, c2, a3, c3, a4, c4, u1, u3, u5, R, hmo, s1, rfl, q0, q1, q2⟩
  have gs := getS _ s1.drop.drop.drop.drop.drop.drop
  refine wpC_seq (sr fun LL hLL => ?_)
  simp only [oxz, simprocAttr, q2, gs]
  refine hLL _ _ ?_
  refine wpC_if ?_
  simp only [oxz, simprocAttr]
  refine gC_of (fun hc => ?_) (fun hc => ?_)
  ·refine wpC_skip ?_
   simp only [oxz, simprocAttr]
   have hop : op < L.length := by omega
   have hopP : op < P.length := by omega
   have lP : (P.take op).length = op := by rw [List.length_take]; omega
   have lO : ((manO L P C).take op).length = op := by rw [List.length_take, manO_len]; omega
   have lR : ((manR G L P C).take op).length = op := by rw [List.length_take, manR_len]; omega
   have lT : ((manT L P C).take op).length = op := by rw [List.length_take, manT_len]; omega
   have tP : P.take (op + 1) = P.take op ++ [P[op]] := List.take_succ_eq_append_getElem hopP
   have tO := manO_take (L := L) (P := P) (C := C) op hop
   have tR := manR_take (G := G) (L := L) (P := P) (C := C) op hop
   have tT := manT_take (L := L) (P := P) (C := C) op hop
   have hpo := hpt _ (List.getElem_mem hop)
   rw [← enT] at tO tR tT
   obtain ⟨bo, oo, roo, szo, Co, To, eo, po, go0, ro, qo⟩ := sp.rs.resolve_left (by rintro e; rw [e] at hop; simp at hop)
   obtain ⟨wo, xo⟩ := Rs.row OpX.len ro qo op hop
   obtain ⟨o, eo1⟩ : ∃ o, o = L[op] := ⟨_, rfl⟩
   rw [← eo1] at tO tR tT hpo wo
   unfold OpX.cells at wo
   obtain ⟨bq, oq, roq, szq, Cq, Tq, eq, pq, gq, rq, qq⟩ := (rP _ (toF _ s1.drop.drop.drop.drop.drop.drop)).resolve_left (by intro e; rw [e] at hopP; simp at hopP)
   have wq : Cq[oq + op * 1]? = some (.int .i64 P[op]) := Rs.cell icell.len rq qq op hopP 0 (by omega)
   have gm := (s1.mv 4).get
   obtain ⟨aE, cE, h2, y1, y2⟩ := s1.app1 (bytes := 8) P[op] icell.len icell.oc (by omega) (by omega)
   have y1' := y1
   simp only [icell] at y1'
   rw [lP] at y1'
   have gm2 := (y2.mv 4).get
   have sP := (s1.push (.cells false 1 [.int .i64 P[op]] 3)).drop
   have gmP := (sP.mv 4).get
   obtain ⟨bqP, oqP, roqP, szqP, CqP, TqP, eqP, pqP, gqP, rqP, qqP⟩ := (rP _ (toF _ sP.drop.drop.drop.drop.drop.drop)).resolve_left (by intro e; rw [e] at hopP; simp at hopP)
   rw [eq] at eqP
   cases eqP
   have wqP : CqP[oq + op * 1]? = some (.int .i64 P[op]) := Rs.cell icell.len rqP qqP op hopP 0 (by omega)
   obtain ⟨bqZ, oqZ, roqZ, szqZ, CqZ, TqZ, eqZ, pqZ, gqZ, rqZ, qqZ⟩ := (rP _ (toF _ y2.drop.drop.drop.drop.drop.drop)).resolve_left (by intro e; rw [e] at hopP; simp at hopP)
   rw [eq] at eqZ
   cases eqZ
   have wqZ : CqZ[oq + op * 1]? = some (.int .i64 P[op]) := Rs.cell icell.len rqZ qqZ op hopP 0 (by omega)
   have s2 := (y2.mv 4).set (.cells false 0 [.int .i64 no, .slice aE (op + 1) cE, .slice a2 op c2, .slice a3 op c3, .slice a4 op c4] 48)
   obtain ⟨h3, e3⟩ : ∃ h3, h3 = h2.set bm (.cells false 0 [.int .i64 no, .slice aE (op + 1) cE, .slice a2 op c2, .slice a3 op c3, .slice a4 op c4] 48) := ⟨_, rfl⟩
   refine wpC_seq (wpC_block ?_)
   rw [eq]
   refine su [some 47, some 48, some 49, some 50, some 51, some 52, some 53, some 54, some 55, none] 10 [0, 1, 0, 0, 12, 28, 60, 127, 255, 511] (by rfl) (by rfl) (by decide +kernel) (by decide +kernel) (by decide +kernel) (fun LL hLL => ?_)
   simp only [oxz, simprocAttr, q1, q2, gm, ixF hopP, gq, wq, zi, gmP, gqP, wqP, sv]
   rw [y1']
   simp only [oxk, simprocAttr, gm2, gqZ, wqZ, sv]
   refine hLL _ _ ?_
   rw [← e3] at s2 ⊢
   rw [← tP] at s2
   clear y1 y1' y2 gm gm2 gq s1 e3 sP gmP gqP gqZ
   obtain ⟨Q1, eQ1⟩ : ∃ Q1, Q1 = own bm (.cells false 0 [.int .i64 no, .slice aE (op + 1) cE, .slice a2 op c2, .slice a3 op c3, .slice a4 op c4] 48) :: wn icell 1 3 aE cE (P.take (op + 1)) :: nest icell 1 3 25 a2 c2 ((manO L P C).take op) :: nest rcell 3 63 30 a3 c3 ((manR G L P C).take op) :: nest r2cell 2 65 31 a4 c4 ((manT L P C).take op) :: Q := ⟨_, rfl⟩
   have s3 : St h0 h3 (rfG γ true no nT since stop LX :: Q1) := by rw [eQ1]; exact s2.sel 6 [5, 0, 1, 2, 3, 4]
   have toQ : ∀ h', St h0 h' Q1 → St h0 h' Q := fun h' s => by rw [eQ1] at s; exact s.drop.drop.drop.drop.drop
   clear s2
   obtain ⟨oB, eoB⟩ : ∃ B : ABlk, B = .cells false 0 [.int .i64 o.kind, .slice o.a o.inn.length o.cap, .int .i64 o.f1, .int .i64 o.f2, .int .i64 o.f3, .int .i64 o.parts, .int .i64 o.rate, .int .i64 o.cost] 56 := ⟨_, rfl⟩
   have s4 := (s3.push (.cells false 0 [.int .i64 0, .slice none 0 0, .int .i64 0, .int .i64 0, .int .i64 0, .int .i64 0, .int .i64 0, .int .i64 0] 56)).set oB
   have gz := (s3.push (.cells false 0 [.int .i64 0, .slice none 0 0, .int .i64 0, .int .i64 0, .int .i64 0, .int .i64 0, .int .i64 0, .int .i64 0] 56)).get
   obtain ⟨bp, ebp⟩ : ∃ b, b = h3.next := ⟨_, rfl⟩
   obtain ⟨h4, e4⟩ : ∃ h4, h4 = (h3.push (.cells false 0 [.int .i64 0, .slice none 0 0, .int .i64 0, .int .i64 0, .int .i64 0, .int .i64 0, .int .i64 0, .int .i64 0] 56)).set h3.next oB := ⟨_, rfl⟩
   have gs3 := getS _ (toQ _ s3.drop)
   have go := s3.base.at go0 po (by simp)
   rw [eo] at gs3
   refine sr (fun LL hLL => ?_)
   simp only [oxz, simprocAttr, q2, gs3, ixF hop, go, wo, xo, OpX.len, gz, ← eoB]
   refine hLL _ _ ?_
   rw [← e4, ← ebp] at s4
   rw [← e4, ← ebp]
   clear s3 gs3 go gz e4 gs
   refine sr (fun LL hLL => ?_)
   simp only [oxz, simprocAttr]
   refine hLL _ _ ?_
   refine sr (fun LL hLL => ?_)
   simp only [oxz, simprocAttr]
   refine hLL _ _ ?_
   refine sr (fun LL hLL => ?_)
   simp only [oxz, simprocAttr]
   refine hLL _ _ ?_
   refine sm (fun T h2 => ∃ (aa : Option Addr) (ca : Nat) (u1 u3 u5 : Value) (R : List Value), St h0 h2 (wn icell 1 3 aa ca (layO o []) :: own bp oB :: rfG γ true no nT since stop LX :: Q1) ∧
    T = .pointer (some ⟨γ, 0, none⟩) :: u1 :: .slice (some ⟨bq, oq, none⟩) P.length pc :: u3 :: .pointer (some ⟨bs, 0, none⟩) :: u5 :: .pointer (some ⟨br, 0, none⟩) :: .bool false :: R ∧ tget R 0 = .slice ab nT ad ∧ tget R 1 = .pointer (some ⟨bm, 0, none⟩) ∧ tget R 2 = .int .i64 op ∧ tget R 3 = .pointer (some ⟨bp, 0, none⟩) ∧ tget R 4 = .slice aa (layO o []).length ca ∧ tget R 5 = .slice none 0 0 ∧ tget R 6 = .slice none 0 0) ?_ ?_
   ·have gp := s4.get
    rw [eoB] at gp
    by_cases k1 : o.kind = 1
    ·obtain ⟨np, hnp⟩ : ∃ n : Nat, o.parts = (n : Int) := ⟨o.parts.toNat, by have := hpo k1; omega⟩
     have hn1 := hpo k1
     have el : layO o [] = List.replicate np 0 := by unfold layO; rw [if_pos k1, hnp]; simp [offsL]
     rw [el]
     have zn : aZeros [.int .i64 0] np = (List.replicate np (0 : Int)).flatMap icell := zeros_flat (f := icell) (0 : Int) np
     have s5 := (s4.push (.cells false 1 ((List.replicate np (0 : Int)).flatMap icell) 3)).wn_own (f := icell) (List.replicate np 0) rfl
     refine sr (fun LL hLL => ?_)
     simp only [oxz, simprocAttr, gp, k1]
     refine hLL _ _ ?_
     refine wpC_if ?_
     simp only [oxz, simprocAttr]
     refine rg (fun LL hLL => ?_)
     simp only [oxz, simprocAttr, gp, hnp, msF_of (l := (np : Int)) (c := (np : Int)) (size := 1) (bytes := 8) (zs := [.int .i64 0]) (e := 3) (by omega) (by omega) (by omega) (by omega), Int.toNat_natCast, zn]
     refine hLL _ _ ?_
     simp only [oxz, simprocAttr]
     rw [List.length_replicate] at s5 ⊢
     exact ⟨_, _, _, _, _, _, s5, rfl, by simp [tget_tput, q0], by simp [tget_tput, q1], by simp [tget_tput, q2], by simp [tget_tput], by simp [tget_tput], by simp [tget_tput], by simp [tget_tput]⟩
    ·have el : layO o [] = [] := by unfold layO; rw [if_neg k1]
     rw [el]
     refine sr (fun LL hLL => ?_)
     simp only [oxz, simprocAttr, gp, eq_false k1]
     refine hLL _ _ ?_
     refine wpC_if ?_
     simp only [oxz, simprocAttr]
     refine wpC_skip ?_
     simp only [oxz, simprocAttr]
     exact ⟨none, 0, _, _, _, _, s4.wn_nil, rfl, by simp [tget_tput, q0], by simp [tget_tput, q1], by simp [tget_tput, q2], by simp [tget_tput], (by simp [tget_tput]), by simp [tget_tput], by simp [tget_tput]⟩
   clear s4 q0 q1 q2
   rintro T h5 ⟨aa, ca, u1, u3, u5, R, s1, rfl, q0, q1, q2, q3, q4, q5, q6⟩
   have s2 := ((s1.wn_nil (f := r2cell) (k := 2) (e := 65)).wn_nil (f := rcell) (k := 3) (e := 63))
   have s3 := s2.sel 5 [2, 0, 1, 4, 3]
   simp only [oxf] at s3
   obtain ⟨Q2, eQ2⟩ : ∃ Q2, Q2 = own bp oB :: Q1 := ⟨_, rfl⟩
   rw [← eQ2] at s3
   have getP : ∀ h', St h0 h' Q2 → h'.get bp = some oB := fun h' s => by rw [eQ2] at s; exact s.get
   have toQ1 : ∀ h', St h0 h' Q2 → St h0 h' Q1 := fun h' s => by rw [eQ2] at s; exact s.drop
   clear s2 s1
   have r0 : layR G o [] = [] := by unfold layR; split <;> rfl
   have t0 : layT o [] = [] := by unfold layT; split <;> rfl
   refine sm (fun T h2 => ∃ (aa : Option Addr) (ca : Nat) (ra : Option Addr) (rc : Nat) (ta : Option Addr) (tc : Nat) (u1 u3 u5 : Value) (R : List Value), St h0 h2 (wn icell 1 3 aa ca (layO o (atOp P C nT op)) :: wn rcell 3 63 ra rc (layR G o (atOp P C nT op)) :: wn r2cell 2 65 ta tc (layT o (atOp P C nT op)) :: rfG γ true no nT since stop LX :: Q2) ∧
    T = .pointer (some ⟨γ, 0, none⟩) :: u1 :: .slice (some ⟨bq, oq, none⟩) P.length pc :: u3 :: .pointer (some ⟨bs, 0, none⟩) :: u5 :: .pointer (some ⟨br, 0, none⟩) :: .bool false :: R ∧ tget R 0 = .slice ab nT ad ∧ tget R 1 = .pointer (some ⟨bm, 0, none⟩) ∧ tget R 2 = .int .i64 op ∧ tget R 4 = .slice aa (layO o (atOp P C nT op)).length ca ∧ tget R 5 = .slice ra (layR G o (atOp P C nT op)).length rc ∧ tget R 6 = .slice ta (layT o (atOp P C nT op)).length tc) ?_ ?_
   ·refine sr (fun LL hLL => ?_)
    simp only [oxz, simprocAttr]
    refine hLL _ _ ?_
    refine wpC_block ?_
    refine wpC_loop (fun m T h2 => ∃ (i : Nat) (aa : Option Addr) (ca : Nat) (ra : Option Addr) (rc : Nat) (ta : Option Addr) (tc : Nat) (u1 u3 u5 : Value) (R : List Value), m + i = nT ∧ St h0 h2 (wn icell 1 3 aa ca (layO o (atOp P C i op)) :: wn rcell 3 63 ra rc (layR G o (atOp P C i op)) :: wn r2cell 2 65 ta tc (layT o (atOp P C i op)) :: rfG γ true no nT since stop LX :: Q2) ∧
     T = .pointer (some ⟨γ, 0, none⟩) :: u1 :: .slice (some ⟨bq, oq, none⟩) P.length pc :: u3 :: .pointer (some ⟨bs, 0, none⟩) :: u5 :: .pointer (some ⟨br, 0, none⟩) :: .bool false :: R ∧ tget R 0 = .slice ab nT ad ∧ tget R 1 = .pointer (some ⟨bm, 0, none⟩) ∧ tget R 2 = .int .i64 op ∧ tget R 3 = .pointer (some ⟨bp, 0, none⟩) ∧ tget R 4 = .slice aa (layO o (atOp P C i op)).length ca ∧ tget R 5 = .slice ra (layR G o (atOp P C i op)).length rc ∧ tget R 6 = .slice ta (layT o (atOp P C i op)).length tc ∧ tget R 7 = .int .i64 i) ?_ nT _ _ ⟨0, aa, ca, none, 0, none, 0, _, _, _, _, by omega, (by rw [atOp_zero, r0, t0]; exact s3), rfl, by simp [tget_tput, q0], by simp [tget_tput, q1], by simp [tget_tput, q2], by simp [tget_tput, q3], (by rw [atOp_zero]; simp [tget_tput, q4]), (by rw [atOp_zero, r0]; simp [tget_tput, q5]), (by rw [atOp_zero, t0]; simp [tget_tput, q6]), by simp [tget_tput]⟩
    clear s3 q0 q1 q2 q3 q4 q5 q6
    rintro mi T h2 ⟨i, aa, ca, ra, rc, ta, tc, u1, u3, u5, R, hmi, s1, rfl, q0, q1, q2, q3, q4, q5, q6, q7⟩
    refine wpC_seq (sr fun LL hLL => ?_)
    simp only [oxz, simprocAttr, q0, q7]
    refine hLL _ _ ?_
    refine wpC_if ?_
    simp only [oxz, simprocAttr]
    refine gC_of (fun hc2 => ?_) (fun hc2 => ?_)
    ·refine wpC_skip ?_
     simp only [oxz, simprocAttr]
     have hi : i < nT := by omega
     have hiT : i < (tasksL P).length := by omega
     obtain ⟨bt, ot, rot, szt, Ct, Tt, et, pt, gt, rt, qt⟩ := (rsT _ (toQ _ (toQ1 _ s1.drop.drop.drop.drop))).resolve_left (by intro e; rw [e] at hiT; simp at hiT)
     have vt : Ct[ot + i * 2]? = some (.int .i64 (tasksL P)[i].1) := Rs.cell spc.len rt qt i hiT 0 (by omega)
     have eop : (tasksL P)[i].1 = opOf P i := by unfold opOf; rw [List.getElem?_eq_getElem hiT]; rfl
     rw [eop] at vt
     have hsucc := atOp_succ P C i op
     refine wpC_seq (wpC_block ?_)
     by_cases ho : opOf P i = op
     ·rw [if_pos ho] at hsucc
      rw [et] at q0
      refine wpC_seq (sr fun LL hLL => ?_)
      simp only [oxz, simprocAttr, q0, q2, q7, ixF hi, gt, vt, eq_true (show ((opOf P i : Nat) : Int) = (op : Int) by omega), not_true_eq_false]
      refine hLL _ _ ?_
      refine wpC_if ?_
      simp only [oxz, simprocAttr]
      refine wpC_skip ?_
      simp only [oxz, simprocAttr]
      obtain ⟨x, ex⟩ : ∃ x, x = contX LX i := ⟨_, rfl⟩
      have ecx : C i = x := by rw [eC, ex]
      have sx : AckSm x := by rw [← ecx]; exact cs i
      have axr : ∀ h', St h0 h' (rfG γ true no nT since stop LX :: Q2) → AckRs h' x := fun h' s => by rw [ex]; exact contX_rs s i
      have hxc : (.agg x.cells.toArray : Value) = .agg #[.int .i64 x.no, .int .i64 x.task, .slice x.oa x.offs.length x.oc, .slice x.ra x.rows.length x.rc, .slice x.ta x.outs.length x.tc] := rfl
      obtain ⟨X, eX⟩ : ∃ X, X = atOp P C i op := ⟨_, rfl⟩
      have hXl : X.length ≤ i := by rw [eX]; exact atOp_len P C i op
      have hXs : ∀ y ∈ X, AckSm y := fun y hy => by rw [eX] at hy; obtain ⟨j, _, rfl⟩ := atOp_mem hy; exact cs j
      rw [ecx, ← eX] at hsucc
      rw [← eX] at s1 q4 q5 q6
      have hRW := layR_few (G := G) (o := o) hXs
      have hOT := layT_few (o := o) hXs
      have nO := layO_snoc o X x
      have nR := layR_snoc G o X x
      have nT2 := layT_snoc o X x
      obtain ⟨AT, eAT⟩ : ∃ L, L = layO o X := ⟨_, rfl⟩
      obtain ⟨RW, eRW⟩ : ∃ L, L = layR G o X := ⟨_, rfl⟩
      obtain ⟨OT, eOT⟩ : ∃ L, L = layT o X := ⟨_, rfl⟩
      rw [← eAT] at s1 q4 nO
      rw [← eRW] at s1 q5 nR hRW
      rw [← eOT] at s1 q6 nT2 hOT
      have hATl : AT.length ≤ 8 := by
       rw [eAT, layO_len]
       split
       ·rename_i k1; have := hpo k1; omega
       ·omega
      refine sr (fun LL hLL => ?_)
      simp only [oxk, simprocAttr, q7]
      refine refOfX_ok i hl _ (s1.mv 3) _ fun h3 s3 => ?_
      rw [← ex, hxc]
      have s4 := (s3.push (.cells false 0 [.int .i64 0, .int .i64 0, .slice none 0 0, .slice none 0 0, .slice none 0 0] 33)).set (.cells false 0 [.int .i64 x.no, .int .i64 x.task, .slice x.oa x.offs.length x.oc, .slice x.ra x.rows.length x.rc, .slice x.ta x.outs.length x.tc] 33)
      have gz := (s3.push (.cells false 0 [.int .i64 0, .int .i64 0, .slice none 0 0, .slice none 0 0, .slice none 0 0] 33)).get
      obtain ⟨ba, eba⟩ : ∃ b, b = h3.next := ⟨_, rfl⟩
      obtain ⟨h4, e4⟩ : ∃ h4, h4 = (h3.push (.cells false 0 [.int .i64 0, .int .i64 0, .slice none 0 0, .slice none 0 0, .slice none 0 0] 33)).set h3.next (.cells false 0 [.int .i64 x.no, .int .i64 x.task, .slice x.oa x.offs.length x.oc, .slice x.ra x.rows.length x.rc, .slice x.ta x.outs.length x.tc] 33) := ⟨_, rfl⟩
      rw [← e4, ← eba] at s4
      simp only [oxk, simprocAttr, gz]
      refine hLL _ _ ?_
      rw [← e4, ← eba]
      clear e4 gz s3 s1
      have s1 : St h0 h4 (wn icell 1 3 aa ca AT :: own ba (.cells false 0 [.int .i64 x.no, .int .i64 x.task, .slice x.oa x.offs.length x.oc, .slice x.ra x.rows.length x.rc, .slice x.ta x.outs.length x.tc] 33) :: wn rcell 3 63 ra rc RW :: wn r2cell 2 65 ta tc OT :: rfG γ true no nT since stop LX :: Q2) := s4.sel 5 [2, 0, 3, 4, 1]
      clear s4
      refine sm (fun T h2 => ∃ (aa : Option Addr) (ca : Nat) (u1 u3 u5 : Value) (R : List Value), St h0 h2 (wn icell 1 3 aa ca (offOne AT x.offs) :: own ba (.cells false 0 [.int .i64 x.no, .int .i64 x.task, .slice x.oa x.offs.length x.oc, .slice x.ra x.rows.length x.rc, .slice x.ta x.outs.length x.tc] 33) :: wn rcell 3 63 ra rc RW :: wn r2cell 2 65 ta tc OT :: rfG γ true no nT since stop LX :: Q2) ∧ T = .pointer (some ⟨γ, 0, none⟩) :: u1 :: .slice (some ⟨bq, oq, none⟩) P.length pc :: u3 :: .pointer (some ⟨bs, 0, none⟩) :: u5 :: .pointer (some ⟨br, 0, none⟩) :: .bool false :: R ∧ tget R 0 = .slice (some ⟨bt, ot, none⟩) nT ad ∧ tget R 1 = .pointer (some ⟨bm, 0, none⟩) ∧ tget R 2 = .int .i64 op ∧ tget R 3 = .pointer (some ⟨bp, 0, none⟩) ∧ tget R 4 = .slice aa AT.length ca ∧ tget R 5 = .slice ra RW.length rc ∧ tget R 6 = .slice ta OT.length tc ∧ tget R 7 = .int .i64 i ∧ tget R 8 = .pointer (some ⟨ba, 0, none⟩)) ?_ ?_
      ·refine sr (fun LL hLL => ?_)
       simp only [oxz, simprocAttr]
       refine hLL _ _ ?_
       refine wpC_block ?_
       refine wpC_loop (fun m T h2 => ∃ (j : Nat) (out : List Int) (aa : Option Addr) (ca : Nat) (u1 u3 u5 : Value) (R : List Value), m + j = AT.length ∧ (∃ ho2 : out.length = AT.length, ∀ p (hp : p < AT.length), out[p] = if p < j then mx1 AT[p] x.offs[p]? else AT[p]) ∧ St h0 h2 (wn icell 1 3 aa ca out :: own ba (.cells false 0 [.int .i64 x.no, .int .i64 x.task, .slice x.oa x.offs.length x.oc, .slice x.ra x.rows.length x.rc, .slice x.ta x.outs.length x.tc] 33) :: wn rcell 3 63 ra rc RW :: wn r2cell 2 65 ta tc OT :: rfG γ true no nT since stop LX :: Q2) ∧ T = .pointer (some ⟨γ, 0, none⟩) :: u1 :: .slice (some ⟨bq, oq, none⟩) P.length pc :: u3 :: .pointer (some ⟨bs, 0, none⟩) :: u5 :: .pointer (some ⟨br, 0, none⟩) :: .bool false :: R ∧ tget R 0 = .slice (some ⟨bt, ot, none⟩) nT ad ∧ tget R 1 = .pointer (some ⟨bm, 0, none⟩) ∧ tget R 2 = .int .i64 op ∧ tget R 3 = .pointer (some ⟨bp, 0, none⟩) ∧ tget R 4 = .slice aa AT.length ca ∧ tget R 5 = .slice ra RW.length rc ∧ tget R 6 = .slice ta OT.length tc ∧ tget R 7 = .int .i64 i ∧ tget R 8 = .pointer (some ⟨ba, 0, none⟩) ∧ tget R 9 = .int .i64 j) ?_ AT.length _ _ ⟨0, AT, aa, ca, _, _, _, _, by omega, ⟨rfl, fun p hp => by simp⟩, s1, rfl, by simp [tget_tput, q0], by simp [tget_tput, q1], by simp [tget_tput, q2], by simp [tget_tput, q3], by simp [tget_tput, q4], by simp [tget_tput, q5], by simp [tget_tput, q6], by simp [tget_tput, q7], by simp [tget_tput], by simp [tget_tput]⟩
       clear s1 q0 q1 q2 q3 q4 q5 q6 q7
       rintro mj T h2 ⟨j, out, aa, ca, u1, u3, u5, R, hmj, ⟨ho2, hout⟩, s1, rfl, q0, q1, q2, q3, q4, q5, q6, q7, q8, q9⟩
       have ga := (s1.mv 1).get
       have fin : AT.length ≤ j ∨ x.offs.length ≤ j → out = offOne AT x.offs := fun hj => by
        refine List.ext_getElem (by rw [offOne_len]; exact ho2) fun p k1 k2 => ?_
        rw [hout p (by omega)]
        simp only [offOne, List.getElem_mapIdx]
        split
        ·rfl
        ·rw [List.getElem?_eq_none (by omega)]; rfl
       by_cases hj : j < AT.length
       ·by_cases hjo : j < x.offs.length
        ·refine wpC_seq (sr fun LL hLL => ?_)
         simp only [oxz, simprocAttr, q4, q8, q9, ga, eq_true (show (j : Int) < (AT.length : Int) by omega), eq_true (show (j : Int) < (x.offs.length : Int) by omega)]
         refine hLL _ _ ?_
         refine wpC_if ?_
         simp only [oxz, simprocAttr]
         refine wpC_skip ?_
         simp only [oxz, simprocAttr]
         obtain ⟨b3, o3, ro3, sz3, C3, T3, e3, p3, g3, r3, w3⟩ := (axr _ s1.drop.drop.drop.drop).o.resolve_left (by intro e; rw [e] at hjo; simp at hjo)
         have v3 : C3[o3 + j * 1]? = some (.int .i64 x.offs[j]) := Rs.cell icell.len r3 w3 j hjo 0 (by omega)
         rw [e3] at ga
         obtain ⟨bA, eA, hcc, s2⟩ := s1.wn_out (.inl (by intro e; rw [e] at ho2; simp at ho2; omega))
         rw [eA] at q4
         have gA := s2.get
         have hjt : j < out.length := by omega
         have vA : (out.flatMap icell)[j * 1]? = some (.int .i64 out[j]) := by
          have := flat_get icell.len out j 0 hjt (by omega)
          simpa [icell] using this
         have hle := flat_le icell.len out j hjt
         refine wpC_seq (wpC_block ?_)
         by_cases hgt : out[j] < x.offs[j]
         ·have hst : splice (out.flatMap icell) (j * 1) [.int .i64 x.offs[j]] = (out.set j x.offs[j]).flatMap icell := flat_store icell.len out j _ hjt
          have s3 := (s2.set (.cells false 1 ((out.set j x.offs[j]).flatMap icell) 3)).wn_in (f := icell) (c := ca) (L := out.set j x.offs[j]) (by rw [List.length_set]; exact hcc)
          refine su [some 96, some 97, some 98, some 99, some 100, some 101, some 102, some 103, some 104, some 105] 10 [0, 1, 0, 7, 15, 0, 0, 96, 224, 511] (by rfl) (by rfl) (by decide +kernel) (by decide +kernel) (by decide +kernel) (fun LL hLL => ?_)
          simp only [oxz, simprocAttr, q4, q8, q9, ga, gA, ixF hj, ixF hjo, g3, v3, vA, eq_true hgt]
          refine hLL _ _ ?_
          refine wpC_if ?_
          simp only [oxz, simprocAttr]
          refine rg (fun LL hLL => ?_)
          simp only [oxz, simprocAttr, q4, q8, q9, ga, gA, ixF hj, ixF hjo, g3, v3, hst, eq_true (show j * 1 + 1 ≤ (out.flatMap icell).length by omega)]
          refine hLL _ _ ?_
          simp only [oxz, simprocAttr]
          refine rg (fun LL hLL => ?_)
          simp only [oxz, simprocAttr, q9, wsucc (show j < 9223372036854775807 by omega)]
          refine hLL _ _ ?_
          simp only [oxz, simprocAttr]
          refine ⟨mj - 1, by omega, j + 1, out.set j x.offs[j], _, _, _, _, _, _, by omega, ⟨by rw [List.length_set]; exact ho2, fun p hp => ?_⟩, s3, rfl, by simp [tget_tput, q0], by simp [tget_tput, q1], by simp [tget_tput, q2], by simp [tget_tput, q3], by simp [tget_tput, q4], by simp [tget_tput, q5], by simp [tget_tput, q6], by simp [tget_tput, q7], by simp [tget_tput, q8], by simp [tget_tput]⟩
          rw [List.getElem_set]
          have h1 := hout j hj
          rw [if_neg (by omega)] at h1
          by_cases e : j = p
          ·subst e
           rw [if_pos rfl, if_pos (by omega), List.getElem?_eq_getElem hjo, mx1, if_pos (by omega)]
          ·rw [if_neg e, hout p hp]
           by_cases hpj : p < j
           ·rw [if_pos hpj, if_pos (by omega)]
           ·rw [if_neg hpj, if_neg (by omega)]
         ·have s3 := s2.wn_in (f := icell) (c := ca) (L := out) hcc
          refine su [some 96, some 97, some 98, some 99, some 100, some 101, some 102, some 103, some 104, some 105] 10 [0, 1, 0, 7, 15, 0, 0, 96, 224, 511] (by rfl) (by rfl) (by decide +kernel) (by decide +kernel) (by decide +kernel) (fun LL hLL => ?_)
          simp only [oxz, simprocAttr, q4, q8, q9, ga, gA, ixF hj, ixF hjo, g3, v3, vA, eq_false hgt]
          refine hLL _ _ ?_
          refine wpC_if ?_
          simp only [oxz, simprocAttr]
          refine wpC_skip ?_
          simp only [oxz, simprocAttr]
          refine rg (fun LL hLL => ?_)
          simp only [oxz, simprocAttr, q9, wsucc (show j < 9223372036854775807 by omega)]
          refine hLL _ _ ?_
          simp only [oxz, simprocAttr]
          refine ⟨mj - 1, by omega, j + 1, out, _, _, _, _, _, _, by omega, ⟨ho2, fun p hp => ?_⟩, s3, rfl, by simp [tget_tput, q0], by simp [tget_tput, q1], by simp [tget_tput, q2], by simp [tget_tput, q3], by simp [tget_tput, q4], by simp [tget_tput, q5], by simp [tget_tput, q6], by simp [tget_tput, q7], by simp [tget_tput, q8], by simp [tget_tput]⟩
          have h1 := hout j hj
          rw [if_neg (by omega)] at h1
          rw [hout p hp]
          by_cases e : j = p
          ·subst e
           rw [if_neg (by omega), if_pos (by omega), List.getElem?_eq_getElem hjo, mx1, if_neg (by omega)]
          ·by_cases hpj : p < j
           ·rw [if_pos hpj, if_pos (by omega)]
           ·rw [if_neg hpj, if_neg (by omega)]
        ·refine wpC_seq (sr fun LL hLL => ?_)
         simp only [oxz, simprocAttr, q4, q8, q9, ga, eq_true (show (j : Int) < (AT.length : Int) by omega), eq_false (show ¬ (j : Int) < (x.offs.length : Int) by omega)]
         refine hLL _ _ ?_
         refine wpC_if ?_
         simp only [oxz, simprocAttr]
         refine wpC_exit ?_
         simp only [oxz, simprocAttr]
         rw [fin (.inr (by omega))] at s1
         exact ⟨aa, ca, _, _, _, _, s1, rfl, by simp [tget_tput, q0], by simp [tget_tput, q1], by simp [tget_tput, q2], by simp [tget_tput, q3], by simp [tget_tput, q4], by simp [tget_tput, q5], by simp [tget_tput, q6], by simp [tget_tput, q7], by simp [tget_tput, q8]⟩
       ·refine wpC_seq (sr fun LL hLL => ?_)
        simp only [oxz, simprocAttr, q4, q8, q9, ga, eq_false (show ¬ (j : Int) < (AT.length : Int) by omega)]
        refine hLL _ _ ?_
        refine wpC_if ?_
        simp only [oxz, simprocAttr]
        refine wpC_exit ?_
        simp only [oxz, simprocAttr]
        rw [fin (.inl (by omega))] at s1
        exact ⟨aa, ca, _, _, _, _, s1, rfl, by simp [tget_tput, q0], by simp [tget_tput, q1], by simp [tget_tput, q2], by simp [tget_tput, q3], by simp [tget_tput, q4], by simp [tget_tput, q5], by simp [tget_tput, q6], by simp [tget_tput, q7], by simp [tget_tput, q8]⟩
      clear s1 q0 q1 q2 q3 q4 q5 q6 q7
      rintro T h5 ⟨aa, ca, u1, u3, u5, R, s1, rfl, q0, q1, q2, q3, q4, q5, q6, q7, q8⟩
      have hATs : AT.length = (offOne AT x.offs).length := (offOne_len AT x.offs).symm
      rw [hATs] at q4
      rw [← nO] at s1 q4
      obtain ⟨AU, eAU⟩ : ∃ L, L = layO o (X ++ [x]) := ⟨_, rfl⟩
      rw [← eAU] at s1 q4
      refine sm (fun T h2 => ∃ (ra : Option Addr) (rc : Nat) (u1 u3 u5 : Value) (R : List Value), St h0 h2 (wn icell 1 3 aa ca AU :: own ba (.cells false 0 [.int .i64 x.no, .int .i64 x.task, .slice x.oa x.offs.length x.oc, .slice x.ra x.rows.length x.rc, .slice x.ta x.outs.length x.tc] 33) :: wn rcell 3 63 ra rc (layR G o (X ++ [x])) :: wn r2cell 2 65 ta tc OT :: rfG γ true no nT since stop LX :: Q2) ∧ T = .pointer (some ⟨γ, 0, none⟩) :: u1 :: .slice (some ⟨bq, oq, none⟩) P.length pc :: u3 :: .pointer (some ⟨bs, 0, none⟩) :: u5 :: .pointer (some ⟨br, 0, none⟩) :: .bool false :: R ∧ tget R 0 = .slice (some ⟨bt, ot, none⟩) nT ad ∧ tget R 1 = .pointer (some ⟨bm, 0, none⟩) ∧ tget R 2 = .int .i64 op ∧ tget R 3 = .pointer (some ⟨bp, 0, none⟩) ∧ tget R 4 = .slice aa AU.length ca ∧ tget R 5 = .slice ra (layR G o (X ++ [x])).length rc ∧ tget R 6 = .slice ta OT.length tc ∧ tget R 7 = .int .i64 i ∧ tget R 8 = .pointer (some ⟨ba, 0, none⟩)) ?_ ?_
      ·rw [nR]
       refine sr (fun LL hLL => ?_)
       simp only [oxz, simprocAttr]
       refine hLL _ _ ?_
       refine wpC_block ?_
       by_cases k5 : o.kind = 5
       ·rw [if_pos (.inl k5)]
        refine wpC_loop (fun m T h2 => ∃ (k : Nat) (ra : Option Addr) (rc : Nat) (u1 u3 u5 : Value) (R : List Value), m + k = x.rows.length ∧ St h0 h2 (wn icell 1 3 aa ca AU :: own ba (.cells false 0 [.int .i64 x.no, .int .i64 x.task, .slice x.oa x.offs.length x.oc, .slice x.ra x.rows.length x.rc, .slice x.ta x.outs.length x.tc] 33) :: wn rcell 3 63 ra rc ((x.rows.take k).foldl (fun acc r => insB (ltg G) r acc) RW) :: wn r2cell 2 65 ta tc OT :: rfG γ true no nT since stop LX :: Q2) ∧ T = .pointer (some ⟨γ, 0, none⟩) :: u1 :: .slice (some ⟨bq, oq, none⟩) P.length pc :: u3 :: .pointer (some ⟨bs, 0, none⟩) :: u5 :: .pointer (some ⟨br, 0, none⟩) :: .bool false :: R ∧ tget R 0 = .slice (some ⟨bt, ot, none⟩) nT ad ∧ tget R 1 = .pointer (some ⟨bm, 0, none⟩) ∧ tget R 2 = .int .i64 op ∧ tget R 3 = .pointer (some ⟨bp, 0, none⟩) ∧ tget R 4 = .slice aa AU.length ca ∧ tget R 5 = .slice ra ((x.rows.take k).foldl (fun acc r => insB (ltg G) r acc) RW).length rc ∧ tget R 6 = .slice ta OT.length tc ∧ tget R 7 = .int .i64 i ∧ tget R 8 = .pointer (some ⟨ba, 0, none⟩) ∧ tget R 10 = .int .i64 k) ?_ x.rows.length _ _ ⟨0, ra, rc, _, _, _, _, by omega, s1, rfl, by simp [tget_tput, q0], by simp [tget_tput, q1], by simp [tget_tput, q2], by simp [tget_tput, q3], by simp [tget_tput, q4], (by simp [tget_tput, q5]), by simp [tget_tput, q6], by simp [tget_tput, q7], by simp [tget_tput, q8], by simp [tget_tput]⟩
        clear s1 q0 q1 q2 q3 q4 q5 q6 q7 q8
        rintro mk T h2 ⟨k, ra, rc, u1, u3, u5, R, hmk, s1, rfl, q0, q1, q2, q3, q4, q5, q6, q7, q8, q10⟩
        have ga := (s1.mv 1).get
        have gp := getP _ s1.drop.drop.drop.drop.drop
        rw [eoB] at gp
        by_cases hk2 : k < x.rows.length
        ·refine wpC_seq (sr fun LL hLL => ?_)
         simp only [oxz, simprocAttr, q3, q8, q10, ga, gp, k5, eq_true (show (k : Int) < (x.rows.length : Int) by omega)]
         refine hLL _ _ ?_
         refine wpC_if ?_
         simp only [oxz, simprocAttr]
         refine wpC_skip ?_
         simp only [oxz, simprocAttr]
         have hxr := sx.r
         have tk : x.rows.take (k + 1) = x.rows.take k ++ [x.rows[k]] := List.take_succ_eq_append_getElem hk2
         have hfl := foldB_len (ltg G) (x.rows.take k) RW
         rw [List.length_take] at hfl
         obtain ⟨b3, o3, ro3, sz3, C3, T3, e3, p3, g3, r3, w3⟩ := (axr _ s1.drop.drop.drop.drop).r.resolve_left (by intro e; rw [e] at hk2; simp at hk2)
         obtain ⟨wr, xr⟩ := Rs.row rcell.len r3 w3 k hk2
         rw [e3] at ga
         have gs := getS _ (toQ _ (toQ1 _ s1.drop.drop.drop.drop.drop))
         obtain ⟨RK, eRK⟩ : ∃ L, L = (x.rows.take k).foldl (fun acc r => insB (ltg G) r acc) RW := ⟨_, rfl⟩
         have nk : (x.rows.take (k + 1)).foldl (fun acc r => insB (ltg G) r acc) RW = insB (ltg G) x.rows[k] RK := by rw [tk, List.foldl_append, eRK]; rfl
         rw [← eRK] at s1 q5 hfl
         refine wpC_seq (wpC_block ?_)
         refine du [some 131, some 132, some 133, some 134, some 135, some 136, some 137, some 138, some 139, some 13] 10 [0, 0, 2, 0, 14, 30, 0, 64, 255, 511] (by rfl) (by rfl) (by decide +kernel) (by decide +kernel) (by decide +kernel) (fun LL hLL => ?_)
         simp only [oxk, simprocAttr, q5, q8, q10, ga, gs, ixF hk2, g3, wr, xr, rcell.len, rcell]
         refine refLay_ok G RK ra rc x.rows[k] _ (fun h s => (s.mv 2).rs rcell.len) (by omega) s1 _ fun b d h6 s6 => ?_
         simp only [oxk, simprocAttr]
         refine hLL _ _ ?_
         simp only [oxz, simprocAttr]
         refine rg (fun LL hLL => ?_)
         simp only [oxz, simprocAttr, q10, wsucc (show k < 9223372036854775807 by omega)]
         refine hLL _ _ ?_
         simp only [oxz, simprocAttr]
         refine ⟨mk - 1, by omega, k + 1, b, d, _, _, _, _, by omega, ?_, rfl, by simp [tget_tput, q0], by simp [tget_tput, q1], by simp [tget_tput, q2], by simp [tget_tput, q3], by simp [tget_tput, q4], ?_, by simp [tget_tput, q6], by simp [tget_tput, q7], by simp [tget_tput, q8], by simp [tget_tput]⟩
         ·rw [nk]; exact s6.sel 5 [1, 2, 0, 4]
         ·rw [nk]; simp [tget_tput]
        ·refine wpC_seq (sr fun LL hLL => ?_)
         simp only [oxz, simprocAttr, q3, q8, q10, ga, gp, eq_false (show ¬ (k : Int) < (x.rows.length : Int) by omega)]
         refine hLL _ _ ?_
         refine wpC_if ?_
         simp only [oxz, simprocAttr]
         refine wpC_exit ?_
         simp only [oxz, simprocAttr]
         rw [List.take_of_length_le (by omega)] at s1 q5
         exact ⟨ra, rc, _, _, _, _, s1, rfl, by simp [tget_tput, q0], by simp [tget_tput, q1], by simp [tget_tput, q2], by simp [tget_tput, q3], by simp [tget_tput, q4], by simp [tget_tput, q5], by simp [tget_tput, q6], by simp [tget_tput, q7], by simp [tget_tput, q8]⟩
       by_cases k6 : o.kind = 6
       ·rw [if_pos (.inr k6)]
        refine wpC_loop (fun m T h2 => ∃ (k : Nat) (ra : Option Addr) (rc : Nat) (u1 u3 u5 : Value) (R : List Value), m + k = x.rows.length ∧ St h0 h2 (wn icell 1 3 aa ca AU :: own ba (.cells false 0 [.int .i64 x.no, .int .i64 x.task, .slice x.oa x.offs.length x.oc, .slice x.ra x.rows.length x.rc, .slice x.ta x.outs.length x.tc] 33) :: wn rcell 3 63 ra rc ((x.rows.take k).foldl (fun acc r => insB (ltg G) r acc) RW) :: wn r2cell 2 65 ta tc OT :: rfG γ true no nT since stop LX :: Q2) ∧ T = .pointer (some ⟨γ, 0, none⟩) :: u1 :: .slice (some ⟨bq, oq, none⟩) P.length pc :: u3 :: .pointer (some ⟨bs, 0, none⟩) :: u5 :: .pointer (some ⟨br, 0, none⟩) :: .bool false :: R ∧ tget R 0 = .slice (some ⟨bt, ot, none⟩) nT ad ∧ tget R 1 = .pointer (some ⟨bm, 0, none⟩) ∧ tget R 2 = .int .i64 op ∧ tget R 3 = .pointer (some ⟨bp, 0, none⟩) ∧ tget R 4 = .slice aa AU.length ca ∧ tget R 5 = .slice ra ((x.rows.take k).foldl (fun acc r => insB (ltg G) r acc) RW).length rc ∧ tget R 6 = .slice ta OT.length tc ∧ tget R 7 = .int .i64 i ∧ tget R 8 = .pointer (some ⟨ba, 0, none⟩) ∧ tget R 10 = .int .i64 k) ?_ x.rows.length _ _ ⟨0, ra, rc, _, _, _, _, by omega, s1, rfl, by simp [tget_tput, q0], by simp [tget_tput, q1], by simp [tget_tput, q2], by simp [tget_tput, q3], by simp [tget_tput, q4], (by simp [tget_tput, q5]), by simp [tget_tput, q6], by simp [tget_tput, q7], by simp [tget_tput, q8], by simp [tget_tput]⟩
        clear s1 q0 q1 q2 q3 q4 q5 q6 q7 q8
        rintro mk T h2 ⟨k, ra, rc, u1, u3, u5, R, hmk, s1, rfl, q0, q1, q2, q3, q4, q5, q6, q7, q8, q10⟩
        have ga := (s1.mv 1).get
        have gp := getP _ s1.drop.drop.drop.drop.drop
        rw [eoB] at gp
        by_cases hk2 : k < x.rows.length
        ·refine wpC_seq (sr fun LL hLL => ?_)
         simp only [oxz, simprocAttr, q3, q8, q10, ga, gp, k6, eq_true (show (k : Int) < (x.rows.length : Int) by omega)]
         refine hLL _ _ ?_
         refine wpC_if ?_
         simp only [oxz, simprocAttr]
         refine wpC_skip ?_
         simp only [oxz, simprocAttr]
         have hxr := sx.r
         have tk : x.rows.take (k + 1) = x.rows.take k ++ [x.rows[k]] := List.take_succ_eq_append_getElem hk2
         have hfl := foldB_len (ltg G) (x.rows.take k) RW
         rw [List.length_take] at hfl
         obtain ⟨b3, o3, ro3, sz3, C3, T3, e3, p3, g3, r3, w3⟩ := (axr _ s1.drop.drop.drop.drop).r.resolve_left (by intro e; rw [e] at hk2; simp at hk2)
         obtain ⟨wr, xr⟩ := Rs.row rcell.len r3 w3 k hk2
         rw [e3] at ga
         have gs := getS _ (toQ _ (toQ1 _ s1.drop.drop.drop.drop.drop))
         obtain ⟨RK, eRK⟩ : ∃ L, L = (x.rows.take k).foldl (fun acc r => insB (ltg G) r acc) RW := ⟨_, rfl⟩
         have nk : (x.rows.take (k + 1)).foldl (fun acc r => insB (ltg G) r acc) RW = insB (ltg G) x.rows[k] RK := by rw [tk, List.foldl_append, eRK]; rfl
         rw [← eRK] at s1 q5 hfl
         refine wpC_seq (wpC_block ?_)
         refine du [some 131, some 132, some 133, some 134, some 135, some 136, some 137, some 138, some 139, some 13] 10 [0, 0, 2, 0, 14, 30, 0, 64, 255, 511] (by rfl) (by rfl) (by decide +kernel) (by decide +kernel) (by decide +kernel) (fun LL hLL => ?_)
         simp only [oxk, simprocAttr, q5, q8, q10, ga, gs, ixF hk2, g3, wr, xr, rcell.len, rcell]
         refine refLay_ok G RK ra rc x.rows[k] _ (fun h s => (s.mv 2).rs rcell.len) (by omega) s1 _ fun b d h6 s6 => ?_
         simp only [oxk, simprocAttr]
         refine hLL _ _ ?_
         simp only [oxz, simprocAttr]
         refine rg (fun LL hLL => ?_)
         simp only [oxz, simprocAttr, q10, wsucc (show k < 9223372036854775807 by omega)]
         refine hLL _ _ ?_
         simp only [oxz, simprocAttr]
         refine ⟨mk - 1, by omega, k + 1, b, d, _, _, _, _, by omega, ?_, rfl, by simp [tget_tput, q0], by simp [tget_tput, q1], by simp [tget_tput, q2], by simp [tget_tput, q3], by simp [tget_tput, q4], ?_, by simp [tget_tput, q6], by simp [tget_tput, q7], by simp [tget_tput, q8], by simp [tget_tput]⟩
         ·rw [nk]; exact s6.sel 5 [1, 2, 0, 4]
         ·rw [nk]; simp [tget_tput]
        ·refine wpC_seq (sr fun LL hLL => ?_)
         simp only [oxz, simprocAttr, q3, q8, q10, ga, gp, eq_false (show ¬ (k : Int) < (x.rows.length : Int) by omega)]
         refine hLL _ _ ?_
         refine wpC_if ?_
         simp only [oxz, simprocAttr]
         refine wpC_exit ?_
         simp only [oxz, simprocAttr]
         rw [List.take_of_length_le (by omega)] at s1 q5
         exact ⟨ra, rc, _, _, _, _, s1, rfl, by simp [tget_tput, q0], by simp [tget_tput, q1], by simp [tget_tput, q2], by simp [tget_tput, q3], by simp [tget_tput, q4], by simp [tget_tput, q5], by simp [tget_tput, q6], by simp [tget_tput, q7], by simp [tget_tput, q8]⟩
       rw [if_neg (by rintro (h | h) <;> contradiction)]
       have hRW0 : RW = [] := by rw [eRW]; unfold layR; rw [if_neg (by rintro (h | h) <;> contradiction)]
       rw [hRW0] at s1 q5
       refine wpC_loop (fun m T h2 => h2 = h5 ∧ ∃ (u1 u3 u5 : Value) (R : List Value), T = .pointer (some ⟨γ, 0, none⟩) :: u1 :: .slice (some ⟨bq, oq, none⟩) P.length pc :: u3 :: .pointer (some ⟨bs, 0, none⟩) :: u5 :: .pointer (some ⟨br, 0, none⟩) :: .bool false :: R ∧ tget R 0 = .slice (some ⟨bt, ot, none⟩) nT ad ∧ tget R 1 = .pointer (some ⟨bm, 0, none⟩) ∧ tget R 2 = .int .i64 op ∧ tget R 3 = .pointer (some ⟨bp, 0, none⟩) ∧ tget R 4 = .slice aa AU.length ca ∧ tget R 5 = .slice ra ([] : List Rwc).length rc ∧ tget R 6 = .slice ta OT.length tc ∧ tget R 7 = .int .i64 i ∧ tget R 8 = .pointer (some ⟨ba, 0, none⟩) ∧ tget R 10 = .int .i64 0) ?_ 0 _ _ ⟨rfl, _, _, _, _, rfl, by simp [tget_tput, q0], by simp [tget_tput, q1], by simp [tget_tput, q2], by simp [tget_tput, q3], by simp [tget_tput, q4], by simp [tget_tput, q5], by simp [tget_tput, q6], by simp [tget_tput, q7], by simp [tget_tput, q8], by simp [tget_tput]⟩
       clear q0 q1 q2 q3 q4 q5 q6 q7 q8
       rintro mk T h2 ⟨rfl, u1, u3, u5, R, rfl, q0, q1, q2, q3, q4, q5, q6, q7, q8, q10⟩
       have ga := (s1.mv 1).get
       have gp := getP _ s1.drop.drop.drop.drop.drop
       rw [eoB] at gp
       by_cases hk2 : 0 < x.rows.length
       ·refine wpC_seq (sr fun LL hLL => ?_)
        simp only [oxz, simprocAttr, q3, q8, q10, ga, gp, eq_false k5, eq_false k6, eq_true (show (0 : Int) < (x.rows.length : Int) by omega)]
        refine hLL _ _ ?_
        refine wpC_if ?_
        simp only [oxz, simprocAttr]
        refine wpC_exit ?_
        simp only [oxz, simprocAttr]
        exact ⟨ra, rc, _, _, _, _, s1, rfl, by simp [tget_tput, q0], by simp [tget_tput, q1], by simp [tget_tput, q2], by simp [tget_tput, q3], by simp [tget_tput, q4], by simp [tget_tput, q5], by simp [tget_tput, q6], by simp [tget_tput, q7], by simp [tget_tput, q8]⟩
       ·refine wpC_seq (sr fun LL hLL => ?_)
        simp only [oxz, simprocAttr, q3, q8, q10, ga, gp, eq_false (show ¬ (0 : Int) < (x.rows.length : Int) by omega)]
        refine hLL _ _ ?_
        refine wpC_if ?_
        simp only [oxz, simprocAttr]
        refine wpC_exit ?_
        simp only [oxz, simprocAttr]
        exact ⟨ra, rc, _, _, _, _, s1, rfl, by simp [tget_tput, q0], by simp [tget_tput, q1], by simp [tget_tput, q2], by simp [tget_tput, q3], by simp [tget_tput, q4], by simp [tget_tput, q5], by simp [tget_tput, q6], by simp [tget_tput, q7], by simp [tget_tput, q8]⟩
      clear s1 q0 q1 q2 q3 q4 q5 q6 q7 q8
      rintro T h6 ⟨ra, rc, u1, u3, u5, R, s1, rfl, q0, q1, q2, q3, q4, q5, q6, q7, q8⟩
      obtain ⟨RU, eRU⟩ : ∃ L, L = layR G o (X ++ [x]) := ⟨_, rfl⟩
      rw [← eRU] at s1 q5
      have go9 : ∀ (ta : Option Addr) (tc : Nat) (u1 u3 u5 : Value) (R : List Value), True := fun _ _ _ _ _ _ => trivial
      refine sr (fun LL hLL => ?_)
      simp only [oxz, simprocAttr]
      refine hLL _ _ ?_
      refine wpC_block ?_
      by_cases k8 : o.kind = 8
      ·rw [if_pos k8] at nT2
       refine wpC_loop (fun m T h2 => ∃ (k : Nat) (ta : Option Addr) (tc : Nat) (u1 u3 u5 : Value) (R : List Value), m + k = x.outs.length ∧ St h0 h2 (wn icell 1 3 aa ca AU :: own ba (.cells false 0 [.int .i64 x.no, .int .i64 x.task, .slice x.oa x.offs.length x.oc, .slice x.ra x.rows.length x.rc, .slice x.ta x.outs.length x.tc] 33) :: wn rcell 3 63 ra rc RU :: wn r2cell 2 65 ta tc (OT ++ x.outs.take k) :: rfG γ true no nT since stop LX :: Q2) ∧ T = .pointer (some ⟨γ, 0, none⟩) :: u1 :: .slice (some ⟨bq, oq, none⟩) P.length pc :: u3 :: .pointer (some ⟨bs, 0, none⟩) :: u5 :: .pointer (some ⟨br, 0, none⟩) :: .bool false :: R ∧ tget R 0 = .slice (some ⟨bt, ot, none⟩) nT ad ∧ tget R 1 = .pointer (some ⟨bm, 0, none⟩) ∧ tget R 2 = .int .i64 op ∧ tget R 3 = .pointer (some ⟨bp, 0, none⟩) ∧ tget R 4 = .slice aa AU.length ca ∧ tget R 5 = .slice ra RU.length rc ∧ tget R 6 = .slice ta (OT ++ x.outs.take k).length tc ∧ tget R 7 = .int .i64 i ∧ tget R 8 = .pointer (some ⟨ba, 0, none⟩) ∧ tget R 11 = .int .i64 k) ?_ x.outs.length _ _ ⟨0, ta, tc, _, _, _, _, by omega, (by simpa using s1), rfl, by simp [tget_tput, q0], by simp [tget_tput, q1], by simp [tget_tput, q2], by simp [tget_tput, q3], by simp [tget_tput, q4], by simp [tget_tput, q5], (by simp [tget_tput, q6]), by simp [tget_tput, q7], by simp [tget_tput, q8], by simp [tget_tput]⟩
       clear s1 q0 q1 q2 q3 q4 q5 q6 q7 q8
       rintro mk T h2 ⟨k, ta, tc, u1, u3, u5, R, hmk, s1, rfl, q0, q1, q2, q3, q4, q5, q6, q7, q8, q11⟩
       have ga := (s1.mv 1).get
       have gp := getP _ s1.drop.drop.drop.drop.drop
       rw [eoB] at gp
       by_cases hk2 : k < x.outs.length
       ·refine wpC_seq (sr fun LL hLL => ?_)
        simp only [oxz, simprocAttr, q3, q8, q11, ga, gp, k8, eq_true (show (k : Int) < (x.outs.length : Int) by omega)]
        refine hLL _ _ ?_
        refine wpC_if ?_
        simp only [oxz, simprocAttr]
        refine wpC_skip ?_
        simp only [oxz, simprocAttr]
        have hxt := sx.t
        have tk : x.outs.take (k + 1) = x.outs.take k ++ [x.outs[k]] := List.take_succ_eq_append_getElem hk2
        have hfl : (OT ++ x.outs.take k).length ≤ 100000 := by rw [List.length_append, List.length_take]; omega
        obtain ⟨b3, o3, ro3, sz3, C3, T3, e3, p3, g3, r3, w3⟩ := (axr _ s1.drop.drop.drop.drop).t.resolve_left (by intro e; rw [e] at hk2; simp at hk2)
        obtain ⟨wr, xr⟩ := Rs.row r2cell.len r3 w3 k hk2
        rw [e3] at ga
        have zz : aZeros [.int .i64 0, .int .i64 0] 1 = [.int .i64 0, .int .i64 0] := rfl
        obtain ⟨aE, cE, h7, y1, y2⟩ := (s1.mv 3).app1 (bytes := 16) x.outs[k] r2cell.len r2cell.oc (by omega) (by omega)
        have y1' := y1
        simp only [r2cell] at y1'
        rw [List.append_assoc, ← tk] at y2
        refine wpC_seq (wpC_block ?_)
        refine rg (fun LL hLL => ?_)
        simp only [oxz, simprocAttr, q6, q8, q11, ga, ixF hk2, g3, wr, xr, r2cell.len, r2cell, zz]
        rw [y1']
        simp only [oxz, simprocAttr]
        refine hLL _ _ ?_
        simp only [oxz, simprocAttr]
        refine rg (fun LL hLL => ?_)
        simp only [oxz, simprocAttr, q11, wsucc (show k < 9223372036854775807 by omega)]
        refine hLL _ _ ?_
        simp only [oxz, simprocAttr]
        refine ⟨mk - 1, by omega, k + 1, aE, cE, _, _, _, _, by omega, y2.sel 4 [1, 2, 3, 0], rfl, by simp [tget_tput, q0], by simp [tget_tput, q1], by simp [tget_tput, q2], by simp [tget_tput, q3], by simp [tget_tput, q4], by simp [tget_tput, q5], ?_, by simp [tget_tput, q7], by simp [tget_tput, q8], by simp [tget_tput]⟩
        rw [show (OT ++ x.outs.take (k + 1)).length = (OT ++ x.outs.take k).length + 1 by rw [tk, ← List.append_assoc, List.length_append]; rfl]
        simp [tget_tput]
       ·refine wpC_seq (sr fun LL hLL => ?_)
        simp only [oxz, simprocAttr, q3, q8, q11, ga, gp, eq_false (show ¬ (k : Int) < (x.outs.length : Int) by omega)]
        refine hLL _ _ ?_
        refine wpC_if ?_
        simp only [oxz, simprocAttr]
        refine wpC_exit ?_
        simp only [oxz, simprocAttr]
        rw [List.take_of_length_le (by omega), ← nT2] at s1 q6
        refine rg (fun LL hLL => ?_)
        simp only [oxz, simprocAttr, q7, wsucc (show i < 9223372036854775807 by omega)]
        refine hLL _ _ ?_
        simp only [oxz, simprocAttr]
        refine ⟨mi - 1, by omega, i + 1, aa, ca, ra, rc, ta, tc, _, _, _, _, by omega, ?_, rfl, (by rw [et]; simp [tget_tput, q0]), by simp [tget_tput, q1], by simp [tget_tput, q2], by simp [tget_tput, q3], ?_, ?_, ?_, by simp [tget_tput]⟩
        ·rw [hsucc, ← eAU, ← eRU]; exact s1.sel 5 [0, 2, 3, 4]
        ·rw [hsucc, ← eAU]; simp [tget_tput, q4]
        ·rw [hsucc, ← eRU]; simp [tget_tput, q5]
        ·rw [hsucc]; simp [tget_tput, q6]
      ·rw [if_neg k8] at nT2
       have hOT0 : OT = [] := by rw [eOT]; unfold layT; rw [if_neg k8]
       rw [hOT0] at s1 q6
       refine wpC_loop (fun m T h2 => h2 = h6 ∧ ∃ (u1 u3 u5 : Value) (R : List Value), T = .pointer (some ⟨γ, 0, none⟩) :: u1 :: .slice (some ⟨bq, oq, none⟩) P.length pc :: u3 :: .pointer (some ⟨bs, 0, none⟩) :: u5 :: .pointer (some ⟨br, 0, none⟩) :: .bool false :: R ∧ tget R 0 = .slice (some ⟨bt, ot, none⟩) nT ad ∧ tget R 1 = .pointer (some ⟨bm, 0, none⟩) ∧ tget R 2 = .int .i64 op ∧ tget R 3 = .pointer (some ⟨bp, 0, none⟩) ∧ tget R 4 = .slice aa AU.length ca ∧ tget R 5 = .slice ra RU.length rc ∧ tget R 6 = .slice ta ([] : List Rc2).length tc ∧ tget R 7 = .int .i64 i ∧ tget R 8 = .pointer (some ⟨ba, 0, none⟩) ∧ tget R 11 = .int .i64 0) ?_ 0 _ _ ⟨rfl, _, _, _, _, rfl, by simp [tget_tput, q0], by simp [tget_tput, q1], by simp [tget_tput, q2], by simp [tget_tput, q3], by simp [tget_tput, q4], by simp [tget_tput, q5], by simp [tget_tput, q6], by simp [tget_tput, q7], by simp [tget_tput, q8], by simp [tget_tput]⟩
       clear q0 q1 q2 q3 q4 q5 q6 q7 q8
       rintro mk T h2 ⟨rfl, u1, u3, u5, R, rfl, q0, q1, q2, q3, q4, q5, q6, q7, q8, q11⟩
       have ga := (s1.mv 1).get
       have gp := getP _ s1.drop.drop.drop.drop.drop
       rw [eoB] at gp
       by_cases hk2 : 0 < x.outs.length
       ·refine wpC_seq (sr fun LL hLL => ?_)
        simp only [oxz, simprocAttr, q3, q8, q11, ga, gp, eq_false k8, eq_true (show (0 : Int) < (x.outs.length : Int) by omega)]
        refine hLL _ _ ?_
        refine wpC_if ?_
        simp only [oxz, simprocAttr]
        refine wpC_exit ?_
        simp only [oxz, simprocAttr]
        refine rg (fun LL hLL => ?_)
        simp only [oxz, simprocAttr, q7, wsucc (show i < 9223372036854775807 by omega)]
        refine hLL _ _ ?_
        simp only [oxz, simprocAttr]
        refine ⟨mi - 1, by omega, i + 1, aa, ca, ra, rc, ta, tc, _, _, _, _, by omega, ?_, rfl, (by rw [et]; simp [tget_tput, q0]), by simp [tget_tput, q1], by simp [tget_tput, q2], by simp [tget_tput, q3], ?_, ?_, ?_, by simp [tget_tput]⟩
        ·rw [hsucc, ← eAU, ← eRU, nT2]; exact s1.sel 5 [0, 2, 3, 4]
        ·rw [hsucc, ← eAU]; simp [tget_tput, q4]
        ·rw [hsucc, ← eRU]; simp [tget_tput, q5]
        ·rw [hsucc, nT2]; simp [tget_tput, q6]
       ·refine wpC_seq (sr fun LL hLL => ?_)
        simp only [oxz, simprocAttr, q3, q8, q11, ga, gp, eq_false (show ¬ (0 : Int) < (x.outs.length : Int) by omega)]
        refine hLL _ _ ?_
        refine wpC_if ?_
        simp only [oxz, simprocAttr]
        refine wpC_exit ?_
        simp only [oxz, simprocAttr]
        refine rg (fun LL hLL => ?_)
        simp only [oxz, simprocAttr, q7, wsucc (show i < 9223372036854775807 by omega)]
        refine hLL _ _ ?_
        simp only [oxz, simprocAttr]
        refine ⟨mi - 1, by omega, i + 1, aa, ca, ra, rc, ta, tc, _, _, _, _, by omega, ?_, rfl, (by rw [et]; simp [tget_tput, q0]), by simp [tget_tput, q1], by simp [tget_tput, q2], by simp [tget_tput, q3], ?_, ?_, ?_, by simp [tget_tput]⟩
        ·rw [hsucc, ← eAU, ← eRU, nT2]; exact s1.sel 5 [0, 2, 3, 4]
        ·rw [hsucc, ← eAU]; simp [tget_tput, q4]
        ·rw [hsucc, ← eRU]; simp [tget_tput, q5]
        ·rw [hsucc, nT2]; simp [tget_tput, q6]
     ·rw [if_neg ho] at hsucc
      rw [et] at q0
      refine wpC_seq (sr fun LL hLL => ?_)
      simp only [oxz, simprocAttr, q0, q2, q7, ixF hi, gt, vt, eq_false (show ¬ ((opOf P i : Nat) : Int) = (op : Int) by omega), not_false_eq_true]
      refine hLL _ _ ?_
      refine wpC_if ?_
      simp only [oxz, simprocAttr]
      refine wpC_exit ?_
      simp only [oxz, simprocAttr]
      refine rg (fun LL hLL => ?_)
      simp only [oxz, simprocAttr, q7, wsucc (show i < 9223372036854775807 by omega)]
      refine hLL _ _ ?_
      simp only [oxz, simprocAttr]
      refine ⟨mi - 1, by omega, i + 1, aa, ca, ra, rc, ta, tc, _, _, _, _, by omega, ?_, rfl, by simp [tget_tput, q0, et], by simp [tget_tput, q1], by simp [tget_tput, q2], by simp [tget_tput, q3], ?_, ?_, ?_, by simp [tget_tput]⟩
      ·rw [hsucc]; exact s1
      ·rw [hsucc]; simp [tget_tput, q4]
      ·rw [hsucc]; simp [tget_tput, q5]
      ·rw [hsucc]; simp [tget_tput, q6]
    ·have hin : i = nT := by omega
     subst hin
     refine wpC_exit ?_
     simp only [oxz, simprocAttr]
     exact ⟨aa, ca, ra, rc, ta, tc, _, _, _, _, s1, rfl, by simp [tget_tput, q0], by simp [tget_tput, q1], by simp [tget_tput, q2], by simp [tget_tput, q4], by simp [tget_tput, q5], by simp [tget_tput, q6]⟩
   clear s3 q0 q1 q2 q3 q4 q5 q6
   rintro T h6 ⟨aa, ca, ra, rc, ta, tc, u1, u3, u5, R, s1, rfl, q0, q1, q2, q4, q5, q6⟩
   obtain ⟨AU, eAU⟩ : ∃ L, L = layO o (atOp P C nT op) := ⟨_, rfl⟩
   obtain ⟨RU, eRU⟩ : ∃ L, L = layR G o (atOp P C nT op) := ⟨_, rfl⟩
   obtain ⟨OU, eOU⟩ : ∃ L, L = layT o (atOp P C nT op) := ⟨_, rfl⟩
   rw [← eAU] at s1 q4 tO
   rw [← eRU] at s1 q5 tR
   rw [← eOU] at s1 q6 tT
   rw [eQ2, eQ1] at s1
   have s2 := (s1).sel 10 [0, 7, 5, 1, 8, 2, 9, 6, 3]
   simp only [oxf] at s2
   have gm := (s2.mv 2).get
   obtain ⟨b2, d2, h7, y1, y2⟩ := s2.nest_app (by omega)
   rw [lO] at y1
   have gm2 := (y2.mv 1).get
   have s3 := (y2.mv 1).set (.cells false 0 [.int .i64 no, .slice aE (op + 1) cE, .slice b2 (op + 1) d2, .slice a3 op c3, .slice a4 op c4] 48)
   refine sr (fun LL hLL => ?_)
   simp only [oxz, simprocAttr, q1, q4, gm, zs]
   rw [y1]
   simp only [oxk, simprocAttr, gm2]
   refine hLL _ _ ?_
   obtain ⟨h7s, eh7s⟩ : ∃ x, x = h7.set bm (.cells false 0 [.int .i64 no, .slice aE (op + 1) cE, .slice b2 (op + 1) d2, .slice a3 op c3, .slice a4 op c4] 48) := ⟨_, rfl⟩
   rw [← eh7s] at s3 ⊢
   rw [← tO] at s3
   have s4 := (s3).sel 8 [2, 3, 0, 1, 4, 5, 6, 7]
   simp only [oxf] at s4
   clear s1 s2 s3 y1 y2 gm gm2
   have gm := (s4.mv 2).get
   obtain ⟨b3, d3, h8, y1, y2⟩ := s4.nest_app (by omega)
   rw [lR] at y1
   have gm2 := (y2.mv 1).get
   have s3 := (y2.mv 1).set (.cells false 0 [.int .i64 no, .slice aE (op + 1) cE, .slice b2 (op + 1) d2, .slice b3 (op + 1) d3, .slice a4 op c4] 48)
   refine sr (fun LL hLL => ?_)
   simp only [oxz, simprocAttr, q1, q5, gm, zs]
   rw [y1]
   simp only [oxk, simprocAttr, gm2]
   refine hLL _ _ ?_
   obtain ⟨h8s, eh8s⟩ : ∃ x, x = h8.set bm (.cells false 0 [.int .i64 no, .slice aE (op + 1) cE, .slice b2 (op + 1) d2, .slice b3 (op + 1) d3, .slice a4 op c4] 48) := ⟨_, rfl⟩
   rw [← eh8s] at s3 ⊢
   rw [← tR] at s3
   have s5 := (s3).sel 7 [3, 4, 0, 1, 2, 5, 6]
   simp only [oxf] at s5
   clear s4 s3 y1 y2 gm gm2
   have gm := (s5.mv 2).get
   obtain ⟨b4, d4, h9, y1, y2⟩ := s5.nest_app (by omega)
   rw [lT] at y1
   have gm2 := (y2.mv 1).get
   have s3 := (y2.mv 1).set (.cells false 0 [.int .i64 no, .slice aE (op + 1) cE, .slice b2 (op + 1) d2, .slice b3 (op + 1) d3, .slice b4 (op + 1) d4] 48)
   refine rg (fun LL hLL => ?_)
   simp only [oxz, simprocAttr, q1, q6, gm, zs]
   rw [y1]
   simp only [oxk, simprocAttr, gm2]
   refine hLL _ _ ?_
   rw [← tT] at s3
   simp only [oxz, simprocAttr]
   refine rg (fun LL hLL => ?_)
   simp only [oxz, simprocAttr, q2, wsucc (show op < 9223372036854775807 by omega)]
   refine hLL _ _ ?_
   simp only [oxz, simprocAttr]
   exact ⟨m - 1, by omega, op + 1, aE, cE, b2, d2, b3, d3, b4, d4, _, _, _, _, by omega, s3.sel 6 [4, 3, 2, 1, 0, 5], rfl, by simp [tget_tput, q0], by simp [tget_tput, q1], by simp [tget_tput]⟩
  ·have hin : op = L.length := by omega
   subst hin
   rw [List.take_of_length_le (by omega), List.take_of_length_le (by rw [manO_len]; omega), List.take_of_length_le (by rw [manR_len]; omega), List.take_of_length_le (by rw [manT_len]; omega)] at s1
   refine wpC_exit ?_
   simp only [oxz, simprocAttr]
   exact ⟨a1, c1, a2, c2, a3, c3, a4, c4, _, _, _, _, by rw [hP]; exact s1, rfl, by simp [tget_tput, q1]⟩
 clear s6
 rintro T h6 ⟨a1, c1, a2, c2, a3, c3, a4, c4, u1, u3, u5, R, s1, rfl, q1⟩
 have gm := (s1.mv 4).get
 have s2 : St h0 h6 (own br (.cells false 0 manZ 48) :: wn icell 1 3 a1 c1 P :: nest icell 1 3 25 a2 c2 (manO L P C) :: nest rcell 3 63 30 a3 c3 (manR G L P C) :: nest r2cell 2 65 31 a4 c4 (manT L P C) :: rfG γ true no nT since stop LX :: F) := by
  rw [eQ] at s1
  exact s1.sel 9 [7, 0, 1, 2, 3, 5]
 have gr := s2.get
 have s3 := s2.set (.cells false 0 [.int .i64 no, .slice a1 P.length c1, .slice a2 L.length c2, .slice a3 L.length c3, .slice a4 L.length c4] 48)
 refine sr (fun LL hLL => ?_)
 simp only [oxz, simprocAttr, q1, gm, gr]
 refine hLL _ _ ?_
 refine wpC_ret (out_ret ?_)
 simp only [oxz, simprocAttr]
 simp only [s3.get, oxz, simprocAttr]
 exact hk _ _ _ _ _ _ _ _ _ s3.drop
end Go.Proofs.Cd

namespace Go.Proofs.Cd
open Go Go.Ox
set_option maxRecDepth 100000
set_option maxHeartbeats 4000000
/-- A coordinator that does not run. -/
abbrev coI (β : Nat) : Asn := own β (coB false 0 0 false 0 (.map none) (.map none))
section
variable {h0 h : AHeap} {F : List Asn} {β : Nat} {no since : Int} {stop : Bool} {tasks : Int} {W : List Int} {X : List AckX}
theorem ackI_ok (x : AckX) (s : St h0 h (coI β :: F)) (K : Value → AHeap → Prop) (hk : ∀ h', St h0 h' (coI β :: F) → K (.tuple #[]) h') : wpF Tryz.prog (.fn 20) [.pointer (some ⟨β, 0, none⟩), .agg x.cells.toArray] h K := by
 have hxc : (.agg x.cells.toArray : Value) = .agg #[.int .i64 x.no, .int .i64 x.task, .slice x.oa x.offs.length x.oc, .slice x.ra x.rows.length x.rc, .slice x.ta x.outs.length x.tc] := rfl
 rw [hxc]
 refine wpF_fun 48 [] Tryz.func20 rfl rfl rfl rfl ?_
 refine sr (fun LL hLL => ?_)
 simp only [oxz, simprocAttr]
 refine hLL _ _ ?_
 have s1 := s.push (.cells false 0 [.int .i64 x.no, .int .i64 x.task, .slice x.oa x.offs.length x.oc, .slice x.ra x.rows.length x.rc, .slice x.ta x.outs.length x.tc] 33)
 obtain ⟨h6, e6⟩ : ∃ h6, h6 = h.push (.cells false 0 [.int .i64 x.no, .int .i64 x.task, .slice x.oa x.offs.length x.oc, .slice x.ra x.rows.length x.rc, .slice x.ta x.outs.length x.tc] 33) := ⟨_, rfl⟩
 obtain ⟨b6, eb6⟩ : ∃ b, b = h.next := ⟨_, rfl⟩
 rw [← e6, ← eb6] at s1
 rw [← e6, ← eb6]
 have ga := s1.get
 have gc := (s1.mv 1).get
 have vt : ∀ (n : Int) (b : Bool), veq 6 (.tuple #[.int .i64 n, .bool b]) (.tuple #[.int .i64 n, .bool b]) = true := by intro n b; simp [veq]
 refine su [some 7, some 8, some 9, some 10, some 11, some 12, some 13, some 6, some 14, some 15, some 4, some 5] 12 [0, 1, 3, 7, 0, 16, 63, 127, 255, 255, 511, 2047] (by rfl) (by rfl) (by decide +kernel) (by decide +kernel) (by decide +kernel) (fun LL hLL => ?_)
 simp only [oxz, simprocAttr, ga, gc, vt]
 refine hLL _ _ ?_
 refine wpC_seq ?_
 refine su [some 16, some 17, some 18, some 19, some 20, some 21, some 22, some 23, some 24, some 25, some 26, some 27, some 28, some 29, some 30, some 31, some 32, some 33] 18 [0, 1, 3, 7, 15, 31, 63, 127, 63, 319, 831, 1855, 4095, 8191, 16383, 32767, 65535, 131071] (by rfl) (by rfl) (by decide +kernel) (by decide +kernel) (by decide +kernel) (fun LL hLL => ?_)
 simp only [oxz, simprocAttr, ga, gc]
 refine hLL _ _ ?_
 refine wpC_if ?_
 simp only [oxz, simprocAttr]
 refine wpC_ret (out_ret ?_)
 simp only [oxz, simprocAttr]
 exact hk _ s1.drop
theorem startY_ok (no2 tasks2 now2 : Int) (stop2 : Bool) (s : St h0 h (coG β no since stop tasks W X :: F)) (K : Value → AHeap → Prop) (hk : K (.int .i64 16) h) : wpF Tryz.prog (.fn 10) [.pointer (some ⟨β, 0, none⟩), .int .i64 no2, .int .i64 tasks2, .bool stop2, .int .i64 now2] h K := by
 obtain ⟨B, D, s1⟩ := coG_out s
 have g1 := s1.get
 refine wpF_fun 38 [.tmp 10] Tryz.func10 rfl rfl rfl rfl ?_
 refine sr (fun LL hLL => ?_)
 simp only [oxz, simprocAttr]
 refine hLL _ _ ?_
 refine wpC_seq (sr fun LL hLL => ?_)
 simp only [oxz, simprocAttr, g1]
 refine hLL _ _ ?_
 refine wpC_if ?_
 simp only [oxz, simprocAttr]
 refine sr (fun LL hLL => ?_)
 simp only [oxz, simprocAttr]
 refine hLL _ _ ?_
 refine wpC_ret (out_ret ?_)
 simp only [oxz, simprocAttr]
 exact hk
theorem startM_ok (no2 tasks2 now2 : Int) (stop2 : Bool) (ht : tasks2 < 0) (s : St h0 h (coI β :: F)) (K : Value → AHeap → Prop) (hk : ∀ h', St h0 h' (coG β no2 now2 stop2 tasks2 [] [] :: F) → K (.int .i64 0) h') : wpF Tryz.prog (.fn 10) [.pointer (some ⟨β, 0, none⟩), .int .i64 no2, .int .i64 tasks2, .bool stop2, .int .i64 now2] h K := by
 refine wpF_fun 38 [.tmp 10] Tryz.func10 rfl rfl rfl rfl ?_
 refine sr (fun LL hLL => ?_)
 simp only [oxz, simprocAttr]
 refine hLL _ _ ?_
 have g1 := s.get
 refine wpC_seq (sr fun LL hLL => ?_)
 simp only [oxz, simprocAttr, g1]
 refine hLL _ _ ?_
 refine wpC_if ?_
 simp only [oxz, simprocAttr]
 refine wpC_skip ?_
 simp only [oxz, simprocAttr]
 refine fg12 (fun R => ?_)
 have s1 := (s.push (.map [])).push (.map [])
 have g2 := (s1.mv 2).get
 rw [AHeap.next_push] at s1
 refine sr (fun LL hLL => ?_)
 simp only [oxz, simprocAttr, g2]
 refine hLL _ _ ?_
 refine wpC_seq (sr fun LL hLL => ?_)
 simp only [oxz, simprocAttr, eq_true ht, eq_false (show ¬ (0 : Int) ≤ tasks2 by omega)]
 refine hLL _ _ ?_
 have s2 := (s1.mv 2).set (coB true no2 now2 stop2 tasks2 (.map (some h.next)) (.map (some (h.next + 1))))
 have s3 := (s2).sel 3 [0, 2, 1]
 simp only [oxf] at s3
 have s4 : St h0 _ (coG β no2 now2 stop2 tasks2 ([] : List Int) [] :: F) := coG_in (s3.star_nil.sel 4 [1, 2, 3, 0])
 refine xp12 17 (by repeat (first | exact tput_le _ _ _ _ (.inr (by omega)) | refine tput_le _ _ _ _ (.inl ?_))) (fun R => ?_)
 simp only [oxz, simprocAttr, show List.range 17 = [0, 1, 2, 3, 4, 5, 6, 7, 8, 9, 10, 11, 12, 13, 14, 15, 16] from rfl]
 refine wpC_block ?_
 refine wpC_loop (fun k T h' => (∃ h2, h' = h2 ∧ St h0 h2 (coG β no2 now2 stop2 tasks2 ([] : List Int) [] :: F)) ∧ tget T 28 = .int .i64 0 ∧ tget T 27 = .int .i64 0) ?_ 0 _ _ ⟨⟨_, rfl, s4⟩, rfl, rfl⟩
 rintro k T h' ⟨⟨h2, rfl, s5⟩, q0, q1⟩
 refine sr (fun LL hLL => ?_)
 simp only [oxz, simprocAttr, q0, q1]
 refine hLL _ _ ?_
 refine wpC_seq ?_
 refine wpC_if ?_
 simp only [oxz, simprocAttr]
 refine wpC_exit ?_
 simp only [oxz, simprocAttr]
 refine sr (fun LL hLL => ?_)
 simp only [oxz, simprocAttr]
 refine hLL _ _ ?_
 refine wpC_ret (out_ret ?_)
 simp only [oxz, simprocAttr]
 exact hk _ s5
theorem startI_ok (no2 tasks2 now2 : Int) (stop2 : Bool) (ht : tasks2 ≤ 768) (s : St h0 h (coI β :: F)) (K : Value → AHeap → Prop) (hk : ∀ h', St h0 h' (coG β no2 now2 stop2 tasks2 ((List.range tasks2.toNat).map fun (j : Nat) => (j : Int)) [] :: F) → K (.int .i64 0) h') : wpF Tryz.prog (.fn 10) [.pointer (some ⟨β, 0, none⟩), .int .i64 no2, .int .i64 tasks2, .bool stop2, .int .i64 now2] h K := by
 by_cases h0t : tasks2 < 0
 ·rw [show tasks2.toNat = 0 by omega] at hk
  exact startM_ok no2 tasks2 now2 stop2 h0t s K hk
 ·obtain ⟨n, rfl⟩ : ∃ n : Nat, tasks2 = n := ⟨tasks2.toNat, by omega⟩
  rw [Int.toNat_natCast] at hk
  exact startG_ok no2 n stop2 now2 (by omega) h s K hk
theorem dropG_ok (s : St h0 h (coG β no since stop tasks W X :: F)) (K : Value → AHeap → Prop) (hk : ∀ h', St h0 h' (coI β :: F) → K (.tuple #[]) h') : wpF Tryz.prog (.fn 23) [.pointer (some ⟨β, 0, none⟩)] h K := by
 obtain ⟨B, D, s1⟩ := coG_out s
 exact drop_ok h s1 K fun h' s2 => hk _ (s2.sel 4 [0])
theorem runningG_ok (s : St h0 h (coG β no since stop tasks W X :: F)) (K : Value → AHeap → Prop) (hk : K (.tuple #[.int .i64 no, .bool stop, .int .i64 since, .bool true]) h) : wpF Tryz.prog (.fn 22) [.pointer (some ⟨β, 0, none⟩)] h K := by
 obtain ⟨B, D, s1⟩ := coG_out s
 exact running_ok h s1 K hk
theorem manN_ok {c : Bool} {t w : Value} (G : Int) (sa : Option Addr) (sn sc : Nat) (pa : Option Addr) (pc : Nat) (P : List Int) (rP : Rd h0 F icell 1 pa P) (hP : P.length ≤ 12) (hPb : ∀ x ∈ P, 1 ≤ x ∧ x ≤ 8) (s : St h0 h (own β (coB c no since stop tasks w t) :: F)) (r : Bool)
  (rdy : ∀ h' (F' : List Asn) (K : Value → AHeap → Prop), (∀ h'', St h0 h'' F' → St h0 h'' (own β (coB c no since stop tasks w t) :: F)) → St h0 h' F' → K (.bool r) h' → wpF Tryz.prog (.fn 21) [.pointer (some ⟨β, 0, none⟩)] h' K)
  (hno : r = true → ¬ ((tasksL P).length : Int) = tasks) (K : Value → AHeap → Prop) (hk : ∀ h', St h0 h' (own β (coB c no since stop tasks w t) :: F) → K (.tuple #[.agg #[.int .i64 0, .slice none 0 0, .slice none 0 0, .slice none 0 0, .slice none 0 0], .bool false]) h') :
  wpF Tryz.prog (.fn 12) [.pointer (some ⟨β, 0, none⟩), .agg #[.int .i64 G, .slice sa sn sc], .slice pa P.length pc] h K := by
 have s1 := (s.push (.cells false 0 [.int .i64 G, .slice sa sn sc] 24)).push (.cells false 0 manZ 48)
 obtain ⟨bs, ebs⟩ : ∃ b, b = h.next := ⟨_, rfl⟩
 obtain ⟨br, ebr⟩ : ∃ b, b = (h.push (.cells false 0 [.int .i64 G, .slice sa sn sc] 24)).next := ⟨_, rfl⟩
 obtain ⟨h1, e1⟩ : ∃ h1, h1 = (h.push (.cells false 0 [.int .i64 G, .slice sa sn sc] 24)).push (.cells false 0 manZ 48) := ⟨_, rfl⟩
 have ebr2 : br = h.next + 1 := by rw [ebr, AHeap.next_push]
 rw [← e1, ← ebs, ← ebr] at s1
 refine wpF_fun 87 [.cell 6 48, .tmp 7] Tryz.func12 rfl rfl rfl rfl ?_
 refine sr (fun LL hLL => ?_)
 simp only [oxz, simprocAttr]
 refine hLL _ _ ?_
 rw [← ebr2, ← e1, ← ebs]
 clear e1
 refine sr (fun LL hLL => ?_)
 simp only [oxk, simprocAttr]
 refine tasks_ok (F := _ :: _ :: _ :: F) pa pc P (rdUps [_, _, _] rP) (by omega) (fun x hx => by have := hPb x hx; omega) _ s1 _ fun ab ad h2 s2 => ?_
 simp only [oxk, simprocAttr]
 refine hLL _ _ ?_
 have gc := (s2.mv 3).get
 have gr := (s2.mv 1).get
 refine wpC_seq (sr fun LL hLL => ?_)
 simp only [oxk, simprocAttr]
 refine rdy h2 _ _ (fun h'' s => ?_) s2 ?_
 ·exact s.sel 4 [3]
 cases r
 ·simp only [oxk, simprocAttr]
  refine hLL _ _ ?_
  refine wpC_if ?_
  simp only [oxz, simprocAttr]
  refine sr (fun LL hLL => ?_)
  simp only [oxz, simprocAttr, gr]
  refine hLL _ _ ?_
  have s4 := (s2.mv 1).set (.cells false 0 manZ 48)
  refine wpC_ret (out_ret ?_)
  simp only [oxz, simprocAttr]
  simp only [s4.get, oxz, simprocAttr]
  exact hk _ ((s4.sel 4 [3]))
 ·have hne := hno rfl
  simp only [oxk, simprocAttr, gc, eq_false hne, not_false_eq_true]
  refine hLL _ _ ?_
  refine wpC_if ?_
  simp only [oxz, simprocAttr]
  refine sr (fun LL hLL => ?_)
  simp only [oxz, simprocAttr, gr]
  refine hLL _ _ ?_
  have s4 := (s2.mv 1).set (.cells false 0 manZ 48)
  refine wpC_ret (out_ret ?_)
  simp only [oxz, simprocAttr]
  simp only [s4.get, oxz, simprocAttr]
  exact hk _ ((s4.sel 4 [3]))
theorem manI_ok (G : Int) (sa : Option Addr) (sn sc : Nat) (pa : Option Addr) (pc : Nat) (P : List Int) (rP : Rd h0 F icell 1 pa P) (hP : P.length ≤ 12) (hPb : ∀ x ∈ P, 1 ≤ x ∧ x ≤ 8) (s : St h0 h (coI β :: F)) (K : Value → AHeap → Prop) (hk : ∀ h', St h0 h' (coI β :: F) → K (.tuple #[.agg #[.int .i64 0, .slice none 0 0, .slice none 0 0, .slice none 0 0, .slice none 0 0], .bool false]) h') :
  wpF Tryz.prog (.fn 12) [.pointer (some ⟨β, 0, none⟩), .agg #[.int .i64 G, .slice sa sn sc], .slice pa P.length pc] h K :=
 manN_ok G sa sn sc pa pc P rP hP hPb s false (fun h' F' K up s hk => ready_no h' (up _ s) K hk) (fun h => by cases h) K hk
theorem manG_ok (G : Int) (sa : Option Addr) (sn sc : Nat) (pa : Option Addr) (pc : Nat) (P : List Int) (rP : Rd h0 F icell 1 pa P) (hP : P.length ≤ 12) (hPb : ∀ x ∈ P, 1 ≤ x ∧ x ≤ 8) (s : St h0 h (coG β no since stop tasks W X :: F)) (hno : W.length = 0 → ¬ ((tasksL P).length : Int) = tasks) (K : Value → AHeap → Prop) (hk : ∀ h', St h0 h' (coG β no since stop tasks W X :: F) → K (.tuple #[.agg #[.int .i64 0, .slice none 0 0, .slice none 0 0, .slice none 0 0, .slice none 0 0], .bool false]) h') :
  wpF Tryz.prog (.fn 12) [.pointer (some ⟨β, 0, none⟩), .agg #[.int .i64 G, .slice sa sn sc], .slice pa P.length pc] h K := by
 obtain ⟨B, D, s1⟩ := coG_out s
 exact manN_ok (F := _ :: _ :: _ :: F) G sa sn sc pa pc P (rdUps [_, _, _] rP) hP hPb s1 (decide (W.length = 0)) (fun h' F' K up s hk => readyG (coG_in (up _ s)) K hk) (fun h => hno (of_decide_eq_true h)) K fun h' s2 => hk _ (coG_in s2)
theorem sameAck_ok (x y : AckX) (rx : AckRd h0 F x) (ry : AckRd h0 F y) (e1 : y.no = x.no) (e2 : y.task = x.task) (e3 : y.offs = x.offs) (e4 : y.rows = x.rows) (e5 : y.outs = x.outs) (sx : AckSm x) (s : St h0 h F) (K : Value → AHeap → Prop) (hk : ∀ h', St h0 h' F → K (.bool true) h') :
  wpF Tryz.prog (.fn 38) [.agg y.cells.toArray, .agg x.cells.toArray] h K := by
 have hxc : (.agg x.cells.toArray : Value) = .agg #[.int .i64 x.no, .int .i64 x.task, .slice x.oa x.offs.length x.oc, .slice x.ra x.rows.length x.rc, .slice x.ta x.outs.length x.tc] := rfl
 have hyc : (.agg y.cells.toArray : Value) = .agg #[.int .i64 x.no, .int .i64 x.task, .slice y.oa x.offs.length y.oc, .slice y.ra x.rows.length y.rc, .slice y.ta x.outs.length y.tc] := by rw [← e1, ← e2, ← e3, ← e4, ← e5]; rfl
 have h1 := sx.o
 have h2 := sx.r
 have h3 := sx.t
 have ro := ry.o
 have rr := ry.r
 have rt := ry.t
 rw [e3] at ro
 rw [e4] at rr
 rw [e5] at rt
 rw [hxc, hyc]
 refine wpF_fun 38 [.tmp 4] Tryz.func38 rfl rfl rfl rfl ?_
 obtain ⟨bm, ebm⟩ : ∃ b, b = h.next := ⟨_, rfl⟩
 obtain ⟨bn, ebn⟩ : ∃ b, b = bm + 1 := ⟨_, rfl⟩
 have s1 := (s.push (.cells false 0 [.int .i64 x.no, .int .i64 x.task, .slice y.oa x.offs.length y.oc, .slice y.ra x.rows.length y.rc, .slice y.ta x.outs.length y.tc] 33)).push (.cells false 0 [.int .i64 x.no, .int .i64 x.task, .slice x.oa x.offs.length x.oc, .slice x.ra x.rows.length x.rc, .slice x.ta x.outs.length x.tc] 33)
 simp only [AHeap.next_push, ← ebm, ← ebn] at s1
 obtain ⟨h1', e1'⟩ : ∃ h1, h1 = (h.push (.cells false 0 [.int .i64 x.no, .int .i64 x.task, .slice y.oa x.offs.length y.oc, .slice y.ra x.rows.length y.rc, .slice y.ta x.outs.length y.tc] 33)).push (.cells false 0 [.int .i64 x.no, .int .i64 x.task, .slice x.oa x.offs.length x.oc, .slice x.ra x.rows.length x.rc, .slice x.ta x.outs.length x.tc] 33) := ⟨_, rfl⟩
 rw [← e1'] at s1
 refine sr (fun LL hLL => ?_)
 simp only [oxz, simprocAttr, AHeap.next_push, ← ebm, ← ebn, ← e1']
 refine hLL _ _ ?_
 have g2 := s1.get
 have g1 := (s1.mv 1).get
 have s0 := s1.drop.drop
 refine sr (fun LL hLL => ?_)
 simp only [oxk, simprocAttr, g1, g2]
 refine sameInts_ok x.offs y.oa x.oa y.oc x.oc _ _ (ro _ s0) (rx.o _ s0) (by omega) ?_
 simp only [oxk, simprocAttr, g1, g2]
 refine sameRows_ok x.rows y.ra x.ra y.rc x.rc _ _ (rr _ s0) (rx.r _ s0) (by omega) ?_
 simp only [oxk, simprocAttr, g1, g2]
 refine sameRecs_ok x.outs y.ta x.ta y.tc x.tc _ _ (rt _ s0) (rx.t _ s0) (by omega) ?_
 simp only [oxk, simprocAttr]
 refine hLL _ _ ?_
 refine wpC_ret (out_ret ?_)
 simp only [oxz, simprocAttr]
 exact hk _ s0
end
end Go.Proofs.Cd

namespace Go.Proofs.Cd
open Go Go.Ox
set_option maxRecDepth 100000
set_option maxHeartbeats 4000000
/-- What both know: whether one is under way, its number, and so on; whom the coordinator waits for; what each was told. -/
structure Cst where
 c : Bool
 no : Int
 since : Int
 stop : Bool
 tasks : Int
 W : List Int
 X : List AckX
 LX : List AckX
def Cst.idle : Cst := ⟨false, 0, 0, false, 0, [], [], []⟩
structure Cst.Ok (s : Cst) : Prop where
 run : s.c = true → Rl s.tasks.toNat s.W s.X s.LX
 few : s.tasks ≤ 200
 off : s.c = false → s = Cst.idle
theorem Cst.idle_ok : Cst.idle.Ok := ⟨fun h => (by cases h), by decide, fun _ => rfl⟩
def Cst.start (s : Cst) (no tasks : Int) (stop : Bool) (now : Int) : Cst := if s.c = true then s else ⟨true, no, now, stop, tasks, (List.range tasks.toNat).map fun (j : Nat) => (j : Int), [], []⟩
def Cst.code (s : Cst) : Int := if s.c = true then 16 else 0
theorem Cst.Ok.start_ok {s : Cst} (k : s.Ok) (no tasks : Int) (stop : Bool) (now : Int) (h : tasks ≤ 200) : (s.start no tasks stop now).Ok := by
 unfold Cst.start
 split
 ·exact k
 ·exact ⟨fun _ => Rl.new _, h, fun h => (by cases h)⟩
def coX (β : Nat) (s : Cst) : Asn := if s.c = true then coG β s.no s.since s.stop s.tasks s.W s.X else coI β
def rfX (γ : Nat) (s : Cst) : Asn := rfG γ s.c s.no s.tasks s.since s.stop s.LX
theorem rl_len {n : Nat} {W : List Int} {X LX : List AckX} (r : Rl n W X LX) : LX.length ≤ n := by have := r.cnt; omega
theorem Cst.Ok.few2 {s : Cst} (k : s.Ok) : s.LX.length ≤ 200 := by
 cases hc : s.c
 ·rw [k.off hc]; simp [Cst.idle]
 ·have := rl_len (k.run hc); have := k.few; omega
theorem Cst.Ok.smL {s : Cst} (k : s.Ok) : ∀ x ∈ s.LX, AckSm x := by
 cases hc : s.c
 ·rw [k.off hc]; intro x hx; cases hx
 ·exact (k.run hc).sm
/-- Ready alike. -/
theorem Cst.Ok.ready_eq {s : Cst} (k : s.Ok) : (s.c && decide (s.tasks ≤ (s.LX.length : Int))) = (s.c && decide (s.W.length = 0)) := by
 cases hc : s.c
 ·rfl
 ·have h1 := (k.run hc).cnt
  have h2 : decide (s.tasks ≤ (s.LX.length : Int)) = decide (s.W.length = 0) := by
   congr 1
   refine propext ⟨fun h => by omega, fun h => by omega⟩
  rw [h2]
section
variable {h0 h : AHeap} {F : List Asn} {β γ : Nat} {s : Cst}
theorem coX_on (hc : s.c = true) : coX β s = coG β s.no s.since s.stop s.tasks s.W s.X := by unfold coX; rw [if_pos hc]
theorem coX_off (hc : s.c = false) : coX β s = coI β := by unfold coX; rw [if_neg (by rw [hc]; simp)]
theorem coX_mk {c : Bool} {no since : Int} {stop : Bool} {tasks : Int} {W : List Int} {X LX : List AckX} (hc : c = true) : coX β ⟨c, no, since, stop, tasks, W, X, LX⟩ = coG β no since stop tasks W X := if_pos hc
theorem coX_mk0 {c : Bool} {no since : Int} {stop : Bool} {tasks : Int} {W : List Int} {X LX : List AckX} (hc : c = false) : coX β ⟨c, no, since, stop, tasks, W, X, LX⟩ = coI β := if_neg (by rw [hc]; simp)
theorem coStart_ok (no tasks now : Int) (stop : Bool) (ht : tasks ≤ 200) (st : St h0 h (coX β s :: F)) (K : Value → AHeap → Prop) (hk : ∀ h', St h0 h' (coX β (s.start no tasks stop now) :: F) → K (.int .i64 s.code) h') : wpF Tryz.prog (.fn 10) [.pointer (some ⟨β, 0, none⟩), .int .i64 no, .int .i64 tasks, .bool stop, .int .i64 now] h K := by
 unfold Cst.start Cst.code at hk
 cases hc : s.c
 ·rw [if_neg (by rw [hc]; simp), if_neg (by rw [hc]; simp)] at hk
  rw [coX_off hc] at st
  exact startI_ok no tasks now stop (by omega) st K fun h' st' => hk h' (by rw [coX_on rfl]; exact st')
 ·rw [if_pos hc, if_pos hc] at hk
  have st' := st
  rw [coX_on hc] at st'
  exact startY_ok no tasks now stop st' K (hk h st)
theorem rfStart_ok (no tasks now : Int) (stop : Bool) (st : St h0 h (rfX γ s :: F)) (K : Value → AHeap → Prop) (hk : ∀ h', St h0 h' (rfX γ (s.start no tasks stop now) :: F) → K (.int .i64 s.code) h') : wpF Tryz.prog (.fn 34) [.pointer (some ⟨γ, 0, none⟩), .int .i64 no, .int .i64 tasks, .bool stop, .int .i64 now] h K := by
 unfold Cst.start Cst.code at hk
 cases hc : s.c
 ·rw [if_neg (by rw [hc]; simp), if_neg (by rw [hc]; simp)] at hk
  unfold rfX at st
  rw [hc] at st
  exact refStartN no tasks now stop st K fun h' st' => hk h' st'
 ·rw [if_pos hc, if_pos hc] at hk
  have st' := st
  unfold rfX at st'
  rw [hc] at st'
  exact refStartY no tasks now stop st' K (hk h st)
theorem coDrop_ok (st : St h0 h (coX β s :: F)) (K : Value → AHeap → Prop) (hk : ∀ h', St h0 h' (coX β Cst.idle :: F) → K (.tuple #[]) h') : wpF Tryz.prog (.fn 23) [.pointer (some ⟨β, 0, none⟩)] h K := by
 cases hc : s.c
 ·rw [coX_off hc] at st
  exact drop_ok h st K fun h' st' => hk h' (by rw [coX_off rfl]; exact st')
 ·rw [coX_on hc] at st
  exact dropG_ok st K fun h' st' => hk h' (by rw [coX_off rfl]; exact st')
theorem rfDrop_ok (st : St h0 h (rfX γ s :: F)) (K : Value → AHeap → Prop) (hk : ∀ h', St h0 h' (rfX γ Cst.idle :: F) → K (.tuple #[]) h') : wpF Tryz.prog (.fn 43) [.pointer (some ⟨γ, 0, none⟩)] h K := refDrop_ok st K hk
theorem coRunning_ok (k : s.Ok) (st : St h0 h (coX β s :: F)) (K : Value → AHeap → Prop) (hk : K (.tuple #[.int .i64 s.no, .bool s.stop, .int .i64 s.since, .bool s.c]) h) : wpF Tryz.prog (.fn 22) [.pointer (some ⟨β, 0, none⟩)] h K := by
 cases hc : s.c
 ·rw [coX_off hc] at st
  rw [k.off hc] at hk
  exact running_ok h st K hk
 ·rw [coX_on hc] at st
  rw [hc] at hk
  exact runningG_ok st K hk
theorem rfRunning_ok (st : St h0 h (rfX γ s :: F)) (K : Value → AHeap → Prop) (hk : K (.tuple #[.int .i64 s.no, .bool s.stop, .int .i64 s.since, .bool s.c]) h) : wpF Tryz.prog (.fn 44) [.pointer (some ⟨γ, 0, none⟩)] h K := refRunning_ok st K hk
def Cst.rdy (s : Cst) : Bool := s.c && decide (s.W.length = 0)
theorem coReady_ok (st : St h0 h (coX β s :: F)) (K : Value → AHeap → Prop) (hk : K (.bool s.rdy) h) : wpF Tryz.prog (.fn 21) [.pointer (some ⟨β, 0, none⟩)] h K := by
 unfold Cst.rdy at hk
 cases hc : s.c
 ·rw [coX_off hc] at st
  rw [hc] at hk
  exact ready_no h st K hk
 ·rw [coX_on hc] at st
  rw [hc] at hk
  exact readyG st K hk
theorem rfReady_ok (k : s.Ok) (st : St h0 h (rfX γ s :: F)) (K : Value → AHeap → Prop) (hk : K (.bool s.rdy) h) : wpF Tryz.prog (.fn 46) [.pointer (some ⟨γ, 0, none⟩)] h K :=
 refReady_ok st K (by rw [k.ready_eq]; exact hk)
/-- What the coordinator keeps of an answer. -/
def AckC (s : Cst) (x : AckX) (W' : List Int) (X' : List AckX) : Prop :=
 ((s.c = true ∧ x.no = s.no ∧ x.task ∈ s.W) ∧ ∃ oa oc ra rc ta tc, W' = s.W.erase x.task ∧ X' = s.X ++ [x.mv oa oc ra rc ta tc]) ∨ (¬ (s.c = true ∧ x.no = s.no ∧ x.task ∈ s.W) ∧ W' = s.W ∧ X' = s.X)
/-- What the reference keeps of it. -/
def AckR (s : Cst) (x : AckX) (LX' : List AckX) : Prop :=
 ((s.c = true ∧ x.no = s.no ∧ x.task ∈ s.W) ∧ ∃ y : AckX, LX' = s.LX ++ [y] ∧ y.task = x.task ∧ y.cont = x.cont) ∨ (¬ (s.c = true ∧ x.no = s.no ∧ x.task ∈ s.W) ∧ LX' = s.LX)
theorem coAck_ok (k : s.Ok) (x : AckX) (ax : AckRd h0 F x) (sx : AckSm x) (st : St h0 h (coX β s :: F)) (K : Value → AHeap → Prop) (hk : ∀ W' X' h', AckC s x W' X' → St h0 h' (coX β ⟨s.c, s.no, s.since, s.stop, s.tasks, W', X', s.LX⟩ :: F) → K (.tuple #[]) h') : wpF Tryz.prog (.fn 20) [.pointer (some ⟨β, 0, none⟩), .agg x.cells.toArray] h K := by
 cases hc : s.c
 ·rw [coX_off hc] at st
  exact ackI_ok x st K fun h' st' => hk s.W s.X h' (.inr ⟨fun h => (by rw [hc] at h; cases h.1), rfl, rfl⟩) (by rw [coX_mk0 hc]; exact st')
 ·rw [coX_on hc] at st
  refine ackG_ok x ax sx (fun hx => (k.run hc).q.fresh hx) st K (fun h1 h2 oa oc ra rc ta tc h' st' => hk _ _ h' (.inl ⟨⟨hc, h1, h2⟩, oa, oc, ra, rc, ta, tc, rfl, rfl⟩) (by rw [coX_mk hc]; exact st')) (fun h1 h' st' => hk s.W s.X h' (.inr ⟨fun h => h1 h.2, rfl, rfl⟩) (by rw [coX_mk hc]; exact st'))
theorem rfAck_ok (k : s.Ok) (x : AckX) (ax : AckRd h0 F x) (sx : AckSm x) (st : St h0 h (rfX γ s :: F)) (K : Value → AHeap → Prop) (hk : ∀ LX' h', AckR s x LX' → St h0 h' (rfX γ ⟨s.c, s.no, s.since, s.stop, s.tasks, s.W, s.X, LX'⟩ :: F) → K (.tuple #[]) h') : wpF Tryz.prog (.fn 42) [.pointer (some ⟨γ, 0, none⟩), .agg x.cells.toArray] h K := by
 have hf := k.few2
 refine refAck_ok x ax sx (by omega) st K (fun h1 h2 h3 h4 h5 y h' e1 e2 st' => hk _ h' (.inl ⟨⟨h1, h2, ?_⟩, y, rfl, e1, e2⟩) st') (fun h1 h' st' => hk _ h' (.inr ⟨fun h => h1 ?_, rfl⟩) st')
 ·exact ((k.run h1).nw x).2 ⟨h3, by omega, h5⟩
 ·obtain ⟨h2, h3, h4⟩ := h
  obtain ⟨k1, k2, k3⟩ := ((k.run h2).nw x).1 h4
  exact ⟨h2, h3, k1, by omega, k3⟩
theorem ack_join (k : s.Ok) {x y : AckX} (sy : AckSm y) (f1 : y.no = x.no) (f2 : y.task = x.task) (f3 : y.cont = x.cont) {W' : List Int} {X' LX' : List AckX} (h1 : AckC s y W' X') (h2 : AckR s x LX') : Cst.Ok ⟨s.c, s.no, s.since, s.stop, s.tasks, W', X', LX'⟩ := by
 have e : (s.c = true ∧ y.no = s.no ∧ y.task ∈ s.W) ↔ (s.c = true ∧ x.no = s.no ∧ x.task ∈ s.W) := by rw [f1, f2]
 rcases h1 with ⟨a, oa, oc, ra, rc, ta, tc, rfl, rfl⟩ | ⟨a, rfl, rfl⟩
 ·rcases h2 with ⟨_, z, rfl, e1, e2⟩ | ⟨b, _⟩
  ·exact ⟨fun hc => (k.run a.1).hit sy a.2.2 (e1.trans f2.symm) (e2.trans f3.symm) oa oc ra rc ta tc, k.few, fun hc => by have h1 := a.1; have h2 : s.c = false := hc; rw [h1] at h2; cases h2⟩
  ·exact absurd (e.1 a) b
 ·rcases h2 with ⟨b, _⟩ | ⟨_, rfl⟩
  ·exact absurd (e.2 b) a
  ·exact k
/-- Whether there is a checkpoint; what it is made of. -/
def Cst.mrd (s : Cst) (P : List Int) : Bool := s.rdy && decide (((tasksL P).length : Int) = s.tasks)
def mNo (s : Cst) (P : List Int) : Int := if s.mrd P = true then s.no else 0
def mP (s : Cst) (P : List Int) : List Int := if s.mrd P = true then P else []
def mO (s : Cst) (L : List OpX) (P : List Int) : List (List Int) := if s.mrd P = true then manO L P (contX s.LX) else []
def mR (s : Cst) (G : Int) (L : List OpX) (P : List Int) : List (List Rwc) := if s.mrd P = true then manR G L P (contX s.LX) else []
def mT (s : Cst) (L : List OpX) (P : List Int) : List (List Rc2) := if s.mrd P = true then manT L P (contX s.LX) else []
def mN (s : Cst) (L : List OpX) (P : List Int) : Nat := if s.mrd P = true then L.length else 0
theorem mO_len (s : Cst) (L : List OpX) (P : List Int) : (mO s L P).length = mN s L P := by unfold mO mN; split; exact manO_len _ _ _; rfl
theorem mR_len (s : Cst) (G : Int) (L : List OpX) (P : List Int) : (mR s G L P).length = mN s L P := by unfold mR mN; split; exact manR_len _ _ _ _; rfl
theorem mT_len (s : Cst) (L : List OpX) (P : List Int) : (mT s L P).length = mN s L P := by unfold mT mN; split; exact manT_len _ _ _; rfl
theorem m_small (k : s.Ok) {G : Int} {L : List OpX} {P : List Int} (hT : (tasksL P).length ≤ 1000) (hpt : ∀ x ∈ L, x.kind = 1 → 1 ≤ x.parts ∧ x.parts ≤ 8) : (∀ x ∈ mO s L P, x.length < 1000000) ∧ (∀ x ∈ mR s G L P, x.length < 1000000) ∧ (∀ x ∈ mT s L P, x.length < 1000000) := by
 obtain ⟨h1, h2, h3⟩ := man_small (G := G) (L := L) (P := P) (C := contX s.LX) hT hpt (fun t _ => contX_sm k.smL t)
 unfold mO mR mT
 refine ⟨?_, ?_, ?_⟩ <;> split <;> first | assumption | (intro x hx; cases hx)
theorem mrd_on {P : List Int} (h : s.mrd P = true) : s.c = true ∧ s.W = [] ∧ ((tasksL P).length : Int) = s.tasks := by
 unfold Cst.mrd Cst.rdy at h
 simp only [Bool.and_eq_true, decide_eq_true_eq] at h
 exact ⟨h.1.1, List.length_eq_zero_iff.1 h.1.2, h.2⟩
theorem coMan_ok (k : s.Ok) (G : Int) (sa : Option Addr) (sc : Nat) (L : List OpX) (sp : SpR h0 sa L) (hn : L.length ≤ 12) (hpt : ∀ x ∈ L, x.kind = 1 → 1 ≤ x.parts ∧ x.parts ≤ 8) (pa : Option Addr) (pc : Nat) (P : List Int) (rP : Rd h0 F icell 1 pa P) (nP : pa = none → P = [] ∧ pc = 0) (hP : P.length = L.length) (hPb : ∀ x ∈ P, 1 ≤ x ∧ x ≤ 8) (st : St h0 h (coX β s :: F)) (K : Value → AHeap → Prop)
  (hk : ∀ qa qc a1 c1 a2 c2 a3 c3 h', St h0 h' (wn icell 1 3 qa qc (mP s P) :: nest icell 1 3 25 a1 c1 (mO s L P) :: nest rcell 3 63 30 a2 c2 (mR s G L P) :: nest r2cell 2 65 31 a3 c3 (mT s L P) :: coX β s :: F) →
   K (.tuple #[.agg #[.int .i64 (mNo s P), .slice qa (mP s P).length qc, .slice a1 (mN s L P) c1, .slice a2 (mN s L P) c2, .slice a3 (mN s L P) c3], .bool (s.mrd P)]) h') :
  wpF Tryz.prog (.fn 12) [.pointer (some ⟨β, 0, none⟩), .agg #[.int .i64 G, .slice sa L.length sc], .slice pa P.length pc] h K := by
 cases hm : s.mrd P
 ·have e : ¬ s.mrd P = true := by rw [hm]; simp
  unfold mNo mP mO mR mT mN at hk
  simp only [if_neg e] at hk
  rw [hm] at hk
  have fin : ∀ h', St h0 h' (coX β s :: F) → K (.tuple #[.agg #[.int .i64 0, .slice none 0 0, .slice none 0 0, .slice none 0 0, .slice none 0 0], .bool false]) h' := fun h' st' => hk none 0 none 0 none 0 none 0 h' (((st'.nest_nil.nest_nil).nest_nil).wn_nil)
  cases hc : s.c
  ·rw [coX_off hc] at st fin
   exact manI_ok G sa L.length sc pa pc P rP (by omega) hPb st K fin
  ·rw [coX_on hc] at st fin
   refine manG_ok G sa L.length sc pa pc P rP (by omega) hPb st (fun hw ht => e ?_) K fin
   unfold Cst.mrd Cst.rdy
   rw [hc, hw, ht]; simp
 ·obtain ⟨hc, hW, ht⟩ := mrd_on hm
  have r := k.run hc
  unfold mNo mP mO mR mT mN at hk
  simp only [if_pos hm] at hk
  rw [hm] at hk
  rw [coX_on hc] at st hk
  rw [hW] at st hk r
  rw [← ht] at st hk r
  rw [Int.toNat_natCast] at r
  obtain ⟨e1, e2, e3⟩ := man_cong (G := G) (L := L) (P := P) (C := contX s.X) (C' := contX s.LX) fun t h => (r.cont h).2.2
  rw [← e1, ← e2, ← e3] at hk
  exact manifest_ok G sa sc L sp hn hpt pa pc P rP nP hP hPb β s.no s.since s.stop s.X r.q.sm (fun t h => (r.cont h).1) h st K fun qa qc b1 b2 b3 h' st' => hk qa qc _ _ _ _ _ _ h' st'
theorem rfMan_ok (k : s.Ok) (G : Int) (sa : Option Addr) (sc : Nat) (L : List OpX) (sp : SpR h0 sa L) (hn : L.length ≤ 12) (hpt : ∀ x ∈ L, x.kind = 1 → 1 ≤ x.parts ∧ x.parts ≤ 8) (pa : Option Addr) (pc : Nat) (P : List Int) (rP : Rd h0 F icell 1 pa P) (hP : P.length = L.length) (hPb : ∀ x ∈ P, 1 ≤ x ∧ x ≤ 8) (st : St h0 h (rfX γ s :: F)) (K : Value → AHeap → Prop)
  (hk : ∀ qa qc a1 c1 a2 c2 a3 c3 h', St h0 h' (wn icell 1 3 qa qc (mP s P) :: nest icell 1 3 25 a1 c1 (mO s L P) :: nest rcell 3 63 30 a2 c2 (mR s G L P) :: nest r2cell 2 65 31 a3 c3 (mT s L P) :: rfX γ s :: F) →
   K (.tuple #[.agg #[.int .i64 (mNo s P), .slice qa (mP s P).length qc, .slice a1 (mN s L P) c1, .slice a2 (mN s L P) c2, .slice a3 (mN s L P) c3], .bool (s.mrd P)]) h') :
  wpF Tryz.prog (.fn 45) [.pointer (some ⟨γ, 0, none⟩), .agg #[.int .i64 G, .slice sa L.length sc], .slice pa P.length pc] h K := by
 have hf := k.few2
 cases hm : s.mrd P
 ·have e : ¬ s.mrd P = true := by rw [hm]; simp
  unfold mNo mP mO mR mT mN at hk
  simp only [if_neg e] at hk
  rw [hm] at hk
  have fin : ∀ h', St h0 h' (rfX γ s :: F) → K (.tuple #[.agg #[.int .i64 0, .slice none 0 0, .slice none 0 0, .slice none 0 0, .slice none 0 0], .bool false]) h' := fun h' st' => hk none 0 none 0 none 0 none 0 h' (((st'.nest_nil.nest_nil).nest_nil).wn_nil)
  refine refManN_ok G sa L.length sc pa pc P rP (by omega) hPb h st (fun hr ht => e ?_) K fin
  rw [k.ready_eq] at hr
  unfold Cst.mrd Cst.rdy
  rw [hr, ht]; simp
 ·obtain ⟨hc, hW, ht⟩ := mrd_on hm
  have r := k.run hc
  unfold mNo mP mO mR mT mN at hk
  simp only [if_pos hm] at hk
  rw [hm] at hk
  unfold rfX at st hk
  have hcnt := r.cnt
  rw [hW] at hcnt
  rw [hc, ← ht] at st hk
  exact refManY_ok G sa sc L sp hn hpt pa pc P rP hP hPb (by omega) k.smL (by simp at hcnt; omega) h st K fun qa qc a1 c1 a2 c2 a3 c3 h' st' => hk qa qc _ _ _ _ _ _ h' st'
end
end Go.Proofs.Cd

