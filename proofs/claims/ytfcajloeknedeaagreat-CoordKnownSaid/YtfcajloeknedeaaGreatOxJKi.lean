/-
  A part of the proof: what functions of the program do on an abstract heap. CONDITIONS: none.
-/
import Derived.Test.YtfcajloeknedeaaGreatOxJKh
import Derived.Test.YtfcajloeknedeaaGreatOxJKf
set_option linter.unusedSimpArgs false
set_option linter.unusedVariables false
namespace Go.Proofs.Cd
open Go Go.Ox
set_option maxRecDepth 100000
set_option maxHeartbeats 16000000
/-- A call, as it lies. -/
structure ActX where
 kind : Int
 n : Int
 tasks : Int
 now : Int
 stop : Bool
 a : AckX
def ActX.cells (x : ActX) : List Value := [.int .i64 x.kind, .int .i64 x.n, .int .i64 x.tasks, .int .i64 x.now, .bool x.stop, .int .i64 x.a.no, .int .i64 x.a.task, .slice x.a.oa x.a.offs.length x.a.oc, .slice x.a.ra x.a.rows.length x.a.rc, .slice x.a.ta x.a.outs.length x.a.tc]
theorem ActX.len (x : ActX) : x.cells.length = 10 := rfl
theorem ActX.ones (x : ActX) : x.cells.all Value.oneCell' = true := rfl
def ActSm (x : ActX) : Prop := x.tasks ≤ 200 ∧ AckSm x.a
theorem longL_ok (la : Option Addr) (lc : Nat) (l : List ActX) (h : AHeap) (rl : Rs ActX.cells 10 h la l) (hl : l.length < 17592186044000) (K : Value → AHeap → Prop) (hk : ∀ q : Bool, (q = false → l.length ≤ 200 ∧ ∀ x ∈ l, ActSm x) → K (.bool q) h) : wpF Tryz.prog (.fn 7) [.slice la l.length lc] h K := by
 refine wpF_fun 49 [.tmp 2] Tryz.func7 rfl rfl rfl rfl ?_
 refine sr (fun LL hLL => ?_)
 simp only [oxz, simprocAttr]
 refine hLL _ _ ?_
 refine sm (fun T h' => h' = h ∧ ∃ (R : List Value), (∀ x ∈ l, ActSm x) ∧ T = .slice la l.length lc :: R) ?_ ?_
 ·refine sr (fun LL hLL => ?_)
  simp only [oxz, simprocAttr]
  refine hLL _ _ ?_
  refine wpC_block ?_
  refine wpC_loop (fun m T h' => h' = h ∧ ∃ (i : Nat) (R : List Value), m + i = l.length ∧ (∀ x ∈ l.take i, ActSm x) ∧ T = .slice la l.length lc :: R ∧ tget R 2 = .int .i64 i) ?_ l.length _ _ ⟨rfl, 0, _, by omega, by simp, rfl, rfl⟩
  rintro m T h' ⟨rfl, i, R, hmi, hs, rfl, q⟩
  refine wpC_seq (sr fun LL hLL => ?_)
  simp only [oxz, simprocAttr, q]
  refine hLL _ _ ?_
  refine wpC_if ?_
  simp only [oxz, simprocAttr]
  refine gC_of (fun hc => ?_) (fun hc => ?_)
  ·refine wpC_skip ?_
   simp only [oxz, simprocAttr]
   have hi : i < l.length := by omega
   obtain ⟨bq, oq, roq, szq, Cq, Tq, eq, pq, gq, rq, qq⟩ := rl.resolve_left (by rintro rfl; simp at hi)
   have v2 : Cq[oq + i * 10 + 2]? = some (.int .i64 l[i].tasks) := by rw [Nat.add_assoc]; exact Rs.cell ActX.len rq qq i hi 2 (by omega)
   have v7 : Cq[oq + i * 10 + 5 + 2]? = some (.slice l[i].a.oa l[i].a.offs.length l[i].a.oc) := by rw [Nat.add_assoc, Nat.add_assoc]; exact Rs.cell ActX.len rq qq i hi 7 (by omega)
   have v8 : Cq[oq + i * 10 + 5 + 3]? = some (.slice l[i].a.ra l[i].a.rows.length l[i].a.rc) := by rw [Nat.add_assoc, Nat.add_assoc]; exact Rs.cell ActX.len rq qq i hi 8 (by omega)
   have v9 : Cq[oq + i * 10 + 5 + 4]? = some (.slice l[i].a.ta l[i].a.outs.length l[i].a.tc) := by rw [Nat.add_assoc, Nat.add_assoc]; exact Rs.cell ActX.len rq qq i hi 9 (by omega)
   obtain ⟨x, ex⟩ : ∃ x, x = l[i] := ⟨_, rfl⟩
   rw [← ex] at v2 v7 v8 v9
   obtain ⟨p0, d0⟩ := dq (200 < x.tasks)
   obtain ⟨p1, d1⟩ := dq (100 < (x.a.offs.length : Int))
   obtain ⟨p2, d2⟩ := dq (100 < (x.a.rows.length : Int))
   obtain ⟨p3, d3⟩ := dq (100 < (x.a.outs.length : Int))
   refine wpC_seq (wpC_block ?_)
   rw [eq]
   cases p0 <;> cases p1 <;> cases p2 <;> cases p3
   all_goals
    refine sr (fun LL hLL => ?_)
    simp only [oxz, simprocAttr, q, ixF hi, gq, v2, v7, v8, v9, d0, d1, d2, d3]
    refine hLL _ _ ?_
    refine wpC_if ?_
    simp only [oxz, simprocAttr]
   ·refine wpC_skip ?_
    simp only [oxz, simprocAttr]
    refine rg (fun LL hLL => ?_)
    simp only [oxz, simprocAttr, q, wsucc (show i < 9223372036854775807 by omega)]
    refine hLL _ _ ?_
    simp only [oxz, simprocAttr]
    refine ⟨m - 1, by omega, i + 1, _, by omega, fun y hy => ?_, rfl, by simp [tget_tput]⟩
    rw [List.take_succ_eq_append_getElem hi] at hy
    rcases List.mem_append.1 hy with hy | hy
    ·exact hs y hy
    ·obtain rfl := List.mem_singleton.1 hy
     rw [← ex]
     exact ⟨by have := of_decide_eq_false d0; omega, by have := of_decide_eq_false d1; omega, by have := of_decide_eq_false d2; omega, by have := of_decide_eq_false d3; omega⟩
   all_goals
    refine sr (fun LL hLL => ?_)
    simp only [oxz, simprocAttr]
    refine hLL _ _ ?_
    refine wpC_ret (out_ret ?_)
    simp only [oxz, simprocAttr]
    exact hk _ (fun h => by cases h)
  ·have hil : i = l.length := by omega
   subst hil
   rw [List.take_length] at hs
   refine wpC_exit ?_
   simp only [oxz, simprocAttr]
   exact ⟨_, hs, rfl⟩
 rintro T h' ⟨rfl, R, hs, rfl⟩
 by_cases h2 : 200 < (l.length : Int)
 ·refine sr (fun LL hLL => ?_)
  simp only [oxz, simprocAttr, eq_true h2]
  refine hLL _ _ ?_
  refine wpC_ret (out_ret ?_)
  simp only [oxz, simprocAttr]
  exact hk _ fun h => by cases h
 ·refine sr (fun LL hLL => ?_)
  simp only [oxz, simprocAttr, eq_false h2]
  refine hLL _ _ ?_
  refine wpC_ret (out_ret ?_)
  simp only [oxz, simprocAttr]
  exact hk _ fun _ => ⟨by omega, hs⟩
theorem wn_none {α : Type} {f : α → List Value} {k : Nat} {e : TypeId} {a : Option Addr} {c : Nat} {L : List α} {G : List Asn} {h0 h : AHeap} (s : St h0 h (wn f k e a c L :: G)) (ha : a = none) : L = [] ∧ c = 0 := s.know fun B hB _ => wn_nilcap hB ha
theorem runs_body (g : Int) (sa : Option Addr) (sc : Nat) (L : List OpX) (pa : Option Addr) (pc : Nat) (P : List Int) (la : Option Addr) (lc : Nat) (l : List ActX) (h : AHeap) (sp : SpR h sa L) (rP : Rs icell 1 h pa P) (nP : pa = none → P = [] ∧ pc = 0) (hP : P.length < 17592186045000)
  (rl : Rs ActX.cells 10 h la l) (hl : l.length < 17592186044000) (rx : ∀ x ∈ l, AckRs h x.a) (K : Value → AHeap → Prop) (hk : ∀ h', Fr h h' [] → K (.bool true) h') :
  wpF Tryz.prog (.fn 15) [.agg #[.int .i64 g, .slice sa L.length sc], .slice pa P.length pc, .slice la l.length lc] h K := by
 have s0 := St.init h
 refine wpF_fun 191 [.tmp 6] Tryz.func15 rfl rfl rfl rfl ?_
 have s1 := s0.push (spB g sa L.length sc)
 obtain ⟨h1, e1⟩ : ∃ h1, h1 = h.push (spB g sa L.length sc) := ⟨_, rfl⟩
 obtain ⟨bs, ebs⟩ : ∃ b, b = h.next := ⟨_, rfl⟩
 rw [← e1, ← ebs] at s1
 refine sr (fun LL hLL => ?_)
 simp only [oxz, simprocAttr]
 refine hLL _ _ ?_
 rw [← e1, ← ebs]
 clear e1
 have gs := s1.get
 refine sm (fun T h' => ∃ (u0 u4 u5 : Value) (R : List Value), JbOk g L P ∧ l.length ≤ 200 ∧ (∀ x ∈ l, ActSm x) ∧ St h h' [own bs (spB g sa L.length sc)] ∧ T = u0 :: .slice pa P.length pc :: .slice la l.length lc :: .pointer (some ⟨bs, 0, none⟩) :: u4 :: u5 :: .bool false :: R) ?_ ?_
 ·refine sr (fun LL hLL => ?_)
  simp only [oxk, simprocAttr, gs]
  refine right_ok g sa sc L sp pa pc P (Rd.of_base rP) hP _ s1 _ fun q h2 hq s2 => ?_
  cases q
  ·simp only [oxk, simprocAttr]
   refine hLL _ _ ?_
   refine wpC_if ?_
   simp only [oxz, simprocAttr]
   refine sr (fun LL hLL => ?_)
   simp only [oxz, simprocAttr]
   refine wpF_ext rfl ?_
   refine hLL _ _ ?_
   refine wpC_ret (out_ret ?_)
   simp only [oxz, simprocAttr]
   exact hk _ s2.base
  simp only [oxk, simprocAttr]
  refine longL_ok la lc l _ (rl.fr s2.base) hl _ fun q2 hq2 => ?_
  cases q2
  ·simp only [oxk, simprocAttr]
   refine hLL _ _ ?_
   refine wpC_if ?_
   simp only [oxz, simprocAttr]
   refine wpC_skip ?_
   simp only [oxz, simprocAttr]
   exact ⟨_, _, _, _, hq rfl, (hq2 rfl).1, (hq2 rfl).2, s2, rfl⟩
  ·simp only [oxk, simprocAttr]
   refine hLL _ _ ?_
   refine wpC_if ?_
   simp only [oxz, simprocAttr]
   refine sr (fun LL hLL => ?_)
   simp only [oxz, simprocAttr]
   refine wpF_ext rfl ?_
   refine hLL _ _ ?_
   refine wpC_ret (out_ret ?_)
   simp only [oxz, simprocAttr]
   exact hk _ s2.base
 clear s1 gs
 rintro T h2 ⟨u0, u4, u5, R, jb, hl2, hsm, s1, rfl⟩
 have hpt := jb.sp.parts
 have hL12 := jb.sp.n12
 have hP8 : ∀ x ∈ P, 1 ≤ x ∧ x ≤ 8 := fun x hx => ⟨(jb.par x hx).1, (jb.par x hx).2.1⟩
 have hT12 := preT_few P (B := 8) (fun x hx => (hP8 x hx).2) P.length
 have hTL : (tasksL P).length ≤ 96 := by unfold tasksL; have := jb.len; omega
 have sv : ∀ (a : Option Addr) (m n : Nat), veq 6 (.slice a m n) (.slice a m n) = true := by intro a m n; simp [veq]
 refine sr (fun LL hLL => ?_)
 simp only [oxz, simprocAttr]
 refine newG_ok _ s1 _ fun β h3 s3 => ?_
 refine hLL _ _ ?_
 refine sr (fun LL hLL => ?_)
 simp only [oxk, simprocAttr]
 refine refNew_ok s3 _ fun γ h4 s4 => ?_
 simp only [oxk, simprocAttr]
 refine hLL _ _ ?_
 refine wpC_seq (sr fun LL hLL => ?_)
 simp only [oxz, simprocAttr, neNil]
 refine hLL _ _ ?_
 refine wpC_if ?_
 simp only [oxz, simprocAttr]
 refine wpC_skip ?_
 simp only [oxz, simprocAttr]
 clear s1 s3
 have s5 : St h h4 [coX β Cst.idle, rfX γ Cst.idle, own bs (spB g sa L.length sc)] := s4.mv 1
 clear s4
 refine sm (fun T h' => ∃ (u0 u4 u5 : Value) (R : List Value), St h h' [own bs (spB g sa L.length sc)] ∧ T = u0 :: .slice pa P.length pc :: .slice la l.length lc :: .pointer (some ⟨bs, 0, none⟩) :: u4 :: u5 :: .bool false :: R) ?_ ?_
 ·refine sr (fun LL hLL => ?_)
  simp only [oxz, simprocAttr]
  refine hLL _ _ ?_
  refine wpC_block ?_
  refine wpC_loop (fun m T h' => ∃ (i : Nat) (s : Cst) (u0 u4 u5 : Value) (R : List Value), m + i = l.length ∧ s.Ok ∧ St h h' [coX β s, rfX γ s, own bs (spB g sa L.length sc)] ∧ T = u0 :: .slice pa P.length pc :: .slice la l.length lc :: .pointer (some ⟨bs, 0, none⟩) :: u4 :: u5 :: .bool false :: R ∧ tget R 0 = .pointer (some ⟨β, 0, none⟩) ∧ tget R 1 = .pointer (some ⟨γ, 0, none⟩) ∧ tget R 2 = .int .i64 i) ?_ l.length _ _ ⟨0, Cst.idle, _, _, _, _, by omega, Cst.idle_ok, s5, rfl, by simp [tget_tput], by simp [tget_tput], by simp [tget_tput]⟩
  clear s5
  rintro m T h3 ⟨i, s, u0, u4, u5, R, hmi, ks, s1, rfl, q0, q1, q2⟩
  refine wpC_seq (sr fun LL hLL => ?_)
  simp only [oxz, simprocAttr, q2]
  refine hLL _ _ ?_
  refine wpC_if ?_
  simp only [oxz, simprocAttr]
  refine gC_of (fun hc => ?_) (fun hc => ?_)
  ·refine wpC_skip ?_
   simp only [oxz, simprocAttr]
   have hi : i < l.length := by omega
   obtain ⟨bq, oq, roq, szq, Cq, Tq, eq, pq, gq0, rq, qq⟩ := rl.resolve_left (by rintro rfl; simp at hi)
   have gq := s1.base.at gq0 pq (by simp)
   obtain ⟨wq, xq⟩ := Rs.row ActX.len rq qq i hi
   have ax := rx _ (List.getElem_mem hi)
   have sx := hsm _ (List.getElem_mem hi)
   obtain ⟨x, ex⟩ : ∃ x, x = l[i] := ⟨_, rfl⟩
   rw [← ex] at wq ax sx
   unfold ActX.cells at wq
   have s2 := (s1.push (.cells false 0 [.int .i64 0, .int .i64 0, .int .i64 0, .int .i64 0, .bool false, .int .i64 0, .int .i64 0, .slice none 0 0, .slice none 0 0, .slice none 0 0] 35)).set (.cells false 0 [.int .i64 x.kind, .int .i64 x.n, .int .i64 x.tasks, .int .i64 x.now, .bool x.stop, .int .i64 x.a.no, .int .i64 x.a.task, .slice x.a.oa x.a.offs.length x.a.oc, .slice x.a.ra x.a.rows.length x.a.rc, .slice x.a.ta x.a.outs.length x.a.tc] 35)
   have gz := (s1.push (.cells false 0 [.int .i64 0, .int .i64 0, .int .i64 0, .int .i64 0, .bool false, .int .i64 0, .int .i64 0, .slice none 0 0, .slice none 0 0, .slice none 0 0] 35)).get
   obtain ⟨ba, eba⟩ : ∃ b, b = h3.next := ⟨_, rfl⟩
   obtain ⟨h4, e4⟩ : ∃ h4, h4 = (h3.push (.cells false 0 [.int .i64 0, .int .i64 0, .int .i64 0, .int .i64 0, .bool false, .int .i64 0, .int .i64 0, .slice none 0 0, .slice none 0 0, .slice none 0 0] 35)).set h3.next (.cells false 0 [.int .i64 x.kind, .int .i64 x.n, .int .i64 x.tasks, .int .i64 x.now, .bool x.stop, .int .i64 x.a.no, .int .i64 x.a.task, .slice x.a.oa x.a.offs.length x.a.oc, .slice x.a.ra x.a.rows.length x.a.rc, .slice x.a.ta x.a.outs.length x.a.tc] 35) := ⟨_, rfl⟩
   refine wpC_seq (wpC_block ?_)
   rw [eq]
   refine sr (fun LL hLL => ?_)
   simp only [oxz, simprocAttr, q2, ixF hi, gq, wq, xq, ActX.len, gz]
   refine hLL _ _ ?_
   rw [← e4, ← eba] at s2
   rw [← e4, ← eba]
   clear e4 gz s1 gq
   refine sr (fun LL hLL => ?_)
   simp only [oxz, simprocAttr]
   refine hLL _ _ ?_
   have ga := s2.get
   refine sm (fun T h' => ∃ (s' : Cst) (u0 u4 u5 : Value) (R : List Value), s'.Ok ∧ St h h' [coX β s', rfX γ s', own bs (spB g sa L.length sc)] ∧ T = u0 :: .slice pa P.length pc :: .slice (some ⟨bq, oq, none⟩) l.length lc :: .pointer (some ⟨bs, 0, none⟩) :: u4 :: u5 :: .bool false :: R ∧ tget R 0 = .pointer (some ⟨β, 0, none⟩) ∧ tget R 1 = .pointer (some ⟨γ, 0, none⟩) ∧ tget R 2 = .int .i64 i ∧ tget R 4 = .bool true) ?_ ?_
   ·refine sr (fun LL hLL => ?_)
    simp only [oxz, simprocAttr, ga]
    refine hLL _ _ ?_
    refine wpC_block ?_
    by_cases k0 : x.kind = 0
    ·refine sr (fun LL hLL => ?_)
     simp only [oxz, simprocAttr, k0]
     refine hLL _ _ ?_
     refine wpC_if ?_
     simp only [oxz, simprocAttr]
     have hd : decide (s.code = s.code) = true := by simp
     refine dw [0, 1, 2, 3, 4, 5, 6, 7, 8, 10, 11, 12, 13, 14, 15, 16, 17, 18, 9, 19, 20, 21] [0, 0, 2, 0, 8, 0, 32, 0, 128, 0, 0, 2048, 0, 8192, 0, 32768, 0, 131072, 511, 524287, 1048575, 2097151] (by decide +kernel) (by decide +kernel) (by decide +kernel) (fun LL hLL => ?_)
     simp only [oxk, simprocAttr, q0, q1, ga]
     refine coStart_ok x.n x.tasks x.now x.stop sx.1 (s2.mv 1) _ fun h5 s3 => ?_
     have ga3 := (s3.mv 1).get
     simp only [oxk, simprocAttr, q0, q1, ga, ga3]
     refine rfStart_ok x.n x.tasks x.now x.stop (s3.mv 2) _ fun h6 s4 => ?_
     have ga4 := (s4.mv 2).get
     simp only [oxk, simprocAttr, q0, q1, ga4]
     refine hLL _ _ ?_
     simp only [oxz, simprocAttr]
     exact ⟨s.start x.n x.tasks x.stop x.now, _, _, _, _, ks.start_ok x.n x.tasks x.stop x.now sx.1, s4.sel 3 [1, 0], rfl, by simp [tget_tput, q0], by simp [tget_tput, q1], by simp [tget_tput, q2], by simp [tget_tput]⟩
    by_cases k1 : x.kind = 1
    ·refine sr (fun LL hLL => ?_)
     simp only [oxz, simprocAttr, eq_false k0]
     refine hLL _ _ ?_
     refine wpC_if ?_
     simp only [oxz, simprocAttr]
     refine sr (fun LL hLL => ?_)
     simp only [oxz, simprocAttr, k1]
     refine hLL _ _ ?_
     refine wpC_if ?_
     simp only [oxz, simprocAttr]
     have h100 := sx.2
     have hb1 := h100.o
     have hb2 := h100.r
     have hb3 := h100.t
     have s3 := s2.push (.cells false 0 [.int .i64 0, .int .i64 0, .slice none 0 0, .slice none 0 0, .slice none 0 0] 33)
     obtain ⟨bb, ebb⟩ : ∃ b, b = h4.next := ⟨_, rfl⟩
     obtain ⟨h4p, e4p⟩ : ∃ x, x = h4.push (.cells false 0 [.int .i64 0, .int .i64 0, .slice none 0 0, .slice none 0 0, .slice none 0 0] 33) := ⟨_, rfl⟩
     rw [← e4p, ← ebb] at s3
     have ga3 := (s3.mv 1).get
     refine sd [0, 1, 2, 3, 4, 5, 6, 7, 8, 10, 11, 12, 14, 15, 16, 19, 9, 13, 17, 18, 20] [0, 1, 3, 0, 8, 24, 0, 64, 192, 0, 1024, 3072, 0, 16384, 49152, 0, 448, 8128, 131008, 262143, 1048575] (by decide +kernel) (by decide +kernel) (by decide +kernel) (fun LL hLL => ?_)
     simp only [oxk, simprocAttr, ga, ← e4p, ← ebb, ga3, sv]
     refine copyInts_ok x.a.offs x.a.oa x.a.oc _ (Rd.of_base ax.o) (by omega) s3 _ fun b1 d1 h5 s4 => ?_
     have ga4 := (s4.mv 2).get
     simp only [oxk, simprocAttr, ga4, sv]
     refine copyRows_ok x.a.rows x.a.ra x.a.rc _ (Rd.of_base ax.r) (by omega) s4 _ fun b2 d2 h6 s5 => ?_
     have ga5 := (s5.mv 3).get
     simp only [oxk, simprocAttr, ga5, sv]
     refine copyRecs_ok x.a.outs x.a.ta x.a.tc _ (Rd.of_base ax.t) (by omega) s5 _ fun b3 d3 h7 s6 => ?_
     have ga6 := (s6.mv 4).get
     have gb6 := (s6.mv 3).get
     have s7 := (s6.mv 3).set (.cells false 0 [.int .i64 x.a.no, .int .i64 x.a.task, .slice b1 x.a.offs.length d1, .slice b2 x.a.rows.length d2, .slice b3 x.a.outs.length d3] 33)
     simp only [oxk, simprocAttr, ga6, gb6, sv]
     refine hLL _ _ ?_
     obtain ⟨h8, e8⟩ : ∃ hh, hh = h7.set bb (.cells false 0 [.int .i64 x.a.no, .int .i64 x.a.task, .slice b1 x.a.offs.length d1, .slice b2 x.a.rows.length d2, .slice b3 x.a.outs.length d3] 33) := ⟨_, rfl⟩
     rw [← e8] at s7 ⊢
     have s6 := s7
     clear e8 ga6 ga5 ga4 ga3 gb6 s7 s5 s4 s3 s2 ga e4p
     have gb := s6.get
     obtain ⟨y, ey⟩ : ∃ y, y = (⟨x.a.no, x.a.task, x.a.offs, b1, d1, x.a.rows, b2, d2, x.a.outs, b3, d3⟩ : AckX) := ⟨_, rfl⟩
     have hyc : (.agg #[.int .i64 x.a.no, .int .i64 x.a.task, .slice b1 x.a.offs.length d1, .slice b2 x.a.rows.length d2, .slice b3 x.a.outs.length d3] : Value) = .agg y.cells.toArray := by rw [ey]; rfl
     have hxc : (.agg #[.int .i64 x.a.no, .int .i64 x.a.task, .slice x.a.oa x.a.offs.length x.a.oc, .slice x.a.ra x.a.rows.length x.a.rc, .slice x.a.ta x.a.outs.length x.a.tc] : Value) = .agg x.a.cells.toArray := rfl
     have n1 := wn_none (s6.mv 3)
     have n2 := wn_none (s6.mv 2)
     have n3 := wn_none (s6.mv 1)
     have sy : AckSm y := by rw [ey]; exact ⟨h100.o, h100.r, h100.t⟩
     refine sr (fun LL hLL => ?_)
     simp only [oxk, simprocAttr, q0, gb]
     rw [hyc]
     refine coAck_ok ks y (by rw [ey]; exact ⟨fun _ s => (s.mv 3).rs icell.len, n1, fun _ s => (s.mv 2).rs rcell.len, n2, fun _ s => (s.mv 1).rs r2cell.len, n3⟩) sy (s6.mv 5) _ fun W' X' h9 hC s7 => ?_
     simp only [oxk, simprocAttr]
     refine hLL _ _ ?_
     clear s6 gb
     have gb := (s7.mv 1).get
     have ga := (s7.mv 5).get
     refine sr (fun LL hLL => ?_)
     simp only [oxk, simprocAttr, gb, ga]
     rw [hyc, hxc]
     refine sameAck_ok x.a y ⟨Rd.of_base ax.o, ax.on, Rd.of_base ax.r, ax.rn, Rd.of_base ax.t, ax.tn⟩ (by rw [ey]; exact ⟨fun _ s => (s.mv 4).rs icell.len, n1, fun _ s => (s.mv 3).rs rcell.len, n2, fun _ s => (s.mv 2).rs r2cell.len, n3⟩) (by rw [ey]) (by rw [ey]) (by rw [ey]) (by rw [ey]) (by rw [ey]) h100 s7 _ fun h10 s8 => ?_
     simp only [oxk, simprocAttr]
     refine hLL _ _ ?_
     clear s7 gb ga
     have gb := (s8.mv 1).get
     refine sr (fun LL hLL => ?_)
     simp only [oxk, simprocAttr, gb]
     refine spoilInts_ok x.a.offs b1 d1 _ (s8.mv 4) (by omega) _ fun Z1 h11 hZ1 s9 => ?_
     have s10 := s9.drop
     simp only [oxk, simprocAttr]
     refine hLL _ _ ?_
     clear s8 s9 gb
     have gb := (s10.mv 1).get
     refine sr (fun LL hLL => ?_)
     simp only [oxk, simprocAttr, gb]
     refine spoilRows_ok x.a.rows b2 d2 _ (s10.mv 3) (by omega) _ fun Z2 h12 hZ2 s11 => ?_
     have s12 := s11.drop
     simp only [oxk, simprocAttr]
     refine hLL _ _ ?_
     clear s10 s11 gb
     have gb := (s12.mv 1).get
     refine sr (fun LL hLL => ?_)
     simp only [oxk, simprocAttr, gb]
     refine spoilRecs_ok x.a.outs b3 d3 _ (s12.mv 2) (by omega) _ fun Z3 h13 hZ3 s13 => ?_
     have s14 := s13.drop
     simp only [oxk, simprocAttr]
     refine hLL _ _ ?_
     clear s12 s13 gb
     have ga := (s14.mv 2).get
     refine rg (fun LL hLL => ?_)
     simp only [oxk, simprocAttr, q1, ga]
     rw [hxc]
     refine rfAck_ok ks x.a ⟨Rd.of_base ax.o, ax.on, Rd.of_base ax.r, ax.rn, Rd.of_base ax.t, ax.tn⟩ h100 (s14.mv 3) _ fun LX' h14 hR s15 => ?_
     simp only [oxk, simprocAttr]
     refine hLL _ _ ?_
     simp only [oxz, simprocAttr]
     exact ⟨⟨s.c, s.no, s.since, s.stop, s.tasks, W', X', LX'⟩, _, _, _, _, ack_join ks sy (by rw [ey]) (by rw [ey]) (by rw [ey]; rfl) hC hR, s15.sel 4 [1, 0], rfl, by simp [tget_tput, q0], by simp [tget_tput, q1], by simp [tget_tput, q2], by simp [tget_tput]⟩
    by_cases k2 : x.kind = 2
    ·refine sr (fun LL hLL => ?_)
     simp only [oxz, simprocAttr, eq_false k0]
     refine hLL _ _ ?_
     refine wpC_if ?_
     simp only [oxz, simprocAttr]
     refine sr (fun LL hLL => ?_)
     simp only [oxz, simprocAttr, eq_false k1]
     refine hLL _ _ ?_
     refine wpC_if ?_
     simp only [oxz, simprocAttr]
     refine sr (fun LL hLL => ?_)
     simp only [oxz, simprocAttr, k2]
     refine hLL _ _ ?_
     refine wpC_if ?_
     simp only [oxz, simprocAttr]
     refine sr (fun LL hLL => ?_)
     simp only [oxk, simprocAttr, q0]
     refine coDrop_ok (s2.mv 1) _ fun h5 s3 => ?_
     simp only [oxk, simprocAttr]
     refine hLL _ _ ?_
     refine rg (fun LL hLL => ?_)
     simp only [oxk, simprocAttr, q1]
     refine rfDrop_ok (s3.mv 2) _ fun h6 s4 => ?_
     simp only [oxk, simprocAttr]
     refine hLL _ _ ?_
     simp only [oxz, simprocAttr]
     exact ⟨Cst.idle, _, _, _, _, Cst.idle_ok, s4.sel 3 [1, 0], rfl, by simp [tget_tput, q0], by simp [tget_tput, q1], by simp [tget_tput, q2], by simp [tget_tput]⟩
    ·refine sr (fun LL hLL => ?_)
     simp only [oxz, simprocAttr, eq_false k0]
     refine hLL _ _ ?_
     refine wpC_if ?_
     simp only [oxz, simprocAttr]
     refine sr (fun LL hLL => ?_)
     simp only [oxz, simprocAttr, eq_false k1]
     refine hLL _ _ ?_
     refine wpC_if ?_
     simp only [oxz, simprocAttr]
     refine sr (fun LL hLL => ?_)
     simp only [oxz, simprocAttr, eq_false k2]
     refine hLL _ _ ?_
     refine wpC_if ?_
     simp only [oxz, simprocAttr]
     refine wpC_skip ?_
     simp only [oxz, simprocAttr]
     exact ⟨s, _, _, _, _, ks, s2.drop, rfl, by simp [tget_tput, q0], by simp [tget_tput, q1], by simp [tget_tput, q2], by simp [tget_tput]⟩
   clear s2 ga q0 q1 q2
   rintro T h4 ⟨s', u0, u4, u5, R, ks', s1, rfl, q0, q1, q2, q4⟩
   obtain ⟨z1, z2, z3⟩ := m_small ks' (G := g) (L := L) (P := P) (by omega) hpt
   have zP : (mP s' P).length ≤ 12 := by
    unfold mP
    split
    ·have := jb.len; omega
    ·simp
   have zN : mN s' L P ≤ 12 := by
    unfold mN
    split
    ·exact hL12
    ·omega
   have zO := mO_len s' L P
   have zR := mR_len s' g L P
   have zT := mT_len s' L P
   refine sr (fun LL hLL => ?_)
   simp only [oxk, simprocAttr, q0]
   refine coRunning_ok ks' s1 _ ?_
   simp only [oxk, simprocAttr]
   refine hLL _ _ ?_
   refine sr (fun LL hLL => ?_)
   simp only [oxk, simprocAttr, q1]
   refine rfRunning_ok (s1.mv 1) _ ?_
   simp only [oxk, simprocAttr]
   refine hLL _ _ ?_
   have gs := (s1.mv 2).get
   refine sr (fun LL hLL => ?_)
   simp only [oxk, simprocAttr, q0, gs]
   refine coMan_ok ks' g sa sc L sp hL12 hpt pa pc P (Rd.of_base rP) nP jb.len hP8 s1 _ fun qa qc a1 a1c a2 a2c a3 a3c h5 s2 => ?_
   have s3 := (s2.push (.cells false 0 manZ 48)).set (.cells false 0 [.int .i64 (mNo s' P), .slice qa (mP s' P).length qc, .slice a1 (mN s' L P) a1c, .slice a2 (mN s' L P) a2c, .slice a3 (mN s' L P) a3c] 48)
   have gz := (s2.push (.cells false 0 manZ 48)).get
   obtain ⟨cm, ecm⟩ : ∃ b, b = h5.next := ⟨_, rfl⟩
   obtain ⟨h6, e6⟩ : ∃ x, x = (h5.push (.cells false 0 manZ 48)).set h5.next (.cells false 0 [.int .i64 (mNo s' P), .slice qa (mP s' P).length qc, .slice a1 (mN s' L P) a1c, .slice a2 (mN s' L P) a2c, .slice a3 (mN s' L P) a3c] 48) := ⟨_, rfl⟩
   simp only [oxk, simprocAttr, gz]
   refine hLL _ _ ?_
   rw [← e6, ← ecm] at s3
   rw [← e6, ← ecm]
   clear e6 gz gs s2 s1
   have gs := (s3.mv 7).get
   refine sr (fun LL hLL => ?_)
   simp only [oxk, simprocAttr, q1, gs]
   refine rfMan_ok ks' g sa sc L sp hL12 hpt pa pc P (Rd.of_base rP) jb.len hP8 (s3.mv 6) _ fun pa2 pc2 d1 d1c d2 d2c d3 d3c h7 s4 => ?_
   have s5 := (s4.push (.cells false 0 manZ 48)).set (.cells false 0 [.int .i64 (mNo s' P), .slice pa2 (mP s' P).length pc2, .slice d1 (mN s' L P) d1c, .slice d2 (mN s' L P) d2c, .slice d3 (mN s' L P) d3c] 48)
   have gz := (s4.push (.cells false 0 manZ 48)).get
   obtain ⟨cn, ecn⟩ : ∃ b, b = h7.next := ⟨_, rfl⟩
   obtain ⟨h8, e8⟩ : ∃ x, x = (h7.push (.cells false 0 manZ 48)).set h7.next (.cells false 0 [.int .i64 (mNo s' P), .slice pa2 (mP s' P).length pc2, .slice d1 (mN s' L P) d1c, .slice d2 (mN s' L P) d2c, .slice d3 (mN s' L P) d3c] 48) := ⟨_, rfl⟩
   simp only [oxk, simprocAttr, gz]
   refine hLL _ _ ?_
   rw [← e8, ← ecn] at s5
   rw [← e8, ← ecn]
   clear e8 gz gs s4 s3
   have gn := s5.get
   have gm := (s5.mv 6).get
   refine wpC_seq (sr fun LL hLL => ?_)
   simp only [oxk, simprocAttr, q0, q1, q4, not_true_eq_false, neBo, bne_self_eq_false]
   refine coReady_ok (s5.mv 11) _ ?_
   simp only [oxk, simprocAttr, q0, q1, q4, not_true_eq_false, neBo, bne_self_eq_false]
   refine rfReady_ok ks' (s5.mv 5) _ ?_
   simp only [oxk, simprocAttr, gn, gm, q0, q1, q4, not_true_eq_false, neBo, bne_self_eq_false]
   refine sameMan_ok (mNo s' P) (mP s' P) (mO s' L P) (mR s' g L P) (mT s' L P) (mN s' L P) zO zR zT (by omega) (by omega) qa pa2 qc pc2 a1 d1 a2 d2 a3 d3 a1c d1c a2c d2c a3c d3c (fun _ s => (s.mv 7).rs icell.len) (fun _ s => (s.mv 1).rs icell.len) (fun _ s => (s.mv 8).rsn icell.len) (fun _ s => (s.mv 2).rsn icell.len) (fun _ s => (s.mv 9).rsn rcell.len) (fun _ s => (s.mv 3).rsn rcell.len) (fun _ s => (s.mv 10).rsn r2cell.len) (fun _ s => (s.mv 4).rsn r2cell.len) z1 z2 z3 _ s5 _ fun h9 s6 => ?_
   simp only [oxk, simprocAttr]
   refine hLL _ _ ?_
   refine wpC_if ?_
   simp only [oxz, simprocAttr]
   refine wpC_skip ?_
   simp only [oxz, simprocAttr]
   clear s5 gn gm
   have gm := (s6.mv 6).get
   have s7 := (s6).sel 13 [7, 8, 9, 10, 11, 5, 12]
   simp only [oxf] at s7
   refine rg (fun LL hLL => ?_)
   simp only [oxk, simprocAttr, gm]
   have hsp := spoilMan_ok (F := [coX β s', rfX γ s', own bs (spB g sa L.length sc)]) (mNo s' P) qa (mP s' P) qc a1 (mO s' L P) a1c a2 (mR s' g L P) a2c a3 (mT s' L P) a3c h9 (by omega) (by omega) (by omega) (by omega) z1 z2 z3 s7
   rw [zO, zR, zT] at hsp
   refine hsp _ fun h10 s8 => ?_
   simp only [oxk, simprocAttr]
   refine hLL _ _ ?_
   simp only [oxz, simprocAttr]
   refine rg (fun LL hLL => ?_)
   simp only [oxz, simprocAttr, q2, wsucc (show i < 9223372036854775807 by omega)]
   refine hLL _ _ ?_
   simp only [oxz, simprocAttr]
   exact ⟨m - 1, by omega, i + 1, s', _, _, _, _, by omega, ks', s8, rfl, by simp [tget_tput, q0], by simp [tget_tput, q1], by simp [tget_tput]⟩
  ·refine wpC_exit ?_
   simp only [oxz, simprocAttr]
   exact ⟨_, _, _, _, s1.drop.drop, rfl⟩
 rintro T h5 ⟨u0, u4, u5, R, s1, rfl⟩
 refine sr (fun LL hLL => ?_)
 simp only [oxz, simprocAttr]
 refine wpF_ext rfl ?_
 refine hLL _ _ ?_
 refine wpC_ret (out_ret ?_)
 simp only [oxz, simprocAttr]
 exact hk _ s1.base
end Go.Proofs.Cd

namespace Go.Proofs.Cd
open Go Go.Ox
set_option maxRecDepth 100000
set_option maxHeartbeats 4000000
def jobL (b1 b2 : Nat) : List OpX := [⟨1, [], none, 0, 0, 0, 0, 2, 1, 1⟩, ⟨5, [0], some ⟨b1, 0, none⟩, 1, 1, 0, 0, 0, 0, 1⟩, ⟨8, [1], some ⟨b2, 0, none⟩, 1, 0, 0, 0, 0, 0, 1⟩]
theorem job_ok {h0 : AHeap} {F : List Asn} (h : AHeap) (s : St h0 h F) (K : Value → AHeap → Prop)
  (hk : ∀ b1 b2 b3 h', St h0 h' (own b1 (.cells false 1 [.int .i64 0] 3) :: own b2 (.cells false 1 [.int .i64 1] 3) :: own b3 (.cells false 8 ((jobL b1 b2).flatMap OpX.cells) 56) :: F) → K (.agg #[.int .i64 8, .slice (some ⟨b3, 0, none⟩) 3 3]) h') :
  wpF Tryz.prog (.fn 16) [] h K := by
 have z1 : aZeros [.int .i64 0] 1 = [.int .i64 0] := rfl
 have z3 : aZeros [.int .i64 0, .slice none 0 0, .int .i64 0, .int .i64 0, .int .i64 0, .int .i64 0, .int .i64 0, .int .i64 0] 3 = [.int .i64 0, .slice none 0 0, .int .i64 0, .int .i64 0, .int .i64 0, .int .i64 0, .int .i64 0, .int .i64 0, .int .i64 0, .slice none 0 0, .int .i64 0, .int .i64 0, .int .i64 0, .int .i64 0, .int .i64 0, .int .i64 0, .int .i64 0, .slice none 0 0, .int .i64 0, .int .i64 0, .int .i64 0, .int .i64 0, .int .i64 0, .int .i64 0] := rfl
 refine wpF_fun 9 [.cell 0 24] Tryz.func16 rfl rfl rfl rfl ?_
 obtain ⟨b0, eb0⟩ : ∃ b, b = h.next := ⟨_, rfl⟩
 have s1 := s.push (.cells false 0 [.int .i64 0, .slice none 0 0] 24)
 rw [← eb0] at s1
 obtain ⟨h1, e1⟩ : ∃ h1, h1 = h.push (.cells false 0 [.int .i64 0, .slice none 0 0] 24) := ⟨_, rfl⟩
 rw [← e1] at s1
 refine sr (fun LL hLL => ?_)
 simp only [oxz, simprocAttr, ← eb0, ← e1]
 refine hLL _ _ ?_
 obtain ⟨b1, eb1⟩ : ∃ b, b = h1.next := ⟨_, rfl⟩
 have s2 := s1.push (.cells false 1 [.int .i64 0] 3)
 rw [← eb1] at s2
 obtain ⟨h2, e2⟩ : ∃ h2, h2 = h1.push (.cells false 1 [.int .i64 0] 3) := ⟨_, rfl⟩
 rw [← e2] at s2
 obtain ⟨b2, eb2⟩ : ∃ b, b = h2.next := ⟨_, rfl⟩
 have s3 := s2.push (.cells false 1 [.int .i64 1] 3)
 rw [← eb2] at s3
 obtain ⟨h3, e3⟩ : ∃ h3, h3 = h2.push (.cells false 1 [.int .i64 1] 3) := ⟨_, rfl⟩
 rw [← e3] at s3
 obtain ⟨b3, eb3⟩ : ∃ b, b = h3.next := ⟨_, rfl⟩
 have s4 := s3.push (.cells false 8 ((jobL b1 b2).flatMap OpX.cells) 56)
 rw [← eb3] at s4
 obtain ⟨h4, e4⟩ : ∃ h4, h4 = h3.push (.cells false 8 ((jobL b1 b2).flatMap OpX.cells) 56) := ⟨_, rfl⟩
 rw [← e4] at s4
 have e4' : h4 = h3.push (.cells false 8 [.int .i64 1, .slice none 0 0, .int .i64 0, .int .i64 0, .int .i64 0, .int .i64 2, .int .i64 1, .int .i64 1, .int .i64 5, .slice (some ⟨b1, 0, none⟩) 1 1, .int .i64 1, .int .i64 0, .int .i64 0, .int .i64 0, .int .i64 0, .int .i64 1, .int .i64 8, .slice (some ⟨b2, 0, none⟩) 1 1, .int .i64 0, .int .i64 0, .int .i64 0, .int .i64 0, .int .i64 0, .int .i64 1] 56) := e4
 have g0 := (s4.mv 3).get
 refine sr (fun LL hLL => ?_)
 simp only [oxz, simprocAttr, z1, z3, ← eb1, ← e2, ← eb2, ← e3, ← eb3, ← e4', g0]
 refine hLL _ _ ?_
 refine wpC_ret (out_ret ?_)
 simp only [oxz, simprocAttr]
 have s5 := (s4.mv 3).set (.cells false 0 [.int .i64 8, .slice (some ⟨b3, 0, none⟩) 3 3] 24)
 simp only [s5.get]
 exact hk _ _ _ _ (s5.sel 4 [3, 2, 1])
theorem job_sp {h0 h : AHeap} {F : List Asn} {b1 b2 b3 : Nat} (s : St h0 h (own b1 (.cells false 1 [.int .i64 0] 3) :: own b2 (.cells false 1 [.int .i64 1] 3) :: own b3 (.cells false 8 ((jobL b1 b2).flatMap OpX.cells) 56) :: F)) : SpR h (some ⟨b3, 0, none⟩) (jobL b1 b2) := by
 have hx' : ∀ x ∈ jobL b1 b2, x = ⟨1, [], none, 0, 0, 0, 0, 2, 1, 1⟩ ∨ x = ⟨5, [0], some ⟨b1, 0, none⟩, 1, 1, 0, 0, 0, 0, 1⟩ ∨ x = ⟨8, [1], some ⟨b2, 0, none⟩, 1, 0, 0, 0, 0, 0, 1⟩ := fun x hx => by simpa [jobL] using hx
 refine ⟨((s.mv 2).wn_own (f := OpX.cells) (jobL b1 b2) rfl).rs OpX.len, fun x hx => ?_, by show (3 : Nat) < _; omega, fun x hx => ?_⟩
 ·rcases hx' x hx with rfl | rfl | rfl
  ·exact ⟨.inl rfl, by show (0 : Nat) < _; omega⟩
  ·exact ⟨(s.wn_own (f := icell) [0] rfl).rs icell.len, by show (1 : Nat) < _; omega⟩
  ·exact ⟨((s.mv 1).wn_own (f := icell) [1] rfl).rs icell.len, by show (1 : Nat) < _; omega⟩
 ·rcases hx' x hx with rfl | rfl | rfl
  ·exact Nat.zero_le _
  ·exact (by unfold capN; rw [if_pos (by simp [big])]; exact Nat.le_refl 1)
  ·exact (by unfold capN; rw [if_pos (by simp [big])]; exact Nat.le_refl 1)
theorem St.appM {α : Type} {f : α → List Value} {k : Nat} {e : TypeId} {h0 h : AHeap} {F : List Asn} {a : Option Addr} {c : Nat} {L : List α} {bytes : Nat} (M : List α) (hf : ∀ x, (f x).length = k) (hoc : ∀ x : α, (f x).all Value.oneCell' = true) (s : St h0 h (wn f k e a c L :: F)) (h1 : (L.length + M.length) * bytes ≤ 140737488355328) (h2 : L.length + M.length < 4611686018427387904) :
  ∃ a' c' h2, apF (h.push (.cells false k (M.flatMap f) e)) k bytes e a L.length c (some ⟨h.next, 0, none⟩) M.length M.length = some (.slice a' (L.length + M.length) c', h2) ∧ St h0 h2 (wn f k e a' c' (L ++ M) :: F) := by
 have s1 := s.push (.cells false k (M.flatMap f) e)
 have hl : (M.flatMap f).length = M.length * k := flat_length hf M
 obtain ⟨a', c', h2, y1, y2⟩ := (s1.mv 1).app (M := M) (bytes := bytes) (d := M.length) (s' := some ⟨h.next, 0, none⟩) hf hoc (fst_all s1.get hl) (by simpa using h1) (by simpa using h2)
 refine ⟨a', c', h2, ?_, (y2.mv 1).drop⟩
 rw [List.length_append] at y1
 exact y1
end Go.Proofs.Cd

namespace Go.Proofs.Cd
open Go Go.Ox
set_option maxRecDepth 100000
set_option maxHeartbeats 16000000
def knN : List Int := [-9223372036854775808, -1, 0, 1, 2, 3, 4, 5, 9223372036854775807]
theorem knN_wf : ∀ x ∈ knN, (Lit.int .i64 x).wf = true := by decide
def emA : AckX := ⟨0, 0, [], none, 0, [], none, 0, [], none, 0⟩
/-- The chapter's answers. -/
def knA (x y : Int) (b1 b2 b3 b4 b5 b6 : Nat) : List AckX := [⟨3, y, [x, 7, 9], some ⟨b1, 0, none⟩, 3, [], none, 0, [], none, 0⟩, ⟨3, 1, [1, 2], some ⟨b2, 0, none⟩, 2, [], none, 0, [], none, 0⟩,
 ⟨3, 2, [], none, 0, [(9, (1, 1)), (y, (2, 2))], some ⟨b3, 0, none⟩, 2, [(5, 0)], some ⟨b4, 0, none⟩, 1⟩, ⟨3, 0, [], none, 0, [], none, 0, [], none, 0⟩, ⟨3, 3, [], none, 0, [(1, (0, 0))], some ⟨b6, 0, none⟩, 1, [(x, 1)], some ⟨b5, 0, none⟩, 1⟩]
theorem oxLaw4 (h : AHeap) : wpF Tryz.prog (.fn 4) [] h fun v _ => v = .bool true := by
 have s := St.init h
 have zi1 : aZeros [.int .i64 0] 1 = [.int .i64 0] := rfl
 have zi2 : aZeros [.int .i64 0] 2 = [.int .i64 0, .int .i64 0] := rfl
 have zi3 : aZeros [.int .i64 0] 3 = [.int .i64 0, .int .i64 0, .int .i64 0] := rfl
 have zi9 : aZeros [.int .i64 0] 9 = [.int .i64 0, .int .i64 0, .int .i64 0, .int .i64 0, .int .i64 0, .int .i64 0, .int .i64 0, .int .i64 0, .int .i64 0] := rfl
 have zr1 : aZeros [.int .i64 0, .int .i64 0, .int .i64 0] 1 = [.int .i64 0, .int .i64 0, .int .i64 0] := rfl
 have zr2 : aZeros [.int .i64 0, .int .i64 0, .int .i64 0] 2 = [.int .i64 0, .int .i64 0, .int .i64 0, .int .i64 0, .int .i64 0, .int .i64 0] := rfl
 have zc1 : aZeros [.int .i64 0, .int .i64 0] 1 = [.int .i64 0, .int .i64 0] := rfl
 have za5 : aZeros [.int .i64 0, .int .i64 0, .slice none 0 0, .slice none 0 0, .slice none 0 0] 5 = [.int .i64 0, .int .i64 0, .slice none 0 0, .slice none 0 0, .slice none 0 0, .int .i64 0, .int .i64 0, .slice none 0 0, .slice none 0 0, .slice none 0 0, .int .i64 0, .int .i64 0, .slice none 0 0, .slice none 0 0, .slice none 0 0, .int .i64 0, .int .i64 0, .slice none 0 0, .slice none 0 0, .slice none 0 0, .int .i64 0, .int .i64 0, .slice none 0 0, .slice none 0 0, .slice none 0 0] := rfl
 have zt3 : aZeros [.int .i64 0, .int .i64 0, .int .i64 0, .int .i64 0, .bool false, .int .i64 0, .int .i64 0, .slice none 0 0, .slice none 0 0, .slice none 0 0] 3 = [.int .i64 0, .int .i64 0, .int .i64 0, .int .i64 0, .bool false, .int .i64 0, .int .i64 0, .slice none 0 0, .slice none 0 0, .slice none 0 0, .int .i64 0, .int .i64 0, .int .i64 0, .int .i64 0, .bool false, .int .i64 0, .int .i64 0, .slice none 0 0, .slice none 0 0, .slice none 0 0, .int .i64 0, .int .i64 0, .int .i64 0, .int .i64 0, .bool false, .int .i64 0, .int .i64 0, .slice none 0 0, .slice none 0 0, .slice none 0 0] := rfl
 have zt4 : aZeros [.int .i64 0, .int .i64 0, .int .i64 0, .int .i64 0, .bool false, .int .i64 0, .int .i64 0, .slice none 0 0, .slice none 0 0, .slice none 0 0] 4 = [.int .i64 0, .int .i64 0, .int .i64 0, .int .i64 0, .bool false, .int .i64 0, .int .i64 0, .slice none 0 0, .slice none 0 0, .slice none 0 0, .int .i64 0, .int .i64 0, .int .i64 0, .int .i64 0, .bool false, .int .i64 0, .int .i64 0, .slice none 0 0, .slice none 0 0, .slice none 0 0, .int .i64 0, .int .i64 0, .int .i64 0, .int .i64 0, .bool false, .int .i64 0, .int .i64 0, .slice none 0 0, .slice none 0 0, .slice none 0 0, .int .i64 0, .int .i64 0, .int .i64 0, .int .i64 0, .bool false, .int .i64 0, .int .i64 0, .slice none 0 0, .slice none 0 0, .slice none 0 0] := rfl
 refine wpF_fun 149 [.tmp 0] Tryz.func4 rfl rfl rfl rfl ?_
 refine sr (fun LL hLL => ?_)
 simp only [oxz, simprocAttr]
 refine hLL _ _ ?_
 obtain ⟨bn, ebn⟩ : ∃ b, b = h.next := ⟨_, rfl⟩
 have s1 := s.push (.cells false 1 (knN.flatMap icell) 3)
 rw [← ebn] at s1
 obtain ⟨h1, e1⟩ : ∃ h1, h1 = h.push (.cells false 1 (knN.flatMap icell) 3) := ⟨_, rfl⟩
 rw [← e1] at s1
 have e1' : h1 = h.push (.cells false 1 [.int .i64 (-9223372036854775808), .int .i64 (-1), .int .i64 0, .int .i64 1, .int .i64 2, .int .i64 3, .int .i64 4, .int .i64 5, .int .i64 9223372036854775807] 3) := e1
 refine sr (fun LL hLL => ?_)
 simp only [oxz, simprocAttr, zi9, ← e1', ← ebn]
 refine hLL _ _ ?_
 have vN : ∀ (j : Nat) (hj : j < 9), ∃ x, x ∈ knN ∧ (knN.flatMap icell)[j * 1]? = some (.int .i64 x) := fun j hj => by
  have hj' : j < knN.length := hj
  refine ⟨knN[j], List.getElem_mem hj', ?_⟩
  have := flat_get icell.len knN j 0 hj' (by omega)
  simpa [icell] using this
 obtain ⟨CN, eCN⟩ : ∃ C, C = knN.flatMap icell := ⟨_, rfl⟩
 rw [← eCN] at s1 vN
 clear e1 e1' eCN
 have sv : ∀ (a : Option Addr) (m n : Nat), veq 6 (.slice a m n) (.slice a m n) = true := by intro a m n; simp [veq]
 have vk : ∀ a b c d e f g h i j k, veq 6 (.agg #[.int .i64 a, .int .i64 b, .slice c d e, .slice f g h, .slice i j k]) (.agg #[.int .i64 a, .int .i64 b, .slice c d e, .slice f g h, .slice i j k]) = true := by intros; simp [veq]
 refine sm (fun T h' => St h h' [own bn (.cells false 1 CN 3)]) ?_ ?_
 ·refine sr (fun LL hLL => ?_)
  simp only [oxz, simprocAttr]
  refine hLL _ _ ?_
  refine wpC_block ?_
  refine wpC_loop (fun m T h' => ∃ (i : Nat) (u0 : Value) (R : List Value), m + i = 9 ∧ St h h' [own bn (.cells false 1 CN 3)] ∧ T = u0 :: .slice (some ⟨bn, 0, none⟩) 9 9 :: R ∧ tget R 0 = .int .i64 i) ?_ 9 _ _ ⟨0, _, _, by omega, s1, rfl, rfl⟩
  clear s1
  rintro m T h' ⟨i, u0, R, hmi, s1, rfl, q0⟩
  by_cases hi : i < 9
  ·refine wpC_seq (sr fun LL hLL => ?_)
   simp only [oxz, simprocAttr, q0, eq_true (show (i : Int) < 9 by omega)]
   refine hLL _ _ ?_
   refine wpC_if ?_
   simp only [oxz, simprocAttr]
   refine wpC_skip ?_
   simp only [oxz, simprocAttr]
   obtain ⟨y, hy, vy⟩ := vN i hi
   refine sm (fun T h' => ∃ (u0 : Value) (R : List Value), St h h' [own bn (.cells false 1 CN 3)] ∧ T = u0 :: .slice (some ⟨bn, 0, none⟩) 9 9 :: R ∧ tget R 0 = .int .i64 i) ?_ ?_
   ·refine wpC_block ?_
    refine sr (fun LL hLL => ?_)
    simp only [oxz, simprocAttr]
    refine hLL _ _ ?_
    refine wpC_block ?_
    refine wpC_loop (fun m T h' => ∃ (k : Nat) (u0 : Value) (R : List Value), m + k = 9 ∧ St h h' [own bn (.cells false 1 CN 3)] ∧ T = u0 :: .slice (some ⟨bn, 0, none⟩) 9 9 :: R ∧ tget R 0 = .int .i64 i ∧ tget R 1 = .int .i64 k) ?_ 9 _ _ ⟨0, _, _, by omega, s1, rfl, by simp [tget_tput, q0], by simp [tget_tput]⟩
    clear s1 q0
    rintro mk T hk0 ⟨k, u0, R, hmk, s1, rfl, q0, q1⟩
    by_cases hk : k < 9
    ·refine wpC_seq (sr fun LL hLL => ?_)
     simp only [oxz, simprocAttr, q1, eq_true (show (k : Int) < 9 by omega)]
     refine hLL _ _ ?_
     refine wpC_if ?_
     simp only [oxz, simprocAttr]
     refine wpC_skip ?_
     simp only [oxz, simprocAttr]
     obtain ⟨x, hx, vx⟩ := vN k hk
     have hi9 : (0 ≤ (i : Int)) = True ∧ ((i : Int) < 9) = True ∧ (i : Int).toNat = i := ⟨by simp, by simp; omega, Int.toNat_natCast i⟩
     have hk9 : (0 ≤ (k : Int)) = True ∧ ((k : Int) < 9) = True ∧ (k : Int).toNat = k := ⟨by simp, by simp; omega, Int.toNat_natCast k⟩
     have gN := s1.get
     refine wpC_seq (wpC_block ?_)
     obtain ⟨tk, etk⟩ : ∃ t : Int, t = if 9 < x then 9 else x := ⟨_, rfl⟩
     refine sr (fun LL hLL => ?_)
     simp only [oxz, simprocAttr, q1, hk9, gN, vx, ← etk]
     refine hLL _ _ ?_
     have t1 := s1.push (.cells false 1 [.int .i64 x, .int .i64 7, .int .i64 9] 3)
     obtain ⟨b1, eb1⟩ : ∃ b, b = hk0.next := ⟨_, rfl⟩
     obtain ⟨p1, ep1⟩ : ∃ hh, hh = hk0.push (.cells false 1 [.int .i64 x, .int .i64 7, .int .i64 9] 3) := ⟨_, rfl⟩
     rw [← ep1, ← eb1] at t1
     have gN1 := (t1.mv 1).get
     have t2 := t1.push (.cells false 1 [.int .i64 1, .int .i64 2] 3)
     obtain ⟨b2, eb2⟩ : ∃ b, b = p1.next := ⟨_, rfl⟩
     obtain ⟨p2, ep2⟩ : ∃ hh, hh = p1.push (.cells false 1 [.int .i64 1, .int .i64 2] 3) := ⟨_, rfl⟩
     rw [← ep2, ← eb2] at t2
     have gN2 := (t2.mv 2).get
     have t3 := t2.push (.cells false 3 [.int .i64 9, .int .i64 1, .int .i64 1, .int .i64 y, .int .i64 2, .int .i64 2] 63)
     obtain ⟨b3, eb3⟩ : ∃ b, b = p2.next := ⟨_, rfl⟩
     obtain ⟨p3, ep3⟩ : ∃ hh, hh = p2.push (.cells false 3 [.int .i64 9, .int .i64 1, .int .i64 1, .int .i64 y, .int .i64 2, .int .i64 2] 63) := ⟨_, rfl⟩
     rw [← ep3, ← eb3] at t3
     have gN3 := (t3.mv 3).get
     have t4 := t3.push (.cells false 2 [.int .i64 5, .int .i64 0] 65)
     obtain ⟨b4, eb4⟩ : ∃ b, b = p3.next := ⟨_, rfl⟩
     obtain ⟨p4, ep4⟩ : ∃ hh, hh = p3.push (.cells false 2 [.int .i64 5, .int .i64 0] 65) := ⟨_, rfl⟩
     rw [← ep4, ← eb4] at t4
     have gN4 := (t4.mv 4).get
     have t5 := t4.push (.cells false 2 [.int .i64 x, .int .i64 1] 65)
     obtain ⟨b5, eb5⟩ : ∃ b, b = p4.next := ⟨_, rfl⟩
     obtain ⟨p5, ep5⟩ : ∃ hh, hh = p4.push (.cells false 2 [.int .i64 x, .int .i64 1] 65) := ⟨_, rfl⟩
     rw [← ep5, ← eb5] at t5
     have gN5 := (t5.mv 5).get
     have t6 := t5.push (.cells false 3 [.int .i64 1, .int .i64 0, .int .i64 0] 63)
     obtain ⟨b6, eb6⟩ : ∃ b, b = p5.next := ⟨_, rfl⟩
     obtain ⟨p6, ep6⟩ : ∃ hh, hh = p5.push (.cells false 3 [.int .i64 1, .int .i64 0, .int .i64 0] 63) := ⟨_, rfl⟩
     rw [← ep6, ← eb6] at t6
     have gN6 := (t6.mv 6).get
     have t7 := t6.push (.cells false 5 [.int .i64 3, .int .i64 y, .slice (some ⟨b1, 0, none⟩) 3 3, .slice none 0 0, .slice none 0 0, .int .i64 3, .int .i64 1, .slice (some ⟨b2, 0, none⟩) 2 2, .slice none 0 0, .slice none 0 0, .int .i64 3, .int .i64 2, .slice none 0 0, .slice (some ⟨b3, 0, none⟩) 2 2, .slice (some ⟨b4, 0, none⟩) 1 1, .int .i64 3, .int .i64 0, .slice none 0 0, .slice none 0 0, .slice none 0 0, .int .i64 3, .int .i64 3, .slice none 0 0, .slice (some ⟨b6, 0, none⟩) 1 1, .slice (some ⟨b5, 0, none⟩) 1 1] 33)
     obtain ⟨b7, eb7⟩ : ∃ b, b = p6.next := ⟨_, rfl⟩
     obtain ⟨p7, ep7⟩ : ∃ hh, hh = p6.push (.cells false 5 [.int .i64 3, .int .i64 y, .slice (some ⟨b1, 0, none⟩) 3 3, .slice none 0 0, .slice none 0 0, .int .i64 3, .int .i64 1, .slice (some ⟨b2, 0, none⟩) 2 2, .slice none 0 0, .slice none 0 0, .int .i64 3, .int .i64 2, .slice none 0 0, .slice (some ⟨b3, 0, none⟩) 2 2, .slice (some ⟨b4, 0, none⟩) 1 1, .int .i64 3, .int .i64 0, .slice none 0 0, .slice none 0 0, .slice none 0 0, .int .i64 3, .int .i64 3, .slice none 0 0, .slice (some ⟨b6, 0, none⟩) 1 1, .slice (some ⟨b5, 0, none⟩) 1 1] 33) := ⟨_, rfl⟩
     rw [← ep7, ← eb7] at t7
     have gN7 := (t7.mv 7).get
     refine su [some 26, some 27, some 28, some 29, some 30, some 31, some 32, some 33, some 34, some 35, some 36, some 37, some 38, some 39, some 40, some 41, some 42, some 43, some 44, some 45, some 46, some 47, some 48, some 49, some 50, some 51, some 52, some 53, some 54, some 55, some 56, some 57, some 58, some 59, some 60, some 5] 36 [0, 0, 3, 7, 0, 0, 48, 112, 240, 511, 0, 1024, 0, 4096, 0, 0, 49152, 114688, 0, 507904, 1044480, 0, 2097152, 8384512, 0, 0, 0, 100663296, 234881024, 503316480, 1040187392, 0, 2147483648, 8556380160, 17179869183, 34359738367] (by rfl) (by rfl) (by decide +kernel) (by decide +kernel) (by decide +kernel) (fun LL hLL => ?_)
     simp only [oxz, simprocAttr, q0, q1, hi9, hk9, gN, vx, vy, zi3, zi2, zr2, zr1, zc1, za5, ← ep1, ← eb1, gN1, ← ep2, ← eb2, gN2, ← ep3, ← eb3, gN3, ← ep4, ← eb4, gN4, ← ep5, ← eb5, gN5, ← ep6, ← eb6, gN6, ← ep7, ← eb7, gN7]
     refine hLL _ _ ?_
     have gA := t7.get
     obtain ⟨b0, eb0⟩ : ∃ b, b = decide ((i : Int).tmod 2 = 0) := ⟨_, rfl⟩
     have t8 := t7.push (.cells false 10 [.int .i64 1, .int .i64 0, .int .i64 0, .int .i64 0, .bool false, .int .i64 3, .int .i64 y, .slice (some ⟨b1, 0, none⟩) 3 3, .slice none 0 0, .slice none 0 0, .int .i64 0, .int .i64 3, .int .i64 tk, .int .i64 y, .bool b0, .int .i64 0, .int .i64 0, .slice none 0 0, .slice none 0 0, .slice none 0 0, .int .i64 0, .int .i64 y, .int .i64 3, .int .i64 0, .bool false, .int .i64 0, .int .i64 0, .slice none 0 0, .slice none 0 0, .slice none 0 0] 35)
     obtain ⟨b8, eb8⟩ : ∃ b, b = p7.next := ⟨_, rfl⟩
     obtain ⟨p8, ep8⟩ : ∃ hh, hh = p7.push (.cells false 10 [.int .i64 1, .int .i64 0, .int .i64 0, .int .i64 0, .bool false, .int .i64 3, .int .i64 y, .slice (some ⟨b1, 0, none⟩) 3 3, .slice none 0 0, .slice none 0 0, .int .i64 0, .int .i64 3, .int .i64 tk, .int .i64 y, .bool b0, .int .i64 0, .int .i64 0, .slice none 0 0, .slice none 0 0, .slice none 0 0, .int .i64 0, .int .i64 y, .int .i64 3, .int .i64 0, .bool false, .int .i64 0, .int .i64 0, .slice none 0 0, .slice none 0 0, .slice none 0 0] 35) := ⟨_, rfl⟩
     rw [← ep8, ← eb8] at t8
     have gN8 := (t8.mv 8).get
     have gA8 := (t8.mv 1).get
     refine su [some 61, some 62, some 63, some 64, some 65, some 66, some 67, some 68, some 69, some 70, some 71, some 72, some 73, some 74, some 75, some 76, some 77, some 78, some 79, some 6] 20 [0, 1, 3, 7, 0, 0, 0, 96, 224, 0, 512, 1536, 4080, 0, 0, 24576, 57344, 122880, 262143, 524287] (by rfl) (by rfl) (by decide +kernel) (by decide +kernel) (by decide +kernel) (fun LL hLL => ?_)
     simp only [oxz, simprocAttr, q0, q1, hi9, hk9, gN7, vx, vy, gA, zt3, sv, vk, ← eb0, ← ep8, ← eb8, gN8, gA8]
     refine hLL _ _ ?_
     clear t1 t2 t3 t4 t5 t6 t7 gN1 gN2 gN3 gN4 gN5 gN6 gN7 gN8 ep1 ep2 ep3 ep4 ep5 ep6 ep7 ep8 gA gA8 gN s1
     obtain ⟨AL, eAL⟩ : ∃ L, L = knA x y b1 b2 b3 b4 b5 b6 := ⟨_, rfl⟩
     obtain ⟨CA, eCA⟩ : ∃ C : List Value, C = [.int .i64 3, .int .i64 y, .slice (some ⟨b1, 0, none⟩) 3 3, .slice none 0 0, .slice none 0 0, .int .i64 3, .int .i64 1, .slice (some ⟨b2, 0, none⟩) 2 2, .slice none 0 0, .slice none 0 0, .int .i64 3, .int .i64 2, .slice none 0 0, .slice (some ⟨b3, 0, none⟩) 2 2, .slice (some ⟨b4, 0, none⟩) 1 1, .int .i64 3, .int .i64 0, .slice none 0 0, .slice none 0 0, .slice none 0 0, .int .i64 3, .int .i64 3, .slice none 0 0, .slice (some ⟨b6, 0, none⟩) 1 1, .slice (some ⟨b5, 0, none⟩) 1 1] := ⟨_, rfl⟩
     rw [← eCA] at t8
     have hCA : CA = AL.flatMap AckX.cells := by rw [eCA, eAL]; rfl
     have lCA : CA.length = 25 := by rw [eCA]; rfl
     obtain ⟨FQ, eFQ⟩ : ∃ F, F = [own b7 (.cells false 5 CA 33), own b6 (.cells false 3 [.int .i64 1, .int .i64 0, .int .i64 0] 63), own b5 (.cells false 2 [.int .i64 x, .int .i64 1] 65), own b4 (.cells false 2 [.int .i64 5, .int .i64 0] 65), own b3 (.cells false 3 [.int .i64 9, .int .i64 1, .int .i64 1, .int .i64 y, .int .i64 2, .int .i64 2] 63), own b2 (.cells false 1 [.int .i64 1, .int .i64 2] 3), own b1 (.cells false 1 [.int .i64 x, .int .i64 7, .int .i64 9] 3), own bn (.cells false 1 CN 3)] := ⟨_, rfl⟩
     rw [← eFQ] at t8
     have toN : ∀ h', St h h' FQ → St h h' [own bn (.cells false 1 CN 3)] := fun h' s => by rw [eFQ] at s; exact s.sel 7 []
     have getN : ∀ h', St h h' FQ → h'.get bn = some (.cells false 1 CN 3) := fun h' s => (toN h' s).get
     have getA : ∀ h', St h h' FQ → h'.get b7 = some (.cells false 5 CA 33) := fun h' s => by rw [eFQ] at s; exact s.get
     have rsA : ∀ h', St h h' FQ → Rs AckX.cells 5 h' (some ⟨b7, 0, none⟩) AL := fun h' s => by rw [eFQ] at s; exact (s.wn_own (f := AckX.cells) AL hCA).rs AckX.len
     have gdE : ∀ (h' : AHeap) (no t : Int), AckRs h' ⟨no, t, [], none, 0, [], none, 0, [], none, 0⟩ := fun h' no t => ⟨.inl rfl, fun _ => ⟨rfl, rfl⟩, .inl rfl, fun _ => ⟨rfl, rfl⟩, .inl rfl, fun _ => ⟨rfl, rfl⟩⟩
     have gd : ∀ a ∈ AL, ∀ h', St h h' FQ → AckRs h' a := fun a ha h' s => by
      rw [eAL] at ha
      rw [eFQ] at s
      simp only [knA, List.mem_cons, List.not_mem_nil, or_false] at ha
      rcases ha with rfl | rfl | rfl | rfl | rfl
      ·exact ⟨((s.mv 6).wn_own (f := icell) [x, 7, 9] rfl).rs icell.len, fun h => (by cases h), .inl rfl, fun _ => ⟨rfl, rfl⟩, .inl rfl, fun _ => ⟨rfl, rfl⟩⟩
      ·exact ⟨((s.mv 5).wn_own (f := icell) [1, 2] rfl).rs icell.len, fun h => (by cases h), .inl rfl, fun _ => ⟨rfl, rfl⟩, .inl rfl, fun _ => ⟨rfl, rfl⟩⟩
      ·exact ⟨.inl rfl, fun _ => ⟨rfl, rfl⟩, ((s.mv 4).wn_own (f := rcell) [(9, (1, 1)), (y, (2, 2))] rfl).rs rcell.len, fun h => (by cases h), ((s.mv 3).wn_own (f := r2cell) [(5, 0)] rfl).rs r2cell.len, fun h => (by cases h)⟩
      ·exact gdE _ _ _
      ·exact ⟨.inl rfl, fun _ => ⟨rfl, rfl⟩, ((s.mv 1).wn_own (f := rcell) [(1, (0, 0))] rfl).rs rcell.len, fun h => (by cases h), ((s.mv 2).wn_own (f := r2cell) [(x, 1)] rfl).rs r2cell.len, fun h => (by cases h)⟩
     have rowA : ∀ (j : Nat), j < 5 → ∃ a ∈ AL, (CA.drop (j * 5)).take 5 = a.cells := fun j hj => by
      rw [eAL, eCA]
      have : j = 0 ∨ j = 1 ∨ j = 2 ∨ j = 3 ∨ j = 4 := by omega
      rcases this with rfl | rfl | rfl | rfl | rfl
      ·exact ⟨_, List.mem_cons_self .., rfl⟩
      ·exact ⟨_, List.mem_cons_of_mem _ (List.mem_cons_self ..), rfl⟩
      ·exact ⟨_, List.mem_cons_of_mem _ (List.mem_cons_of_mem _ (List.mem_cons_self ..)), rfl⟩
      ·exact ⟨_, List.mem_cons_of_mem _ (List.mem_cons_of_mem _ (List.mem_cons_of_mem _ (List.mem_cons_self ..))), rfl⟩
      ·exact ⟨_, List.mem_cons_of_mem _ (List.mem_cons_of_mem _ (List.mem_cons_of_mem _ (List.mem_cons_of_mem _ (List.mem_cons_self ..)))), rfl⟩
     have hAl : AL.length = 5 := by rw [eAL]; rfl
     have hwf : ∀ a ∈ AL, ∀ r ∈ a.rows, (Lit.int .i64 r.1).wf = true := fun a ha r hr => by
      rw [eAL] at ha
      have wy := knN_wf y hy
      simp only [knA, List.mem_cons, List.not_mem_nil, or_false] at ha
      rcases ha with rfl | rfl | rfl | rfl | rfl
      ·cases hr
      ·cases hr
      ·simp only [List.mem_cons, List.not_mem_nil, or_false] at hr
       rcases hr with rfl | rfl
       ·rfl
       ·exact wy
      ·cases hr
      ·simp only [List.mem_cons, List.not_mem_nil, or_false] at hr
       subst hr; rfl
     have t9 := t8.wn_own (f := ActX.cells) [⟨1, 0, 0, 0, false, ⟨3, y, [x, 7, 9], some ⟨b1, 0, none⟩, 3, [], none, 0, [], none, 0⟩⟩, ⟨0, 3, tk, y, b0, emA⟩, ⟨0, y, 3, 0, false, emA⟩] rfl
     have gd9 : ∀ z ∈ ([⟨1, 0, 0, 0, false, ⟨3, y, [x, 7, 9], some ⟨b1, 0, none⟩, 3, [], none, 0, [], none, 0⟩⟩, ⟨0, 3, tk, y, b0, emA⟩, ⟨0, y, 3, 0, false, emA⟩] : List ActX), ∀ h', St h h' FQ → AckRs h' z.a := fun z hz h' s => by
      simp only [List.mem_cons, List.not_mem_nil, or_false] at hz
      rcases hz with rfl | rfl | rfl
      ·exact gd _ (by rw [eAL]; exact List.mem_cons_self ..) h' s
      ·exact gdE _ _ _
      ·exact gdE _ _ _
     refine sm (fun T h' => ∃ (Z : List ActX) (a : Option Addr) (c : Nat) (u0 : Value) (R : List Value), Z.length ≤ 100 ∧ (∀ z ∈ Z, ∀ h', St h h' FQ → AckRs h' z.a) ∧ St h h' (wn ActX.cells 10 35 a c Z :: FQ) ∧ T = u0 :: .slice (some ⟨bn, 0, none⟩) 9 9 :: R ∧ tget R 0 = .int .i64 i ∧ tget R 1 = .int .i64 k ∧ tget R 3 = .slice (some ⟨b7, 0, none⟩) 5 5 ∧ tget R 4 = .slice a Z.length c) ?_ ?_
     ·refine sr (fun LL hLL => ?_)
      simp only [oxz, simprocAttr]
      refine hLL _ _ ?_
      refine wpC_block ?_
      refine wpC_loop (fun m T h' => ∃ (j : Nat) (Z : List ActX) (a : Option Addr) (c : Nat) (u0 : Value) (R : List Value), m + j = 5 ∧ Z.length = 3 + 3 * j ∧ (∀ z ∈ Z, ∀ h', St h h' FQ → AckRs h' z.a) ∧ St h h' (wn ActX.cells 10 35 a c Z :: FQ) ∧ T = u0 :: .slice (some ⟨bn, 0, none⟩) 9 9 :: R ∧ tget R 0 = .int .i64 i ∧ tget R 1 = .int .i64 k ∧ tget R 3 = .slice (some ⟨b7, 0, none⟩) 5 5 ∧ tget R 4 = .slice a Z.length c ∧ tget R 5 = .int .i64 j) ?_ 5 _ _ ⟨0, _, _, _, _, _, by omega, rfl, gd9, t9, rfl, by simp [tget_tput, q0], by simp [tget_tput, q1], by simp [tget_tput], by simp [tget_tput], by simp [tget_tput]⟩
      clear t8 t9 gd9 q0 q1
      rintro mj T h2 ⟨j, Z, a, c, u0, R, hmj, hZ, gZ, s1, rfl, q0, q1, q3, q4, q5⟩
      by_cases hj : j < 5
      ·have hj5 : (0 ≤ (j : Int)) = True ∧ ((j : Int) < 5) = True ∧ (j : Int).toNat = j := ⟨by simp, by simp; omega, Int.toNat_natCast j⟩
       refine wpC_seq (sr fun LL hLL => ?_)
       simp only [oxz, simprocAttr, q3, q5, eq_true (show (j : Int) < 5 by omega)]
       refine hLL _ _ ?_
       refine wpC_if ?_
       simp only [oxz, simprocAttr]
       refine wpC_skip ?_
       simp only [oxz, simprocAttr]
       obtain ⟨A, hA, wA⟩ := rowA j hj
       have gA := getA _ s1.drop
       have gN := getN _ s1.drop
       unfold AckX.cells at wA
       obtain ⟨aE, cE, hE, y1, y2⟩ := St.appM (bytes := 128) [⟨1, 0, 0, 0, false, A⟩, ⟨1, 0, 0, 0, false, ⟨y, j, [], none, 0, [], none, 0, [], none, 0⟩⟩, ⟨9, 0, 0, 0, false, emA⟩] ActX.len ActX.ones s1 (by simp; omega) (by simp; omega)
       have y1' : apF (h2.push (.cells false 10 [.int .i64 1, .int .i64 0, .int .i64 0, .int .i64 0, .bool false, .int .i64 A.no, .int .i64 A.task, .slice A.oa A.offs.length A.oc, .slice A.ra A.rows.length A.rc, .slice A.ta A.outs.length A.tc, .int .i64 1, .int .i64 0, .int .i64 0, .int .i64 0, .bool false, .int .i64 y, .int .i64 j, .slice none 0 0, .slice none 0 0, .slice none 0 0, .int .i64 9, .int .i64 0, .int .i64 0, .int .i64 0, .bool false, .int .i64 0, .int .i64 0, .slice none 0 0, .slice none 0 0, .slice none 0 0] 35)) 10 128 35 a Z.length c (some ⟨h2.next, 0, none⟩) 3 3 = some (.slice aE (Z.length + 3) cE, hE) := y1
       have sP := (s1.push (.cells false 10 [.int .i64 1, .int .i64 0, .int .i64 0, .int .i64 0, .bool false, .int .i64 A.no, .int .i64 A.task, .slice A.oa A.offs.length A.oc, .slice A.ra A.rows.length A.rc, .slice A.ta A.outs.length A.tc, .int .i64 1, .int .i64 0, .int .i64 0, .int .i64 0, .bool false, .int .i64 y, .int .i64 j, .slice none 0 0, .slice none 0 0, .slice none 0 0, .int .i64 9, .int .i64 0, .int .i64 0, .int .i64 0, .bool false, .int .i64 0, .int .i64 0, .slice none 0 0, .slice none 0 0, .slice none 0 0] 35)).drop
       have gNP := getN _ sP.drop
       have gAP := getA _ sP.drop
       have gNZ := getN _ y2.drop
       have gAZ := getA _ y2.drop
       have xA := eq_true (show j * 5 + 5 ≤ CA.length by omega)
       refine wpC_seq (wpC_block ?_)
       refine du [some 86, some 87, some 88, some 89, some 90, some 91, some 92, some 93, some 94, some 95, some 96, some 97, some 98, some 99, some 100, some 101, some 6] 17 [0, 0, 0, 6, 14, 30, 0, 0, 192, 448, 0, 1984, 4032, 0, 16382, 32767, 65535] (by rfl) (by rfl) (by decide +kernel) (by decide +kernel) (by decide +kernel) (fun LL hLL => ?_)
       simp only [oxz, simprocAttr, q0, q3, q4, q5, hi9, hj5, gA, gN, wA, xA, vy, zt3, gNP, gAP, sv, vk]
       rw [y1']
       simp only [oxk, simprocAttr, gNZ, gAZ, wA, xA, vy, hi9, hj5, sv, vk]
       refine hLL _ _ ?_
       simp only [oxz, simprocAttr]
       refine rg (fun LL hLL => ?_)
       simp only [oxz, simprocAttr, q5, wsucc (show j < 9223372036854775807 by omega)]
       refine hLL _ _ ?_
       simp only [oxz, simprocAttr]
       refine ⟨mj - 1, by omega, j + 1, _, aE, cE, _, _, by omega, by simp; omega, fun z hz => ?_, y2, rfl, by simp [tget_tput, q0], by simp [tget_tput, q1], by simp [tget_tput, q3], (by simp [tget_tput]), by simp [tget_tput]⟩
       rcases List.mem_append.1 hz with hz | hz
       ·exact gZ z hz
       ·simp only [List.mem_cons, List.not_mem_nil, or_false] at hz
        rcases hz with rfl | rfl | rfl
        ·exact gd _ hA
        ·exact fun h' _ => gdE h' _ _
        ·exact fun h' _ => gdE h' _ _
      ·refine wpC_seq (sr fun LL hLL => ?_)
       simp only [oxz, simprocAttr, q3, q5, eq_false (show ¬ (j : Int) < 5 by omega)]
       refine hLL _ _ ?_
       refine wpC_if ?_
       simp only [oxz, simprocAttr]
       refine wpC_exit ?_
       simp only [oxz, simprocAttr]
       exact ⟨Z, a, c, _, _, by omega, gZ, s1, rfl, by simp [tget_tput, q0], by simp [tget_tput, q1], by simp [tget_tput, q3], by simp [tget_tput, q4]⟩
     clear t8 t9 gd9 q0 q1
     rintro T h2 ⟨Z, a, c, u0, R, hZ, gZ, s1, rfl, q0, q1, q3, q4⟩
     obtain ⟨A, hA, wA0⟩ := rowA 2 (by omega)
     have wA : (CA.drop 10).take 5 = A.cells := wA0
     have gA := getA _ s1.drop
     have gN := getN _ s1.drop
     unfold AckX.cells at wA
     obtain ⟨aE, cE, hE, y1, y2⟩ := St.appM (bytes := 128) [⟨2, 0, 0, 0, false, emA⟩, ⟨1, 0, 0, 0, false, A⟩, ⟨0, x, 1, 0, false, emA⟩, ⟨1, 0, 0, 0, false, ⟨x, 0, [], none, 0, [], none, 0, [], none, 0⟩⟩] ActX.len ActX.ones s1 (by simp; omega) (by simp; omega)
     have y1' : apF (h2.push (.cells false 10 [.int .i64 2, .int .i64 0, .int .i64 0, .int .i64 0, .bool false, .int .i64 0, .int .i64 0, .slice none 0 0, .slice none 0 0, .slice none 0 0, .int .i64 1, .int .i64 0, .int .i64 0, .int .i64 0, .bool false, .int .i64 A.no, .int .i64 A.task, .slice A.oa A.offs.length A.oc, .slice A.ra A.rows.length A.rc, .slice A.ta A.outs.length A.tc, .int .i64 0, .int .i64 x, .int .i64 1, .int .i64 0, .bool false, .int .i64 0, .int .i64 0, .slice none 0 0, .slice none 0 0, .slice none 0 0, .int .i64 1, .int .i64 0, .int .i64 0, .int .i64 0, .bool false, .int .i64 x, .int .i64 0, .slice none 0 0, .slice none 0 0, .slice none 0 0] 35)) 10 128 35 a Z.length c (some ⟨h2.next, 0, none⟩) 4 4 = some (.slice aE (Z.length + 4) cE, hE) := y1
     have sP := (s1.push (.cells false 10 [.int .i64 2, .int .i64 0, .int .i64 0, .int .i64 0, .bool false, .int .i64 0, .int .i64 0, .slice none 0 0, .slice none 0 0, .slice none 0 0, .int .i64 1, .int .i64 0, .int .i64 0, .int .i64 0, .bool false, .int .i64 A.no, .int .i64 A.task, .slice A.oa A.offs.length A.oc, .slice A.ra A.rows.length A.rc, .slice A.ta A.outs.length A.tc, .int .i64 0, .int .i64 x, .int .i64 1, .int .i64 0, .bool false, .int .i64 0, .int .i64 0, .slice none 0 0, .slice none 0 0, .slice none 0 0, .int .i64 1, .int .i64 0, .int .i64 0, .int .i64 0, .bool false, .int .i64 x, .int .i64 0, .slice none 0 0, .slice none 0 0, .slice none 0 0] 35)).drop
     have gNP := getN _ sP.drop
     have gAP := getA _ sP.drop
     have gNZ := getN _ y2.drop
     have gAZ := getA _ y2.drop
     have xA := eq_true (show 10 + 5 ≤ CA.length by omega)
     have xA2 := eq_true (show 15 ≤ CA.length by omega)
     refine su [some 102, some 103, some 104, some 105, some 106, some 107, some 108, some 109, some 110, some 111, some 112, some 113, some 114, some 115, some 116, some 117, some 118, some 119, some 120, some 6] 20 [0, 0, 0, 4, 12, 28, 0, 0, 192, 448, 960, 0, 0, 6144, 14336, 30720, 63488, 131070, 262143, 524287] (by rfl) (by rfl) (by decide +kernel) (by decide +kernel) (by decide +kernel) (fun LL hLL => ?_)
     simp only [oxz, simprocAttr, q0, q1, q3, q4, hk9, gA, gN, wA, xA, xA2, vx, zt4, gNP, gAP, sv, vk]
     rw [y1']
     simp only [oxk, simprocAttr, gNZ, gAZ, wA, xA, xA2, vx, hk9, sv, vk]
     refine hLL _ _ ?_
     obtain ⟨Y, eY⟩ : ∃ Y, Y = Z ++ [⟨2, 0, 0, 0, false, emA⟩, ⟨1, 0, 0, 0, false, A⟩, ⟨0, x, 1, 0, false, emA⟩, ⟨1, 0, 0, 0, false, ⟨x, 0, [], none, 0, [], none, 0, [], none, 0⟩⟩] := ⟨_, rfl⟩
     have lY : Z.length + 4 = Y.length := by rw [eY, List.length_append]; rfl
     have gY : ∀ z ∈ Y, ∀ h', St h h' FQ → AckRs h' z.a := fun z hz => by
      rw [eY] at hz
      rcases List.mem_append.1 hz with hz | hz
      ·exact gZ z hz
      ·simp only [List.mem_cons, List.not_mem_nil, or_false] at hz
       rcases hz with rfl | rfl | rfl | rfl
       ·exact fun h' _ => gdE h' _ _
       ·exact gd _ hA
       ·exact fun h' _ => gdE h' _ _
       ·exact fun h' _ => gdE h' _ _
     have bY : Y.length < 17592186044000 := by omega
     rw [← eY] at y2
     rw [lY]
     clear eY lY y1 y1' sP gNP gAP gNZ gAZ s1 gA gN gZ hZ wA wA0
     obtain ⟨FY, eFY⟩ : ∃ F, F = wn ActX.cells 10 35 aE cE Y :: FQ := ⟨_, rfl⟩
     rw [← eFY] at y2
     have toQ : ∀ h', St h h' FY → St h h' FQ := fun h' s => by rw [eFY] at s; exact s.drop
     have rsY : ∀ h', St h h' FY → Rs ActX.cells 10 h' aE Y := fun h' s => by rw [eFY] at s; exact s.rs ActX.len
     clear eFY
     have lq : ∀ (q : Nat) (P : List Int) (h1 : AHeap) (F : List Asn) (C : List Value), C = P.flatMap icell → St h h1 (own q (.cells false 1 C 3) :: F) → Rs icell 1 h1 (some ⟨q, 0, none⟩) P := fun q P h1 F C e s => (s.wn_own (f := icell) P e).rs icell.len
     have call1 : ∀ j1 j2 j3 q h1 K, St h h1 (own j1 (.cells false 1 [.int .i64 0] 3) :: own j2 (.cells false 1 [.int .i64 1] 3) :: own j3 (.cells false 8 ((jobL j1 j2).flatMap OpX.cells) 56) :: own q (.cells false 1 [.int .i64 2, .int .i64 1, .int .i64 1] 3) :: FY) → (∀ h2, St h h2 FY → K (.bool true) h2) → wpF Tryz.prog (.fn 15) [.agg #[.int .i64 8, .slice (some ⟨j3, 0, none⟩) 3 3], .slice (some ⟨q, 0, none⟩) 3 3, .slice aE Y.length cE] h1 K := fun j1 j2 j3 q h1 K s hK =>
      runs_body 8 (some ⟨j3, 0, none⟩) 3 (jobL j1 j2) (some ⟨q, 0, none⟩) 3 [2, 1, 1] aE cE Y h1 (job_sp s) (lq q [2, 1, 1] h1 _ _ rfl (s.mv 3)) (fun h => by cases h) (by show (3 : Nat) < _; omega) (rsY _ s.drop.drop.drop.drop) bY (fun z hz => gY z hz _ (toQ _ s.drop.drop.drop.drop)) K fun h2 fr => hK h2 (s.drop.drop.drop.drop.fr fr)
     have call2 : ∀ j1 j2 j3 q h1 K, St h h1 (own j1 (.cells false 1 [.int .i64 0] 3) :: own j2 (.cells false 1 [.int .i64 1] 3) :: own j3 (.cells false 8 ((jobL j1 j2).flatMap OpX.cells) 56) :: own q (.cells false 1 [.int .i64 2, .int .i64 1, .int .i64 1] 3) :: FY) → (∀ h2, St h h2 FY → K (.bool true) h2) → wpF Tryz.prog (.fn 17) [.agg #[.int .i64 8, .slice (some ⟨j3, 0, none⟩) 3 3], .slice (some ⟨q, 0, none⟩) 3 3, .slice (some ⟨b7, 0, none⟩) 5 5, .int .i64 x, .int .i64 y] h1 K := fun j1 j2 j3 q h1 K s hK => by
      have := any_body 8 (some ⟨j3, 0, none⟩) 3 (jobL j1 j2) (some ⟨q, 0, none⟩) 3 [2, 1, 1] (some ⟨b7, 0, none⟩) 5 AL x y h1 (job_sp s) (lq q [2, 1, 1] h1 _ _ rfl (s.mv 3)) (fun h => by cases h) (by show (3 : Nat) < _; omega) (rsA _ (toQ _ s.drop.drop.drop.drop)) (by omega) (fun z hz => gd z hz _ (toQ _ s.drop.drop.drop.drop)) K fun h2 fr => hK h2 (s.drop.drop.drop.drop.fr fr)
      rw [hAl] at this
      exact this
     have call3 : ∀ j1 j2 j3 q h1 K, St h h1 (own j1 (.cells false 1 [.int .i64 0] 3) :: own j2 (.cells false 1 [.int .i64 1] 3) :: own j3 (.cells false 8 ((jobL j1 j2).flatMap OpX.cells) 56) :: own q (.cells false 1 [.int .i64 1, .int .i64 2, .int .i64 1] 3) :: FY) → (∀ h2, St h h2 FY → K (.bool true) h2) → wpF Tryz.prog (.fn 3) [.agg #[.int .i64 8, .slice (some ⟨j3, 0, none⟩) 3 3], .slice (some ⟨q, 0, none⟩) 3 3, .slice (some ⟨b7, 0, none⟩) 5 5] h1 K := fun j1 j2 j3 q h1 K s hK => by
      have := whole_body 8 (some ⟨j3, 0, none⟩) 3 (jobL j1 j2) (some ⟨q, 0, none⟩) 3 [1, 2, 1] (some ⟨b7, 0, none⟩) 5 AL h1 (job_sp s) (lq q [1, 2, 1] h1 _ _ rfl (s.mv 3)) (fun h => by cases h) (by show (3 : Nat) < _; omega) (rsA _ (toQ _ s.drop.drop.drop.drop)) (by omega) (fun z hz => gd z hz _ (toQ _ s.drop.drop.drop.drop)) hwf K fun h2 fr => hK h2 (s.drop.drop.drop.drop.fr fr)
      rw [hAl] at this
      exact this
     have s1 := y2.push (.cells false 1 [.int .i64 2, .int .i64 1, .int .i64 1] 3)
     obtain ⟨d1, ed1⟩ : ∃ b, b = hE.next := ⟨_, rfl⟩
     obtain ⟨h3, e3⟩ : ∃ hh, hh = hE.push (.cells false 1 [.int .i64 2, .int .i64 1, .int .i64 1] 3) := ⟨_, rfl⟩
     rw [← ed1, ← e3] at s1
     refine sd [1, 2, 0, 3, 4, 5, 7, 8, 9, 10, 11, 12, 13, 14, 15, 16, 6, 17, 18, 19, 20, 22, 23, 21, 24, 25, 26] [0, 0, 0, 7, 15, 31, 63, 63, 63, 63, 1599, 3647, 63, 63, 24639, 57407, 63, 131071, 262143, 524287, 1048575, 2097151, 2097151, 2097151, 16777215, 33554431, 67108863] (by decide +kernel) (by decide +kernel) (by decide +kernel) (fun LL hLL => ?_)
     simp only [oxk, simprocAttr, q0, q1, q3, q4, zi3, ← ed1, ← e3]
     refine job_ok _ s1 _ fun j1 j2 j3 h4 s4 => ?_
     simp only [oxk, simprocAttr, q0, q1, q3, q4]
     refine call1 _ _ _ _ _ _ s4 fun h5 s5 => ?_
     have gN := getN _ (toQ _ s5)
     have s6 := s5.push (.cells false 1 [.int .i64 2, .int .i64 1, .int .i64 1] 3)
     obtain ⟨d2, ed2⟩ : ∃ b, b = h5.next := ⟨_, rfl⟩
     obtain ⟨h6, e6⟩ : ∃ hh, hh = h5.push (.cells false 1 [.int .i64 2, .int .i64 1, .int .i64 1] 3) := ⟨_, rfl⟩
     rw [← ed2, ← e6] at s6
     have gN6 := getN _ (toQ _ s6.drop)
     simp only [oxk, simprocAttr, Bool.not_true, q0, q1, q3, q4, zi3, ← ed2, ← e6, hi9, hk9, gN, gN6, vx, vy]
     refine job_ok _ s6 _ fun j4 j5 j6 h7 s7 => ?_
     have gN7 := getN _ (toQ _ s7.drop.drop.drop.drop)
     simp only [oxk, simprocAttr, q0, q1, q3, q4, hi9, hk9, gN7, vx, vy]
     refine call2 _ _ _ _ _ _ s7 fun h8 s8 => ?_
     have gN8 := getN _ (toQ _ s8)
     have s9 := s8.push (.cells false 1 [.int .i64 1, .int .i64 2, .int .i64 1] 3)
     obtain ⟨d3, ed3⟩ : ∃ b, b = h8.next := ⟨_, rfl⟩
     obtain ⟨h9, e9⟩ : ∃ hh, hh = h8.push (.cells false 1 [.int .i64 1, .int .i64 2, .int .i64 1] 3) := ⟨_, rfl⟩
     rw [← ed3, ← e9] at s9
     have gN9 := getN _ (toQ _ s9.drop)
     simp only [oxk, simprocAttr, Bool.not_true, q0, q1, q3, q4, zi3, ← ed3, ← e9, hi9, hk9, gN8, gN9, vx, vy]
     refine job_ok _ s9 _ fun j7 j8 j9 h10 s10 => ?_
     have gN10 := getN _ (toQ _ s10.drop.drop.drop.drop)
     simp only [oxk, simprocAttr, q0, q1, q3, q4, hi9, hk9, gN10, vx, vy]
     refine call3 _ _ _ _ _ _ s10 fun h11 s11 => ?_
     have gN11 := getN _ (toQ _ s11)
     simp only [oxk, simprocAttr, Bool.not_true, hi9, hk9, gN11, vx, vy]
     refine hLL _ _ ?_
     refine wpC_if ?_
     simp only [oxz, simprocAttr]
     refine wpC_skip ?_
     simp only [oxz, simprocAttr]
     refine rg (fun LL hLL => ?_)
     simp only [oxz, simprocAttr, q1, wsucc (show k < 9223372036854775807 by omega)]
     refine hLL _ _ ?_
     simp only [oxz, simprocAttr]
     exact ⟨mk - 1, by omega, k + 1, _, _, by omega, toN _ (toQ _ s11), rfl, by simp [tget_tput, q0], by simp [tget_tput]⟩
    ·refine wpC_seq (sr fun LL hLL => ?_)
     simp only [oxz, simprocAttr, q1, eq_false (show ¬ (k : Int) < 9 by omega)]
     refine hLL _ _ ?_
     refine wpC_if ?_
     simp only [oxz, simprocAttr]
     refine wpC_exit ?_
     simp only [oxz, simprocAttr]
     exact ⟨_, _, s1, rfl, by simp [tget_tput, q0]⟩
   clear s1 q0
   rintro T h2 ⟨u0, R, s1, rfl, q0⟩
   refine rg (fun LL hLL => ?_)
   simp only [oxz, simprocAttr, q0, wsucc (show i < 9223372036854775807 by omega)]
   refine hLL _ _ ?_
   simp only [oxz, simprocAttr]
   exact ⟨m - 1, by omega, i + 1, _, _, by omega, s1, rfl, by simp [tget_tput]⟩
  ·refine wpC_seq (sr fun LL hLL => ?_)
   simp only [oxz, simprocAttr, q0, eq_false (show ¬ (i : Int) < 9 by omega)]
   refine hLL _ _ ?_
   refine wpC_if ?_
   simp only [oxz, simprocAttr]
   refine wpC_exit ?_
   simp only [oxz, simprocAttr]
   exact s1
 rintro T h2 s2
 refine sr (fun LL hLL => ?_)
 simp only [oxz, simprocAttr]
 refine wpF_ext rfl ?_
 refine hLL _ _ ?_
 refine wpC_ret (out_ret ?_)
 simp only [oxz, simprocAttr]
end Go.Proofs.Cd

