/-
  A part of the proof: what functions of the program do on an abstract heap. CONDITIONS: none.
-/
import Derived.Test.YtfcajloeknedeaaGreatOxJKc
import Derived.Test.YtfcajloeknedeaaGreatOxJKb
import Derived.Test.YtfcajloeknedeaaGreatOxVn
set_option linter.unusedSimpArgs false
set_option linter.unusedVariables false
namespace Go.Proofs.Cd
open Go Go.Ox
set_option maxRecDepth 100000
set_option maxHeartbeats 4000000
theorem lens_set {α : Type} {S : List Sv} {LI : List (List α)} (h : S.map Sv.len = LI.map List.length) (k : Nat) (t : Sv) (L : List α) (ht : t.len = L.length) : (S.set k t).map Sv.len = (LI.set k L).map List.length := by
 rw [List.map_set, List.map_set, h, ht]
theorem stDrops {h0 h : AHeap} {F : List Asn} : ∀ {l : List Asn}, St h0 h (l ++ F) → St h0 h F
 | [], s => s
 | _ :: _, s => stDrops s.drop
theorem rdUps {α : Type} {f : α → List Value} {k : Nat} {h0 : AHeap} {F : List Asn} {a : Option Addr} {L : List α} (l : List Asn) (r : Rd h0 F f k a L) : Rd h0 (l ++ F) f k a L := fun h s => r h (stDrops s)
theorem AckRd.ups {h0 : AHeap} {F : List Asn} {x : AckX} (l : List Asn) (r : AckRd h0 F x) : AckRd h0 (l ++ F) x := ⟨rdUps l r.o, r.on, rdUps l r.r, r.rn, rdUps l r.t, r.tn⟩
/-- One list of many, set. -/
theorem wns_put {α : Type} {f : α → List Value} {k : Nat} {e : TypeId} {h0 h : AHeap} {F : List Asn} {S : List Sv} {LI : List (List α)} (i : Nat) (hS : S.length = LI.length) (hi : i < LI.length) (t : Sv) (L : List α) (s : St h0 h (wn f k e t.a t.cap L :: star (wns f k e S LI) :: F)) : St h0 h (star (wns f k e (S.set i t) (LI.set i L)) :: F) := by
 have hw : i < (wns f k e S LI).length := by rw [wns_len hS]; exact hi
 have s1 := (s.mv 1).pick i hw
 have s2 := s1.drop
 rw [wns_set]
 exact ((s2.mv 1).unpick i hw)
/-- A list laid at its place among others. -/
theorem nest_put {α : Type} {f : α → List Value} {k : Nat} {e E : TypeId} {h0 h : AHeap} {F : List Asn} {b c : Nat} {v1 : Option Addr} {v2 : Nat} {L : List α} {ZL : List (List α)} (s : St h0 h (wn f k e v1 v2 L :: nest f k e E (some ⟨b, 0, none⟩) c ZL :: F)) (i : Nat) (hi : i < ZL.length) :
  ∃ C, h.get b = some (.cells false 1 C E) ∧ i * 1 + 1 ≤ C.length ∧ St h0 (h.set b (.cells false 1 (splice C (i * 1) [.slice v1 L.length v2]) E)) (nest f k e E (some ⟨b, 0, none⟩) c (ZL.set i L) :: F) := by
 obtain ⟨S, hS, s1⟩ := (s.mv 1).nest_out
 have hl : S.length = ZL.length := lens hS
 obtain ⟨b', e1, hc, s2⟩ := s1.wn_out (.inr (by simp))
 simp only [Option.some.injEq, Addr.mk.injEq, and_true] at e1
 subst e1
 have hle := flat_le Sv.len1 S i (by omega)
 have hst := flat_store Sv.len1 S i ⟨v1, L.length, v2⟩ (by omega)
 have hst' : splice (S.flatMap Sv.cells) (i * 1) [.slice v1 L.length v2] = (S.set i ⟨v1, L.length, v2⟩).flatMap Sv.cells := hst
 refine ⟨_, s2.get, by omega, ?_⟩
 rw [hst']
 have s3 := (s2.set (.cells false 1 ((S.set i ⟨v1, L.length, v2⟩).flatMap Sv.cells) E)).wn_in (f := Sv.cells) (c := c) (L := S.set i ⟨v1, L.length, v2⟩) (by rw [List.length_set]; exact hc)
 have s4 := (s3).sel 3 [2, 1, 0]
 simp only [oxf] at s4
 have s5 := wns_put i hl hi ⟨v1, L.length, v2⟩ L s4
 exact St.nest_in (lens_set hS i _ _ rfl) (s5.mv 1)
/-- An operator, and where its inputs stand. -/
structure OpX where
 kind : Int
 inn : List Int
 a : Option Addr
 cap : Nat
 f1 : Int
 f2 : Int
 f3 : Int
 parts : Int
 rate : Int
 cost : Int
def OpX.cells (x : OpX) : List Value := [.int .i64 x.kind, .slice x.a x.inn.length x.cap, .int .i64 x.f1, .int .i64 x.f2, .int .i64 x.f3, .int .i64 x.parts, .int .i64 x.rate, .int .i64 x.cost]
theorem OpX.len (x : OpX) : x.cells.length = 8 := rfl
/-- A job's operators, as they lie. -/
structure SpR (h : AHeap) (a : Option Addr) (L : List OpX) : Prop where
 rs : Rs OpX.cells 8 h a L
 ins : ∀ x ∈ L, Rs icell 1 h x.a x.inn ∧ x.inn.length < 17592186045000
 few : L.length < 17592186044000
 caps : ∀ x ∈ L, x.inn.length ≤ capN x.cap
theorem SpR.fr {h h' : AHeap} {a : Option Addr} {L : List OpX} (s : SpR h a L) (f : Fr h h' []) : SpR h' a L := ⟨s.rs.fr f, fun x hx => ⟨(s.ins x hx).1.fr f, (s.ins x hx).2⟩, s.few, s.caps⟩
/-- What is known of one operator's cells. -/
theorem SpR.at {h : AHeap} {a : Option Addr} {L : List OpX} (s : SpR h a L) (i : Nat) (hi : i < L.length) : ∃ b o ro sz C T, a = some ⟨b, o, none⟩ ∧ b < h.next ∧ h.get b = some (.cells ro sz C T) ∧ C[o + i * 8]? = some (.int .i64 L[i].kind) ∧ C[o + i * 8 + 1]? = some (.slice L[i].a L[i].inn.length L[i].cap) ∧
  (C.drop (o + i * 8 + 2)).take 3 = [.int .i64 L[i].f1, .int .i64 L[i].f2, .int .i64 L[i].f3] ∧ o + i * 8 + 2 + 3 ≤ C.length ∧ (C.drop (o + i * 8)).take 8 = L[i].cells ∧ o + i * 8 + 8 ≤ C.length := by
 have hne : L ≠ [] := by rintro rfl; simp at hi
 obtain ⟨b, o, ro, sz, C, T, rfl, p, g, r, q⟩ := s.rs.resolve_left hne
 obtain ⟨w, x⟩ := Rs.row OpX.len r q i hi
 refine ⟨b, o, ro, sz, C, T, rfl, p, g, Rs.cell OpX.len r q i hi 0 (by omega), by rw [Nat.add_assoc]; exact Rs.cell OpX.len r q i hi 1 (by omega), ?_, by omega, w, x⟩
 rw [row_sub (j := 2) (m := 3) w (by omega)]; rfl
/-- A job, boxed. -/
abbrev spB (g : Int) (a : Option Addr) (n c : Nat) : ABlk := .cells false 0 [.int .i64 g, .slice a n c] 24
/-- A checkpoint, boxed. -/
abbrev manB (no : Int) (pa : Option Addr) (P : List Int) (pc n b1 b2 b3 : Nat) : ABlk := .cells false 0 [.int .i64 no, .slice pa P.length pc, .slice (some ⟨b1, 0, none⟩) n n, .slice (some ⟨b2, 0, none⟩) n n, .slice (some ⟨b3, 0, none⟩) n n] 48
def rowSv (x : AckX) : Sv := ⟨x.ra, x.rows.length, x.rc⟩
def outSv (x : AckX) : Sv := ⟨x.ta, x.outs.length, x.tc⟩
theorem rdn_rows {h0 : AHeap} {F : List Asn} {X : List AckX} {a : Option Addr} (r : Rd h0 F Sv.cells 1 a (X.map rowSv)) (rx : ∀ x ∈ X, AckRd h0 F x) : RdN h0 F rcell 3 a (X.map AckX.rows) :=
 ⟨X.map rowSv, by rw [List.map_map, List.map_map]; rfl, r, fun i hi hj => by
  simp only [List.getElem_map]
  have := rx (X[i]'(by simpa using hi)) (List.getElem_mem _)
  exact ⟨this.r, this.rn⟩⟩
theorem rdn_outs {h0 : AHeap} {F : List Asn} {X : List AckX} {a : Option Addr} (r : Rd h0 F Sv.cells 1 a (X.map outSv)) (rx : ∀ x ∈ X, AckRd h0 F x) : RdN h0 F r2cell 2 a (X.map AckX.outs) :=
 ⟨X.map outSv, by rw [List.map_map, List.map_map]; rfl, r, fun i hi hj => by
  simp only [List.getElem_map]
  have := rx (X[i]'(by simpa using hi)) (List.getElem_mem _)
  exact ⟨this.t, this.tn⟩⟩
theorem flat_few {α : Type} {B : Nat} : ∀ (Z : List (List α)), (∀ l ∈ Z, l.length ≤ B) → Z.flatten.length ≤ Z.length * B
 | [], _ => by simp
 | l :: Z, h => by
  have h1 := h l (by simp)
  have h2 := flat_few Z fun x hx => h x (by simp [hx])
  rw [List.flatten_cons, List.length_append, List.length_cons, Nat.succ_mul]; omega
/-- What is laid of an operator. -/
def layO (o : OpX) (X : List AckX) : List Int := if o.kind = 1 then offsL o.parts.toNat (X.map AckX.offs) else []
def layR (G : Int) (o : OpX) (X : List AckX) : List Rwc := if o.kind = 5 ∨ o.kind = 6 then sortB (ltg G) (X.map AckX.rows).flatten else []
def layT (o : OpX) (X : List AckX) : List Rc2 := if o.kind = 8 then (X.map AckX.outs).flatten else []
theorem lay_ok {h0 : AHeap} {F : List Asn} (G : Int) (sa : Option Addr) (sc : Nat) (L : List OpX) (sp : SpR h0 sa L) (op : Nat) (hop : op < L.length) (hpt : L[op].kind = 1 → 1 ≤ L[op].parts ∧ L[op].parts ≤ 8) (la : Option Addr) (lc : Nat) (X : List AckX) (r : Rd h0 F AckX.cells 5 la X) (rx : ∀ x ∈ X, AckRd h0 F x) (hl : X.length ≤ 1000) (hx : ∀ x ∈ X, AckSm x)
  (bm : Nat) (no : Int) (pa : Option Addr) (P : List Int) (pc n b1 b2 b3 : Nat) (LO : List (List Int)) (LR : List (List Rwc)) (LT : List (List Rc2)) (hn1 : LO.length = n) (hn2 : LR.length = n) (hn3 : LT.length = n) (hop' : op < n) (e1 : LO[op]'(by omega) = []) (e2 : LR[op]'(by omega) = []) (e3' : LT[op]'(by omega) = []) (h : AHeap)
  (s : St h0 h (own bm (manB no pa P pc n b1 b2 b3) :: nest icell 1 3 25 (some ⟨b1, 0, none⟩) n LO :: nest rcell 3 63 30 (some ⟨b2, 0, none⟩) n LR :: nest r2cell 2 65 31 (some ⟨b3, 0, none⟩) n LT :: F)) (K : Value → AHeap → Prop)
  (hk : ∀ h', St h0 h' (own bm (manB no pa P pc n b1 b2 b3) :: nest icell 1 3 25 (some ⟨b1, 0, none⟩) n (LO.set op (layO L[op] X)) :: nest rcell 3 63 30 (some ⟨b2, 0, none⟩) n (LR.set op (layR G L[op] X)) :: nest r2cell 2 65 31 (some ⟨b3, 0, none⟩) n (LT.set op (layT L[op] X)) :: F) → K (.tuple #[]) h') :
  wpF Tryz.prog (.fn 27) [.pointer (some ⟨bm, 0, none⟩), .agg #[.int .i64 G, .slice sa L.length sc], .int .i64 op, .slice la X.length lc] h K := by
 have hfew := sp.few
 have hopn := hop'
 refine wpF_fun 73 [] Tryz.func27 rfl rfl rfl rfl ?_
 have s1 := s.push (spB G sa L.length sc)
 obtain ⟨h1, e4⟩ : ∃ h1, h1 = h.push (spB G sa L.length sc) := ⟨_, rfl⟩
 obtain ⟨bs, ebs⟩ : ∃ b, b = h.next := ⟨_, rfl⟩
 rw [← e4, ← ebs] at s1
 refine sr (fun LL hLL => ?_)
 simp only [oxz, simprocAttr]
 refine hLL _ _ ?_
 rw [← e4, ← ebs]
 refine sr (fun LL hLL => ?_)
 simp only [oxz, simprocAttr]
 refine hLL _ _ ?_
 refine sr (fun LL hLL => ?_)
 simp only [oxz, simprocAttr]
 refine hLL _ _ ?_
 refine fg10 (fun R => ?_)
 have s2 := (s1.wn_nil (f := Sv.cells) (k := 1) (e := 30)).wn_nil (f := Sv.cells) (k := 1) (e := 31)
 clear e4
 refine sm (fun T h' => ∃ (ar : Option Addr) (dr : Nat) (at_ : Option Addr) (dt : Nat) (u4 u6 u7 : Value) (R : List Value), St h0 h' (wn Sv.cells 1 31 at_ dt (X.map outSv) :: wn Sv.cells 1 30 ar dr (X.map rowSv) :: own bs (spB G sa L.length sc) :: own bm (manB no pa P pc n b1 b2 b3) :: nest icell 1 3 25 (some ⟨b1, 0, none⟩) n LO :: nest rcell 3 63 30 (some ⟨b2, 0, none⟩) n LR :: nest r2cell 2 65 31 (some ⟨b3, 0, none⟩) n LT :: F) ∧
  T = .pointer (some ⟨bm, 0, none⟩) :: .agg #[.int .i64 G, .slice sa L.length sc] :: .int .i64 op :: .slice la X.length lc :: u4 :: .pointer (some ⟨bs, 0, none⟩) :: u6 :: u7 :: .slice ar X.length dr :: .slice at_ X.length dt :: R) ?_ ?_
 ·refine sr (fun LL hLL => ?_)
  simp only [oxz, simprocAttr]
  refine hLL _ _ ?_
  have z : List.take 0 X = [] := rfl
  refine wpC_block ?_
  refine wpC_loop (fun m T h' => ∃ (i : Nat) (ar : Option Addr) (dr : Nat) (at_ : Option Addr) (dt : Nat) (u4 u6 u7 : Value) (R : List Value), m + i = X.length ∧ St h0 h' (wn Sv.cells 1 31 at_ dt ((X.take i).map outSv) :: wn Sv.cells 1 30 ar dr ((X.take i).map rowSv) :: own bs (spB G sa L.length sc) :: own bm (manB no pa P pc n b1 b2 b3) :: nest icell 1 3 25 (some ⟨b1, 0, none⟩) n LO :: nest rcell 3 63 30 (some ⟨b2, 0, none⟩) n LR :: nest r2cell 2 65 31 (some ⟨b3, 0, none⟩) n LT :: F) ∧
   T = .pointer (some ⟨bm, 0, none⟩) :: .agg #[.int .i64 G, .slice sa L.length sc] :: .int .i64 op :: .slice la X.length lc :: u4 :: .pointer (some ⟨bs, 0, none⟩) :: u6 :: u7 :: .slice ar i dr :: .slice at_ i dt :: R ∧ tget R 3 = .slice la X.length lc ∧ tget R 4 = .int .i64 X.length ∧ tget R 5 = .int .i64 i) ?_ X.length _ _ ⟨0, none, 0, none, 0, _, _, _, _, by omega, by rw [z]; exact s2, rfl, by simp [tget_tput], by simp [tget_tput], by simp [tget_tput]⟩
  clear s2 s1
  rintro m T h' ⟨i, ar, dr, at_, dt, u4, u6, u7, R, hmi, s1, rfl, q1, q2, q3⟩
  refine sr (fun LL hLL => ?_)
  simp only [oxz, simprocAttr, q1, q2, q3]
  refine hLL _ _ ?_
  refine wpC_seq ?_
  refine wpC_if ?_
  simp only [oxz, simprocAttr]
  refine gC_of (fun hc => ?_) (fun hc => ?_)
  ·refine wpC_skip ?_
   simp only [oxz, simprocAttr]
   have hi : i < X.length := by omega
   have hli : (X.take i).length = i := by rw [List.length_take]; omega
   have ht : X.take (i + 1) = X.take i ++ [X[i]] := List.take_succ_eq_append_getElem hi
   obtain ⟨bq, oq, roq, szq, Cq, Tq, eq, pq, gq, rq, qq⟩ := (r _ (s1.drop.drop.drop.drop.drop.drop.drop)).resolve_left (by rintro rfl; simp at hi)
   obtain ⟨wq, xq⟩ := Rs.row AckX.len rq qq i hi
   obtain ⟨x, ex⟩ : ∃ x, x = X[i] := ⟨_, rfl⟩
   rw [← ex] at wq ht
   obtain ⟨ba, eba⟩ : ∃ b, b = h'.next := ⟨_, rfl⟩
   have s2 := (s1.push (.cells false 0 [.int .i64 0, .int .i64 0, .slice none 0 0, .slice none 0 0, .slice none 0 0] 33)).set (.cells false 0 x.cells 33)
   have gz := (s1.push (.cells false 0 [.int .i64 0, .int .i64 0, .slice none 0 0, .slice none 0 0, .slice none 0 0] 33)).get
   unfold AckX.cells at wq s2
   rw [eq] at q1 ⊢
   refine wpC_seq (wpC_block ?_)
   refine sr (fun LL hLL => ?_)
   simp only [oxz, simprocAttr, q1, q2, q3, ixF hi, gq, wq, xq, AckX.len, gz]
   refine hLL _ _ ?_
   obtain ⟨h2, e2⟩ : ∃ h2, h2 = (h'.push (.cells false 0 [.int .i64 0, .int .i64 0, .slice none 0 0, .slice none 0 0, .slice none 0 0] 33)).set h'.next (.cells false 0 [.int .i64 x.no, .int .i64 x.task, .slice x.oa x.offs.length x.oc, .slice x.ra x.rows.length x.rc, .slice x.ta x.outs.length x.tc] 33) := ⟨_, rfl⟩
   rw [← e2, ← eba] at s2
   rw [← e2, ← eba]
   have ga := s2.get
   have s3 := s2.push (.cells false 1 [.slice x.ra x.rows.length x.rc] 30)
   have gb3 := s3.get
   obtain ⟨h3, e3⟩ : ∃ h3, h3 = h2.push (.cells false 1 [.slice x.ra x.rows.length x.rc] 30) := ⟨_, rfl⟩
   obtain ⟨n3, en3⟩ : ∃ b, b = h2.next := ⟨_, rfl⟩
   rw [← e3, ← en3] at s3 gb3
   have ga3 := (s3.mv 1).get
   have s4 := s3.push (.cells false 1 [.slice x.ta x.outs.length x.tc] 31)
   have gb4 := s4.get
   obtain ⟨h4, e4⟩ : ∃ h4, h4 = h3.push (.cells false 1 [.slice x.ta x.outs.length x.tc] 31) := ⟨_, rfl⟩
   obtain ⟨n4, en4⟩ : ∃ b, b = h3.next := ⟨_, rfl⟩
   rw [← e4, ← en4] at s4 gb4
   have zz : aZeros [.slice none 0 0] 1 = [.slice none 0 0] := rfl
   have ga4 := (s4.mv 2).get
   have sv : ∀ (a : Option Addr) (m n : Nat), veq 6 (.slice a m n) (.slice a m n) = true := by intro a m n; simp [veq]
   obtain ⟨aR, cR, h5, y1, y2⟩ := (s4.mv 4).app (M := [rowSv x]) (bytes := 24) (d := 1) (s' := some ⟨n3, 0, none⟩) Sv.len1 Sv.oc (fst_all (s4.mv 1).get rfl) (by simp; omega) (by simp; omega)
   rw [List.length_append, List.length_map, hli] at y1
   have ga5 := (y2.mv 3).get
   obtain ⟨aT, cT, h6, y3, y4⟩ := (y2.mv 4).app (M := [outSv x]) (bytes := 24) (d := 1) (s' := some ⟨n4, 0, none⟩) Sv.len1 Sv.oc (fst_all (y2.mv 1).get rfl) (by simp; omega) (by simp; omega)
   rw [List.length_append, List.length_map, hli] at y3
   simp only [List.length_cons, List.length_nil, Nat.zero_add] at y1 y3
   refine dw [0, 1, 2, 3, 5, 6, 7, 8, 4, 9, 10, 11] [0, 0, 2, 6, 0, 0, 64, 192, 15, 511, 1023, 2047] (by decide +kernel) (by decide +kernel) (by decide +kernel) (fun LL hLL => ?_)
   simp only [oxz, simprocAttr, ga, zz, ← e3, ← en3, ga3, ← e4, ← en4, ga4, sv, y1, ga5, y3]
   refine hLL _ _ ?_
   simp only [oxz, simprocAttr]
   refine rg (fun LL hLL => ?_)
   simp only [oxz, simprocAttr, q1, q2, q3, wsucc (show i < 9223372036854775807 by omega)]
   refine hLL _ _ ?_
   simp only [oxz, simprocAttr]
   have m1 : (X.take i).map rowSv ++ [rowSv x] = (X.take (i + 1)).map rowSv := by rw [ht, List.map_append]; rfl
   have m2 : (X.take i).map outSv ++ [outSv x] = (X.take (i + 1)).map outSv := by rw [ht, List.map_append]; rfl
   rw [m1, m2] at y4
   have s5 := (y4).sel 5 [0, 1]
   simp only [oxf] at s5
   exact ⟨m - 1, by omega, i + 1, aR, cR, aT, cT, _, _, _, _, by omega, s5, rfl, by simp [tget_tput, q1, eq], by simp [tget_tput, q2], by simp [tget_tput]⟩
  ·have hil : i = X.length := by omega
   subst hil
   rw [List.take_length] at s1
   refine wpC_exit ?_
   simp only [oxz, simprocAttr]
   exact ⟨ar, dr, at_, dt, _, _, _, _, s1, rfl⟩
 clear s2 s1
 rintro T h2 ⟨ar, dr, at_, dt, u4, u6, u7, R, s1, rfl⟩
 obtain ⟨b5, o5, ro5, sz5, C5, T5, e5, p5, g5, w0, w1, w2, x2, w8, x8⟩ := (sp.fr s1.base).at op hop
 subst e5
 obtain ⟨o, eo⟩ : ∃ o, o = L[op] := ⟨_, rfl⟩
 rw [← eo] at hpt w8 hk
 have gs := (s1.mv 2).get
 obtain ⟨bo, ebo⟩ : ∃ b, b = h2.next := ⟨_, rfl⟩
 have s2 := (s1.push (.cells false 0 [.int .i64 0, .slice none 0 0, .int .i64 0, .int .i64 0, .int .i64 0, .int .i64 0, .int .i64 0, .int .i64 0] 56)).set (.cells false 0 o.cells 56)
 have gz := (s1.push (.cells false 0 [.int .i64 0, .slice none 0 0, .int .i64 0, .int .i64 0, .int .i64 0, .int .i64 0, .int .i64 0, .int .i64 0] 56)).get
 unfold OpX.cells at w8 s2
 refine sr (fun LL hLL => ?_)
 simp only [oxz, simprocAttr, gs, ixF hop, g5, w8, x8, OpX.len, gz]
 refine hLL _ _ ?_
 obtain ⟨h3, e3⟩ : ∃ h3, h3 = (h2.push (.cells false 0 [.int .i64 0, .slice none 0 0, .int .i64 0, .int .i64 0, .int .i64 0, .int .i64 0, .int .i64 0, .int .i64 0] 56)).set h2.next (.cells false 0 [.int .i64 o.kind, .slice o.a o.inn.length o.cap, .int .i64 o.f1, .int .i64 o.f2, .int .i64 o.f3, .int .i64 o.parts, .int .i64 o.rate, .int .i64 o.cost] 56) := ⟨_, rfl⟩
 rw [← e3, ← ebo] at s2
 rw [← e3, ← ebo]
 clear e3 gz gs s1
 have go := s2.get
 refine sr (fun LL hLL => ?_)
 simp only [oxz, simprocAttr, go]
 refine hLL _ _ ?_
 have hne : ∀ {α : Type} (ZL : List (List α)) (i : Nat) (hi : i < ZL.length), ZL[i] = [] → ZL.set i [] = ZL := fun ZL i hi e => by rw [← e, List.set_getElem_self]
 refine wpC_block ?_
 by_cases k1 : o.kind = 1
 ·have hp := hpt k1
  obtain ⟨pn, epn⟩ : ∃ pn : Nat, o.parts = pn := ⟨o.parts.toNat, by omega⟩
  have hR : layR G o X = [] := by unfold layR; rw [if_neg (by omega)]
  have hT : layT o X = [] := by unfold layT; rw [if_neg (by omega)]
  have hO : layO o X = offsL pn (X.map AckX.offs) := by unfold layO; rw [if_pos k1, epn, Int.toNat_natCast]
  have gm := (s2.mv 4).get
  refine sr (fun LL hLL => ?_)
  simp only [oxz, simprocAttr, eq_true k1]
  refine hLL _ _ ?_
  refine wpC_if ?_
  simp only [oxz, simprocAttr]
  refine du [some 39, some 40, some 41, some 42, some 43, some 44, some 45, some 46, some 47, some 48, none] 11 [0, 1, 3, 7, 0, 0, 32, 0, 224, 511, 1023] (by rfl) (by rfl) (by decide +kernel) (by decide +kernel) (by decide +kernel) (fun LL hLL => ?_)
  simp only [oxk, simprocAttr, gm, go, epn]
  refine offsets_ok pn (by omega) la lc X (rdUps [_, _, _, _, _, _, _, _] r) (fun x hx' => (rx x hx').ups [_, _, _, _, _, _, _, _]) (by omega) hx _ s2 _ fun b d h4 s4 => ?_
  have ol := offsL_len pn (X.map AckX.offs)
  have gm4 := (s4.mv 5).get
  have go4 := (s4.mv 1).get
  rw [epn] at go4
  have s5 := (s4).sel 9 [0, 6, 5, 7, 8]
  simp only [oxf] at s5
  have hln : op < LO.length := by omega
  obtain ⟨C, gC, hC, s6⟩ := nest_put s5 op hln
  rw [ol] at s6
  have sv : ∀ (a : Option Addr) (m n : Nat), veq 6 (.slice a m n) (.slice a m n) = true := by intro a m n; simp [veq]
  simp only [oxk, simprocAttr, gm4, go4, sv, ixF hopn, gC, eq_true hC]
  refine hLL _ _ ?_
  simp only [oxz, simprocAttr]
  refine out_normal ?_
  simp only [oxz, simprocAttr]
  refine hk _ ?_
  rw [hO, hR, hT, hne LR op (by omega) e2, hne LT op (by omega) e3']
  exact s6.mv 1
 have hO : layO o X = [] := by unfold layO; rw [if_neg k1]
 refine sr (fun LL hLL => ?_)
 simp only [oxz, simprocAttr, eq_false k1]
 refine hLL _ _ ?_
 refine wpC_if ?_
 simp only [oxz, simprocAttr]
 by_cases k5 : o.kind = 5 ∨ o.kind = 6
 ·have hR : layR G o X = sortB (ltg G) (X.map AckX.rows).flatten := by unfold layR; rw [if_pos k5]
  have hT : layT o X = [] := by unfold layT; rw [if_neg (by omega)]
  have hB : ((X.map AckX.rows).flatten).length < 1000000 := by
   have := flat_few (B := 100) (X.map AckX.rows) (fun l hl => by obtain ⟨x, hx', rfl⟩ := List.mem_map.1 hl; exact (hx x hx').r)
   rw [List.length_map] at this; omega
  have hXl : (X.map AckX.rows).length = X.length := List.length_map ..
  have gm := (s2.mv 4).get
  have gs := (s2.mv 3).get
  refine sm (fun T h' => h' = h3 ∧ ∃ (u4 u6 u7 : Value) (R : List Value), T = .pointer (some ⟨bm, 0, none⟩) :: .agg #[.int .i64 G, .slice (some ⟨b5, o5, none⟩) L.length sc] :: .int .i64 op :: .slice la X.length lc :: u4 :: .pointer (some ⟨bs, 0, none⟩) :: u6 :: u7 :: .slice ar X.length dr :: .slice at_ X.length dt :: R ∧ tget R 39 = .bool true) ?_ ?_
  ·rcases k5 with k5 | k5
   ·refine sr (fun LL hLL => ?_)
    simp only [oxz, simprocAttr, eq_true k5]
    refine hLL _ _ ?_
    refine wpC_if ?_
    simp only [oxz, simprocAttr]
    refine wpC_skip ?_
    simp only [oxz, simprocAttr]
    exact ⟨_, _, _, _, rfl, by simp [tget_tput]⟩
   ·refine sr (fun LL hLL => ?_)
    simp only [oxz, simprocAttr, eq_false (show ¬ o.kind = 5 by omega)]
    refine hLL _ _ ?_
    refine wpC_if ?_
    simp only [oxz, simprocAttr]
    refine rg (fun LL hLL => ?_)
    simp only [oxz, simprocAttr, eq_true k5]
    refine hLL _ _ ?_
    simp only [oxz, simprocAttr]
    exact ⟨_, _, _, _, rfl, by simp [tget_tput]⟩
  rintro T h' ⟨rfl, u4, u6, u7, R, rfl, qc⟩
  refine wpC_if ?_
  simp only [oxz, simprocAttr, qc]
  refine du [some 52, some 53, some 54, some 55, some 56, some 57, some 58, some 59, some 60, some 61, some 62, none] 12 [0, 1, 3, 7, 0, 0, 0, 64, 192, 480, 1023, 2047] (by rfl) (by rfl) (by decide +kernel) (by decide +kernel) (by decide +kernel) (fun LL hLL => ?_)
  simp only [oxk, simprocAttr, gm, gs, go]
  refine byGroups_ok G _ s2 _ fun bg h4 s4 => ?_
  have sv : ∀ (a : Option Addr) (m n : Nat), veq 6 (.slice a m n) (.slice a m n) = true := by intro a m n; simp [veq]
  have gm4 := (s4.mv 5).get
  have gs4 := (s4.mv 4).get
  simp only [oxk, simprocAttr, gm4, gs4, sv]
  rw [← hXl]
  have rr := rdn_rows (h0 := h0) (F := own bg (.cells false 0 [.int .i64 G] 3) :: own bo (.cells false 0 [.int .i64 o.kind, .slice o.a o.inn.length o.cap, .int .i64 o.f1, .int .i64 o.f2, .int .i64 o.f3, .int .i64 o.parts, .int .i64 o.rate, .int .i64 o.cost] 56) :: wn Sv.cells 1 31 at_ dt (X.map outSv) :: wn Sv.cells 1 30 ar dr (X.map rowSv) :: own bs (spB G (some ⟨b5, o5, none⟩) L.length sc) :: own bm (manB no pa P pc n b1 b2 b3) :: nest icell 1 3 25 (some ⟨b1, 0, none⟩) n LO :: nest rcell 3 63 30 (some ⟨b2, 0, none⟩) n LR :: nest r2cell 2 65 31 (some ⟨b3, 0, none⟩) n LT :: F) (X := X) (a := ar) (fun h s => ((s.mv 3).rs Sv.len1)) (fun x hx' => (rx x hx').ups [_, _, _, _, _, _, _, _, _])
  refine gatherR_ok G bg ar dr (X.map AckX.rows) rr (by omega) hB _ s4 _ fun b d h5 s5 => ?_
  have ol : (sortB (ltg G) (X.map AckX.rows).flatten).length = (X.map AckX.rows).flatten.length := sortB_len (ltg_ord G) _
  have gm5 := (s5.mv 6).get
  have gs5 := (s5.mv 5).get
  have s6 := (s5).sel 10 [0, 8, 6, 7, 9]
  simp only [oxf] at s6
  obtain ⟨C, gC, hC, s7⟩ := nest_put s6 op (by omega)
  rw [ol] at s7
  simp only [oxk, simprocAttr, gm5, gs5, sv, ixF hopn, gC, eq_true hC]
  refine hLL _ _ ?_
  simp only [oxz, simprocAttr]
  refine out_normal ?_
  simp only [oxz, simprocAttr]
  refine hk _ ?_
  rw [hO, hR, hT, hne LO op (by omega) e1, hne LT op (by omega) e3']
  exact (s7.sel 3 [1, 2, 0])
 ·have hR : layR G o X = [] := by unfold layR; rw [if_neg k5]
  have hXl : (X.map AckX.outs).length = X.length := List.length_map ..
  have hB : ((X.map AckX.outs).flatten).length < 1000000 := by
   have := flat_few (B := 100) (X.map AckX.outs) (fun l hl => by obtain ⟨x, hx', rfl⟩ := List.mem_map.1 hl; exact (hx x hx').t)
   rw [List.length_map] at this; omega
  have gm := (s2.mv 4).get
  refine wpC_seq (sr fun LL hLL => ?_)
  simp only [oxz, simprocAttr, eq_false (show ¬ o.kind = 5 by omega)]
  refine hLL _ _ ?_
  refine wpC_if ?_
  simp only [oxz, simprocAttr]
  refine rg (fun LL hLL => ?_)
  simp only [oxz, simprocAttr, eq_false (show ¬ o.kind = 6 by omega)]
  refine hLL _ _ ?_
  simp only [oxz, simprocAttr]
  refine wpC_if ?_
  simp only [oxz, simprocAttr]
  by_cases k8 : o.kind = 8
  ·have hT : layT o X = (X.map AckX.outs).flatten := by unfold layT; rw [if_pos k8]
   refine sr (fun LL hLL => ?_)
   simp only [oxz, simprocAttr, eq_true k8]
   refine hLL _ _ ?_
   refine wpC_if ?_
   simp only [oxz, simprocAttr]
   refine du [some 65, some 66, some 67, some 68, some 69, some 70, some 71, some 72, none] 9 [0, 1, 3, 7, 0, 0, 32, 127, 255] (by rfl) (by rfl) (by decide +kernel) (by decide +kernel) (by decide +kernel) (fun LL hLL => ?_)
   simp only [oxk, simprocAttr, gm, go]
   rw [← hXl]
   have rr := rdn_outs (h0 := h0) (F := own bo (.cells false 0 [.int .i64 o.kind, .slice o.a o.inn.length o.cap, .int .i64 o.f1, .int .i64 o.f2, .int .i64 o.f3, .int .i64 o.parts, .int .i64 o.rate, .int .i64 o.cost] 56) :: wn Sv.cells 1 31 at_ dt (X.map outSv) :: wn Sv.cells 1 30 ar dr (X.map rowSv) :: own bs (spB G (some ⟨b5, o5, none⟩) L.length sc) :: own bm (manB no pa P pc n b1 b2 b3) :: nest icell 1 3 25 (some ⟨b1, 0, none⟩) n LO :: nest rcell 3 63 30 (some ⟨b2, 0, none⟩) n LR :: nest r2cell 2 65 31 (some ⟨b3, 0, none⟩) n LT :: F) (X := X) (a := at_) (fun h s => ((s.mv 1).rs Sv.len1)) (fun x hx' => (rx x hx').ups [_, _, _, _, _, _, _, _])
   refine gatherC_ok at_ dt (X.map AckX.outs) rr (by omega) hB _ s2 _ fun b d h5 s5 => ?_
   have sv : ∀ (a : Option Addr) (m n : Nat), veq 6 (.slice a m n) (.slice a m n) = true := by intro a m n; simp [veq]
   have gm5 := (s5.mv 5).get
   have s6 := (s5).sel 9 [0, 8, 5, 6, 7]
   simp only [oxf] at s6
   obtain ⟨C, gC, hC, s7⟩ := nest_put s6 op (by omega)
   simp only [oxk, simprocAttr, gm5, sv, ixF hopn, gC, eq_true hC]
   refine hLL _ _ ?_
   simp only [oxz, simprocAttr]
   refine out_normal ?_
   simp only [oxz, simprocAttr]
   refine hk _ ?_
   rw [hO, hR, hT, hne LO op (by omega) e1, hne LR op (by omega) e2]
   exact (s7.sel 4 [1, 2, 3, 0])
  ·have hT : layT o X = [] := by unfold layT; rw [if_neg k8]
   refine sr (fun LL hLL => ?_)
   simp only [oxz, simprocAttr, eq_false k8]
   refine hLL _ _ ?_
   refine wpC_if ?_
   simp only [oxz, simprocAttr]
   refine wpC_skip ?_
   simp only [oxz, simprocAttr]
   refine out_normal ?_
   simp only [oxz, simprocAttr]
   refine hk _ ?_
   rw [hO, hR, hT, hne LO op (by omega) e1, hne LR op (by omega) e2, hne LT op (by omega) e3']
   exact s2.sel 8 [4, 5, 6, 7]
end Go.Proofs.Cd

namespace Go.Proofs.Cd
open Go Go.Ox
set_option maxRecDepth 100000
set_option maxHeartbeats 4000000
theorem cloneI_ok {h0 : AHeap} {F : List Asn} (a : Option Addr) (c : Nat) (L : List Int) (hl : L.length < 1000000) (h : AHeap) (r : Rd h0 F icell 1 a L) (hn : a = none → L = [] ∧ c = 0) (s : St h0 h F) (K : Value → AHeap → Prop)
  (hk : ∀ b d h', St h0 h' (wn icell 1 3 b d L :: F) → K (.slice b L.length d) h') : wpF Tryz.prog (.fn 26) [.slice a L.length c] h K := by
 refine wpF_fun 8 [.tmp 2] Tryz.func26 rfl rfl rfl rfl ?_
 refine sr (fun LL hLL => ?_)
 simp only [oxz, simprocAttr]
 refine hLL _ _ ?_
 cases a with
 | none =>
  obtain ⟨rfl, rfl⟩ := hn rfl
  refine wpC_seq (sr fun LL hLL => ?_)
  simp only [oxz, simprocAttr]
  refine hLL _ _ ?_
  refine wpC_if ?_
  simp only [oxz, simprocAttr]
  refine sr (fun LL hLL => ?_)
  simp only [oxz, simprocAttr]
  refine hLL _ _ ?_
  refine wpC_ret (out_ret ?_)
  simp only [oxz, simprocAttr]
  exact hk _ _ _ s.wn_nil
 | some x =>
  refine wpC_seq (sr fun LL hLL => ?_)
  simp only [oxz, simprocAttr]
  refine hLL _ _ ?_
  refine wpC_if ?_
  simp only [oxz, simprocAttr]
  refine wpC_skip ?_
  simp only [oxz, simprocAttr]
  refine fg3 (fun R => ?_)
  have s1 := s.push (.cells false 1 [] 3)
  have s2 : St h0 _ (wn icell 1 3 (some ⟨h.next, 0, none⟩) 0 [] :: F) := s1.wn_own [] rfl
  have hf1 : Go.Ox.fst (h.push (.cells false 1 [] 3)) 1 L.length (some x) = some (L.flatMap icell) := (r _ s1.drop).fst (fun h => by cases h)
  obtain ⟨aE, cE, h7, y1, y2⟩ := s2.app (bytes := 8) (d := c) (M := L) icell.len icell.oc hf1 (by simp; omega) (by simp; omega)
  simp only [List.length_nil, List.nil_append] at y1 y2
  refine sr (fun LL hLL => ?_)
  simp only [oxz, simprocAttr, show ∀ z, aZeros z 0 = [] from fun _ => rfl, y1]
  refine hLL _ _ ?_
  refine wpC_ret (out_ret ?_)
  simp only [oxz, simprocAttr]
  exact hk _ _ _ y2
theorem cloneR_ok {h0 : AHeap} {F : List Asn} (a : Option Addr) (c : Nat) (L : List Rwc) (hl : L.length < 1000000) (h : AHeap) (r : Rd h0 F rcell 3 a L) (hn : a = none → L = [] ∧ c = 0) (s : St h0 h F) (K : Value → AHeap → Prop)
  (hk : ∀ b d h', St h0 h' (wn rcell 3 63 b d L :: F) → K (.slice b L.length d) h') : wpF Tryz.prog (.fn 80) [.slice a L.length c] h K := by
 refine wpF_fun 8 [.tmp 2] Tryz.func80 rfl rfl rfl rfl ?_
 refine sr (fun LL hLL => ?_)
 simp only [oxz, simprocAttr]
 refine hLL _ _ ?_
 cases a with
 | none =>
  obtain ⟨rfl, rfl⟩ := hn rfl
  refine wpC_seq (sr fun LL hLL => ?_)
  simp only [oxz, simprocAttr]
  refine hLL _ _ ?_
  refine wpC_if ?_
  simp only [oxz, simprocAttr]
  refine sr (fun LL hLL => ?_)
  simp only [oxz, simprocAttr]
  refine hLL _ _ ?_
  refine wpC_ret (out_ret ?_)
  simp only [oxz, simprocAttr]
  exact hk _ _ _ s.wn_nil
 | some x =>
  refine wpC_seq (sr fun LL hLL => ?_)
  simp only [oxz, simprocAttr]
  refine hLL _ _ ?_
  refine wpC_if ?_
  simp only [oxz, simprocAttr]
  refine wpC_skip ?_
  simp only [oxz, simprocAttr]
  refine fg3 (fun R => ?_)
  have s1 := s.push (.cells false 3 [] 63)
  have s2 : St h0 _ (wn rcell 3 63 (some ⟨h.next, 0, none⟩) 0 [] :: F) := s1.wn_own [] rfl
  have hf1 : Go.Ox.fst (h.push (.cells false 3 [] 63)) 3 L.length (some x) = some (L.flatMap rcell) := (r _ s1.drop).fst (fun h => by cases h)
  obtain ⟨aE, cE, h7, y1, y2⟩ := s2.app (bytes := 24) (d := c) (M := L) rcell.len rcell.oc hf1 (by simp; omega) (by simp; omega)
  simp only [List.length_nil, List.nil_append] at y1 y2
  refine sr (fun LL hLL => ?_)
  simp only [oxz, simprocAttr, show ∀ z, aZeros z 0 = [] from fun _ => rfl, y1]
  refine hLL _ _ ?_
  refine wpC_ret (out_ret ?_)
  simp only [oxz, simprocAttr]
  exact hk _ _ _ y2
theorem cloneC_ok {h0 : AHeap} {F : List Asn} (a : Option Addr) (c : Nat) (L : List Rc2) (hl : L.length < 1000000) (h : AHeap) (r : Rd h0 F r2cell 2 a L) (hn : a = none → L = [] ∧ c = 0) (s : St h0 h F) (K : Value → AHeap → Prop)
  (hk : ∀ b d h', St h0 h' (wn r2cell 2 65 b d L :: F) → K (.slice b L.length d) h') : wpF Tryz.prog (.fn 81) [.slice a L.length c] h K := by
 refine wpF_fun 8 [.tmp 2] Tryz.func81 rfl rfl rfl rfl ?_
 refine sr (fun LL hLL => ?_)
 simp only [oxz, simprocAttr]
 refine hLL _ _ ?_
 cases a with
 | none =>
  obtain ⟨rfl, rfl⟩ := hn rfl
  refine wpC_seq (sr fun LL hLL => ?_)
  simp only [oxz, simprocAttr]
  refine hLL _ _ ?_
  refine wpC_if ?_
  simp only [oxz, simprocAttr]
  refine sr (fun LL hLL => ?_)
  simp only [oxz, simprocAttr]
  refine hLL _ _ ?_
  refine wpC_ret (out_ret ?_)
  simp only [oxz, simprocAttr]
  exact hk _ _ _ s.wn_nil
 | some x =>
  refine wpC_seq (sr fun LL hLL => ?_)
  simp only [oxz, simprocAttr]
  refine hLL _ _ ?_
  refine wpC_if ?_
  simp only [oxz, simprocAttr]
  refine wpC_skip ?_
  simp only [oxz, simprocAttr]
  refine fg3 (fun R => ?_)
  have s1 := s.push (.cells false 2 [] 65)
  have s2 : St h0 _ (wn r2cell 2 65 (some ⟨h.next, 0, none⟩) 0 [] :: F) := s1.wn_own [] rfl
  have hf1 : Go.Ox.fst (h.push (.cells false 2 [] 65)) 2 L.length (some x) = some (L.flatMap r2cell) := (r _ s1.drop).fst (fun h => by cases h)
  obtain ⟨aE, cE, h7, y1, y2⟩ := s2.app (bytes := 16) (d := c) (M := L) r2cell.len r2cell.oc hf1 (by simp; omega) (by simp; omega)
  simp only [List.length_nil, List.nil_append] at y1 y2
  refine sr (fun LL hLL => ?_)
  simp only [oxz, simprocAttr, show ∀ z, aZeros z 0 = [] from fun _ => rfl, y1]
  refine hLL _ _ ?_
  refine wpC_ret (out_ret ?_)
  simp only [oxz, simprocAttr]
  exact hk _ _ _ y2
/-- The same answer, elsewhere. -/
def AckX.mv (x : AckX) (oa : Option Addr) (oc : Nat) (ra : Option Addr) (rc : Nat) (ta : Option Addr) (tc : Nat) : AckX := ⟨x.no, x.task, x.offs, oa, oc, x.rows, ra, rc, x.outs, ta, tc⟩
/-- An answer's lists, held. -/
def ackA (x : AckX) : Asn := star [wn icell 1 3 x.oa x.oc x.offs, wn rcell 3 63 x.ra x.rc x.rows, wn r2cell 2 65 x.ta x.tc x.outs]
abbrev ackZ : List Value := [.int .i64 0, .int .i64 0, .slice none 0 0, .slice none 0 0, .slice none 0 0]
theorem copyOf_ok {h0 : AHeap} {F : List Asn} (x : AckX) (ax : AckRd h0 F x) (sx : AckSm x) (h : AHeap) (s : St h0 h F) (K : Value → AHeap → Prop)
  (hk : ∀ oa oc ra rc ta tc h', St h0 h' (ackA (x.mv oa oc ra rc ta tc) :: F) → K (.agg (x.mv oa oc ra rc ta tc).cells.toArray) h') : wpF Tryz.prog (.fn 55) [.agg x.cells.toArray] h K := by
 obtain ⟨no, task, offs, oa, oc, rows, ra, rc, outs, ta, tc⟩ := x
 have l1 := sx.o
 have l2 := sx.r
 have l3 := sx.t
 obtain ⟨r1, n1, r2, n2, r3, n3⟩ := ax
 simp only at l1 l2 l3 r1 n1 r2 n2 r3 n3
 simp only [AckX.cells, AckX.mv] at hk ⊢
 refine wpF_fun 16 [.cell 2 33] Tryz.func55 rfl rfl rfl rfl ?_
 have s1 := s.push (.cells false 0 [.int .i64 no, .int .i64 task, .slice oa offs.length oc, .slice ra rows.length rc, .slice ta outs.length tc] 33)
 obtain ⟨h1, e1⟩ : ∃ h1, h1 = h.push (.cells false 0 [.int .i64 no, .int .i64 task, .slice oa offs.length oc, .slice ra rows.length rc, .slice ta outs.length tc] 33) := ⟨_, rfl⟩
 obtain ⟨b1, eb1⟩ : ∃ b, b = h.next := ⟨_, rfl⟩
 rw [← e1, ← eb1] at s1
 have s2 := s1.push (.cells false 0 ackZ 33)
 obtain ⟨h2, e2⟩ : ∃ h2, h2 = h1.push (.cells false 0 ackZ 33) := ⟨_, rfl⟩
 obtain ⟨b2, eb2⟩ : ∃ b, b = h1.next := ⟨_, rfl⟩
 rw [← e2, ← eb2] at s2
 refine sr (fun LL hLL => ?_)
 simp only [oxz, simprocAttr, ← e1, ← eb1]
 refine hLL _ _ ?_
 rw [← e2, ← eb2]
 have sv : ∀ (a : Option Addr) (m n : Nat), veq 6 (.slice a m n) (.slice a m n) = true := by intro a m n; simp [veq]
 have g1 := (s2.mv 1).get
 refine sd [0, 1, 3, 4, 6, 7, 2, 9, 5, 8, 10, 11, 12, 13, 14] [0, 1, 0, 8, 0, 64, 3, 223, 31, 255, 1023, 2047, 4095, 8191, 16383] (by decide +kernel) (by decide +kernel) (by decide +kernel) (fun LL hLL => ?_)
 simp only [oxk, simprocAttr, g1, sv]
 refine cloneI_ok oa oc offs (by omega) _ (rdUps [_, _] r1) n1 s2 _ fun a3 c3 h3 s3 => ?_
 have g3 := (s3.mv 2).get
 simp only [oxk, simprocAttr, g3, sv]
 refine cloneR_ok ra rc rows (by omega) _ (rdUps [_, _, _] r2) n2 s3 _ fun a4 c4 h4 s4 => ?_
 have g4 := (s4.mv 3).get
 simp only [oxk, simprocAttr, g4, sv]
 refine cloneC_ok ta tc outs (by omega) _ (rdUps [_, _, _, _] r3) n3 s4 _ fun a5 c5 h5 s5 => ?_
 have s6 := (s5.mv 4).set (.cells false 0 [.int .i64 no, .int .i64 task, .slice a3 offs.length c3, .slice ra rows.length rc, .slice ta outs.length tc] 33)
 have s7 := s6.set (.cells false 0 [.int .i64 no, .int .i64 task, .slice a3 offs.length c3, .slice a4 rows.length c4, .slice ta outs.length tc] 33)
 have s8 := s7.set (.cells false 0 [.int .i64 no, .int .i64 task, .slice a3 offs.length c3, .slice a4 rows.length c4, .slice a5 outs.length c5] 33)
 have g5 := (s5.mv 4).get
 have g6 := s6.get
 have g7 := s7.get
 have g8 := s8.get
 simp only [oxk, simprocAttr, g5, sv, g6, g7]
 refine hLL _ _ ?_
 have g9 := (s8.mv 4).get
 have s9 := (s8.mv 4).set (.cells false 0 [.int .i64 no, .int .i64 task, .slice a3 offs.length c3, .slice a4 rows.length c4, .slice a5 outs.length c5] 33)
 refine sr (fun LL hLL => ?_)
 simp only [oxz, simprocAttr, g8, g9]
 refine hLL _ _ ?_
 refine wpC_ret (out_ret ?_)
 simp only [oxz, simprocAttr]
 simp only [s9.get, oxz, simprocAttr]
 have s10 := (s9).sel 5 [4, 3, 2]
 simp only [oxf] at s10
 exact hk a3 c3 a4 c4 a5 c5 _ (St.star_in (l := [_, _, _]) s10)
end Go.Proofs.Cd

namespace Go.Proofs.Cd
open Go Go.Ox
set_option maxRecDepth 100000
set_option maxHeartbeats 4000000
def tent (x : AckX) : Value × Value := (.int .i64 x.task, .agg x.cells.toArray)
theorem tents_miss (i : Int) : ∀ (X : List AckX) (j : Nat), (∀ y ∈ X, y.task ≠ i) → mFind .i64 i (X.map tent) j = some none
 | [], j, _ => rfl
 | x :: X, j, h => by
  have h1 : ¬ i = x.task := fun e => h x (by simp) e.symm
  show mFind .i64 i ((.int .i64 x.task, .agg x.cells.toArray) :: X.map tent) j = _
  rw [mFind_cons, if_neg h1]
  exact tents_miss i X (j + 1) fun y hy => h y (by simp [hy])
theorem tents_hit (i : Int) : ∀ (X : List AckX) (j : Nat) (x : AckX), X.find? (fun y => decide (y.task = i)) = some x → ∃ p, mFind .i64 i (X.map tent) j = some (some (p, .agg x.cells.toArray))
 | [], j, x, h => by cases h
 | y :: X, j, x, h => by
  show ∃ p, mFind .i64 i ((.int .i64 y.task, .agg y.cells.toArray) :: X.map tent) j = _
  rw [mFind_cons]
  by_cases h1 : y.task = i
  ·rw [List.find?_cons_of_pos (by simpa using h1)] at h
   obtain rfl := Option.some.inj h
   exact ⟨j, by rw [if_pos h1.symm]⟩
  ·rw [List.find?_cons_of_neg (by simpa using h1)] at h
   obtain ⟨p, k⟩ := tents_hit i X (j + 1) x h
   exact ⟨p, by rw [if_neg (fun e => h1 e.symm), k]⟩
/-- What a coordinator that runs holds: its block, the tasks that it waits for, what it was told. -/
def coG (β : Nat) (no since : Int) (stop : Bool) (tasks : Int) (W : List Int) (X : List AckX) : Asn :=
 exs fun B : Nat => exs fun D : Nat => star [own β (coB true no since stop tasks (.map (some B)) (.map (some D))), own B (.map (ents W)), own D (.map (X.map tent)), star (X.map ackA)]
section
variable {h0 h : AHeap} {F : List Asn} {β : Nat} {no since : Int} {stop : Bool} {tasks : Int} {W : List Int} {X : List AckX}
theorem coG_out (s : St h0 h (coG β no since stop tasks W X :: F)) :
  ∃ B D, St h0 h (own β (coB true no since stop tasks (.map (some B)) (.map (some D))) :: own B (.map (ents W)) :: own D (.map (X.map tent)) :: star (X.map ackA) :: F) := by
 obtain ⟨B, s1⟩ := s.ex_out
 obtain ⟨D, s2⟩ := s1.ex_out
 exact ⟨B, D, s2.star_out⟩
theorem coG_in {B D : Nat} (s : St h0 h (own β (coB true no since stop tasks (.map (some B)) (.map (some D))) :: own B (.map (ents W)) :: own D (.map (X.map tent)) :: star (X.map ackA) :: F)) : St h0 h (coG β no since stop tasks W X :: F) :=
 St.ex_in B (St.ex_in D (St.star_in (l := [_, _, _, _]) s))
theorem readyG (s : St h0 h (coG β no since stop tasks W X :: F)) (K : Value → AHeap → Prop) (hk : K (.bool (decide (W.length = 0))) h) : wpF Tryz.prog (.fn 21) [.pointer (some ⟨β, 0, none⟩)] h K := by
 obtain ⟨B, D, s1⟩ := coG_out s
 refine ready_ok h s1 K ?_
 rw [ents_len]
 exact hk
theorem ackG_ok (x : AckX) (ax : AckRd h0 F x) (sx : AckSm x) (hd : x.task ∈ W → ∀ y ∈ X, y.task ≠ x.task) (s : St h0 h (coG β no since stop tasks W X :: F)) (K : Value → AHeap → Prop)
  (hk1 : x.no = no → x.task ∈ W → ∀ oa oc ra rc ta tc h', St h0 h' (coG β no since stop tasks (W.erase x.task) (X ++ [x.mv oa oc ra rc ta tc]) :: F) → K (.tuple #[]) h')
  (hk2 : ¬ (x.no = no ∧ x.task ∈ W) → ∀ h', St h0 h' (coG β no since stop tasks W X :: F) → K (.tuple #[]) h') : wpF Tryz.prog (.fn 20) [.pointer (some ⟨β, 0, none⟩), .agg x.cells.toArray] h K := by
 obtain ⟨B, D, s0⟩ := coG_out s
 obtain ⟨y, ey⟩ : ∃ y, y = x := ⟨_, rfl⟩
 obtain ⟨no2, task, offs, oa, oc, rows, ra, rc, outs, ta, tc⟩ := x
 have gx : y.cells = [.int .i64 no2, .int .i64 task, .slice oa offs.length oc, .slice ra rows.length rc, .slice ta outs.length tc] := by rw [ey]; rfl
 have et : y.task = task := by rw [ey]
 have en : y.no = no2 := by rw [ey]
 rw [← ey] at ax sx hk1
 rw [et] at hk1
 rw [en] at hk1
 simp only [AckX.cells] at hk1 hk2 hd ⊢
 refine wpF_fun 48 [] Tryz.func20 rfl rfl rfl rfl ?_
 refine sr (fun LL hLL => ?_)
 simp only [oxz, simprocAttr]
 refine hLL _ _ ?_
 have s1 := s0.push (.cells false 0 [.int .i64 no2, .int .i64 task, .slice oa offs.length oc, .slice ra rows.length rc, .slice ta outs.length tc] 33)
 obtain ⟨h6, e6⟩ : ∃ h6, h6 = h.push (.cells false 0 [.int .i64 no2, .int .i64 task, .slice oa offs.length oc, .slice ra rows.length rc, .slice ta outs.length tc] 33) := ⟨_, rfl⟩
 obtain ⟨b6, eb6⟩ : ∃ b, b = h.next := ⟨_, rfl⟩
 rw [← e6, ← eb6] at s1
 rw [← e6, ← eb6]
 have ga := s1.get
 have gc := (s1.mv 1).get
 have gb := (s1.mv 2).get
 have gd := (s1.mv 3).get
 have vt : ∀ (n : Int) (b : Bool), veq 6 (.tuple #[.int .i64 n, .bool b]) (.tuple #[.int .i64 n, .bool b]) = true := by intro n b; simp [veq]
 have va : ∀ a b c d e f g h i j k, veq 6 (.agg #[.int .i64 a, .int .i64 b, .slice c d e, .slice f g h, .slice i j k]) (.agg #[.int .i64 a, .int .i64 b, .slice c d e, .slice f g h, .slice i j k]) = true := by intros; simp [veq]
 have back : ∀ h', St h0 h' (own b6 (.cells false 0 [.int .i64 no2, .int .i64 task, .slice oa offs.length oc, .slice ra rows.length rc, .slice ta outs.length tc] 33) :: own β (coB true no since stop tasks (.map (some B)) (.map (some D))) :: own B (.map (ents W)) :: own D (.map (X.map tent)) :: star (X.map ackA) :: F) → St h0 h' (coG β no since stop tasks W X :: F) := fun h' s => coG_in s.drop
 by_cases hn : task ∈ W
 ·obtain ⟨p, k1, k2⟩ := ents_hit task W 0 hn
  refine su [some 7, some 8, some 9, some 10, some 11, some 12, some 13, some 6, some 14, some 15, some 4, some 5] 12 [0, 1, 3, 7, 0, 16, 63, 127, 255, 255, 511, 2047] (by rfl) (by rfl) (by decide +kernel) (by decide +kernel) (by decide +kernel) (fun LL hLL => ?_)
  simp only [oxz, simprocAttr, ga, gc, gb, k1, vt]
  refine hLL _ _ ?_
  refine wpC_seq ?_
  by_cases hno : no2 = no
  ·refine su [some 16, some 17, some 18, some 19, some 20, some 21, some 22, some 23, some 24, some 25, some 26, some 27, some 28, some 29, some 30, some 31, some 32, some 33] 18 [0, 1, 3, 7, 15, 31, 63, 127, 63, 319, 831, 1855, 4095, 8191, 16383, 32767, 65535, 131071] (by rfl) (by rfl) (by decide +kernel) (by decide +kernel) (by decide +kernel) (fun LL hLL => ?_)
   simp only [oxz, simprocAttr, ga, gc, not_true_eq_false, hno]
   refine hLL _ _ ?_
   refine wpC_if ?_
   simp only [oxz, simprocAttr]
   refine wpC_skip ?_
   simp only [oxz, simprocAttr]
   refine fg6 (fun R => ?_)
   refine su [some 34, some 35, some 36, some 37, some 38, some 39, none] 7 [0, 1, 3, 7, 0, 16, 63] (by rfl) (by rfl) (by decide +kernel) (by decide +kernel) (by decide +kernel) (fun LL hLL => ?_)
   simp only [oxz, simprocAttr, ga, gc, del_hit gb hn]
   refine hLL _ _ ?_
   have s2 := (s1.mv 2).set (.map (ents (W.erase task)))
   have ga2 := (s2.mv 1).get
   have gc2 := (s2.mv 2).get
   refine du [some 40, some 41, some 42, some 43, some 44, some 45, some 46, some 47, none] 9 [0, 1, 3, 7, 0, 16, 0, 64, 255] (by rfl) (by rfl) (by decide +kernel) (by decide +kernel) (by decide +kernel) (fun LL hLL => ?_)
   simp only [oxz, simprocAttr, ga2, gc2, va]
   rw [show (#[.int .i64 no2, .int .i64 task, .slice oa offs.length oc, .slice ra rows.length rc, .slice ta outs.length tc] : Array Value) = y.cells.toArray by rw [gx]]
   refine copyOf_ok (F := _ :: _ :: _ :: _ :: _ :: F) y (ax.ups [_, _, _, _, _]) sx _ s2 _ fun oa' oc' ra' rc' ta' tc' h3 s3 => ?_
   have ga3 := (s3.mv 2).get
   have gc3 := (s3.mv 3).get
   have gd3 := (s3.mv 4).get
   have hm := tents_miss task X 0 (hd hn)
   simp only [oxk, simprocAttr, ga3, gc3, gd3, hm, gx, va]
   refine hLL _ _ ?_
   refine out_normal ?_
   simp only [oxz, simprocAttr]
   have s4 := (s3.mv 4).set (.map (X.map tent ++ [(.int .i64 task, .agg (y.mv oa' oc' ra' rc' ta' tc').cells.toArray)]))
   have et2 : (y.mv oa' oc' ra' rc' ta' tc').task = task := et
   have e7 : X.map tent ++ [(.int .i64 task, .agg (y.mv oa' oc' ra' rc' ta' tc').cells.toArray)] = (X ++ [y.mv oa' oc' ra' rc' ta' tc']).map tent := by
    rw [List.map_append]
    show _ = X.map tent ++ [(.int .i64 (y.mv oa' oc' ra' rc' ta' tc').task, .agg (y.mv oa' oc' ra' rc' ta' tc').cells.toArray)]
    rw [et2]
   rw [e7] at s4 ⊢
   have s5 := (s4).sel 6 [5, 1, 4, 2, 0]
   simp only [oxf] at s5
   have s6 := s5.star_snoc
   have e8 : X.map ackA ++ [ackA (y.mv oa' oc' ra' rc' ta' tc')] = (X ++ [y.mv oa' oc' ra' rc' ta' tc']).map ackA := by rw [List.map_append]; rfl
   rw [e8] at s6
   have s7 := (s6).sel 4 [1, 2, 3, 0]
   simp only [oxf] at s7
   exact hk1 hno hn oa' oc' ra' rc' ta' tc' _ (coG_in s7)
  ·refine su [some 16, some 17, some 18, some 19, some 20, some 21, some 22, some 23, some 24, some 25, some 26, some 27, some 28, some 29, some 30, some 31, some 32, some 33] 18 [0, 1, 3, 7, 15, 31, 63, 127, 63, 319, 831, 1855, 4095, 8191, 16383, 32767, 65535, 131071] (by rfl) (by rfl) (by decide +kernel) (by decide +kernel) (by decide +kernel) (fun LL hLL => ?_)
   simp only [oxz, simprocAttr, ga, gc, not_true_eq_false, hno]
   refine hLL _ _ ?_
   refine wpC_if ?_
   simp only [oxz, simprocAttr]
   refine wpC_ret (out_ret ?_)
   simp only [oxz, simprocAttr]
   exact hk2 (fun h => hno h.1) _ (back _ s1)
 ·refine su [some 7, some 8, some 9, some 10, some 11, some 12, some 13, some 6, some 14, some 15, some 4, some 5] 12 [0, 1, 3, 7, 0, 16, 63, 127, 255, 255, 511, 2047] (by rfl) (by rfl) (by decide +kernel) (by decide +kernel) (by decide +kernel) (fun LL hLL => ?_)
  simp only [oxz, simprocAttr, ga, gc, gb, ents_miss task W 0 hn, vt]
  refine hLL _ _ ?_
  refine wpC_seq ?_
  by_cases hno : no2 = no
  ·refine su [some 16, some 17, some 18, some 19, some 20, some 21, some 22, some 23, some 24, some 25, some 26, some 27, some 28, some 29, some 30, some 31, some 32, some 33] 18 [0, 1, 3, 7, 15, 31, 63, 127, 63, 319, 831, 1855, 4095, 8191, 16383, 32767, 65535, 131071] (by rfl) (by rfl) (by decide +kernel) (by decide +kernel) (by decide +kernel) (fun LL hLL => ?_)
   simp only [oxz, simprocAttr, ga, gc, not_true_eq_false, hno]
   refine hLL _ _ ?_
   refine wpC_if ?_
   simp only [oxz, simprocAttr]
   refine wpC_ret (out_ret ?_)
   simp only [oxz, simprocAttr]
   exact hk2 (fun h => hn h.2) _ (back _ s1)
  ·refine su [some 16, some 17, some 18, some 19, some 20, some 21, some 22, some 23, some 24, some 25, some 26, some 27, some 28, some 29, some 30, some 31, some 32, some 33] 18 [0, 1, 3, 7, 15, 31, 63, 127, 63, 319, 831, 1855, 4095, 8191, 16383, 32767, 65535, 131071] (by rfl) (by rfl) (by decide +kernel) (by decide +kernel) (by decide +kernel) (fun LL hLL => ?_)
   simp only [oxz, simprocAttr, ga, gc, not_true_eq_false, hno]
   refine hLL _ _ ?_
   refine wpC_if ?_
   simp only [oxz, simprocAttr]
   refine wpC_ret (out_ret ?_)
   simp only [oxz, simprocAttr]
   exact hk2 (fun h => hn h.2) _ (back _ s1)
end
/-- A run begins. -/
theorem startG_ok {h0 : AHeap} {F : List Asn} {β : Nat} (no : Int) (n : Nat) (stop : Bool) (now : Int) (h2 : n ≤ 768) (h : AHeap) (s : St h0 h (own β (coB false 0 0 false 0 (.map none) (.map none)) :: F)) (K : Value → AHeap → Prop)
  (hk : ∀ h', St h0 h' (coG β no now stop n ((List.range n).map fun (j : Nat) => (j : Int)) [] :: F) → K (.int .i64 0) h') : wpF Tryz.prog (.fn 10) [.pointer (some ⟨β, 0, none⟩), .int .i64 no, .int .i64 n, .bool stop, .int .i64 now] h K := by
 refine wpF_fun 38 [.tmp 10] Tryz.func10 rfl rfl rfl rfl ?_
 refine sr (fun LL hLL => ?_)
 simp only [oxz, simprocAttr]
 refine hLL _ _ ?_
 have g1 := s.get
 refine wpC_seq (sr fun LL hLL => ?_)
 simp only [oxz, simprocAttr, g1]
 refine hLL _ _ ?_
 refine wpC_if ?_
 simp only [oxz, simprocAttr]
 refine wpC_skip ?_
 simp only [oxz, simprocAttr]
 refine fg12 (fun R => ?_)
 have s1 := (s.push (.map [])).push (.map [])
 have g2 := (s1.mv 2).get
 rw [AHeap.next_push] at s1
 refine sr (fun LL hLL => ?_)
 simp only [oxz, simprocAttr, g2]
 refine hLL _ _ ?_
 refine wpC_seq (sr fun LL hLL => ?_)
 simp only [oxz, simprocAttr, eq_false (show ¬ (n : Int) < 0 by omega), eq_false (show ¬ (768 : Int) < (n : Int) by omega), eq_true (show (0 : Int) ≤ (n : Int) by omega)]
 refine hLL _ _ ?_
 refine xp12 17 (by repeat (first | exact tput_le _ _ _ _ (.inr (by omega)) | refine tput_le _ _ _ _ (.inl ?_))) (fun R => ?_)
 simp only [oxz, simprocAttr, show List.range 17 = [0, 1, 2, 3, 4, 5, 6, 7, 8, 9, 10, 11, 12, 13, 14, 15, 16] from rfl]
 have s2 := (s1.mv 2).set (coB true no now stop n (.map (some h.next)) (.map (some (h.next + 1))))
 have s3 := (s2).sel 3 [0, 2, 1]
 simp only [oxf] at s3
 have s4 : St h0 _ (coG β no now stop n ([] : List Int) [] :: F) := coG_in (s3.star_nil.sel 4 [1, 2, 3, 0])
 refine wpC_block ?_
 refine wpC_loop (fun k T h' => ∃ (i : Nat) (u5 u6 u7 u8 u9 u11 u12 u13 u14 u15 u16 u17 u18 u19 u20 u21 u22 u23 u24 u25 u26 : Value) (R : List Value), k + i = n ∧ St h0 h' (coG β no now stop n ((List.range i).map fun (j : Nat) => (j : Int)) [] :: F) ∧ T = .pointer (some ⟨β, 0, none⟩) :: .int .i64 no :: .int .i64 (n : Int) :: .bool stop :: .int .i64 now :: u5 :: u6 :: u7 :: u8 :: u9 :: .int .i64 0 :: u11 :: u12 :: u13 :: u14 :: u15 :: u16 :: u17 :: u18 :: u19 :: u20 :: u21 :: u22 :: u23 :: u24 :: u25 :: u26 :: .int .i64 (n : Int) :: .int .i64 (i : Int) :: R) ?_ n _ _ ⟨0, _, _, _, _, _, _, _, _, _, _, _, _, _, _, _, _, _, _, _, _, _, _, by omega, s4, rfl⟩
 rintro k T h' ⟨i, u5, u6, u7, u8, u9, u11, u12, u13, u14, u15, u16, u17, u18, u19, u20, u21, u22, u23, u24, u25, u26, R, hi, s5, rfl⟩
 refine sr (fun LL hLL => ?_)
 simp only [oxz, simprocAttr]
 refine hLL _ _ ?_
 refine wpC_seq ?_
 refine wpC_if ?_
 simp only [oxz, simprocAttr]
 refine gC_of (fun hc => ?_) (fun hc => ?_)
 ·refine wpC_skip ?_
  simp only [oxz, simprocAttr]
  have hc' : i < n := by omega
  obtain ⟨B, D, s6⟩ := coG_out s5
  have gc := s6.get
  have gb := (s6.mv 1).get
  have hm := ents_miss (i : Int) ((List.range i).map fun (j : Nat) => (j : Int)) 0 (by simp; intro x hx; omega)
  refine wpC_seq (wpC_block ?_)
  refine sr (fun LL hLL => ?_)
  simp only [oxz, simprocAttr]
  refine hLL _ _ ?_
  refine rg (fun LL hLL => ?_)
  simp only [oxz, simprocAttr, gc, gb, hm]
  refine hLL _ _ ?_
  simp only [oxz, simprocAttr]
  refine fg29 (fun R => ?_)
  have s7 := (s6.mv 1).set (.map (ents ((List.range i).map fun (j : Nat) => (j : Int)) ++ [(.int .i64 (i : Int), .int .i64 (i : Int))]))
  have e7 : ents ((List.range i).map fun (j : Nat) => (j : Int)) ++ [(.int .i64 (i : Int), .int .i64 (i : Int))] = ents ((List.range (i + 1)).map fun (j : Nat) => (j : Int)) := by simp [ents, List.range_succ]
  rw [e7] at s7
  have hw : IntKind.i64.wrap ((i : Int) + 1) = ((i + 1 : Nat) : Int) := by rw [wrap_i64 (by omega) (by omega)]; omega
  refine rg (fun LL hLL => ?_)
  simp only [oxz, simprocAttr, hw, e7]
  refine hLL _ _ ?_
  simp only [oxz, simprocAttr]
  exact ⟨k - 1, by omega, i + 1, _, _, _, _, _, _, _, _, _, _, _, _, _, _, _, _, _, _, _, _, _, _, by omega, coG_in (s7.mv 1), rfl⟩
 ·have hin : i = n := by omega
  subst hin
  refine wpC_exit ?_
  simp only [oxz, simprocAttr]
  refine sr (fun LL hLL => ?_)
  simp only [oxz, simprocAttr]
  refine hLL _ _ ?_
  refine wpC_ret (out_ret ?_)
  simp only [oxz, simprocAttr]
  exact hk _ s5
end Go.Proofs.Cd

namespace Go.Proofs.Cd
open Go Go.Ox
set_option maxRecDepth 100000
set_option maxHeartbeats 4000000
def tskOp (op : Nat) (k : Int) : List (Nat × Nat) := (List.range k.toNat).map fun t => (op, t)
/-- The tasks of the first operators. -/
def preT (P : List Int) : Nat → List (Nat × Nat)
 | 0 => []
 | op + 1 => preT P op ++ tskOp op (P[op]?.getD 0)
def tasksL (P : List Int) : List (Nat × Nat) := preT P P.length
theorem tskOp_len (op : Nat) (k : Int) : (tskOp op k).length = k.toNat := by simp [tskOp]
theorem preT_le (P : List Int) (a : Nat) : ∀ b, a ≤ b → ∃ Z, preT P b = preT P a ++ Z
 | 0, h => by
  have : a = 0 := by omega
  subst this
  exact ⟨[], rfl⟩
 | b + 1, h => by
  by_cases e : a = b + 1
  ·subst e; exact ⟨[], by simp⟩
  ·obtain ⟨Z, hZ⟩ := preT_le P a b (by omega)
   exact ⟨Z ++ tskOp b (P[b]?.getD 0), by rw [preT, hZ, List.append_assoc]⟩
theorem preT_at (P : List Int) (op t : Nat) (hop : op < P.length) (ht : t < P[op].toNat) : (tasksL P)[(preT P op).length + t]? = some (op, t) := by
 obtain ⟨Z, hZ⟩ := preT_le P (op + 1) P.length hop
 rw [tasksL, hZ, preT, List.getElem?_eq_getElem hop, List.append_assoc, List.getElem?_append_right (by omega), Nat.add_sub_cancel_left, List.getElem?_append_left (by rw [tskOp_len]; exact ht)]
 simp [tskOp, List.getElem?_range ht]
theorem preT_few (P : List Int) {B : Nat} (hP : ∀ x ∈ P, x ≤ (B : Int)) : ∀ op, (preT P op).length ≤ op * B
 | 0 => by simp [preT]
 | op + 1 => by
  rw [preT, List.length_append, tskOp_len, Nat.succ_mul]
  have ih := preT_few P hP op
  have : (P[op]?.getD 0).toNat ≤ B := by
   by_cases h : op < P.length
   ·rw [List.getElem?_eq_getElem h]
    have := hP _ (List.getElem_mem h)
    simp; omega
   ·rw [List.getElem?_eq_none (by omega)]; simp
  omega
theorem spots1_any (β bp : Nat) (P : List Int) (aP : Option Addr) (cP : Nat) (h : AHeap) (K : Value → AHeap → Prop) (gp : h.get bp = some (.cells false 0 [.slice aP P.length cP] 25)) (hl : P.length ≤ 1000) (hP : ∀ x ∈ P, x ≤ 1000)
  (J : Nat → AHeap → Prop) (rP : ∀ i h', J i h' → Rs icell 1 h' aP P) (hJ : J 0 h)
  (step : ∀ i op t h1 (Q : Value → AHeap → Prop), (tasksL P)[i]? = some (op, t) → J i h1 → (∀ h2, J (i + 1) h2 → Q (.bool true) h2) → wpF Tryz.prog (.yield β) [.int .i64 (i : Nat), .agg #[.int .i64 (op : Nat), .int .i64 (t : Nat)]] h1 Q)
  (hk : ∀ h1, J (tasksL P).length h1 → K (.tuple #[]) h1) : wpF Tryz.prog (.fn 56) [.func (.yield β) #[] #[], .pointer (some ⟨bp, 0, none⟩)] h K := by
 refine wpF_fun 29 [] Tryz.func56 rfl rfl rfl rfl ?_
 refine sr (fun LL hLL => ?_)
 simp only [oxz, simprocAttr]
 refine hLL _ _ ?_
 refine sr (fun LL hLL => ?_)
 simp only [oxz, simprocAttr, gp]
 refine hLL _ _ ?_
 refine fg10 (fun R => ?_)
 refine wpC_block ?_
 refine wpC_loop (fun m T h' => ∃ (op : Nat) (u2 u4 u5 u6 : Value) (R : List Value), m + op = P.length ∧ J (preT P op).length h' ∧ T = .func (.yield β) #[] #[] :: .pointer (some ⟨bp, 0, none⟩) :: u2 :: .int .i64 (preT P op).length :: u4 :: u5 :: u6 :: .slice aP P.length cP :: .int .i64 P.length :: .int .i64 op :: R) ?_ P.length _ _ ⟨0, _, _, _, _, R, by omega, hJ, rfl⟩
 rintro m T h' ⟨op, u2, u4, u5, u6, R, hm, hJ1, rfl⟩
 refine sr (fun LL hLL => ?_)
 simp only [oxz, simprocAttr]
 refine hLL _ _ ?_
 refine wpC_seq ?_
 refine wpC_if ?_
 simp only [oxz, simprocAttr]
 refine gC_of (fun hc => ?_) (fun hc => ?_)
 ·refine wpC_skip ?_
  simp only [oxz, simprocAttr]
  have hop : op < P.length := by omega
  have hPo := hP _ (List.getElem_mem hop)
  obtain ⟨b3, o3, ro3, sz3, C3, T3, e3, p3, g3, r3, w3⟩ := (rP _ _ hJ1).resolve_left (by rintro e; rw [e] at hop; simp at hop)
  have v3 : C3[o3 + op * 1]? = some (.int .i64 P[op]) := Rs.cell icell.len r3 w3 op hop 0 (by omega)
  have hfew := preT_few P (B := 1000) (by intro x hx; exact hP x hx) op
  have hf2 : op * 1000 ≤ 1000 * 1000 := by omega
  rw [e3]
  refine wpC_seq (wpC_block ?_)
  refine sr (fun LL hLL => ?_)
  simp only [oxz, simprocAttr, ixF hop, g3, v3]
  refine hLL _ _ ?_
  refine sr (fun LL hLL => ?_)
  simp only [oxz, simprocAttr]
  refine hLL _ _ ?_
  refine fg10 (fun R => ?_)
  refine wpC_block ?_
  rw [← e3]
  refine wpC_loop (fun m2 T h' => ∃ (t : Nat) (u2 : Value) (R : List Value), m2 + t = P[op].toNat ∧ J ((preT P op).length + t) h' ∧ T = .func (.yield β) #[] #[] :: .pointer (some ⟨bp, 0, none⟩) :: u2 :: .int .i64 ((preT P op).length + t : Nat) :: .int .i64 op :: .int .i64 P[op] :: .int .i64 t :: .slice aP P.length cP :: .int .i64 P.length :: .int .i64 op :: R) ?_ P[op].toNat _ _ ⟨0, _, R, by omega, hJ1, rfl⟩
  rintro m2 T h' ⟨t, u2, R, hm2, hJ2, rfl⟩
  refine wpC_seq ?_
  by_cases ht : (t : Int) < P[op]
  ·refine sr (fun LL hLL => ?_)
   simp only [oxz, simprocAttr, eq_true ht]
   refine hLL _ _ ?_
   refine wpC_if ?_
   simp only [oxz, simprocAttr]
   refine wpC_skip ?_
   simp only [oxz, simprocAttr]
   have ht' : t < P[op].toNat := by omega
   have hat := preT_at P op t hop ht'
   refine wpC_seq (wpC_block ?_)
   refine wpC_seq ?_
   refine sr (fun LL hLL => ?_)
   simp only [oxz, simprocAttr]
   refine step _ op t _ _ hat hJ2 fun h2 hJ3 => ?_
   simp only [oxz, simprocAttr]
   refine hLL _ _ ?_
   refine wpC_if ?_
   simp only [oxz, simprocAttr]
   refine wpC_skip ?_
   simp only [oxz, simprocAttr]
   refine rg (fun LL hLL => ?_)
   simp only [oxz, simprocAttr, wsucc (show (preT P op).length + t < 9223372036854775807 by omega)]
   refine hLL _ _ ?_
   simp only [oxz, simprocAttr]
   refine fg10 (fun R => ?_)
   refine rg (fun LL hLL => ?_)
   simp only [oxz, simprocAttr, wsucc (show t < 9223372036854775807 by omega)]
   refine hLL _ _ ?_
   simp only [oxz, simprocAttr]
   exact ⟨m2 - 1, by omega, t + 1, _, _, by omega, hJ3, rfl⟩
  ·refine sr (fun LL hLL => ?_)
   simp only [oxz, simprocAttr, eq_false ht]
   refine hLL _ _ ?_
   refine wpC_if ?_
   simp only [oxz, simprocAttr]
   refine wpC_exit ?_
   simp only [oxz, simprocAttr]
   refine fg10 (fun R => ?_)
   have hte : t = P[op].toNat := by omega
   refine rg (fun LL hLL => ?_)
   simp only [oxz, simprocAttr, wsucc (show op < 9223372036854775807 by omega)]
   refine hLL _ _ ?_
   simp only [oxz, simprocAttr]
   have e : (preT P (op + 1)).length = (preT P op).length + t := by rw [preT, List.length_append, tskOp_len, List.getElem?_eq_getElem hop, hte]; rfl
   exact ⟨m - 1, by omega, op + 1, _, _, _, _, _, by omega, by rw [e]; exact hJ2, by rw [e]⟩
 ·have hil : op = P.length := by omega
  subst hil
  refine wpC_exit ?_
  simp only [oxz, simprocAttr]
  refine out_normal ?_
  simp only [oxz, simprocAttr]
  exact hk _ hJ1
def spc (x : Nat × Nat) : List Value := [.int .i64 x.1, .int .i64 x.2]
theorem spc.len (x : Nat × Nat) : (spc x).length = 2 := rfl
theorem spc.oc (x : Nat × Nat) : (spc x).all Value.oneCell' = true := rfl
theorem spots_ok {h0 : AHeap} {F : List Asn} (a : Option Addr) (c : Nat) (P : List Int) (h : AHeap) (s : St h0 h F) (K : Value → AHeap → Prop)
  (hk : ∀ bp h', St h0 h' (own bp (.cells false 0 [.slice a P.length c] 25) :: F) → K (.func (.func 56) #[] #[.pointer (some ⟨bp, 0, none⟩)]) h') : wpF Tryz.prog (.fn 25) [.slice a P.length c] h K := by
 refine wpF_fun 4 [.tmp 2] Tryz.func25 rfl rfl rfl rfl ?_
 have s1 := s.push (.cells false 0 [.slice a P.length c] 25)
 refine sr (fun LL hLL => ?_)
 simp only [oxz, simprocAttr]
 refine hLL _ _ ?_
 refine sr (fun LL hLL => ?_)
 simp only [oxz, simprocAttr]
 refine hLL _ _ ?_
 refine wpC_ret (out_ret ?_)
 simp only [oxz, simprocAttr]
 exact hk _ _ s1
theorem tasks_ok {h0 : AHeap} {F : List Asn} (a : Option Addr) (c : Nat) (P : List Int) (r : Rd h0 F icell 1 a P) (hl : P.length ≤ 1000) (hP : ∀ x ∈ P, x ≤ 1000) (h : AHeap) (s : St h0 h F) (K : Value → AHeap → Prop)
  (hk : ∀ b d h', St h0 h' (wn spc 2 52 b d (tasksL P) :: F) → K (.slice b (tasksL P).length d) h') : wpF Tryz.prog (.fn 8) [.slice a P.length c] h K := by
 refine wpF_fun 15 [.tmp 2] Tryz.func8 rfl rfl rfl rfl ?_
 refine sr (fun LL hLL => ?_)
 simp only [oxz, simprocAttr]
 refine hLL _ _ ?_
 refine sr (fun LL hLL => ?_)
 simp only [oxz, simprocAttr]
 refine hLL _ _ ?_
 have s1 := s.push (.cells false 0 [.slice none 0 0] 37)
 obtain ⟨h1, e1⟩ : ∃ h1, h1 = h.push (.cells false 0 [.slice none 0 0] 37) := ⟨_, rfl⟩
 obtain ⟨c3, ec3⟩ : ∃ b, b = h.next := ⟨_, rfl⟩
 rw [← e1, ← ec3] at s1
 rw [← e1, ← ec3]
 refine wpC_seq ?_
 refine sr (fun LL hLL => ?_)
 simp only [oxz, simprocAttr]
 refine spots_ok a c P _ s1 _ fun bp h2 s2 => ?_
 refine hLL _ _ ?_
 obtain ⟨β, hβ⟩ : ∃ β, β = h2.next := ⟨_, rfl⟩
 refine wpC_block (wpC_rangeL 56 #[] #[.pointer (some ⟨bp, 0, none⟩)] (by simp only [oxz, simprocAttr]) (fun L LB LD hL hLB hLD => ?_))
 have s3 := s2.push L
 rw [← hβ] at s3 ⊢
 obtain ⟨h3, e3⟩ : ∃ h3, h3 = h2.push L := ⟨_, rfl⟩
 rw [← e3] at s3 ⊢
 have hfew := preT_few P (B := 1000) (by intro x hx; exact hP x hx) P.length
 have hf2 : P.length * 1000 ≤ 1000 * 1000 := by omega
 refine spots1_any β bp P a c h3 _ (s3.mv 1).get hl hP
  (fun i h' => ∃ b d, St h0 h' (own β L :: wn spc 2 52 b d ((tasksL P).take i) :: own c3 (.cells false 0 [.slice b ((tasksL P).take i).length d] 37) :: F)) (fun i h' ⟨b, d, s⟩ => r _ s.drop.drop.drop) ⟨none, 0, (s3.sel 3 [0, 2]).wn_nil.mv 1⟩ ?_ ?_
 ·rintro i op t h' Q hi ⟨b, d, s5⟩ hq
  have hil : i < (tasksL P).length := by
   by_cases h : i < (tasksL P).length
   ·exact h
   ·rw [List.getElem?_eq_none (by omega)] at hi; cases hi
  have hx : (tasksL P)[i] = (op, t) := by rw [List.getElem?_eq_getElem hil] at hi; exact Option.some.inj hi
  have htk : (tasksL P).take (i + 1) = (tasksL P).take i ++ [(op, t)] := by rw [List.take_succ_eq_append_getElem hil, hx]
  refine wpF_yieldL hL hLB hLD s5.get rfl (by decide) ?_
  change wpC _ _ _ _ (tput (tput _ 8 _) 9 _) _ _
  have sz := s5.push (.cells false 0 [.int .i64 0, .int .i64 0] 52)
  have gz := sz.get
  have s6 := sz.set (.cells false 0 (spc (op, t)) 52)
  obtain ⟨b5, eb5⟩ : ∃ b, b = h'.next := ⟨_, rfl⟩
  simp only [spc] at s6
  refine rg (fun LL hLL => ?_)
  simp only [oxz, simprocAttr, gz]
  refine hLL _ _ ?_
  simp only [oxz, simprocAttr]
  obtain ⟨h6, e6⟩ : ∃ h6, h6 = (h'.push (.cells false 0 [.int .i64 0, .int .i64 0] 52)).set h'.next (.cells false 0 [.int .i64 op, .int .i64 t] 52) := ⟨_, rfl⟩
  rw [← e6, ← eb5] at s6
  rw [← e6, ← eb5]
  refine ⟨(s6.mv 1).get, ?_⟩
  have s7 := (s6.mv 1).set LB
  obtain ⟨h7, e7⟩ : ∃ h7, h7 = h6.set β LB := ⟨_, rfl⟩
  rw [← e7] at s7
  rw [← e7]
  have g5 := (s7.mv 1).get
  have g3 := (s7.mv 3).get
  have hlen : ((tasksL P).take i).length = i := by rw [List.length_take]; omega
  have hT : (tasksL P).length ≤ P.length * 1000 := hfew
  obtain ⟨aE, cE, h8, y1, y2⟩ := (s7.mv 2).app1 (bytes := 16) (op, t) spc.len spc.oc (by omega) (by omega)
  have g38 := (y2.mv 3).get
  have zz : aZeros [.int .i64 0, .int .i64 0] 1 = [.int .i64 0, .int .i64 0] := rfl
  simp only [spc] at y1
  refine wpC_block ?_
  refine rg (fun LL hLL => ?_)
  simp only [oxz, simprocAttr, g5, g3, zz, y1, g38]
  refine hLL _ _ ?_
  simp only [oxz, simprocAttr]
  have s8 := (y2.mv 3).set (.cells false 0 [.slice aE (((tasksL P).take i).length + 1) cE] 37)
  have s9 := (s8.mv 2).set L
  have e9 : ((tasksL P).take i).length + 1 = ((tasksL P).take (i + 1)).length := by rw [htk]; simp
  refine ⟨(s8.mv 2).get, .inl (hq _ ⟨aE, cE, ?_⟩)⟩
  rw [← e9, htk]
  exact s9.sel 4 [0, 2, 1]
 ·rintro h4 ⟨b, d, s4⟩
  rw [List.take_length] at s4
  refine .inl ⟨s4.get, fun Y => ?_⟩
  have s5 := s4.set Y
  have g3 := (s5.mv 2).get
  simp only [oxz, simprocAttr]
  refine sr (fun LL hLL => ?_)
  simp only [oxz, simprocAttr, g3]
  refine hLL _ _ ?_
  refine wpC_ret (out_ret ?_)
  simp only [oxz, simprocAttr]
  exact hk _ _ _ (s5.sel 3 [1])
end Go.Proofs.Cd

namespace Go.Proofs.Cd
open Go Go.Ox
set_option maxRecDepth 100000
set_option maxHeartbeats 4000000
theorem zeros_sv (n : Nat) : aZeros [.slice none 0 0] n = (List.replicate n (⟨none, 0, 0⟩ : Sv)).flatMap Sv.cells := zeros_flat (f := Sv.cells) (⟨none, 0, 0⟩ : Sv) n
theorem none_wns {α : Type} {f : α → List Value} {k : Nat} {e : TypeId} {h0 h : AHeap} {F : List Asn} (s : St h0 h F) : ∀ n : Nat, St h0 h (star (wns f k e (List.replicate n (⟨none, 0, 0⟩ : Sv)) (List.replicate n [])) :: F)
 | 0 => s.star_nil
 | n + 1 => by
  have s1 := (none_wns (f := f) (k := k) (e := e) s n).wn_nil (f := f) (k := k) (e := e)
  have s2 : St h0 h (star ([] ++ [wn f k e none 0 ([] : List α)]) :: star (wns f k e (List.replicate n (⟨none, 0, 0⟩ : Sv)) (List.replicate n [])) :: F) := (St.star_nil s1).star_snoc
  have s3 := s2.star_app
  simp only [List.nil_append, List.cons_append] at s3
  have ew : wns f k e (List.replicate (n + 1) (⟨none, 0, 0⟩ : Sv)) (List.replicate (n + 1) ([] : List α)) = wn f k e none 0 ([] : List α) :: wns f k e (List.replicate n (⟨none, 0, 0⟩ : Sv)) (List.replicate n []) := by
   simp [wns, List.replicate_succ]
  rw [ew]; exact s3
theorem nest_none {α : Type} {f : α → List Value} {k : Nat} {e E : TypeId} {h0 h : AHeap} {F : List Asn} {b n : Nat} (s : St h0 h (own b (.cells false 1 ((List.replicate n (⟨none, 0, 0⟩ : Sv)).flatMap Sv.cells) E) :: F)) : St h0 h (nest f k e E (some ⟨b, 0, none⟩) n (List.replicate n []) :: F) := by
 have s1 := s.wn_own (f := Sv.cells) (List.replicate n (⟨none, 0, 0⟩ : Sv)) rfl
 rw [List.length_replicate] at s1
 have s2 := none_wns (f := f) (k := k) (e := e) s1 n
 exact St.nest_in (by simp) (s2.mv 1)
/-- One of many lists, to write on; the outer block is told. -/
theorem nest_at {α : Type} {f : α → List Value} {k : Nat} {e E : TypeId} {h0 h : AHeap} {F : List Asn} {b c : Nat} {ZL : List (List α)} (s : St h0 h (nest f k e E (some ⟨b, 0, none⟩) c ZL :: F)) (i : Nat) (hi : i < ZL.length) :
  ∃ v1 v2 C l, C[i * 1]? = some (.slice v1 ZL[i].length v2) ∧ i * 1 + 1 ≤ C.length ∧ St h0 h (wn f k e v1 v2 ZL[i] :: own b (.cells false 1 C E) :: star l :: F) ∧
   ∀ w1 w2 M h', St h0 h' (wn f k e w1 w2 M :: own b (.cells false 1 (splice C (i * 1) [.slice w1 M.length w2]) E) :: star l :: F) → St h0 h' (nest f k e E (some ⟨b, 0, none⟩) c (ZL.set i M) :: F) := by
 obtain ⟨S, hS, s1⟩ := s.nest_out
 have hl : S.length = ZL.length := lens hS
 obtain ⟨b', e1, hc, s2⟩ := s1.wn_out (.inr (by simp))
 simp only [Option.some.injEq, Addr.mk.injEq, and_true] at e1
 subst e1
 have hi' : i < S.length := by omega
 have hle := flat_le Sv.len1 S i hi'
 have hw : i < (wns f k e S ZL).length := by rw [wns_len hl]; exact hi
 have s3 := (s2.mv 1).pick i hw
 rw [wns_at i hi' hi hw] at s3
 have v : (S.flatMap Sv.cells)[i * 1]? = some (.slice S[i].a S[i].len S[i].cap) := by rw [flat_get' Sv.len1 S i hi' (by omega)]; rfl
 rw [lens_at hS i hi' hi] at v
 refine ⟨S[i].a, S[i].cap, S.flatMap Sv.cells, (wns f k e S ZL).eraseIdx i, v, by omega, s3.sel 3 [0, 2, 1], fun w1 w2 M h' s4 => ?_⟩
 have hst := flat_store Sv.len1 S i ⟨w1, M.length, w2⟩ hi'
 have hst' : splice (S.flatMap Sv.cells) (i * 1) [.slice w1 M.length w2] = (S.set i ⟨w1, M.length, w2⟩).flatMap Sv.cells := hst
 rw [hst'] at s4
 have s5 : St h0 h' (wn f k e w1 w2 M :: star ((wns f k e S ZL).eraseIdx i) :: own b (.cells false 1 ((S.set i ⟨w1, M.length, w2⟩).flatMap Sv.cells) E) :: F) := s4.sel 3 [0, 2, 1]
 have s6 := s5.unpick i hw
 have ew := wns_set (f := f) (k := k) (e := e) (s := ⟨w1, M.length, w2⟩) (L := M) S ZL i
 rw [← ew] at s6
 have s7 := (s6.mv 1).wn_in (f := Sv.cells) (c := c) (L := S.set i ⟨w1, M.length, w2⟩) (by rw [List.length_set]; exact hc)
 exact St.nest_in (lens_set hS i _ _ rfl) s7
/-- The first ones, the others none yet. -/
def partZ {α : Type} (Z : List (List α)) (i : Nat) : List (List α) := Z.take i ++ List.replicate (Z.length - i) []
theorem partZ_len {α : Type} (Z : List (List α)) (i : Nat) (hi : i ≤ Z.length) : (partZ Z i).length = Z.length := by simp [partZ]; omega
theorem partZ_zero {α : Type} (Z : List (List α)) : partZ Z 0 = List.replicate Z.length [] := by simp [partZ]
theorem partZ_all {α : Type} (Z : List (List α)) : partZ Z Z.length = Z := by simp [partZ]
theorem partZ_at {α : Type} (Z : List (List α)) (i : Nat) (hi : i < Z.length) (h : i < (partZ Z i).length) : (partZ Z i)[i] = [] := by
 have e : (partZ Z i)[i]? = some [] := by
  unfold partZ
  rw [List.getElem?_append_right (by simp; omega), List.getElem?_replicate, if_pos (by simp; omega)]
 rw [List.getElem?_eq_getElem h] at e
 exact Option.some.inj e
theorem partZ_set {α : Type} (Z : List (List α)) (i : Nat) (hi : i < Z.length) : (partZ Z i).set i Z[i] = partZ Z (i + 1) := by
 unfold partZ
 have hl : (Z.take i).length = i := by rw [List.length_take]; omega
 rw [List.set_append_right _ _ (by omega), hl, Nat.sub_self, show Z.length - i = (Z.length - (i + 1)) + 1 by omega, List.replicate_succ, List.set_cons_zero, List.take_succ_eq_append_getElem hi, List.append_assoc]
 rfl
def opOf (P : List Int) (j : Nat) : Nat := ((tasksL P)[j]?.getD (0, 0)).1
/-- What the first i tasks told, of those of an operator. -/
def atOp (P : List Int) (C : Nat → AckX) (i op : Nat) : List AckX := ((List.range i).filter fun j => decide (opOf P j = op)).map C
theorem atOp_zero (P : List Int) (C : Nat → AckX) (op : Nat) : atOp P C 0 op = [] := rfl
theorem atOp_succ (P : List Int) (C : Nat → AckX) (i op : Nat) : atOp P C (i + 1) op = if opOf P i = op then atOp P C i op ++ [C i] else atOp P C i op := by
 unfold atOp
 rw [List.range_succ, List.filter_append, List.map_append]
 split
 ·rename_i h; rw [List.filter_cons_of_pos (by simpa using h)]; rfl
 ·rename_i h; rw [List.filter_cons_of_neg (by simpa using h)]; simp
theorem atOp_len (P : List Int) (C : Nat → AckX) (i op : Nat) : (atOp P C i op).length ≤ i := by
 unfold atOp
 rw [List.length_map]
 have := List.length_filter_le (fun j => decide (opOf P j = op)) (List.range i)
 simpa using this
theorem atOp_mem {P : List Int} {C : Nat → AckX} {i op : Nat} {x : AckX} (h : x ∈ atOp P C i op) : ∃ j, j < i ∧ x = C j := by
 obtain ⟨j, hj, rfl⟩ := List.mem_map.1 h
 exact ⟨j, List.mem_range.1 (List.mem_filter.1 hj).1, rfl⟩
theorem preT_op (P : List Int) : ∀ (m : Nat), ∀ x ∈ preT P m, x.1 < m
 | 0, x, h => by cases h
 | m + 1, x, h => by
  rw [preT] at h
  rcases List.mem_append.1 h with h | h
  ·have := preT_op P m x h; omega
  ·obtain ⟨t, _, rfl⟩ := List.mem_map.1 h
   exact Nat.lt_succ_self m
def manO (L : List OpX) (P : List Int) (C : Nat → AckX) : List (List Int) := L.zipIdx.map fun x => layO x.1 (atOp P C (tasksL P).length x.2)
def manR (G : Int) (L : List OpX) (P : List Int) (C : Nat → AckX) : List (List Rwc) := L.zipIdx.map fun x => layR G x.1 (atOp P C (tasksL P).length x.2)
def manT (L : List OpX) (P : List Int) (C : Nat → AckX) : List (List Rc2) := L.zipIdx.map fun x => layT x.1 (atOp P C (tasksL P).length x.2)
theorem manO_len (L : List OpX) (P : List Int) (C : Nat → AckX) : (manO L P C).length = L.length := by simp [manO]
theorem manR_len (G : Int) (L : List OpX) (P : List Int) (C : Nat → AckX) : (manR G L P C).length = L.length := by simp [manR]
theorem manT_len (L : List OpX) (P : List Int) (C : Nat → AckX) : (manT L P C).length = L.length := by simp [manT]
theorem manO_at (L : List OpX) (P : List Int) (C : Nat → AckX) (i : Nat) (hi : i < L.length) (h : i < (manO L P C).length) : (manO L P C)[i] = layO L[i] (atOp P C (tasksL P).length i) := by simp [manO]
theorem manR_at (G : Int) (L : List OpX) (P : List Int) (C : Nat → AckX) (i : Nat) (hi : i < L.length) (h : i < (manR G L P C).length) : (manR G L P C)[i] = layR G L[i] (atOp P C (tasksL P).length i) := by simp [manR]
theorem manT_at (L : List OpX) (P : List Int) (C : Nat → AckX) (i : Nat) (hi : i < L.length) (h : i < (manT L P C).length) : (manT L P C)[i] = layT L[i] (atOp P C (tasksL P).length i) := by simp [manT]
structure AckRs (h : AHeap) (x : AckX) : Prop where
 o : Rs icell 1 h x.oa x.offs
 on : x.oa = none → x.offs = [] ∧ x.oc = 0
 r : Rs rcell 3 h x.ra x.rows
 rn : x.ra = none → x.rows = [] ∧ x.rc = 0
 t : Rs r2cell 2 h x.ta x.outs
 tn : x.ta = none → x.outs = [] ∧ x.tc = 0
/-- What is held of an answer can be read. -/
theorem ackA_rs {h0 h : AHeap} {F : List Asn} {X : List AckX} {x : AckX} (hx : x ∈ X) (s : St h0 h (star (X.map ackA) :: F)) : AckRs h x := by
 obtain ⟨i, hi, rfl⟩ := List.mem_iff_getElem.1 hx
 have hi' : i < (X.map ackA).length := by simpa using hi
 have s1 := s.pick i hi'
 rw [List.getElem_map] at s1
 have s2 : St h0 h (wn icell 1 3 X[i].oa X[i].oc X[i].offs :: wn rcell 3 63 X[i].ra X[i].rc X[i].rows :: wn r2cell 2 65 X[i].ta X[i].tc X[i].outs :: star ((X.map ackA).eraseIdx i) :: F) := s1.star_out
 have nn : ∀ {α : Type} {f : α → List Value} {k : Nat} {e : TypeId} {a : Option Addr} {c : Nat} {L : List α} {G : List Asn}, St h0 h (wn f k e a c L :: G) → (a = none → L = [] ∧ c = 0) := fun s ha => s.know fun B hB _ => wn_nilcap hB ha
 exact ⟨s2.rs icell.len, nn s2, (s2.mv 1).rs rcell.len, nn (s2.mv 1), (s2.mv 2).rs r2cell.len, nn (s2.mv 2)⟩
end Go.Proofs.Cd

namespace Go.Proofs.Cd
open Go Go.Ox
set_option maxRecDepth 100000
set_option maxHeartbeats 8000000
abbrev manZ : List Value := [.int .i64 0, .slice none 0 0, .slice none 0 0, .slice none 0 0, .slice none 0 0]
/-- What each task told. -/
def contX (X : List AckX) (t : Nat) : AckX := (X.find? fun y => decide (y.task = (t : Int))).getD ⟨0, 0, [], none, 0, [], none, 0, [], none, 0⟩
theorem opOf_lt {P : List Int} {i : Nat} (hi : i < (tasksL P).length) : opOf P i < P.length := by
 unfold opOf
 rw [List.getElem?_eq_getElem hi]
 exact preT_op P P.length _ (List.getElem_mem hi)
def tlF (P : List Int) (C : Nat → AckX) (n i : Nat) : List (List AckX) := (List.range n).map (atOp P C i)
theorem tlF_len (P : List Int) (C : Nat → AckX) (n i : Nat) : (tlF P C n i).length = n := by simp [tlF]
theorem tlF_at (P : List Int) (C : Nat → AckX) (n i j : Nat) (hj : j < n) (h : j < (tlF P C n i).length) : (tlF P C n i)[j] = atOp P C i j := by simp [tlF]
theorem tlF_succ (P : List Int) (C : Nat → AckX) (n i : Nat) : tlF P C n (i + 1) = (tlF P C n i).set (opOf P i) (atOp P C i (opOf P i) ++ [C i]) := by
 refine List.ext_getElem (by simp [tlF]) fun j h1 h2 => ?_
 have hj : j < n := by rw [tlF_len] at h1; exact h1
 rw [tlF_at P C n (i + 1) j hj, List.getElem_set, atOp_succ]
 split
 ·rename_i e; subst e; rfl
 ·rw [tlF_at P C n i j hj]
theorem manifest_ok {h0 : AHeap} {F : List Asn} (G : Int) (sa : Option Addr) (sc : Nat) (L : List OpX) (sp : SpR h0 sa L) (hn : L.length ≤ 12) (hpt : ∀ x ∈ L, x.kind = 1 → 1 ≤ x.parts ∧ x.parts ≤ 8) (pa : Option Addr) (pc : Nat) (P : List Int) (rP : Rd h0 F icell 1 pa P) (nP : pa = none → P = [] ∧ pc = 0) (hP : P.length = L.length) (hPb : ∀ x ∈ P, 1 ≤ x ∧ x ≤ 8)
  (β : Nat) (no since : Int) (stop : Bool) (X : List AckX) (hsm : ∀ x ∈ X, AckSm x) (hall : ∀ t, t < (tasksL P).length → ∃ x, X.find? (fun y => decide (y.task = (t : Int))) = some x) (h : AHeap) (s0 : St h0 h (coG β no since stop (tasksL P).length [] X :: F)) (K : Value → AHeap → Prop)
  (hk : ∀ qa qc b1 b2 b3 h', St h0 h' (wn icell 1 3 qa qc P :: nest icell 1 3 25 (some ⟨b1, 0, none⟩) L.length (manO L P (contX X)) :: nest rcell 3 63 30 (some ⟨b2, 0, none⟩) L.length (manR G L P (contX X)) :: nest r2cell 2 65 31 (some ⟨b3, 0, none⟩) L.length (manT L P (contX X)) :: coG β no since stop (tasksL P).length [] X :: F) →
   K (.tuple #[.agg #[.int .i64 no, .slice qa P.length qc, .slice (some ⟨b1, 0, none⟩) L.length L.length, .slice (some ⟨b2, 0, none⟩) L.length L.length, .slice (some ⟨b3, 0, none⟩) L.length L.length], .bool true]) h') :
  wpF Tryz.prog (.fn 12) [.pointer (some ⟨β, 0, none⟩), .agg #[.int .i64 G, .slice sa L.length sc], .slice pa P.length pc] h K := by
 obtain ⟨B, D, s⟩ := coG_out s0
 have hT12 := preT_few P (B := 8) (fun x hx => (hPb x hx).2) P.length
 have hTL : (tasksL P).length ≤ 96 := by unfold tasksL; omega
 refine wpF_fun 87 [.cell 6 48, .tmp 7] Tryz.func12 rfl rfl rfl rfl ?_
 have s1 := (s.push (spB G sa L.length sc)).push (.cells false 0 manZ 48)
 obtain ⟨bs, ebs⟩ : ∃ b, b = h.next := ⟨_, rfl⟩
 rw [AHeap.next_push] at s1
 obtain ⟨b6, eb6⟩ : ∃ b, b = h.next + 1 := ⟨_, rfl⟩
 obtain ⟨h1, e1⟩ : ∃ h1, h1 = (h.push (spB G sa L.length sc)).push (.cells false 0 manZ 48) := ⟨_, rfl⟩
 rw [← eb6, ← ebs, ← e1] at s1
 refine sr (fun LL hLL => ?_)
 simp only [oxz, simprocAttr]
 refine hLL _ _ ?_
 rw [← eb6, ← ebs, ← e1]
 refine sr (fun LL hLL => ?_)
 simp only [oxz, simprocAttr]
 refine tasks_ok (F := _ :: _ :: _ :: _ :: _ :: _ :: F) pa pc P (rdUps [_, _, _, _, _, _] rP) (by omega) (fun x hx => by have := hPb x hx; omega) _ s1 _ fun ab ad h2 s2 => ?_
 refine hLL _ _ ?_
 refine wpC_seq (sr fun LL hLL => ?_)
 simp only [oxk, simprocAttr]
 have sR := s2.sel 5 [3, 4]
 refine ready_ok _ sR _ ?_
 have gc := sR.get
 have z0 : decide ((ents []).length = 0) = true := rfl
 simp only [oxk, simprocAttr, gc, z0, not_true_eq_false]
 refine hLL _ _ ?_
 refine wpC_if ?_
 simp only [oxz, simprocAttr]
 refine wpC_skip ?_
 simp only [oxz, simprocAttr]
 refine fg16 (fun R => ?_)
 have gs := (s2.mv 2).get
 refine sr (fun LL hLL => ?_)
 simp only [oxz, simprocAttr, gs]
 refine hLL _ _ ?_
 obtain ⟨n, en⟩ : ∃ n, n = L.length := ⟨_, rfl⟩
 rw [← en] at hk hn hP gs s2 ⊢
 obtain ⟨Zb, eZb⟩ : ∃ Z, Z = (List.replicate n (⟨none, 0, 0⟩ : Sv)).flatMap Sv.cells := ⟨_, rfl⟩
 have s3 := ((s2.push (.cells false 1 Zb 25)).push (.cells false 1 Zb 30)).push (.cells false 1 Zb 31)
 simp only [AHeap.next_push] at s3
 obtain ⟨b1, eb1⟩ : ∃ b, b = h2.next := ⟨_, rfl⟩
 obtain ⟨b2, eb2⟩ : ∃ b, b = b1 + 1 := ⟨_, rfl⟩
 obtain ⟨b3, eb3⟩ : ∃ b, b = b2 + 1 := ⟨_, rfl⟩
 obtain ⟨h3, e3⟩ : ∃ h3, h3 = ((h2.push (.cells false 1 Zb 25)).push (.cells false 1 Zb 30)).push (.cells false 1 Zb 31) := ⟨_, rfl⟩
 rw [← e3, ← eb1, ← eb2, ← eb3] at s3
 have s4 := s3.push (.cells false 0 manZ 48)
 obtain ⟨bm, ebm⟩ : ∃ b, b = h3.next := ⟨_, rfl⟩
 obtain ⟨h4, e4⟩ : ∃ h4, h4 = h3.push (.cells false 0 manZ 48) := ⟨_, rfl⟩
 rw [← ebm, ← e4] at s4
 have gc2 := (s2.mv 3).get
 have gc4 := (s4.mv 7).get
 have sv : ∀ (a : Option Addr) (m n : Nat), veq 6 (.slice a m n) (.slice a m n) = true := by intro a m n; simp [veq]
 have mk1 := (msF_of (l := (n : Int)) (c := (n : Int)) (size := 1) (bytes := 24) (zs := [.slice none 0 0]) (e := 25) (by omega) (by omega) (by omega) (by omega))
 have mk2 := (msF_of (l := (n : Int)) (c := (n : Int)) (size := 1) (bytes := 24) (zs := [.slice none 0 0]) (e := 30) (by omega) (by omega) (by omega) (by omega))
 have mk3 := (msF_of (l := (n : Int)) (c := (n : Int)) (size := 1) (bytes := 24) (zs := [.slice none 0 0]) (e := 31) (by omega) (by omega) (by omega) (by omega))
 refine sd [0, 1, 2, 3, 4, 6, 7, 8, 9, 10, 11, 13, 5, 12, 14] [0, 1, 3, 7, 0, 0, 64, 0, 256, 0, 1024, 0, 16, 4095, 16383] (by decide +kernel) (by decide +kernel) (by decide +kernel) (fun LL hLL => ?_)
 simp only [oxk, simprocAttr, gc2, gc4, sv, mk1, mk2, mk3, Int.toNat_natCast, zeros_sv, ← eZb, ← e3, ← e4, ← eb3, ← eb2, ← eb1, ← ebm]
 refine cloneI_ok (F := _ :: _ :: _ :: _ :: _ :: _ :: _ :: _ :: _ :: _ :: _ :: F) pa pc P (by omega) _ (rdUps [_, _, _, _, _, _, _, _, _, _, _] rP) nP s4 _ fun qa qc h5 s5 => ?_
 have gc5 := (s5.mv 8).get
 have gm5 := (s5.mv 1).get
 simp only [oxk, simprocAttr, gc5, gm5, sv]
 refine hLL _ _ ?_
 have s6 := (s5.mv 1).set (manB no qa P qc n b1 b2 b3)
 obtain ⟨h6, e6⟩ : ∃ h6, h6 = h5.set bm (manB no qa P qc n b1 b2 b3) := ⟨_, rfl⟩
 rw [← e6] at s6
 rw [← e6]
 rw [eZb] at s6
 have s7 := (s6).sel 5 [4, 0, 1, 2, 3]
 simp only [oxf] at s7
 have s8 := nest_none (f := icell) (k := 1) (e := 3) s7
 have s9 := nest_none (f := r2cell) (k := 2) (e := 65) (s8.mv 3)
 have s10 := nest_none (f := rcell) (k := 3) (e := 63) (s9.mv 4)
 have s11 := (s10).sel 5 [3, 2, 0, 1, 4]
 simp only [oxf] at s11
 clear s10 s9 s8 s7 s6 s5 s4 s3
 refine fg16 (fun R => ?_)
 have mk4 := (msF_of (l := (n : Int)) (c := (n : Int)) (size := 1) (bytes := 24) (zs := [.slice none 0 0]) (e := 26) (by omega) (by omega) (by omega) (by omega))
 have s3 := s11.push (.cells false 1 Zb 26)
 obtain ⟨bT, ebT⟩ : ∃ b, b = h6.next := ⟨_, rfl⟩
 obtain ⟨h7, e7⟩ : ∃ h7, h7 = h6.push (.cells false 1 Zb 26) := ⟨_, rfl⟩
 rw [← ebT, ← e7] at s3
 refine sr (fun LL hLL => ?_)
 simp only [oxz, simprocAttr, mk4, Int.toNat_natCast, zeros_sv, ← eZb, ← e7, ← ebT]
 refine hLL _ _ ?_
 refine fg16 (fun R => ?_)
 rw [eZb] at s3
 have s4 := nest_none (f := AckX.cells) (k := 5) (e := 33) s3
 obtain ⟨C, eC⟩ : ∃ C, C = contX X := ⟨_, rfl⟩
 rw [← eC] at hk
 have et0 : List.replicate n ([] : List AckX) = tlF P C n 0 := by
  refine List.ext_getElem (by simp [tlF]) fun j h1 h2 => ?_
  rw [tlF_at P C n 0 j (by simpa using h1)]; simp [atOp]
 rw [et0] at s4
 obtain ⟨Tk, eTk⟩ : ∃ Tk, Tk = tasksL P := ⟨_, rfl⟩
 clear s3 s11 e3 e4 e6 e7 e1 mk1 mk2 mk3 mk4 gc5 gm5 gc4 gc2 gc gs sR s2 s1
 refine sm (fun T h' => ∃ (u3 u5 u12 u13 u14 u15 : Value) (R : List Value), St h0 h' (nest AckX.cells 5 33 26 (some ⟨bT, 0, none⟩) n (tlF P C n (tasksL P).length) :: own bm (manB no qa P qc n b1 b2 b3) :: nest icell 1 3 25 (some ⟨b1, 0, none⟩) n (List.replicate n []) :: nest rcell 3 63 30 (some ⟨b2, 0, none⟩) n (List.replicate n []) :: nest r2cell 2 65 31 (some ⟨b3, 0, none⟩) n (List.replicate n []) :: wn icell 1 3 qa qc P :: wn spc 2 52 ab ad (tasksL P) :: own b6 (.cells false 0 manZ 48) :: own bs (spB G sa n sc) :: own β (coB true no since stop (tasksL P).length (.map (some B)) (.map (some D))) :: own B (.map (ents [])) :: own D (.map (X.map tent)) :: star (X.map ackA) :: F) ∧
  T = .pointer (some ⟨β, 0, none⟩) :: .agg #[.int .i64 G, .slice sa n sc] :: .slice pa P.length pc :: u3 :: .pointer (some ⟨bs, 0, none⟩) :: u5 :: .pointer (some ⟨b6, 0, none⟩) :: .bool false :: .slice ab (tasksL P).length ad :: .int .i64 n :: .pointer (some ⟨bm, 0, none⟩) :: .slice (some ⟨bT, 0, none⟩) n n :: u12 :: u13 :: u14 :: u15 :: R) ?_ ?_
 ·refine sr (fun LL hLL => ?_)
  simp only [oxz, simprocAttr]
  refine hLL _ _ ?_
  refine wpC_block ?_
  refine wpC_loop (fun m T h' => ∃ (i : Nat) (u3 u5 u12 u13 u14 u15 : Value) (R : List Value), m + i = (tasksL P).length ∧ St h0 h' (nest AckX.cells 5 33 26 (some ⟨bT, 0, none⟩) n (tlF P C n i) :: own bm (manB no qa P qc n b1 b2 b3) :: nest icell 1 3 25 (some ⟨b1, 0, none⟩) n (List.replicate n []) :: nest rcell 3 63 30 (some ⟨b2, 0, none⟩) n (List.replicate n []) :: nest r2cell 2 65 31 (some ⟨b3, 0, none⟩) n (List.replicate n []) :: wn icell 1 3 qa qc P :: wn spc 2 52 ab ad (tasksL P) :: own b6 (.cells false 0 manZ 48) :: own bs (spB G sa n sc) :: own β (coB true no since stop (tasksL P).length (.map (some B)) (.map (some D))) :: own B (.map (ents [])) :: own D (.map (X.map tent)) :: star (X.map ackA) :: F) ∧
   T = .pointer (some ⟨β, 0, none⟩) :: .agg #[.int .i64 G, .slice sa n sc] :: .slice pa P.length pc :: u3 :: .pointer (some ⟨bs, 0, none⟩) :: u5 :: .pointer (some ⟨b6, 0, none⟩) :: .bool false :: .slice ab (tasksL P).length ad :: .int .i64 n :: .pointer (some ⟨bm, 0, none⟩) :: .slice (some ⟨bT, 0, none⟩) n n :: u12 :: u13 :: u14 :: u15 :: R ∧ tget R 33 = .slice ab (tasksL P).length ad ∧ tget R 34 = .int .i64 (tasksL P).length ∧ tget R 35 = .int .i64 i) ?_ (tasksL P).length _ _ ⟨0, _, _, _, _, _, _, _, by omega, s4, rfl, by simp [tget_tput], by simp [tget_tput], by simp [tget_tput]⟩
  clear s4
  rintro m T h' ⟨i, u3, u5, u12, u13, u14, u15, R, hmi, s1, rfl, q1, q2, q3⟩
  refine sr (fun LL hLL => ?_)
  simp only [oxz, simprocAttr, q1, q2, q3]
  refine hLL _ _ ?_
  refine wpC_seq ?_
  refine wpC_if ?_
  simp only [oxz, simprocAttr]
  refine gC_of (fun hc => ?_) (fun hc => ?_)
  ·refine wpC_skip ?_
   simp only [oxz, simprocAttr]
   have hi : i < (tasksL P).length := by omega
   obtain ⟨bq, oq, roq, szq, Cq, Tq, eq, pq, gq, rq, qq⟩ := ((s1.mv 6).rs spc.len).resolve_left (by intro e; rw [e] at hi; simp at hi)
   obtain ⟨wq, xq⟩ := Rs.row spc.len rq qq i hi
   have hop := opOf_lt hi
   have eop : (tasksL P)[i].1 = opOf P i := by unfold opOf; rw [List.getElem?_eq_getElem hi]; rfl
   obtain ⟨op, e_op⟩ : ∃ op, op = opOf P i := ⟨_, rfl⟩
   obtain ⟨tk, etk⟩ : ∃ tk, tk = (tasksL P)[i].2 := ⟨_, rfl⟩
   unfold spc at wq
   rw [eop, ← etk, ← e_op] at wq
   rw [← e_op] at hop
   have hopn : op < n := by omega
   obtain ⟨ba, eba⟩ : ∃ b, b = h'.next := ⟨_, rfl⟩
   have s2 := (s1.push (.cells false 0 [.int .i64 0, .int .i64 0] 52)).set (.cells false 0 [.int .i64 op, .int .i64 tk] 52)
   have gz := (s1.push (.cells false 0 [.int .i64 0, .int .i64 0] 52)).get
   rw [eq] at q1
   refine wpC_seq (wpC_block ?_)
   refine sr (fun LL hLL => ?_)
   simp only [oxz, simprocAttr, q1, q2, q3, ixF hi, gq, wq, xq, spc.len, gz]
   refine hLL _ _ ?_
   obtain ⟨h2, e2⟩ : ∃ h2, h2 = (h'.push (.cells false 0 [.int .i64 0, .int .i64 0] 52)).set h'.next (.cells false 0 [.int .i64 op, .int .i64 tk] 52) := ⟨_, rfl⟩
   rw [← e2, ← eba] at s2
   rw [← e2, ← eba]
   clear e2
   obtain ⟨x, hx⟩ := hall i hi
   have eCx : C i = x := by rw [eC]; unfold contX; rw [hx]; rfl
   obtain ⟨pp, hm⟩ := tents_hit i X 0 x hx
   have hlT : op < (tlF P C n i).length := by rw [tlF_len]; exact hopn
   obtain ⟨v1, v2, Cb, l, vb, hC, s3, back⟩ := nest_at (s2.mv 1) op hlT
   have eTl : (tlF P C n i)[op] = atOp P C i op := tlF_at P C n i op hopn hlT
   rw [eTl] at vb s3
   have hatl := atOp_len P C i op
   have ga := (s3.mv 3).get
   have gT := (s3.mv 1).get
   have gc := (s3.mv 12).get
   have gd := (s3.mv 14).get
   have s4 := s3.push (.cells false 5 x.cells 33)
   obtain ⟨h4, e4⟩ : ∃ h4, h4 = h2.push (.cells false 5 x.cells 33) := ⟨_, rfl⟩
   obtain ⟨n4, en4⟩ : ∃ b, b = h2.next := ⟨_, rfl⟩
   rw [← e4, ← en4] at s4
   have ga4 := (s4.mv 4).get
   have gT4 := (s4.mv 2).get
   have gc4 := (s4.mv 13).get
   have gd4 := (s4.mv 15).get
   obtain ⟨aE, cE, h5, y1, y2⟩ := (s4.mv 1).app (M := [x]) (bytes := 88) (d := 1) (s' := some ⟨n4, 0, none⟩) AckX.len AckX.ones ((fst_all s4.get rfl).trans (by simp)) (by simp; omega) (by simp; omega)
   rw [List.length_append] at y1
   simp only [List.length_cons, List.length_nil, Nat.zero_add] at y1
   have ga5 := (y2.mv 4).get
   have gT5 := (y2.mv 2).get
   have gc5 := (y2.mv 13).get
   have gd5 := (y2.mv 15).get
   have sv : ∀ (a : Option Addr) (m n : Nat), veq 6 (.slice a m n) (.slice a m n) = true := by intro a m n; simp [veq]
   have va : ∀ a b c d e f g h i j k, veq 6 (.agg #[.int .i64 a, .int .i64 b, .slice c d e, .slice f g h, .slice i j k]) (.agg #[.int .i64 a, .int .i64 b, .slice c d e, .slice f g h, .slice i j k]) = true := by intros; simp [veq]
   have zz : aZeros ackZ 1 = ackZ := rfl
   have y3 := (y2.mv 2).set (.cells false 1 (splice Cb (op * 1) [.slice aE (atOp P C i op ++ [x]).length cE]) 26)
   unfold AckX.cells at hm e4
   refine du [some 56, some 57, some 58, some 59, some 60, some 61, some 62, some 63, some 64, some 65, some 66, some 67, some 68, some 69, some 70, some 71, some 72, none] 18 [0, 0, 2, 0, 0, 16, 56, 120, 0, 256, 768, 1792, 0, 7936, 16128, 32760, 65535, 131071] (by rfl) (by rfl) (by decide +kernel) (by decide +kernel) (by decide +kernel) (fun LL hLL => ?_)
   simp only [oxz, simprocAttr, q1, q2, q3, ga, gT, gc, gd, hm, vb, ixF hopn, zz, ← e4, ← en4, ga4, gT4, gc4, gd4, sv, va, y1, ga5, gT5, eq_true hC]
   refine hLL _ _ ?_
   simp only [oxz, simprocAttr]
   refine rg (fun LL hLL => ?_)
   simp only [oxz, simprocAttr, q1, q2, q3, wsucc (show i < 9223372036854775807 by omega)]
   refine hLL _ _ ?_
   simp only [oxz, simprocAttr]
   have s6 := (y3).sel 4 [1, 0, 3]
   simp only [oxf] at s6
   have s7 := back aE cE (atOp P C i op ++ [x]) _ s6
   have etl := tlF_succ P C n i
   rw [← e_op, eCx] at etl
   rw [← etl] at s7
   rw [List.length_append, List.length_singleton] at s7
   exact ⟨m - 1, by omega, i + 1, _, _, _, _, _, _, _, by omega, s7.sel 2 [0], rfl, by simp [tget_tput, q1, eq], by simp [tget_tput, q2], by simp [tget_tput]⟩
  ·have hil : i = (tasksL P).length := by omega
   subst hil
   refine wpC_exit ?_
   simp only [oxz, simprocAttr]
   exact ⟨_, _, _, _, _, _, _, s1, rfl⟩
 clear s4
 rintro T h8 ⟨u3, u5, u12, u13, u14, u15, R, s1, rfl⟩
 obtain ⟨m, em⟩ : ∃ m, m = (tasksL P).length := ⟨_, rfl⟩
 have hmem : ∀ j, j < m → C j ∈ X := fun j hj => by
  obtain ⟨x, hx⟩ := hall j (by omega)
  have : C j = x := by rw [eC]; unfold contX; rw [hx]; rfl
  rw [this]; exact List.mem_of_find?_eq_some hx
 obtain ⟨S, hS, s2⟩ := s1.nest_out
 have hSl : S.length = n := by rw [lens hS, tlF_len]
 have hZ1 : (manO L P C).length = n := by rw [manO_len, en]
 have hZ2 : (manR G L P C).length = n := by rw [manR_len, en]
 have hZ3 : (manT L P C).length = n := by rw [manT_len, en]
 have p1 := partZ_zero (manO L P C)
 have p2 := partZ_zero (manR G L P C)
 have p3 := partZ_zero (manT L P C)
 rw [hZ1] at p1
 rw [hZ2] at p2
 rw [hZ3] at p3
 have s3 := (s2).sel 6 [2, 3, 4, 5, 0, 1]
 simp only [oxf] at s3
 rw [← p1, ← p2, ← p3] at s3
 clear s2 s1
 refine wpC_seq ?_
 refine sr (fun LL hLL => ?_)
 simp only [oxz, simprocAttr]
 refine hLL _ _ ?_
 refine wpC_block ?_
 refine wpC_loop (fun mm T h' => ∃ (i : Nat) (u3 u5 u12 u13 u14 u15 : Value) (R : List Value), mm + i = n ∧ St h0 h' (own bm (manB no qa P qc n b1 b2 b3) :: nest icell 1 3 25 (some ⟨b1, 0, none⟩) n (partZ (manO L P C) i) :: nest rcell 3 63 30 (some ⟨b2, 0, none⟩) n (partZ (manR G L P C) i) :: nest r2cell 2 65 31 (some ⟨b3, 0, none⟩) n (partZ (manT L P C) i) :: wn Sv.cells 1 26 (some ⟨bT, 0, none⟩) n S :: star (wns AckX.cells 5 33 S (tlF P C n (tasksL P).length)) :: wn icell 1 3 qa qc P :: wn spc 2 52 ab ad (tasksL P) :: own b6 (.cells false 0 manZ 48) :: own bs (spB G sa n sc) :: own β (coB true no since stop (tasksL P).length (.map (some B)) (.map (some D))) :: own B (.map (ents [])) :: own D (.map (X.map tent)) :: star (X.map ackA) :: F) ∧
  T = .pointer (some ⟨β, 0, none⟩) :: .agg #[.int .i64 G, .slice sa n sc] :: .slice pa P.length pc :: u3 :: .pointer (some ⟨bs, 0, none⟩) :: u5 :: .pointer (some ⟨b6, 0, none⟩) :: .bool false :: .slice ab (tasksL P).length ad :: .int .i64 n :: .pointer (some ⟨bm, 0, none⟩) :: .slice (some ⟨bT, 0, none⟩) n n :: u12 :: u13 :: u14 :: u15 :: R ∧ tget R 58 = .slice (some ⟨bT, 0, none⟩) n n ∧ tget R 59 = .int .i64 n ∧ tget R 60 = .int .i64 i) ?_ n _ _ ⟨0, _, _, _, _, _, _, _, by omega, s3, rfl, by simp [tget_tput], by simp [tget_tput], by simp [tget_tput]⟩
 clear s3
 rintro mm T h' ⟨i, u3, u5, u12, u13, u14, u15, R, hmi, s1, rfl, q1, q2, q3⟩
 refine sr (fun LL hLL => ?_)
 simp only [oxz, simprocAttr, q1, q2, q3]
 refine hLL _ _ ?_
 refine wpC_seq ?_
 refine wpC_if ?_
 simp only [oxz, simprocAttr]
 refine gC_of (fun hc => ?_) (fun hc => ?_)
 ·refine wpC_skip ?_
  simp only [oxz, simprocAttr]
  have hi : i < n := by omega
  have hiS : i < S.length := by omega
  have hiT : i < (tlF P C n (tasksL P).length).length := by rw [tlF_len]; exact hi
  obtain ⟨bq, oq, roq, szq, Cq, Tq, eq, pq, gq, rq, qq⟩ := ((s1.mv 4).rs Sv.len1).resolve_left (by intro e; rw [e] at hiS; simp at hiS)
  cases eq
  have vq : Cq[0 + i * 1]? = some (.slice S[i].a S[i].len S[i].cap) := Rs.cell Sv.len1 rq qq i hiS 0 (by omega)
  rw [lens_at hS i hiS hiT, tlF_at P C n _ i hi] at vq
  rw [Nat.zero_add] at vq
  have gs := (s1.mv 9).get
  have hiL : i < L.length := by omega
  have hxm : ∀ x ∈ atOp P C m i, x ∈ X := fun x hx => by
   obtain ⟨j, hj, rfl⟩ := atOp_mem hx
   exact hmem j hj
  have hal := atOp_len P C m i
  rw [← em] at vq s1 hiT
  refine wpC_seq (wpC_block ?_)
  refine sr (fun LL hLL => ?_)
  simp only [oxz, simprocAttr, q1, q2, q3, ixF hi, gq, vq]
  refine hLL _ _ ?_
  refine rg (fun LL hLL => ?_)
  simp only [oxz, simprocAttr, gs]
  rw [en]
  refine lay_ok (F := wn Sv.cells 1 26 (some ⟨bT, 0, none⟩) n S :: star (wns AckX.cells 5 33 S (tlF P C n m)) :: wn icell 1 3 qa qc P :: wn spc 2 52 ab ad (tasksL P) :: own b6 (.cells false 0 manZ 48) :: own bs (spB G sa n sc) :: own β (coB true no since stop m (.map (some B)) (.map (some D))) :: own B (.map (ents [])) :: own D (.map (X.map tent)) :: star (X.map ackA) :: F) G sa sc L sp i hiL (hpt _ (List.getElem_mem hiL)) S[i].a S[i].cap (atOp P C m i)
   (fun h s => by have := ((s.mv 1).wns_rs AckX.len i hiS hiT).1; rw [tlF_at P C n m i hi] at this; exact this) (fun x hx => ⟨fun h s => (ackA_rs (hxm x hx) (s.mv 9)).o, (ackA_rs (hxm x hx) (s1.mv 13)).on, fun h s => (ackA_rs (hxm x hx) (s.mv 9)).r, (ackA_rs (hxm x hx) (s1.mv 13)).rn, fun h s => (ackA_rs (hxm x hx) (s.mv 9)).t, (ackA_rs (hxm x hx) (s1.mv 13)).tn⟩) (by omega) (fun x hx => hsm x (hxm x hx))
   bm no qa P qc n b1 b2 b3 _ _ _ (by rw [partZ_len _ _ (by omega)]; exact hZ1) (by rw [partZ_len _ _ (by omega)]; exact hZ2) (by rw [partZ_len _ _ (by omega)]; exact hZ3) hi (partZ_at _ i (by omega) _) (partZ_at _ i (by omega) _) (partZ_at _ i (by omega) _) _ s1 _ fun h3 s3 => ?_
  have w1 := manO_at L P C i hiL (by omega)
  have w2 := manR_at G L P C i hiL (by omega)
  have w3 := manT_at L P C i hiL (by omega)
  rw [← em] at w1 w2 w3
  rw [← w1, ← w2, ← w3, partZ_set _ i (by omega), partZ_set _ i (by omega), partZ_set _ i (by omega)] at s3
  rw [em] at s3
  rw [← en]
  refine hLL _ _ ?_
  simp only [oxz, simprocAttr]
  refine rg (fun LL hLL => ?_)
  simp only [oxz, simprocAttr, q1, q2, q3, wsucc (show i < 9223372036854775807 by omega)]
  refine hLL _ _ ?_
  simp only [oxz, simprocAttr]
  exact ⟨mm - 1, by omega, i + 1, _, _, _, _, _, _, _, by omega, s3, rfl, by simp [tget_tput, q1], by simp [tget_tput, q2], by simp [tget_tput]⟩
 ·have hin : i = n := by omega
  subst hin
  have z1 := partZ_all (manO L P C)
  have z2 := partZ_all (manR G L P C)
  have z3 := partZ_all (manT L P C)
  rw [hZ1] at z1
  rw [hZ2] at z2
  rw [hZ3] at z3
  rw [z1, z2, z3] at s1
  refine wpC_exit ?_
  simp only [oxz, simprocAttr]
  refine fg16 (fun R => ?_)
  have gm := s1.get
  have g6 := (s1.mv 8).get
  have s2 := (s1.mv 8).set (manB no qa P qc i b1 b2 b3)
  have g62 := s2.get
  refine sr (fun LL hLL => ?_)
  simp only [oxz, simprocAttr, gm, g6]
  refine hLL _ _ ?_
  refine wpC_ret (out_ret ?_)
  simp only [oxz, simprocAttr]
  simp only [g62, oxz, simprocAttr]
  have s3 := (s2).sel 10 [7, 2, 3, 4]
  simp only [oxf] at s3
  have s4 := coG_in (s3.sel 8 [4, 5, 6, 7, 0, 1, 2, 3])
  exact hk qa qc b1 b2 b3 _ (s4.sel 5 [1, 2, 3, 4, 0])
end Go.Proofs.Cd

namespace Go.Proofs.Cd
open Go Go.Ox
set_option maxRecDepth 100000
set_option maxHeartbeats 4000000
theorem rsnAt {α : Type} {f : α → List Value} {k : Nat} {h : AHeap} {a : Option Addr} {LI : List (List α)} (r : RsN f k h a LI) (i : Nat) (hi : i < LI.length) : ∃ b o ro sz C T ai ci, a = some ⟨b, o, none⟩ ∧ b < h.next ∧ h.get b = some (.cells ro sz C T) ∧ C[o + i * 1]? = some (.slice ai LI[i].length ci) ∧ Rs f k h ai LI[i] ∧ (ai = none → LI[i] = [] ∧ ci = 0) := by
 obtain ⟨S, hS, r1, r2⟩ := r
 have hl : S.length = LI.length := by simpa using congrArg List.length hS
 have hi' : i < S.length := by omega
 have hne : S ≠ [] := by rintro rfl; simp at hi'
 obtain ⟨b, o, ro, sz, C, T, rfl, p, g, q, w⟩ := r1.resolve_left hne
 have v : C[o + i * 1]? = some (.slice S[i].a S[i].len S[i].cap) := Rs.cell Sv.len1 q w i hi' 0 (by omega)
 have e : S[i].len = LI[i].length := by
  have := congrArg (fun l => l[i]?) hS
  simpa [List.getElem?_map, List.getElem?_eq_getElem hi', List.getElem?_eq_getElem hi] using this
 rw [e] at v
 exact ⟨b, o, ro, sz, C, T, S[i].a, S[i].cap, rfl, p, g, v, (r2 i hi' hi).1, (r2 i hi' hi).2⟩
theorem ne_rcell (x y : Operand) (a : Rwc) : aBin Tryz.prog .neq 63 x y (.agg (rcell a).toArray) (.agg (rcell a).toArray) = some (.bool false) := by
 have h := (aBin_nest (P := Tryz.prog) (u := 61) Tryz.underlying63 (by decide +kernel) (by decide +kernel) (by decide) (by rfl) Tryz.underlying3 (by rfl) (by decide) (by rfl) Tryz.underlying61 (by decide +kernel) (by rfl) (fun a l h => by
  match l, h with
  | [c, d], _ => rfl) x y a.1 a.1 [a.2.1, a.2.2] [a.2.1, a.2.2] rfl rfl).1
 rw [show (Value.agg (rcell a).toArray) = .agg (([a.1, a.2.1, a.2.2]).map num).toArray from rfl, h, (allEq_iff rfl).2 rfl]
 rfl
theorem ne_r2cell (x y : Operand) (a : Rc2) : aBin Tryz.prog .neq 65 x y (.agg (r2cell a).toArray) (.agg (r2cell a).toArray) = some (.bool false) := by
 have h := (aBin_nums (P := Tryz.prog) (t := 65) (by rfl) (by decide +kernel) (by decide +kernel) (by rfl) x y [a.1, a.2] [a.1, a.2] (by rfl) (by rfl)).1
 rw [show (Value.agg (r2cell a).toArray) = .agg ([a.1, a.2].map num).toArray from rfl, h, (allEq_iff rfl).2 rfl]
 rfl
theorem sameInts_ok (L : List Int) (a b : Option Addr) (c d : Nat) (h : AHeap) (K : Value → AHeap → Prop) (ra : Rs icell 1 h a L) (rb : Rs icell 1 h b L) (hl : L.length < 17592186044000) (hk : K (.bool true) h) :
  wpF Tryz.prog (.fn 49) [.slice a L.length c, .slice b L.length d] h K := by
 refine wpF_fun 26 [.tmp 4] Tryz.func49 rfl rfl rfl rfl ?_
 refine sr (fun LL hLL => ?_)
 simp only [oxz, simprocAttr]
 refine hLL _ _ ?_
 refine wpC_seq (sr fun LL hLL => ?_)
 simp only [oxz, simprocAttr, not_true_eq_false]
 refine hLL _ _ ?_
 refine wpC_if ?_
 simp only [oxz, simprocAttr, not_true_eq_false]
 refine wpC_skip ?_
 simp only [oxz, simprocAttr]
 refine wpC_seq ?_
 refine sr (fun LL hLL => ?_)
 simp only [oxz, simprocAttr]
 refine hLL _ _ ?_
 refine fg6 (fun R => ?_)
 refine wpC_block ?_
 refine wpC_loop (fun m T h' => ∃ (i : Nat) (u2 u3 u4 : Value) (R : List Value), h' = h ∧ m + i = L.length ∧ T = .slice a L.length c :: .slice b L.length d :: u2 :: u3 :: u4 :: .int .i64 i :: R) ?_ L.length _ _ ⟨0, _, _, _, R, rfl, by omega, rfl⟩
 rintro m T h' ⟨i, u2, u3, u4, R, rfl, hki, rfl⟩
 refine wpC_seq (sr fun LL hLL => ?_)
 simp only [oxz, simprocAttr]
 refine hLL _ _ ?_
 refine wpC_if ?_
 simp only [oxz, simprocAttr]
 refine gC_of (fun hc => ?_) (fun hc => ?_)
 ·refine wpC_skip ?_
  simp only [oxz, simprocAttr]
  have hi : i < L.length := by omega
  have hne : L ≠ [] := by rintro rfl; simp at hi
  obtain ⟨b1, o1, ro1, sz1, C1, e1, rfl, p1, g1, r1, q1⟩ := ra.resolve_left hne
  obtain ⟨b2, o2, ro2, sz2, C2, e2, rfl, p2, g2, r2, q2⟩ := rb.resolve_left hne
  refine wpC_seq (wpC_block ?_)
  refine wpC_seq ?_
  have z0 : True := trivial
  have w1 : C1[o1 + i * 1]? = some (.int .i64 L[i]) := Rs.cell icell.len r1 q1 i hi 0 (by omega)
  have w2 : C2[o2 + i * 1]? = some (.int .i64 L[i]) := Rs.cell icell.len r2 q2 i hi 0 (by omega)
  refine du [some 17, some 18, some 19, some 20, some 21, some 22, some 23, some 24, some 25] 9 [0, 0, 3, 7, 0, 0, 48, 112, 255] (by rfl) (by rfl) (by decide +kernel) (by decide +kernel) (by decide +kernel) (fun LL hLL => ?_)
  simp only [oxz, simprocAttr, ixF hi, g1, g2, w1, w2, not_true_eq_false]
  refine hLL _ _ ?_
  refine wpC_if ?_
  simp only [oxz, simprocAttr]
  refine wpC_skip ?_
  simp only [oxz, simprocAttr]
  refine fg6 (fun R => ?_)
  refine rg (fun LL hLL => ?_)
  simp only [oxz, simprocAttr, wsucc (show i < 9223372036854775807 by omega)]
  refine hLL _ _ ?_
  simp only [oxz, simprocAttr]
  exact ⟨m - 1, by omega, i + 1, _, _, _, _, by omega, rfl⟩
 ·refine wpC_exit ?_
  simp only [oxz, simprocAttr]
  refine fg6 (fun R => ?_)
  refine sr (fun LL hLL => ?_)
  simp only [oxz, simprocAttr]
  refine hLL _ _ ?_
  refine wpC_ret (out_ret ?_)
  simp only [oxz, simprocAttr]
  exact hk
theorem sameRows_ok (L : List Rwc) (a b : Option Addr) (c d : Nat) (h : AHeap) (K : Value → AHeap → Prop) (ra : Rs rcell 3 h a L) (rb : Rs rcell 3 h b L) (hl : L.length < 17592186044000) (hk : K (.bool true) h) :
  wpF Tryz.prog (.fn 31) [.slice a L.length c, .slice b L.length d] h K := by
 refine wpF_fun 26 [.tmp 4] Tryz.func31 rfl rfl rfl rfl ?_
 refine sr (fun LL hLL => ?_)
 simp only [oxz, simprocAttr]
 refine hLL _ _ ?_
 refine wpC_seq (sr fun LL hLL => ?_)
 simp only [oxz, simprocAttr, not_true_eq_false]
 refine hLL _ _ ?_
 refine wpC_if ?_
 simp only [oxz, simprocAttr, not_true_eq_false]
 refine wpC_skip ?_
 simp only [oxz, simprocAttr]
 refine wpC_seq ?_
 refine sr (fun LL hLL => ?_)
 simp only [oxz, simprocAttr]
 refine hLL _ _ ?_
 refine fg6 (fun R => ?_)
 refine wpC_block ?_
 refine wpC_loop (fun m T h' => ∃ (i : Nat) (u2 u3 u4 : Value) (R : List Value), h' = h ∧ m + i = L.length ∧ T = .slice a L.length c :: .slice b L.length d :: u2 :: u3 :: u4 :: .int .i64 i :: R) ?_ L.length _ _ ⟨0, _, _, _, R, rfl, by omega, rfl⟩
 rintro m T h' ⟨i, u2, u3, u4, R, rfl, hki, rfl⟩
 refine wpC_seq (sr fun LL hLL => ?_)
 simp only [oxz, simprocAttr]
 refine hLL _ _ ?_
 refine wpC_if ?_
 simp only [oxz, simprocAttr]
 refine gC_of (fun hc => ?_) (fun hc => ?_)
 ·refine wpC_skip ?_
  simp only [oxz, simprocAttr]
  have hi : i < L.length := by omega
  have hne : L ≠ [] := by rintro rfl; simp at hi
  obtain ⟨b1, o1, ro1, sz1, C1, e1, rfl, p1, g1, r1, q1⟩ := ra.resolve_left hne
  obtain ⟨b2, o2, ro2, sz2, C2, e2, rfl, p2, g2, r2, q2⟩ := rb.resolve_left hne
  refine wpC_seq (wpC_block ?_)
  refine wpC_seq ?_
  have z0 : True := trivial
  obtain ⟨w1, x1⟩ := Rs.row rcell.len r1 q1 i hi
  obtain ⟨w2, x2⟩ := Rs.row rcell.len r2 q2 i hi
  have va : ∀ x : Rwc, ((rcell x).all fun y => veq 5 y y) = true := fun x => by simp [rcell, veq]
  refine du [some 17, some 18, some 19, some 20, some 21, some 22, some 23, some 24, some 25] 9 [0, 0, 3, 7, 0, 0, 48, 112, 255] (by rfl) (by rfl) (by decide +kernel) (by decide +kernel) (by decide +kernel) (fun LL hLL => ?_)
  simp only [oxz, simprocAttr, ixF hi, g1, g2, w1, w2, eq_true x1, eq_true x2, va, ne_rcell]
  refine hLL _ _ ?_
  refine wpC_if ?_
  simp only [oxz, simprocAttr]
  refine wpC_skip ?_
  simp only [oxz, simprocAttr]
  refine fg6 (fun R => ?_)
  refine rg (fun LL hLL => ?_)
  simp only [oxz, simprocAttr, wsucc (show i < 9223372036854775807 by omega)]
  refine hLL _ _ ?_
  simp only [oxz, simprocAttr]
  exact ⟨m - 1, by omega, i + 1, _, _, _, _, by omega, rfl⟩
 ·refine wpC_exit ?_
  simp only [oxz, simprocAttr]
  refine fg6 (fun R => ?_)
  refine sr (fun LL hLL => ?_)
  simp only [oxz, simprocAttr]
  refine hLL _ _ ?_
  refine wpC_ret (out_ret ?_)
  simp only [oxz, simprocAttr]
  exact hk
theorem sameRecs_ok (L : List Rc2) (a b : Option Addr) (c d : Nat) (h : AHeap) (K : Value → AHeap → Prop) (ra : Rs r2cell 2 h a L) (rb : Rs r2cell 2 h b L) (hl : L.length < 17592186044000) (hk : K (.bool true) h) :
  wpF Tryz.prog (.fn 13) [.slice a L.length c, .slice b L.length d] h K := by
 refine wpF_fun 26 [.tmp 4] Tryz.func13 rfl rfl rfl rfl ?_
 refine sr (fun LL hLL => ?_)
 simp only [oxz, simprocAttr]
 refine hLL _ _ ?_
 refine wpC_seq (sr fun LL hLL => ?_)
 simp only [oxz, simprocAttr, not_true_eq_false]
 refine hLL _ _ ?_
 refine wpC_if ?_
 simp only [oxz, simprocAttr, not_true_eq_false]
 refine wpC_skip ?_
 simp only [oxz, simprocAttr]
 refine wpC_seq ?_
 refine sr (fun LL hLL => ?_)
 simp only [oxz, simprocAttr]
 refine hLL _ _ ?_
 refine fg6 (fun R => ?_)
 refine wpC_block ?_
 refine wpC_loop (fun m T h' => ∃ (i : Nat) (u2 u3 u4 : Value) (R : List Value), h' = h ∧ m + i = L.length ∧ T = .slice a L.length c :: .slice b L.length d :: u2 :: u3 :: u4 :: .int .i64 i :: R) ?_ L.length _ _ ⟨0, _, _, _, R, rfl, by omega, rfl⟩
 rintro m T h' ⟨i, u2, u3, u4, R, rfl, hki, rfl⟩
 refine wpC_seq (sr fun LL hLL => ?_)
 simp only [oxz, simprocAttr]
 refine hLL _ _ ?_
 refine wpC_if ?_
 simp only [oxz, simprocAttr]
 refine gC_of (fun hc => ?_) (fun hc => ?_)
 ·refine wpC_skip ?_
  simp only [oxz, simprocAttr]
  have hi : i < L.length := by omega
  have hne : L ≠ [] := by rintro rfl; simp at hi
  obtain ⟨b1, o1, ro1, sz1, C1, e1, rfl, p1, g1, r1, q1⟩ := ra.resolve_left hne
  obtain ⟨b2, o2, ro2, sz2, C2, e2, rfl, p2, g2, r2, q2⟩ := rb.resolve_left hne
  refine wpC_seq (wpC_block ?_)
  refine wpC_seq ?_
  have z0 : True := trivial
  obtain ⟨w1, x1⟩ := Rs.row r2cell.len r1 q1 i hi
  obtain ⟨w2, x2⟩ := Rs.row r2cell.len r2 q2 i hi
  have va : ∀ x : Rc2, ((r2cell x).all fun y => veq 5 y y) = true := fun x => by simp [r2cell, veq]
  refine du [some 17, some 18, some 19, some 20, some 21, some 22, some 23, some 24, some 25] 9 [0, 0, 3, 7, 0, 0, 48, 112, 255] (by rfl) (by rfl) (by decide +kernel) (by decide +kernel) (by decide +kernel) (fun LL hLL => ?_)
  simp only [oxz, simprocAttr, ixF hi, g1, g2, w1, w2, eq_true x1, eq_true x2, va, ne_r2cell]
  refine hLL _ _ ?_
  refine wpC_if ?_
  simp only [oxz, simprocAttr]
  refine wpC_skip ?_
  simp only [oxz, simprocAttr]
  refine fg6 (fun R => ?_)
  refine rg (fun LL hLL => ?_)
  simp only [oxz, simprocAttr, wsucc (show i < 9223372036854775807 by omega)]
  refine hLL _ _ ?_
  simp only [oxz, simprocAttr]
  exact ⟨m - 1, by omega, i + 1, _, _, _, _, by omega, rfl⟩
 ·refine wpC_exit ?_
  simp only [oxz, simprocAttr]
  refine fg6 (fun R => ?_)
  refine sr (fun LL hLL => ?_)
  simp only [oxz, simprocAttr]
  refine hLL _ _ ?_
  refine wpC_ret (out_ret ?_)
  simp only [oxz, simprocAttr]
  exact hk
theorem sameIntLists_ok (L : List (List Int)) (a b : Option Addr) (c d : Nat) (h : AHeap) (K : Value → AHeap → Prop) (ra : RsN icell 1 h a L) (rb : RsN icell 1 h b L) (hl : L.length < 17592186044000) (hl1 : ∀ x ∈ L, x.length < 17592186044000) (hk : K (.bool true) h) :
  wpF Tryz.prog (.fn 24) [.slice a L.length c, .slice b L.length d] h K := by
 refine wpF_fun 27 [.tmp 4] Tryz.func24 rfl rfl rfl rfl ?_
 refine sr (fun LL hLL => ?_)
 simp only [oxz, simprocAttr]
 refine hLL _ _ ?_
 refine wpC_seq (sr fun LL hLL => ?_)
 simp only [oxz, simprocAttr, not_true_eq_false]
 refine hLL _ _ ?_
 refine wpC_if ?_
 simp only [oxz, simprocAttr, not_true_eq_false]
 refine wpC_skip ?_
 simp only [oxz, simprocAttr]
 refine wpC_seq ?_
 refine sr (fun LL hLL => ?_)
 simp only [oxz, simprocAttr]
 refine hLL _ _ ?_
 refine fg6 (fun R => ?_)
 refine wpC_block ?_
 refine wpC_loop (fun m T h' => ∃ (i : Nat) (u2 u3 u4 : Value) (R : List Value), h' = h ∧ m + i = L.length ∧ T = .slice a L.length c :: .slice b L.length d :: u2 :: u3 :: u4 :: .int .i64 i :: R) ?_ L.length _ _ ⟨0, _, _, _, R, rfl, by omega, rfl⟩
 rintro m T h' ⟨i, u2, u3, u4, R, rfl, hki, rfl⟩
 refine wpC_seq (sr fun LL hLL => ?_)
 simp only [oxz, simprocAttr]
 refine hLL _ _ ?_
 refine wpC_if ?_
 simp only [oxz, simprocAttr]
 refine gC_of (fun hc => ?_) (fun hc => ?_)
 ·refine wpC_skip ?_
  simp only [oxz, simprocAttr]
  have hi : i < L.length := by omega
  obtain ⟨b1, o1, ro1, sz1, C1, T1, a1, c1, rfl, p1, g1, v1, r1, n1⟩ := rsnAt ra i hi
  obtain ⟨b2, o2, ro2, sz2, C2, T2, a2, c2, rfl, p2, g2, v2, r2, n2⟩ := rsnAt rb i hi
  refine wpC_seq (wpC_block ?_)
  refine su [some 17, some 18, some 19, some 20, some 21, some 22, some 23, some 24, some 25, some 26] 10 [0, 0, 3, 7, 0, 0, 48, 112, 255, 511] (by rfl) (by rfl) (by decide +kernel) (by decide +kernel) (by decide +kernel) (fun LL hLL => ?_)
  simp only [oxk, simprocAttr, ixF hi, g1, g2, v1, v2]
  refine sameInts_ok L[i] a1 a2 c1 c2 h' _ r1 r2 (hl1 _ (List.getElem_mem hi)) ?_
  simp only [oxk, simprocAttr, ixF hi, g1, g2, v1, v2, Bool.not_true]
  refine hLL _ _ ?_
  refine wpC_if ?_
  simp only [oxz, simprocAttr]
  refine wpC_skip ?_
  simp only [oxz, simprocAttr]
  refine fg6 (fun R => ?_)
  refine rg (fun LL hLL => ?_)
  simp only [oxz, simprocAttr, wsucc (show i < 9223372036854775807 by omega)]
  refine hLL _ _ ?_
  simp only [oxz, simprocAttr]
  exact ⟨m - 1, by omega, i + 1, _, _, _, _, by omega, rfl⟩
 ·refine wpC_exit ?_
  simp only [oxz, simprocAttr]
  refine fg6 (fun R => ?_)
  refine sr (fun LL hLL => ?_)
  simp only [oxz, simprocAttr]
  refine hLL _ _ ?_
  refine wpC_ret (out_ret ?_)
  simp only [oxz, simprocAttr]
  exact hk
theorem sameRowLists_ok (L : List (List Rwc)) (a b : Option Addr) (c d : Nat) (h : AHeap) (K : Value → AHeap → Prop) (ra : RsN rcell 3 h a L) (rb : RsN rcell 3 h b L) (hl : L.length < 17592186044000) (hl1 : ∀ x ∈ L, x.length < 17592186044000) (hk : K (.bool true) h) :
  wpF Tryz.prog (.fn 69) [.slice a L.length c, .slice b L.length d] h K := by
 refine wpF_fun 27 [.tmp 4] Tryz.func69 rfl rfl rfl rfl ?_
 refine sr (fun LL hLL => ?_)
 simp only [oxz, simprocAttr]
 refine hLL _ _ ?_
 refine wpC_seq (sr fun LL hLL => ?_)
 simp only [oxz, simprocAttr, not_true_eq_false]
 refine hLL _ _ ?_
 refine wpC_if ?_
 simp only [oxz, simprocAttr, not_true_eq_false]
 refine wpC_skip ?_
 simp only [oxz, simprocAttr]
 refine wpC_seq ?_
 refine sr (fun LL hLL => ?_)
 simp only [oxz, simprocAttr]
 refine hLL _ _ ?_
 refine fg6 (fun R => ?_)
 refine wpC_block ?_
 refine wpC_loop (fun m T h' => ∃ (i : Nat) (u2 u3 u4 : Value) (R : List Value), h' = h ∧ m + i = L.length ∧ T = .slice a L.length c :: .slice b L.length d :: u2 :: u3 :: u4 :: .int .i64 i :: R) ?_ L.length _ _ ⟨0, _, _, _, R, rfl, by omega, rfl⟩
 rintro m T h' ⟨i, u2, u3, u4, R, rfl, hki, rfl⟩
 refine wpC_seq (sr fun LL hLL => ?_)
 simp only [oxz, simprocAttr]
 refine hLL _ _ ?_
 refine wpC_if ?_
 simp only [oxz, simprocAttr]
 refine gC_of (fun hc => ?_) (fun hc => ?_)
 ·refine wpC_skip ?_
  simp only [oxz, simprocAttr]
  have hi : i < L.length := by omega
  obtain ⟨b1, o1, ro1, sz1, C1, T1, a1, c1, rfl, p1, g1, v1, r1, n1⟩ := rsnAt ra i hi
  obtain ⟨b2, o2, ro2, sz2, C2, T2, a2, c2, rfl, p2, g2, v2, r2, n2⟩ := rsnAt rb i hi
  refine wpC_seq (wpC_block ?_)
  refine su [some 17, some 18, some 19, some 20, some 21, some 22, some 23, some 24, some 25, some 26] 10 [0, 0, 3, 7, 0, 0, 48, 112, 255, 511] (by rfl) (by rfl) (by decide +kernel) (by decide +kernel) (by decide +kernel) (fun LL hLL => ?_)
  simp only [oxk, simprocAttr, ixF hi, g1, g2, v1, v2]
  refine sameRows_ok L[i] a1 a2 c1 c2 h' _ r1 r2 (hl1 _ (List.getElem_mem hi)) ?_
  simp only [oxk, simprocAttr, ixF hi, g1, g2, v1, v2, Bool.not_true]
  refine hLL _ _ ?_
  refine wpC_if ?_
  simp only [oxz, simprocAttr]
  refine wpC_skip ?_
  simp only [oxz, simprocAttr]
  refine fg6 (fun R => ?_)
  refine rg (fun LL hLL => ?_)
  simp only [oxz, simprocAttr, wsucc (show i < 9223372036854775807 by omega)]
  refine hLL _ _ ?_
  simp only [oxz, simprocAttr]
  exact ⟨m - 1, by omega, i + 1, _, _, _, _, by omega, rfl⟩
 ·refine wpC_exit ?_
  simp only [oxz, simprocAttr]
  refine fg6 (fun R => ?_)
  refine sr (fun LL hLL => ?_)
  simp only [oxz, simprocAttr]
  refine hLL _ _ ?_
  refine wpC_ret (out_ret ?_)
  simp only [oxz, simprocAttr]
  exact hk
theorem sameRecLists_ok (L : List (List Rc2)) (a b : Option Addr) (c d : Nat) (h : AHeap) (K : Value → AHeap → Prop) (ra : RsN r2cell 2 h a L) (rb : RsN r2cell 2 h b L) (hl : L.length < 17592186044000) (hl1 : ∀ x ∈ L, x.length < 17592186044000) (hk : K (.bool true) h) :
  wpF Tryz.prog (.fn 70) [.slice a L.length c, .slice b L.length d] h K := by
 refine wpF_fun 27 [.tmp 4] Tryz.func70 rfl rfl rfl rfl ?_
 refine sr (fun LL hLL => ?_)
 simp only [oxz, simprocAttr]
 refine hLL _ _ ?_
 refine wpC_seq (sr fun LL hLL => ?_)
 simp only [oxz, simprocAttr, not_true_eq_false]
 refine hLL _ _ ?_
 refine wpC_if ?_
 simp only [oxz, simprocAttr, not_true_eq_false]
 refine wpC_skip ?_
 simp only [oxz, simprocAttr]
 refine wpC_seq ?_
 refine sr (fun LL hLL => ?_)
 simp only [oxz, simprocAttr]
 refine hLL _ _ ?_
 refine fg6 (fun R => ?_)
 refine wpC_block ?_
 refine wpC_loop (fun m T h' => ∃ (i : Nat) (u2 u3 u4 : Value) (R : List Value), h' = h ∧ m + i = L.length ∧ T = .slice a L.length c :: .slice b L.length d :: u2 :: u3 :: u4 :: .int .i64 i :: R) ?_ L.length _ _ ⟨0, _, _, _, R, rfl, by omega, rfl⟩
 rintro m T h' ⟨i, u2, u3, u4, R, rfl, hki, rfl⟩
 refine wpC_seq (sr fun LL hLL => ?_)
 simp only [oxz, simprocAttr]
 refine hLL _ _ ?_
 refine wpC_if ?_
 simp only [oxz, simprocAttr]
 refine gC_of (fun hc => ?_) (fun hc => ?_)
 ·refine wpC_skip ?_
  simp only [oxz, simprocAttr]
  have hi : i < L.length := by omega
  obtain ⟨b1, o1, ro1, sz1, C1, T1, a1, c1, rfl, p1, g1, v1, r1, n1⟩ := rsnAt ra i hi
  obtain ⟨b2, o2, ro2, sz2, C2, T2, a2, c2, rfl, p2, g2, v2, r2, n2⟩ := rsnAt rb i hi
  refine wpC_seq (wpC_block ?_)
  refine su [some 17, some 18, some 19, some 20, some 21, some 22, some 23, some 24, some 25, some 26] 10 [0, 0, 3, 7, 0, 0, 48, 112, 255, 511] (by rfl) (by rfl) (by decide +kernel) (by decide +kernel) (by decide +kernel) (fun LL hLL => ?_)
  simp only [oxk, simprocAttr, ixF hi, g1, g2, v1, v2]
  refine sameRecs_ok L[i] a1 a2 c1 c2 h' _ r1 r2 (hl1 _ (List.getElem_mem hi)) ?_
  simp only [oxk, simprocAttr, ixF hi, g1, g2, v1, v2, Bool.not_true]
  refine hLL _ _ ?_
  refine wpC_if ?_
  simp only [oxz, simprocAttr]
  refine wpC_skip ?_
  simp only [oxz, simprocAttr]
  refine fg6 (fun R => ?_)
  refine rg (fun LL hLL => ?_)
  simp only [oxz, simprocAttr, wsucc (show i < 9223372036854775807 by omega)]
  refine hLL _ _ ?_
  simp only [oxz, simprocAttr]
  exact ⟨m - 1, by omega, i + 1, _, _, _, _, by omega, rfl⟩
 ·refine wpC_exit ?_
  simp only [oxz, simprocAttr]
  refine fg6 (fun R => ?_)
  refine sr (fun LL hLL => ?_)
  simp only [oxz, simprocAttr]
  refine hLL _ _ ?_
  refine wpC_ret (out_ret ?_)
  simp only [oxz, simprocAttr]
  exact hk
theorem sameIntLists_n (L : List (List Int)) (n : Nat) (hn : L.length = n) (a b : Option Addr) (c d : Nat) (h : AHeap) (K : Value → AHeap → Prop) (ra : RsN icell 1 h a L) (rb : RsN icell 1 h b L) (hl : L.length < 17592186044000) (hl1 : ∀ x ∈ L, x.length < 17592186044000) (hk : K (.bool true) h) :
  wpF Tryz.prog (.fn 24) [.slice a n c, .slice b n d] h K := by
 subst hn
 exact sameIntLists_ok L a b c d h K ra rb hl hl1 hk
theorem sameRowLists_n (L : List (List Rwc)) (n : Nat) (hn : L.length = n) (a b : Option Addr) (c d : Nat) (h : AHeap) (K : Value → AHeap → Prop) (ra : RsN rcell 3 h a L) (rb : RsN rcell 3 h b L) (hl : L.length < 17592186044000) (hl1 : ∀ x ∈ L, x.length < 17592186044000) (hk : K (.bool true) h) :
  wpF Tryz.prog (.fn 69) [.slice a n c, .slice b n d] h K := by
 subst hn
 exact sameRowLists_ok L a b c d h K ra rb hl hl1 hk
theorem sameRecLists_n (L : List (List Rc2)) (n : Nat) (hn : L.length = n) (a b : Option Addr) (c d : Nat) (h : AHeap) (K : Value → AHeap → Prop) (ra : RsN r2cell 2 h a L) (rb : RsN r2cell 2 h b L) (hl : L.length < 17592186044000) (hl1 : ∀ x ∈ L, x.length < 17592186044000) (hk : K (.bool true) h) :
  wpF Tryz.prog (.fn 70) [.slice a n c, .slice b n d] h K := by
 subst hn
 exact sameRecLists_ok L a b c d h K ra rb hl hl1 hk
theorem sameMan_ok {h0 : AHeap} {F : List Asn} (no : Int) (P : List Int) (LO : List (List Int)) (LR : List (List Rwc)) (LT : List (List Rc2)) (n : Nat) (hn1 : LO.length = n) (hn2 : LR.length = n) (hn3 : LT.length = n) (hP : P.length < 1000000) (hn : n < 1000000) (pa pa2 : Option Addr) (pc pc2 : Nat) (oa oa2 ra ra2 ta ta2 : Option Addr) (oc oc2 rc rc2 tc tc2 : Nat)
  (rp : Rd h0 F icell 1 pa P) (rp2 : Rd h0 F icell 1 pa2 P) (ro : ∀ h, St h0 h F → RsN icell 1 h oa LO) (ro2 : ∀ h, St h0 h F → RsN icell 1 h oa2 LO) (rr : ∀ h, St h0 h F → RsN rcell 3 h ra LR) (rr2 : ∀ h, St h0 h F → RsN rcell 3 h ra2 LR) (rt : ∀ h, St h0 h F → RsN r2cell 2 h ta LT) (rt2 : ∀ h, St h0 h F → RsN r2cell 2 h ta2 LT)
  (hl1 : ∀ x ∈ LO, x.length < 1000000) (hl2 : ∀ x ∈ LR, x.length < 1000000) (hl3 : ∀ x ∈ LT, x.length < 1000000) (h : AHeap) (s : St h0 h F) (K : Value → AHeap → Prop) (hk : ∀ h', St h0 h' F → K (.bool true) h') :
  wpF Tryz.prog (.fn 47) [.agg #[.int .i64 no, .slice pa P.length pc, .slice oa n oc, .slice ra n rc, .slice ta n tc], .agg #[.int .i64 no, .slice pa2 P.length pc2, .slice oa2 n oc2, .slice ra2 n rc2, .slice ta2 n tc2]] h K := by
 refine wpF_fun 38 [.tmp 4] Tryz.func47 rfl rfl rfl rfl ?_
 obtain ⟨bm, ebm⟩ : ∃ b, b = h.next := ⟨_, rfl⟩
 obtain ⟨bn, ebn⟩ : ∃ b, b = bm + 1 := ⟨_, rfl⟩
 have s1 := (s.push (.cells false 0 [.int .i64 no, .slice pa P.length pc, .slice oa n oc, .slice ra n rc, .slice ta n tc] 48)).push (.cells false 0 [.int .i64 no, .slice pa2 P.length pc2, .slice oa2 n oc2, .slice ra2 n rc2, .slice ta2 n tc2] 48)
 simp only [AHeap.next_push, ← ebm, ← ebn] at s1
 obtain ⟨h1, e1⟩ : ∃ h1, h1 = (h.push (.cells false 0 [.int .i64 no, .slice pa P.length pc, .slice oa n oc, .slice ra n rc, .slice ta n tc] 48)).push (.cells false 0 [.int .i64 no, .slice pa2 P.length pc2, .slice oa2 n oc2, .slice ra2 n rc2, .slice ta2 n tc2] 48) := ⟨_, rfl⟩
 rw [← e1] at s1
 refine sr (fun LL hLL => ?_)
 simp only [oxz, simprocAttr, AHeap.next_push, ← ebm, ← ebn, ← e1]
 refine hLL _ _ ?_
 have g2 := s1.get
 have g1 := (s1.mv 1).get
 have s0 := s1.drop.drop
 refine sr (fun LL hLL => ?_)
 simp only [oxk, simprocAttr, g1, g2]
 refine sameInts_ok P pa pa2 pc pc2 _ _ (rp _ s0) (rp2 _ s0) (by omega) ?_
 simp only [oxk, simprocAttr, g1, g2]
 refine sameIntLists_n LO n hn1 oa oa2 oc oc2 _ _ (ro _ s0) (ro2 _ s0) (by omega) (fun x hx => by have := hl1 x hx; omega) ?_
 simp only [oxk, simprocAttr, g1, g2]
 refine sameRowLists_n LR n hn2 ra ra2 rc rc2 _ _ (rr _ s0) (rr2 _ s0) (by omega) (fun x hx => by have := hl2 x hx; omega) ?_
 simp only [oxk, simprocAttr, g1, g2]
 refine sameRecLists_n LT n hn3 ta ta2 tc tc2 _ _ (rt _ s0) (rt2 _ s0) (by omega) (fun x hx => by have := hl3 x hx; omega) ?_
 simp only [oxk, simprocAttr]
 refine hLL _ _ ?_
 refine wpC_ret (out_ret ?_)
 simp only [oxz, simprocAttr]
 exact hk _ s0
end Go.Proofs.Cd

