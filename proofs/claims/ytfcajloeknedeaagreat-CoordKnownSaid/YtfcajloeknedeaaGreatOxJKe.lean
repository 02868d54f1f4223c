/-
  A part of the proof: what functions of the program do on an abstract heap. CONDITIONS: none.
-/
import Derived.Test.YtfcajloeknedeaaGreatOxJKd
set_option linter.unusedSimpArgs false
set_option linter.unusedVariables false
namespace Go.Proofs.Cd
open Go Go.Ox
set_option maxRecDepth 100000
set_option maxHeartbeats 4000000
abbrev Ct := List Int × List Rwc × List Rc2
def AckX.cont (x : AckX) : Ct := (x.offs, x.rows, x.outs)
def emC : Ct := ([], [], [])
def isT (t : Nat) (y : AckX) : Bool := decide (y.task = (t : Int))
/-- What is known behind an answer. -/
def updE (n : Nat) (E : Nat → Option Ct) (x : AckX) (t : Nat) : Option Ct := if x.task = (t : Int) ∧ t < n ∧ E t = none then some x.cont else E t
/-- What a coordinator knows. -/
structure TlD (n : Nat) (E : Nat → Option Ct) (W : List Int) (X : List AckX) : Prop where
 nd : W.Nodup
 mem : ∀ t : Nat, (t : Int) ∈ W ↔ t < n ∧ E t = none
 pos : ∀ w ∈ W, 0 ≤ w
 key : ∀ x ∈ X, ∃ t : Nat, x.task = (t : Int) ∧ t < n ∧ E t ≠ none
 get : ∀ t c, t < n → E t = some c → ∃ x, X.find? (isT t) = some x ∧ x.cont = c
 sm : ∀ x ∈ X, AckSm x
theorem TlD.new (n : Nat) : TlD n (fun _ => none) ((List.range n).map fun (j : Nat) => (j : Int)) [] where
 nd := List.Pairwise.map _ (fun a b hab e => hab (Int.ofNat.inj e)) List.nodup_range
 mem t := by
  simp only [List.mem_map, List.mem_range, and_true]
  exact ⟨fun ⟨a, h, e⟩ => by omega, fun h => ⟨t, h, rfl⟩⟩
 pos w hw := by
  obtain ⟨a, _, rfl⟩ := List.mem_map.1 hw
  omega
 key x hx := by cases hx
 get t c _ h := by cases h
 sm x hx := by cases hx
section
variable {n : Nat} {E : Nat → Option Ct} {W : List Int} {X : List AckX}
theorem TlD.fresh (q : TlD n E W X) {k : Int} (hk : k ∈ W) : ∀ y ∈ X, y.task ≠ k := fun y hy e => by
 obtain ⟨t, h1, h2, h3⟩ := q.key y hy
 rw [e] at h1; subst h1
 exact h3 ((q.mem t).1 hk).2
theorem TlD.hit (q : TlD n E W X) {x : AckX} (sx : AckSm x) (hx : x.task ∈ W) (oa : Option Addr) (oc : Nat) (ra : Option Addr) (rc : Nat) (ta : Option Addr) (tc : Nat) : TlD n (updE n E x) (W.erase x.task) (X ++ [x.mv oa oc ra rc ta tc]) := by
 have hp := q.pos _ hx
 obtain ⟨t0, ht0⟩ : ∃ t0 : Nat, x.task = t0 := ⟨x.task.toNat, by omega⟩
 rw [ht0] at hx
 have hfr := q.fresh hx
 obtain ⟨h1, h2⟩ := (q.mem t0).1 hx
 have et : (x.mv oa oc ra rc ta tc).task = (t0 : Int) := ht0
 have hup : ∀ t, updE n E x t = if t = t0 then some x.cont else E t := fun t => by
  unfold updE
  by_cases e : t = t0
  ·subst e; rw [if_pos ⟨ht0, h1, h2⟩, if_pos rfl]
  ·rw [if_neg (by rw [ht0]; omega), if_neg e]
 refine ⟨q.nd.erase _, fun t => ?_, fun w hw => q.pos w (List.mem_of_mem_erase hw), fun y hy => ?_, fun t c ht hc => ?_, fun y hy => ?_⟩
 ·rw [ht0, q.nd.mem_erase_iff, q.mem, hup]
  by_cases e : t = t0
  ·subst e; simp
  ·rw [if_neg e]; exact ⟨fun h => h.2, fun h => ⟨by omega, h⟩⟩
 ·rcases List.mem_append.1 hy with hy | hy
  ·obtain ⟨t, k1, k2, k3⟩ := q.key y hy
   refine ⟨t, k1, k2, ?_⟩
   rw [hup]; split
   ·simp
   ·exact k3
  ·obtain rfl := List.mem_singleton.1 hy
   exact ⟨t0, et, h1, by rw [hup, if_pos rfl]; simp⟩
 ·rw [List.find?_append]
  rw [hup] at hc
  by_cases e : t = t0
  ·subst e
   rw [if_pos rfl] at hc
   have hn : X.find? (isT t) = none := List.find?_eq_none.2 fun y hy h => hfr y hy (of_decide_eq_true h)
   refine ⟨x.mv oa oc ra rc ta tc, ?_, Option.some.inj hc⟩
   rw [hn, List.find?_cons_of_pos (show isT t (x.mv oa oc ra rc ta tc) = true from decide_eq_true et)]; rfl
  ·rw [if_neg e] at hc
   obtain ⟨y, k1, k2⟩ := q.get t c ht hc
   exact ⟨y, by rw [k1]; rfl, k2⟩
 ·rcases List.mem_append.1 hy with hy | hy
  ·exact q.sm y hy
  ·obtain rfl := List.mem_singleton.1 hy
   exact ⟨sx.o, sx.r, sx.t⟩
theorem TlD.miss (q : TlD n E W X) {x : AckX} (hx : ¬ x.task ∈ W) : updE n E x = E := by
 funext t
 unfold updE
 split
 ·rename_i h
  exact absurd ((q.mem t).2 h.2) (by rw [← h.1]; exact hx)
 ·rfl
end
/-- What is known behind answers. -/
def stepE (n : Nat) (E : Nat → Option Ct) (l : List AckX) (t : Nat) : Option Ct := match E t with
 | some c => some c
 | none => if t < n then (l.find? (isT t)).map AckX.cont else none
theorem stepE_nil (n : Nat) (E : Nat → Option Ct) : stepE n E [] = E := by
 funext t; unfold stepE; cases E t <;> simp
theorem stepE_snoc (n : Nat) (E : Nat → Option Ct) (l : List AckX) (x : AckX) : stepE n E (l ++ [x]) = updE n (stepE n E l) x := by
 funext t
 unfold updE stepE
 cases hE : E t with
 | some c => simp
 | none =>
  simp only [List.find?_append]
  by_cases hn : t < n
  ·simp only [hn, if_true, true_and]
   cases hf : l.find? (isT t) with
   | some y => simp
   | none =>
    by_cases e : x.task = (t : Int)
    ·rw [List.find?_cons_of_pos (show isT t x = true from decide_eq_true e), if_pos ⟨e, rfl⟩]; rfl
    ·rw [List.find?_cons_of_neg (by simpa [isT] using e), if_neg (by simp [e])]; rfl
  ·simp [hn]
/-- .. and where some tasks told nothing. -/
def fillE (E : Nat → Option Ct) (ds : List Nat) (t : Nat) : Option Ct := match E t with
 | some c => some c
 | none => if t ∈ ds then some emC else none
theorem fillE_nil (E : Nat → Option Ct) : fillE E [] = E := by
 funext t; unfold fillE; cases E t <;> simp
def emX (no : Int) (k : Nat) : AckX := ⟨no, k, [], none, 0, [], none, 0, [], none, 0⟩
theorem fillE_snoc (n : Nat) (E : Nat → Option Ct) (ds : List Nat) (k : Nat) (hk : k < n) (no : Int) : fillE E (ds ++ [k]) = updE n (fillE E ds) (emX no k) := by
 funext t
 unfold updE fillE
 cases hE : E t with
 | some c => simp
 | none =>
  by_cases e : t = k
  ·subst e
   by_cases hd : t ∈ ds
   ·simp [hd]
   ·simp [hd, hk, emX, AckX.cont, emC]
  ·have : ¬ (k : Int) = (t : Int) := by omega
   simp [e, this, emX]
/-- What is known when all have told. -/
def toldE (n : Nat) (E : Nat → Option Ct) (l : List AckX) (t : Nat) : Option Ct := match stepE n E l t with
 | some c => some c
 | none => if t < n then some emC else none
theorem emX_rd (h0 : AHeap) (F : List Asn) (no : Int) (k : Nat) : AckRd h0 F (emX no k) := ⟨fun _ _ => .inl rfl, fun _ => ⟨rfl, rfl⟩, fun _ _ => .inl rfl, fun _ => ⟨rfl, rfl⟩, fun _ _ => .inl rfl, fun _ => ⟨rfl, rfl⟩⟩
theorem emX_sm (no : Int) (k : Nat) : AckSm (emX no k) := ⟨by simp [emX], by simp [emX], by simp [emX]⟩
/-- An answer, whatever it is. -/
theorem ackQ_ok {h0 h : AHeap} {F : List Asn} {β : Nat} {no since : Int} {stop : Bool} {tasks : Int} {n : Nat} {E : Nat → Option Ct} {W : List Int} {X : List AckX} (x : AckX) (ax : AckRd h0 F x) (sx : AckSm x) (q : TlD n E W X) (s : St h0 h (coG β no since stop tasks W X :: F)) (K : Value → AHeap → Prop)
  (hk : ∀ W' X' h', TlD n (if x.no = no then updE n E x else E) W' X' → St h0 h' (coG β no since stop tasks W' X' :: F) → K (.tuple #[]) h') : wpF Tryz.prog (.fn 20) [.pointer (some ⟨β, 0, none⟩), .agg x.cells.toArray] h K := by
 refine ackG_ok x ax sx (fun hx => q.fresh hx) s K (fun h1 h2 oa oc ra rc ta tc h' s' => hk _ _ _ (by rw [if_pos h1]; exact q.hit sx h2 oa oc ra rc ta tc) s') (fun h1 h' s' => hk _ _ _ ?_ s')
 by_cases hn : x.no = no
 ·rw [if_pos hn, q.miss fun h => h1 ⟨hn, h⟩]; exact q
 ·rw [if_neg hn]; exact q
/-- An answer with another number. -/
def AckX.setNo (x : AckX) (no : Int) : AckX := ⟨no, x.task, x.offs, x.oa, x.oc, x.rows, x.ra, x.rc, x.outs, x.ta, x.tc⟩
theorem updE_setNo (n : Nat) (E : Nat → Option Ct) (x : AckX) (no : Int) : updE n E (x.setNo no) = updE n E x := rfl
theorem AckRd.setNo {h0 : AHeap} {F : List Asn} {x : AckX} (r : AckRd h0 F x) (no : Int) : AckRd h0 F (x.setNo no) := ⟨r.o, r.on, r.r, r.rn, r.t, r.tn⟩
theorem AckSm.setNo {x : AckX} (r : AckSm x) (no : Int) : AckSm (x.setNo no) := ⟨r.o, r.r, r.t⟩
theorem told_ok {h0 h : AHeap} {F : List Asn} {β : Nat} (no since : Int) (stop : Bool) (n : Nat) (hn : n ≤ 768) {E : Nat → Option Ct} {W : List Int} {X : List AckX} (la : Option Addr) (lc : Nat) (l : List AckX) (r : Rd h0 F AckX.cells 5 la l) (rx : ∀ x ∈ l, AckRd h0 F x) (sx : ∀ x ∈ l, AckSm x) (hl : l.length ≤ 1000) (bw : Bool) (q : TlD n E W X)
  (s : St h0 h (coG β no since stop n W X :: F)) (K : Value → AHeap → Prop) (hk : ∀ X' h', TlD n (toldE n E l) [] X' → St h0 h' (coG β no since stop n [] X' :: F) → K (.tuple #[]) h') :
  wpF Tryz.prog (.fn 11) [.pointer (some ⟨β, 0, none⟩), .slice la l.length lc, .int .i64 n, .int .i64 no, .bool bw] h K := by
 refine wpF_fun 45 [] Tryz.func11 rfl rfl rfl rfl ?_
 refine sm (fun T h' => ∃ (W' : List Int) (X' : List AckX) (u5 u6 u7 u8 u9 : Value) (R : List Value), TlD n (stepE n E l) W' X' ∧ St h0 h' (coG β no since stop n W' X' :: F) ∧ T = .pointer (some ⟨β, 0, none⟩) :: .slice la l.length lc :: .int .i64 n :: .int .i64 no :: .bool bw :: u5 :: u6 :: u7 :: u8 :: u9 :: R) ?_ ?_
 ·refine sr (fun LL hLL => ?_)
  simp only [oxz, simprocAttr]
  refine hLL _ _ ?_
  refine fg11 (fun R => ?_)
  have q0 : TlD n (stepE n E (l.take 0)) W X := by rw [List.take_zero, stepE_nil]; exact q
  refine wpC_block ?_
  refine wpC_loop (fun m T h' => ∃ (i : Nat) (W' : List Int) (X' : List AckX) (u5 u6 u7 u8 u9 : Value) (R : List Value), m + i = l.length ∧ TlD n (stepE n E (l.take i)) W' X' ∧ St h0 h' (coG β no since stop n W' X' :: F) ∧ T = .pointer (some ⟨β, 0, none⟩) :: .slice la l.length lc :: .int .i64 n :: .int .i64 no :: .bool bw :: u5 :: u6 :: u7 :: u8 :: u9 :: .int .i64 i :: R) ?_ l.length _ _ ⟨0, W, X, _, _, _, _, _, R, by omega, q0, s, rfl⟩
  rintro m T h' ⟨i, W', X', u5, u6, u7, u8, u9, R, hmi, q1, s1, rfl⟩
  refine wpC_seq (sr fun LL hLL => ?_)
  simp only [oxz, simprocAttr]
  refine hLL _ _ ?_
  refine wpC_if ?_
  simp only [oxz, simprocAttr]
  refine gC_of (fun hc => ?_) (fun hc => ?_)
  ·refine wpC_skip ?_
   simp only [oxz, simprocAttr]
   refine fg11 (fun R => ?_)
   have hi : i < l.length := by omega
   have ht : l.take (i + 1) = l.take i ++ [l[i]] := List.take_succ_eq_append_getElem hi
   obtain ⟨bq, oq, roq, szq, Cq, Tq, eq, pq, gq, rq, qq⟩ := (r _ s1.drop).resolve_left (by rintro rfl; simp at hi)
   obtain ⟨wq, xq⟩ := Rs.row AckX.len rq qq i hi
   have ax := rx _ (List.getElem_mem hi)
   have hsx := sx _ (List.getElem_mem hi)
   obtain ⟨x, ex⟩ : ∃ x, x = l[i] := ⟨_, rfl⟩
   rw [← ex] at wq ht ax hsx
   obtain ⟨ba, eba⟩ : ∃ b, b = h'.next := ⟨_, rfl⟩
   have s2 := ((s1.push (.cells false 0 ackZ 33)).set (.cells false 0 x.cells 33))
   have gz := (s1.push (.cells false 0 ackZ 33)).get
   unfold AckX.cells at wq s2
   rw [eq]
   refine wpC_seq (wpC_block ?_)
   refine sr (fun LL hLL => ?_)
   simp only [oxz, simprocAttr, ixF hi, gq, wq, xq, AckX.len, gz]
   refine hLL _ _ ?_
   obtain ⟨h2, e2⟩ : ∃ h2, h2 = (h'.push (.cells false 0 ackZ 33)).set h'.next (.cells false 0 [.int .i64 x.no, .int .i64 x.task, .slice x.oa x.offs.length x.oc, .slice x.ra x.rows.length x.rc, .slice x.ta x.outs.length x.tc] 33) := ⟨_, rfl⟩
   rw [← e2, ← eba] at s2
   rw [← e2, ← eba]
   have ga := s2.get
   refine sr (fun LL hLL => ?_)
   simp only [oxz, simprocAttr, ga]
   refine hLL _ _ ?_
   have s3 := s2.set (.cells false 0 [.int .i64 no, .int .i64 x.task, .slice x.oa x.offs.length x.oc, .slice x.ra x.rows.length x.rc, .slice x.ta x.outs.length x.tc] 33)
   have ga3 := s3.get
   refine rg (fun LL hLL => ?_)
   simp only [oxz, simprocAttr, ga3]
   refine ackQ_ok (x.setNo no) ((ax.setNo no).up _) (hsx.setNo no) q1 (s3.mv 1) _ fun W2 X2 h3 q2 s4 => ?_
   rw [if_pos (show (x.setNo no).no = no from rfl), updE_setNo, ← stepE_snoc, ← ht] at q2
   refine hLL _ _ ?_
   simp only [oxz, simprocAttr]
   refine fg11 (fun R => ?_)
   refine rg (fun LL hLL => ?_)
   simp only [oxz, simprocAttr, wsucc (show i < 9223372036854775807 by omega)]
   refine hLL _ _ ?_
   simp only [oxz, simprocAttr]
   exact ⟨m - 1, by omega, i + 1, W2, X2, _, _, _, _, _, _, by omega, q2, s4.sel 2 [0], rfl⟩
  ·have hil : i = l.length := by omega
   subst hil
   rw [List.take_length] at q1
   refine wpC_exit ?_
   simp only [oxz, simprocAttr]
   exact ⟨W', X', _, _, _, _, _, _, q1, s1, rfl⟩
 clear q s
 rintro T h1 ⟨W1, X1, u5, u6, u7, u8, u9, R, q, s, rfl⟩
 obtain ⟨E1, eE1⟩ : ∃ E1, E1 = stepE n E l := ⟨_, rfl⟩
 rw [← eE1] at q
 refine sr (fun LL hLL => ?_)
 simp only [oxz, simprocAttr]
 refine hLL _ _ ?_
 obtain ⟨g, eg⟩ : ∃ g : Nat → Nat, g = fun j => if bw = true then n - 1 - j else j := ⟨_, rfl⟩
 have hg : ∀ j, j < n → g j < n := fun j hj => by rw [eg]; simp only; split <;> omega
 have q0 : TlD n (fillE E1 ((List.range 0).map g)) W1 X1 := by rw [List.range_zero, List.map_nil, fillE_nil]; exact q
 refine wpC_block ?_
 refine wpC_loop (fun m T h' => ∃ (i : Nat) (W' : List Int) (X' : List AckX) (u5 u6 u7 u8 u9 : Value) (R : List Value), m + i = n ∧ TlD n (fillE E1 ((List.range i).map g)) W' X' ∧ St h0 h' (coG β no since stop n W' X' :: F) ∧ T = .pointer (some ⟨β, 0, none⟩) :: .slice la l.length lc :: .int .i64 n :: .int .i64 no :: .bool bw :: u5 :: u6 :: u7 :: u8 :: u9 :: R ∧ tget R 2 = .int .i64 i) ?_ n _ _ ⟨0, W1, X1, _, _, _, _, _, _, by omega, q0, s, rfl, by simp [tget_tput]⟩
 clear q0 q s
 rintro m T h' ⟨i, W', X', u5, u6, u7, u8, u9, R, hmi, q1, s1, rfl, q2⟩
 refine wpC_seq (sr fun LL hLL => ?_)
 simp only [oxz, simprocAttr, q2]
 refine hLL _ _ ?_
 refine wpC_if ?_
 simp only [oxz, simprocAttr]
 refine gC_of (fun hc => ?_) (fun hc => ?_)
 ·refine wpC_skip ?_
  simp only [oxz, simprocAttr]
  have hi : i < n := by omega
  refine wpC_seq (wpC_block ?_)
  refine sr (fun LL hLL => ?_)
  simp only [oxz, simprocAttr, q2]
  refine hLL _ _ ?_
  refine sm (fun T h'' => h'' = h' ∧ ∃ (u5 u6 u7 u8 u9 : Value) (R : List Value), T = .pointer (some ⟨β, 0, none⟩) :: .slice la l.length lc :: .int .i64 n :: .int .i64 no :: .bool bw :: u5 :: u6 :: u7 :: u8 :: u9 :: R ∧ tget R 2 = .int .i64 i ∧ tget R 3 = .int .i64 (g i)) ?_ ?_
  ·refine sr (fun LL hLL => ?_)
   simp only [oxz, simprocAttr]
   refine hLL _ _ ?_
   cases bw
   ·refine wpC_if ?_
    simp only [oxz, simprocAttr]
    refine wpC_skip ?_
    simp only [oxz, simprocAttr]
    exact ⟨_, _, _, _, _, _, rfl, by simp [tget_tput, q2], by simp [tget_tput, eg]⟩
   ·have hw : IntKind.i64.wrap (IntKind.i64.wrap ((n : Int) - 1) - (i : Int)) = ((n - 1 - i : Nat) : Int) := by
     rw [wrap_i64 (n := (n : Int) - 1) (by omega) (by omega), wrap_i64 (by omega) (by omega)]; omega
    refine wpC_if ?_
    simp only [oxz, simprocAttr]
    refine rg (fun LL hLL => ?_)
    simp only [oxz, simprocAttr, q2, hw]
    refine hLL _ _ ?_
    simp only [oxz, simprocAttr]
    exact ⟨_, _, _, _, _, _, rfl, by simp [tget_tput, q2], by simp [tget_tput, eg]⟩
  rintro T h'' ⟨rfl, u5, u6, u7, u8, u9, R, rfl, q3, q4⟩
  refine rg (fun LL hLL => ?_)
  simp only [oxz, simprocAttr, q3, q4]
  refine ackQ_ok (emX no (g i)) (emX_rd h0 F no (g i)) (emX_sm no (g i)) q1 s1 _ fun W2 X2 h3 q5 s4 => ?_
  rw [if_pos (show (emX no (g i)).no = no from rfl), ← fillE_snoc n E1 _ (g i) (hg i hi) no] at q5
  have er : (List.range i).map g ++ [g i] = (List.range (i + 1)).map g := by rw [List.range_succ, List.map_append]; rfl
  rw [er] at q5
  refine hLL _ _ ?_
  simp only [oxz, simprocAttr]
  refine rg (fun LL hLL => ?_)
  simp only [oxz, simprocAttr, q3, q4, wsucc (show i < 9223372036854775807 by omega)]
  refine hLL _ _ ?_
  simp only [oxz, simprocAttr]
  exact ⟨m - 1, by omega, i + 1, W2, X2, _, _, _, _, _, _, by omega, q5, s4, rfl, by simp [tget_tput]⟩
 ·have hin : i = n := by omega
  subst hin
  refine wpC_exit ?_
  simp only [oxz, simprocAttr]
  refine out_normal ?_
  simp only [oxz, simprocAttr]
  have hmem : ∀ t, t < i → t ∈ (List.range i).map g := fun t ht => by
   rw [eg, List.mem_map]
   cases bw
   ·exact ⟨t, List.mem_range.2 ht, by simp⟩
   ·exact ⟨i - 1 - t, List.mem_range.2 (by omega), by simp; omega⟩
  have ef : fillE E1 ((List.range i).map g) = toldE i E l := by
   funext t
   unfold fillE toldE
   rw [← eE1]
   cases E1 t with
   | some c => rfl
   | none =>
    simp only
    by_cases ht : t < i
    ·rw [if_pos (hmem t ht), if_pos ht]
    ·rw [if_neg ht, if_neg]
     intro h
     obtain ⟨j, hj, e⟩ := List.mem_map.1 h
     have := hg j (List.mem_range.1 hj)
     omega
  rw [ef] at q1
  have hW : W' = [] := by
   cases W' with
   | nil => rfl
   | cons w W' =>
    have hp := q1.pos w (by simp)
    obtain ⟨t, rfl⟩ : ∃ t : Nat, w = t := ⟨w.toNat, by omega⟩
    obtain ⟨h1, h2⟩ := (q1.mem t).1 (by simp)
    exfalso
    unfold toldE at h2
    split at h2
    ·cases h2
    ·rw [if_pos h1] at h2; cases h2
  subst hW
  exact hk X' _ q1 s1
end Go.Proofs.Cd

namespace Go.Proofs.Cd
open Go Go.Ox
set_option maxRecDepth 100000
set_option maxHeartbeats 4000000
theorem dq (p : Prop) [Decidable p] : ∃ q, decide p = q := ⟨_, rfl⟩
theorem between_ok (n lo hi : Int) (h : AHeap) (K : Value → AHeap → Prop) (hk : K (.bool (decide (lo ≤ n ∧ n ≤ hi))) h) : wpF Tryz.prog (.fn 50) [.int .i64 n, .int .i64 lo, .int .i64 hi] h K := by
 refine wpF_fun 15 [.tmp 6] Tryz.func50 rfl rfl rfl rfl ?_
 refine sr (fun LL hLL => ?_)
 simp only [oxz, simprocAttr]
 refine hLL _ _ ?_
 by_cases h1 : lo ≤ n
 ·by_cases h2 : n ≤ hi
  ·refine sr (fun LL hLL => ?_)
   simp only [oxz, simprocAttr, eq_true h1, eq_true h2]
   refine hLL _ _ ?_
   refine wpC_ret (out_ret ?_)
   simp only [oxz, simprocAttr]
   rw [decide_eq_true ⟨h1, h2⟩] at hk
   exact hk
  ·refine sr (fun LL hLL => ?_)
   simp only [oxz, simprocAttr, eq_true h1, eq_false h2]
   refine hLL _ _ ?_
   refine wpC_ret (out_ret ?_)
   simp only [oxz, simprocAttr]
   rw [decide_eq_false (fun h => h2 h.2)] at hk
   exact hk
 ·refine sr (fun LL hLL => ?_)
  simp only [oxz, simprocAttr, eq_false h1]
  refine hLL _ _ ?_
  refine wpC_ret (out_ret ?_)
  simp only [oxz, simprocAttr]
  rw [decide_eq_false (fun h => h1 h.1)] at hk
  exact hk
theorem index_ok (L : List Int) (n : Int) (a : Option Addr) (c : Nat) (h : AHeap) (r : Rs icell 1 h a L) (hl : L.length < 17592186045000) (K : Value → AHeap → Prop) (hk : ∀ k : Int, (0 ≤ k ↔ n ∈ L) → K (.int .i64 k) h) : wpF Tryz.prog (.fn 97) [.slice a L.length c, .int .i64 n] h K := by
 refine wpF_fun 19 [.tmp 4] Tryz.func97 rfl rfl rfl rfl ?_
 refine sr (fun LL hLL => ?_)
 simp only [oxz, simprocAttr]
 refine hLL _ _ ?_
 refine wpC_seq ?_
 refine sr (fun LL hLL => ?_)
 simp only [oxz, simprocAttr]
 refine hLL _ _ ?_
 refine fg9 (fun R => ?_)
 refine wpC_block ?_
 refine wpC_loop (fun k T h' => ∃ (i : Nat) (u2 u3 u4 u5 : Value) (R : List Value), h' = h ∧ k + i = L.length ∧ (¬ n ∈ L.take i) ∧ T = .slice a L.length c :: .int .i64 n :: u2 :: u3 :: u4 :: u5 :: .slice a L.length c :: .int .i64 L.length :: .int .i64 i :: R) ?_ L.length _ _ ⟨0, _, _, _, _, R, rfl, by omega, by simp, rfl⟩
 rintro k T h' ⟨i, u2, u3, u4, u5, R, rfl, hki, hn, rfl⟩
 refine sr (fun LL hLL => ?_)
 simp only [oxz, simprocAttr]
 refine hLL _ _ ?_
 refine wpC_seq ?_
 refine wpC_if ?_
 simp only [oxz, simprocAttr]
 refine gC_of (fun hc => ?_) (fun hc => ?_)
 ·refine wpC_skip ?_
  simp only [oxz, simprocAttr]
  refine fg9 (fun R => ?_)
  have hi : i < L.length := by omega
  have hne : L ≠ [] := by rintro rfl; simp at hi
  obtain ⟨b1, o1, ro1, sz1, C1, e1, rfl, p1, g1, r1, q1⟩ := r.resolve_left hne
  have w1 : C1[o1 + i * 1]? = some (.int .i64 L[i]) := Rs.cell icell.len r1 q1 i hi 0 (by omega)
  refine wpC_seq (wpC_block ?_)
  refine sr (fun LL hLL => ?_)
  simp only [oxz, simprocAttr]
  refine hLL _ _ ?_
  by_cases hx : n = L[i]
  ·refine sr (fun LL hLL => ?_)
   simp only [oxz, simprocAttr, ixF hi, g1, w1, eq_true hx]
   refine hLL _ _ ?_
   refine wpC_if ?_
   simp only [oxz, simprocAttr]
   refine sr (fun LL hLL => ?_)
   simp only [oxz, simprocAttr]
   refine hLL _ _ ?_
   refine wpC_ret (out_ret ?_)
   simp only [oxz, simprocAttr]
   exact hk _ ⟨fun _ => by rw [hx]; exact List.getElem_mem hi, fun _ => by omega⟩
  ·refine sr (fun LL hLL => ?_)
   simp only [oxz, simprocAttr, ixF hi, g1, w1, eq_false hx]
   refine hLL _ _ ?_
   refine wpC_if ?_
   simp only [oxz, simprocAttr]
   refine wpC_skip ?_
   simp only [oxz, simprocAttr]
   refine fg9 (fun R => ?_)
   refine rg (fun LL hLL => ?_)
   simp only [oxz, simprocAttr, wsucc (show i < 9223372036854775807 by omega)]
   refine hLL _ _ ?_
   simp only [oxz, simprocAttr]
   refine ⟨k - 1, by omega, i + 1, _, _, _, _, _, by omega, ?_, rfl⟩
   rw [List.take_succ_eq_append_getElem hi, List.mem_append, not_or]
   exact ⟨hn, by simp; exact hx⟩
 ·have hil : i = L.length := by omega
  subst hil
  refine wpC_exit ?_
  simp only [oxz, simprocAttr]
  refine fg9 (fun R => ?_)
  refine sr (fun LL hLL => ?_)
  simp only [oxz, simprocAttr]
  refine hLL _ _ ?_
  refine wpC_ret (out_ret ?_)
  simp only [oxz, simprocAttr]
  rw [List.take_length] at hn
  exact hk _ ⟨fun h => by omega, fun h => absurd h hn⟩
theorem contains_ok (L : List Int) (n : Int) (a : Option Addr) (c : Nat) (h : AHeap) (r : Rs icell 1 h a L) (hl : L.length < 17592186045000) (K : Value → AHeap → Prop) (hk : K (.bool (decide (n ∈ L))) h) : wpF Tryz.prog (.fn 76) [.slice a L.length c, .int .i64 n] h K := by
 refine wpF_fun 9 [.tmp 4] Tryz.func76 rfl rfl rfl rfl ?_
 refine sr (fun LL hLL => ?_)
 simp only [oxz, simprocAttr]
 refine hLL _ _ ?_
 refine sr (fun LL hLL => ?_)
 simp only [oxz, simprocAttr]
 refine index_ok L n a c h r hl _ fun k hk2 => ?_
 by_cases h1 : 0 ≤ k
 ·simp only [oxz, simprocAttr, eq_true h1]
  refine hLL _ _ ?_
  refine wpC_ret (out_ret ?_)
  simp only [oxz, simprocAttr]
  rw [decide_eq_true (hk2.1 h1)] at hk
  exact hk
 ·simp only [oxz, simprocAttr, eq_false h1]
  refine hLL _ _ ?_
  refine wpC_ret (out_ret ?_)
  simp only [oxz, simprocAttr]
  rw [decide_eq_false (fun h => h1 (hk2.2 h))] at hk
  exact hk
theorem contains_n (L : List Int) (m : Nat) (hm : L.length = m) (n : Int) (a : Option Addr) (c : Nat) (h : AHeap) (r : Rs icell 1 h a L) (hl : L.length < 17592186045000) (K : Value → AHeap → Prop) (hk : ∀ b : Bool, K (.bool b) h) : wpF Tryz.prog (.fn 76) [.slice a m c, .int .i64 n] h K := by
 subst hm
 exact contains_ok L n a c h r hl K (hk _)
end Go.Proofs.Cd

namespace Go.Proofs.Cd
open Go Go.Ox
set_option maxRecDepth 100000
set_option maxHeartbeats 4000000
theorem eqFn (x y : Operand) (a b c : Int) : ∃ q : Bool, aBin Tryz.prog .eql 54 x y (.agg #[.int .i64 a, .int .i64 b, .int .i64 c]) (.agg #[.int .i64 0, .int .i64 0, .int .i64 0]) = some (.bool q) := by
 have h := (aBin_nums (P := Tryz.prog) Tryz.underlying54 (by decide +kernel) (by decide +kernel) (by rfl) x y [a, b, c] [0, 0, 0] rfl rfl).2
 exact ⟨_, h⟩
theorem may_ok {h0 : AHeap} {F : List Asn} (kd f1 f2 f3 : Int) (h : AHeap) (s : St h0 h F) (K : Value → AHeap → Prop) (hk : ∀ (b : Bool) h', St h0 h' F → K (.bool b) h') : wpF Tryz.prog (.fn 73) [.int .i64 kd, .agg #[.int .i64 f1, .int .i64 f2, .int .i64 f3]] h K := by
 refine wpF_fun 87 [.tmp 4] Tryz.func73 rfl rfl rfl rfl ?_
 have s1 := s.push (.cells false 0 [.int .i64 f1, .int .i64 f2, .int .i64 f3] 54)
 obtain ⟨h1, e1⟩ : ∃ h1, h1 = h.push (.cells false 0 [.int .i64 f1, .int .i64 f2, .int .i64 f3] 54) := ⟨_, rfl⟩
 obtain ⟨bs, ebs⟩ : ∃ b, b = h.next := ⟨_, rfl⟩
 rw [← e1, ← ebs] at s1
 refine sr (fun LL hLL => ?_)
 simp only [oxz, simprocAttr]
 refine hLL _ _ ?_
 rw [← e1, ← ebs]
 have gs := s1.get
 have sF := s1.drop
 obtain ⟨q3, e13⟩ := dq (f3 = 0)
 refine sm (fun T h' => h' = h1 ∧ ∃ (fold : Bool) (u1 u2 : Value) (R : List Value), T = .int .i64 kd :: u1 :: u2 :: .pointer (some ⟨bs, 0, none⟩) :: .bool false :: .bool fold :: R) ?_ ?_
 ·refine rg (fun LL hLL => ?_)
  simp only [oxk, simprocAttr, gs]
  refine between_ok f1 1 4 _ _ ?_
  obtain ⟨q1, e11⟩ := dq (1 ≤ f1 ∧ f1 ≤ 4)
  cases q1 <;> cases q3
  all_goals
   simp only [oxk, simprocAttr, gs, e11, e13]
   refine hLL _ _ ?_
   simp only [oxz, simprocAttr]
   exact ⟨_, _, _, _, rfl⟩
 ·rintro T h' ⟨rfl, fold, u1, u2, R, rfl⟩
  refine wpC_seq ?_
  refine sr (fun LL hLL => ?_)
  simp only [oxz, simprocAttr]
  refine hLL _ _ ?_
  refine wpC_block ?_
  by_cases k2 : kd = 2
  ·obtain ⟨p1, d1⟩ := dq (1 ≤ f1 ∧ f1 ≤ 7)
   obtain ⟨p4, d4⟩ := dq (¬ f1 = 5)
   obtain ⟨p5, d5⟩ := dq (0 < f2)
   refine sr (fun LL hLL => ?_)
   simp only [oxz, simprocAttr, eq_true k2]
   refine hLL _ _ ?_
   refine wpC_if ?_
   simp only [oxz, simprocAttr]
   refine sr (fun LL hLL => ?_)
   simp only [oxk, simprocAttr, gs]
   refine between_ok f1 1 7 _ _ ?_
   cases p1 <;> cases q3 <;> cases p4 <;> cases p5
   all_goals
    simp only [oxk, simprocAttr, gs, d1, e13, d4, d5]
    refine hLL _ _ ?_
    refine wpC_ret (out_ret ?_)
    simp only [oxz, simprocAttr]
    exact hk _ _ sF
  refine sr (fun LL hLL => ?_)
  simp only [oxz, simprocAttr, eq_false k2]
  refine hLL _ _ ?_
  refine wpC_if ?_
  simp only [oxz, simprocAttr]
  by_cases k3 : kd = 3
  ·obtain ⟨p5, d5⟩ := dq (0 < f2)
   refine sr (fun LL hLL => ?_)
   simp only [oxz, simprocAttr, eq_true k3]
   refine hLL _ _ ?_
   refine wpC_if ?_
   simp only [oxz, simprocAttr]
   refine wpC_seq ?_
   refine sr (fun LL hLL => ?_)
   simp only [oxz, simprocAttr, gs]
   refine hLL _ _ ?_
   refine wpC_block ?_
   by_cases c1 : f1 = 1
   ·refine sr (fun LL hLL => ?_)
    simp only [oxz, simprocAttr, eq_true c1]
    refine hLL _ _ ?_
    refine wpC_if ?_
    simp only [oxz, simprocAttr]
    refine sr (fun LL hLL => ?_)
    simp only [oxz, simprocAttr, gs]
    refine hLL _ _ ?_
    refine wpC_ret (out_ret ?_)
    simp only [oxz, simprocAttr]
    exact hk _ _ sF
   refine sr (fun LL hLL => ?_)
   simp only [oxz, simprocAttr, eq_false c1]
   refine hLL _ _ ?_
   refine wpC_if ?_
   simp only [oxz, simprocAttr]
   refine sm (fun T h'' => h'' = h' ∧ ∃ (q : Bool) (u1 u2 : Value) (R : List Value), T = .int .i64 kd :: u1 :: u2 :: .pointer (some ⟨bs, 0, none⟩) :: .bool false :: .bool fold :: R ∧ tget R 38 = .bool q) ?_ ?_
   ·by_cases c2 : f1 = 2
    ·refine sr (fun LL hLL => ?_)
     simp only [oxz, simprocAttr, eq_true c2]
     refine hLL _ _ ?_
     refine wpC_if ?_
     simp only [oxz, simprocAttr]
     refine wpC_skip ?_
     simp only [oxz, simprocAttr]
     exact ⟨true, _, _, _, rfl, by simp [tget_tput]⟩
    ·obtain ⟨p3, d3⟩ := dq (f1 = 3)
     refine sr (fun LL hLL => ?_)
     simp only [oxz, simprocAttr, eq_false c2]
     refine hLL _ _ ?_
     refine wpC_if ?_
     simp only [oxz, simprocAttr]
     refine rg (fun LL hLL => ?_)
     simp only [oxz, simprocAttr, d3]
     refine hLL _ _ ?_
     simp only [oxz, simprocAttr]
     exact ⟨p3, _, _, _, rfl, by simp [tget_tput]⟩
   rintro T h'' ⟨rfl, q, u1, u2, R, rfl, qq⟩
   cases q
   ·refine wpC_if ?_
    simp only [oxz, simprocAttr, qq]
    refine wpC_skip ?_
    simp only [oxz, simprocAttr]
    refine fg6 (fun R => ?_)
    refine sr (fun LL hLL => ?_)
    simp only [oxz, simprocAttr]
    refine hLL _ _ ?_
    refine wpC_ret (out_ret ?_)
    simp only [oxz, simprocAttr]
    exact hk _ _ sF
   ·refine wpC_if ?_
    simp only [oxz, simprocAttr, qq]
    cases p5
    ·refine sr (fun LL hLL => ?_)
     simp only [oxz, simprocAttr, gs, d5]
     refine hLL _ _ ?_
     refine wpC_ret (out_ret ?_)
     simp only [oxz, simprocAttr]
     exact hk _ _ sF
    ·refine sr (fun LL hLL => ?_)
     simp only [oxk, simprocAttr, gs, d5]
     refine between_ok f3 0 _ _ _ ?_
     simp only [oxk, simprocAttr]
     refine hLL _ _ ?_
     refine wpC_ret (out_ret ?_)
     simp only [oxz, simprocAttr]
     exact hk _ _ sF
  refine sr (fun LL hLL => ?_)
  simp only [oxz, simprocAttr, eq_false k3]
  refine hLL _ _ ?_
  refine wpC_if ?_
  simp only [oxz, simprocAttr]
  by_cases k4 : kd = 4
  ·obtain ⟨p1, d1⟩ := dq (f1 = 0)
   refine sr (fun LL hLL => ?_)
   simp only [oxz, simprocAttr, eq_true k4]
   refine hLL _ _ ?_
   refine wpC_if ?_
   simp only [oxz, simprocAttr]
   cases p1
   ·refine sr (fun LL hLL => ?_)
    simp only [oxz, simprocAttr, gs, d1]
    refine hLL _ _ ?_
    refine wpC_ret (out_ret ?_)
    simp only [oxz, simprocAttr]
    exact hk _ _ sF
   ·refine sr (fun LL hLL => ?_)
    simp only [oxk, simprocAttr, gs, d1]
    refine between_ok f2 0 4 _ _ ?_
    simp only [oxk, simprocAttr]
    refine hLL _ _ ?_
    refine wpC_ret (out_ret ?_)
    simp only [oxz, simprocAttr]
    exact hk _ _ sF
  refine sr (fun LL hLL => ?_)
  simp only [oxz, simprocAttr, eq_false k4]
  refine hLL _ _ ?_
  refine wpC_if ?_
  simp only [oxz, simprocAttr]
  by_cases k5 : kd = 5
  ·obtain ⟨p1, d1⟩ := dq (f2 = 0)
   refine sr (fun LL hLL => ?_)
   simp only [oxz, simprocAttr, eq_true k5]
   refine hLL _ _ ?_
   refine wpC_if ?_
   simp only [oxz, simprocAttr]
   cases fold <;> cases p1
   all_goals
    refine sr (fun LL hLL => ?_)
    simp only [oxz, simprocAttr, gs, d1]
    refine hLL _ _ ?_
    refine wpC_ret (out_ret ?_)
    simp only [oxz, simprocAttr]
    exact hk _ _ sF
  refine sr (fun LL hLL => ?_)
  simp only [oxz, simprocAttr, eq_false k5]
  refine hLL _ _ ?_
  refine wpC_if ?_
  simp only [oxz, simprocAttr]
  by_cases k6 : kd = 6
  ·refine sr (fun LL hLL => ?_)
   simp only [oxz, simprocAttr, eq_true k6]
   refine hLL _ _ ?_
   refine wpC_if ?_
   simp only [oxz, simprocAttr]
   cases fold
   ·refine sr (fun LL hLL => ?_)
    simp only [oxz, simprocAttr, gs]
    refine hLL _ _ ?_
    refine wpC_ret (out_ret ?_)
    simp only [oxz, simprocAttr]
    exact hk _ _ sF
   ·refine sr (fun LL hLL => ?_)
    simp only [oxk, simprocAttr, gs]
    refine between_ok f2 1 16 _ _ ?_
    simp only [oxk, simprocAttr]
    refine hLL _ _ ?_
    refine wpC_ret (out_ret ?_)
    simp only [oxz, simprocAttr]
    exact hk _ _ sF
  refine sr (fun LL hLL => ?_)
  simp only [oxz, simprocAttr, eq_false k6]
  refine hLL _ _ ?_
  refine wpC_if ?_
  simp only [oxz, simprocAttr]
  refine wpC_skip ?_
  simp only [oxz, simprocAttr]
  refine fg6 (fun R => ?_)
  have vf : ∀ x y : Operand, ∃ q : Bool, aBin Tryz.prog .eql 54 x y (.agg #[.int .i64 f1, .int .i64 f2, .int .i64 f3]) (.agg #[.int .i64 0, .int .i64 0, .int .i64 0]) = some (.bool q) := fun x y => eqFn x y f1 f2 f3
  obtain ⟨q, hq⟩ := vf (.tmp 84) (.tmp 85)
  refine sr (fun LL hLL => ?_)
  simp only [oxz, simprocAttr, gs, hq]
  refine hLL _ _ ?_
  refine wpC_ret (out_ret ?_)
  simp only [oxz, simprocAttr]
  exact hk _ _ sF
end Go.Proofs.Cd

namespace Go.Proofs.Cd
open Go Go.Ox
set_option maxRecDepth 100000
set_option maxHeartbeats 4000000
theorem inputs_ok {h0 : AHeap} {F : List Asn} (g : Int) (a : Option Addr) (c : Nat) (L : List OpX) (sp : SpR h0 a L) (i : Nat) (hi : i < L.length) (h : AHeap) (s : St h0 h F) (K : Value → AHeap → Prop) (hk : ∀ (b : Bool) h', St h0 h' F → K (.bool b) h') :
  wpF Tryz.prog (.fn 72) [.agg #[.int .i64 g, .slice a L.length c], .int .i64 i] h K := by
 have hfew := sp.few
 refine wpF_fun 60 [.tmp 4] Tryz.func72 rfl rfl rfl rfl ?_
 have s1 := s.push (spB g a L.length c)
 obtain ⟨h1, e1⟩ : ∃ h1, h1 = h.push (spB g a L.length c) := ⟨_, rfl⟩
 obtain ⟨bs, ebs⟩ : ∃ b, b = h.next := ⟨_, rfl⟩
 rw [← e1, ← ebs] at s1
 refine sr (fun LL hLL => ?_)
 simp only [oxz, simprocAttr]
 refine hLL _ _ ?_
 rw [← e1, ← ebs]
 have gs := s1.get
 have sF := s1.drop
 obtain ⟨b1, o1, ro1, sz1, C1, T1, rfl, p1, g1, w0, w1, w2, x2, w8, x8⟩ := (sp.fr s1.base).at i hi
 have hxin := sp.ins L[i] (List.getElem_mem hi)
 have hcap := sp.caps L[i] (List.getElem_mem hi)
 have rin := hxin.1.fr s1.base
 have hil := hxin.2
 obtain ⟨I, eI⟩ : ∃ I, I = L[i].inn := ⟨_, rfl⟩
 rw [← eI] at rin hil w1 hcap
 obtain ⟨ai, eai⟩ : ∃ x, x = L[i].a := ⟨_, rfl⟩
 obtain ⟨ci, eci⟩ : ∃ x, x = L[i].cap := ⟨_, rfl⟩
 obtain ⟨kd, ekd⟩ : ∃ x, x = L[i].kind := ⟨_, rfl⟩
 rw [← eai] at rin
 rw [← eai, ← eci] at w1
 rw [← eci] at hcap
 rw [← ekd] at w0
 refine sr (fun LL hLL => ?_)
 simp only [oxz, simprocAttr, gs, ixF hi, g1, w1]
 refine hLL _ _ ?_
 refine fg6 (fun R => ?_)
 refine sm (fun T h' => h' = h1 ∧ ∃ (u0 u3 : Value) (R : List Value), T = u0 :: .int .i64 i :: .pointer (some ⟨bs, 0, none⟩) :: u3 :: .bool false :: .slice ai I.length ci :: R) ?_ ?_
 ·refine sr (fun LL hLL => ?_)
  simp only [oxz, simprocAttr]
  refine hLL _ _ ?_
  refine wpC_block ?_
  refine wpC_loop (fun m T h' => h' = h1 ∧ ∃ (k : Nat) (u0 u3 : Value) (R : List Value), m + k = I.length ∧ T = u0 :: .int .i64 i :: .pointer (some ⟨bs, 0, none⟩) :: u3 :: .bool false :: .slice ai I.length ci :: R ∧ tget R 9 = .slice ai I.length ci ∧ tget R 10 = .int .i64 I.length ∧ tget R 11 = .int .i64 k) ?_ I.length _ _ ⟨rfl, 0, _, _, _, by omega, rfl, by simp [tget_tput], by simp [tget_tput], by simp [tget_tput]⟩
  rintro m T h' ⟨rfl, k, u0, u3, R, hmk, rfl, q1, q2, q3⟩
  refine sr (fun LL hLL => ?_)
  simp only [oxz, simprocAttr, q1, q2, q3]
  refine hLL _ _ ?_
  refine wpC_seq ?_
  refine wpC_if ?_
  simp only [oxz, simprocAttr]
  refine gC_of (fun hc => ?_) (fun hc => ?_)
  ·refine wpC_skip ?_
   simp only [oxz, simprocAttr]
   have hk' : k < I.length := by omega
   obtain ⟨b3, o3, ro3, sz3, C3, T3, e3, p3, g3, r3, q4⟩ := rin.resolve_left (by rintro e; rw [e] at hk'; simp at hk')
   have v3 : C3[o3 + k * 1]? = some (.int .i64 I[k]) := Rs.cell icell.len r3 q4 k hk' 0 (by omega)
   have hw : IntKind.i64.wrap ((L.length : Int) - 1) = (L.length : Int) - 1 := wrap_i64 (by omega) (by omega)
   have rtk := rin.take icell.len k
   have hlt : (I.take k).length = k := by rw [List.length_take]; omega
   rw [e3] at q1 rtk
   refine wpC_seq (wpC_block ?_)
   refine sr (fun LL hLL => ?_)
   simp only [oxz, simprocAttr, q1, q2, q3, ixF hk', g3, v3]
   refine hLL _ _ ?_
   have hsl : aSlice Tryz.prog h' 25 (.slice (some ⟨b3, o3, none⟩) I.length ci) none (some (.int .i64 (k : Int))) none = some (.slice (some ⟨b3, o3, none⟩) k ci) := sl_to (P := Tryz.prog) Tryz.underlying25 (by rfl) (by omega) (by omega)
   have gs := s1.get
   refine sm (fun T h'' => h'' = h' ∧ ∃ (q : Bool) (u0 u3 : Value) (R : List Value), T = u0 :: .int .i64 i :: .pointer (some ⟨bs, 0, none⟩) :: u3 :: .bool false :: .slice ai I.length ci :: R ∧ tget R 9 = .slice ai I.length ci ∧ tget R 10 = .int .i64 I.length ∧ tget R 11 = .int .i64 k ∧ tget R 34 = .bool q) ?_ ?_
   ·rw [e3]
    by_cases c1 : I[k] = (i : Int)
    ·refine rg (fun LL hLL => ?_)
     simp only [oxz, simprocAttr, eq_true c1]
     refine hLL _ _ ?_
     simp only [oxz, simprocAttr]
     exact ⟨true, _, _, _, rfl, by simp [tget_tput, q1], by simp [tget_tput, q2], by simp [tget_tput, q3], by simp [tget_tput]⟩
    ·refine rg (fun LL hLL => ?_)
     simp only [oxk, simprocAttr, eq_false c1, gs, hw]
     refine between_ok I[k] 0 _ _ _ ?_
     obtain ⟨p1, d1⟩ := dq (0 ≤ I[k] ∧ I[k] ≤ (L.length : Int) - 1)
     cases p1
     ·simp only [oxk, simprocAttr, d1]
      refine hLL _ _ ?_
      simp only [oxz, simprocAttr]
      exact ⟨true, _, _, _, rfl, by simp [tget_tput, q1], by simp [tget_tput, q2], by simp [tget_tput, q3], by simp [tget_tput]⟩
     ·simp only [oxk, simprocAttr, d1, hsl]
      refine contains_n (I.take k) k hlt I[k] _ _ _ rtk (by omega) _ fun q => ?_
      simp only [oxk, simprocAttr]
      refine hLL _ _ ?_
      simp only [oxz, simprocAttr]
      exact ⟨q, _, _, _, rfl, by simp [tget_tput, q1], by simp [tget_tput, q2], by simp [tget_tput, q3], by simp [tget_tput]⟩
   rintro T h'' ⟨rfl, q, u0, u3, R, rfl, q1, q2, q3, qq⟩
   cases q
   ·refine wpC_if ?_
    simp only [oxz, simprocAttr, qq]
    refine wpC_skip ?_
    simp only [oxz, simprocAttr]
    refine rg (fun LL hLL => ?_)
    simp only [oxz, simprocAttr, q1, q2, q3, wsucc (show k < 9223372036854775807 by omega)]
    refine hLL _ _ ?_
    simp only [oxz, simprocAttr]
    exact ⟨m - 1, by omega, k + 1, _, _, _, by omega, rfl, by simp [tget_tput, q1], by simp [tget_tput, q2], by simp [tget_tput]⟩
   ·refine wpC_if ?_
    simp only [oxz, simprocAttr, qq]
    refine sr (fun LL hLL => ?_)
    simp only [oxz, simprocAttr]
    refine hLL _ _ ?_
    refine wpC_ret (out_ret ?_)
    simp only [oxz, simprocAttr]
    exact hk _ _ sF
  ·refine wpC_exit ?_
   simp only [oxz, simprocAttr]
   exact ⟨_, _, _, rfl⟩
 rintro T h' ⟨rfl, u0, u3, R, rfl⟩
 refine sr (fun LL hLL => ?_)
 simp only [oxz, simprocAttr]
 refine hLL _ _ ?_
 refine sr (fun LL hLL => ?_)
 simp only [oxz, simprocAttr, gs, ixF hi, g1, w0]
 refine hLL _ _ ?_
 refine wpC_block ?_
 by_cases k1 : kd = 1
 ·refine sr (fun LL hLL => ?_)
  simp only [oxz, simprocAttr, eq_true k1]
  refine hLL _ _ ?_
  refine wpC_if ?_
  simp only [oxz, simprocAttr]
  refine sr (fun LL hLL => ?_)
  simp only [oxz, simprocAttr]
  refine hLL _ _ ?_
  refine wpC_ret (out_ret ?_)
  simp only [oxz, simprocAttr]
  exact hk _ _ sF
 refine sr (fun LL hLL => ?_)
 simp only [oxz, simprocAttr, eq_false k1]
 refine hLL _ _ ?_
 refine wpC_if ?_
 simp only [oxz, simprocAttr]
 by_cases k7 : kd = 7
 ·refine sr (fun LL hLL => ?_)
  simp only [oxz, simprocAttr, eq_true k7]
  refine hLL _ _ ?_
  refine wpC_if ?_
  simp only [oxz, simprocAttr]
  refine sr (fun LL hLL => ?_)
  simp only [oxz, simprocAttr]
  refine hLL _ _ ?_
  refine wpC_ret (out_ret ?_)
  simp only [oxz, simprocAttr]
  exact hk _ _ sF
 refine sr (fun LL hLL => ?_)
 simp only [oxz, simprocAttr, eq_false k7]
 refine hLL _ _ ?_
 refine wpC_if ?_
 simp only [oxz, simprocAttr]
 refine sr (fun LL hLL => ?_)
 simp only [oxz, simprocAttr]
 refine hLL _ _ ?_
 refine wpC_ret (out_ret ?_)
 simp only [oxz, simprocAttr]
 exact hk _ _ sF
end Go.Proofs.Cd

namespace Go.Proofs.Cd
open Go Go.Ox
set_option maxRecDepth 100000
set_option maxHeartbeats 4000000
theorem alone_ok {h0 : AHeap} {F : List Asn} (g : Int) (a : Option Addr) (c : Nat) (L : List OpX) (sp : SpR h0 a L) (i : Nat) (hi : i < L.length) (h : AHeap) (s : St h0 h F) (K : Value → AHeap → Prop) (hk : ∀ (e : Int) h', (e = 0 → L[i].kind = 1 → 1 ≤ L[i].parts ∧ L[i].parts ≤ 8) → St h0 h' F → K (.int .i64 e) h') :
  wpF Tryz.prog (.fn 51) [.agg #[.int .i64 g, .slice a L.length c], .int .i64 i] h K := by
 have hfew := sp.few
 refine wpF_fun 58 [.tmp 4] Tryz.func51 rfl rfl rfl rfl ?_
 have s1 := s.push (spB g a L.length c)
 obtain ⟨h1, e1⟩ : ∃ h1, h1 = h.push (spB g a L.length c) := ⟨_, rfl⟩
 obtain ⟨bs, ebs⟩ : ∃ b, b = h.next := ⟨_, rfl⟩
 rw [← e1, ← ebs] at s1
 refine sr (fun LL hLL => ?_)
 simp only [oxz, simprocAttr]
 refine hLL _ _ ?_
 rw [← e1, ← ebs]
 have gs := s1.get
 obtain ⟨b1, o1, ro1, sz1, C1, T1, ea, p1, g1, w0, w1, w2, x2, w8, x8⟩ := (sp.fr s1.base).at i hi
 obtain ⟨x, ex⟩ : ∃ x, x = L[i] := ⟨_, rfl⟩
 rw [← ex] at w8 hk
 rw [ea] at gs
 have s2 := (s1.push (.cells false 0 [.int .i64 0, .slice none 0 0, .int .i64 0, .int .i64 0, .int .i64 0, .int .i64 0, .int .i64 0, .int .i64 0] 56)).set (.cells false 0 x.cells 56)
 have gz := (s1.push (.cells false 0 [.int .i64 0, .slice none 0 0, .int .i64 0, .int .i64 0, .int .i64 0, .int .i64 0, .int .i64 0, .int .i64 0] 56)).get
 obtain ⟨bo, ebo⟩ : ∃ b, b = h1.next := ⟨_, rfl⟩
 unfold OpX.cells at w8 s2
 refine sr (fun LL hLL => ?_)
 simp only [oxz, simprocAttr, gs, ixF hi, g1, w8, x8, OpX.len, gz]
 refine hLL _ _ ?_
 obtain ⟨h3, e3⟩ : ∃ h3, h3 = (h1.push (.cells false 0 [.int .i64 0, .slice none 0 0, .int .i64 0, .int .i64 0, .int .i64 0, .int .i64 0, .int .i64 0, .int .i64 0] 56)).set h1.next (.cells false 0 [.int .i64 x.kind, .slice x.a x.inn.length x.cap, .int .i64 x.f1, .int .i64 x.f2, .int .i64 x.f3, .int .i64 x.parts, .int .i64 x.rate, .int .i64 x.cost] 56) := ⟨_, rfl⟩
 rw [← e3, ← ebo] at s2
 rw [← e3, ← ebo]
 have go := s2.get
 have gs2 := (s2.mv 1).get
 have sF := s2.drop.drop
 refine sm (fun T h' => h' = h3 ∧ ∃ (q : Bool) (u0 u3 : Value) (R : List Value), T = u0 :: .int .i64 i :: .pointer (some ⟨bs, 0, none⟩) :: u3 :: .int .i64 0 :: .pointer (some ⟨bo, 0, none⟩) :: .bool q :: R) ?_ ?_
 ·obtain ⟨p1, d1⟩ := dq (x.parts = 0)
  obtain ⟨p2, d2⟩ := dq (x.rate = 0)
  cases p1 <;> cases p2
  all_goals
   refine rg (fun LL hLL => ?_)
   simp only [oxz, simprocAttr, go, d1, d2]
   refine hLL _ _ ?_
   simp only [oxz, simprocAttr]
   exact ⟨_, _, _, _, rfl⟩
 rintro T h' ⟨rfl, q0, u0, u3, R, rfl⟩
 refine sm (fun T h'' => h'' = h' ∧ ∃ (q : Bool) (u0 u3 : Value) (R : List Value), (q = true → x.kind = 1 → 1 ≤ x.parts ∧ x.parts ≤ 8) ∧ T = u0 :: .int .i64 i :: .pointer (some ⟨bs, 0, none⟩) :: u3 :: .int .i64 0 :: .pointer (some ⟨bo, 0, none⟩) :: .bool q :: R) ?_ ?_
 ·by_cases k1 : x.kind = 1
  ·refine sr (fun LL hLL => ?_)
   simp only [oxz, simprocAttr, go, eq_true k1]
   refine hLL _ _ ?_
   refine wpC_if ?_
   simp only [oxz, simprocAttr]
   refine rg (fun LL hLL => ?_)
   simp only [oxk, simprocAttr, go]
   refine between_ok x.parts 1 8 _ _ ?_
   obtain ⟨p1, d1⟩ := dq (1 ≤ x.parts ∧ x.parts ≤ 8)
   cases p1
   ·simp only [oxk, simprocAttr, d1]
    refine hLL _ _ ?_
    simp only [oxz, simprocAttr]
    exact ⟨false, _, _, _, (fun h => by cases h), rfl⟩
   ·simp only [oxk, simprocAttr, d1, go]
    refine between_ok x.rate 1 1048576 _ _ ?_
    simp only [oxk, simprocAttr]
    refine hLL _ _ ?_
    simp only [oxz, simprocAttr]
    exact ⟨_, _, _, _, fun _ _ => of_decide_eq_true d1, rfl⟩
  ·refine sr (fun LL hLL => ?_)
   simp only [oxz, simprocAttr, go, eq_false k1]
   refine hLL _ _ ?_
   refine wpC_if ?_
   simp only [oxz, simprocAttr]
   refine wpC_skip ?_
   simp only [oxz, simprocAttr]
   exact ⟨_, _, _, _, fun _ h => absurd h k1, rfl⟩
 rintro T h' ⟨rfl, q, u0, u3, R, hq, rfl⟩
 refine sm (fun T h' => St h0 h' F ∧ (q = true) ∧ ∃ (u0 u3 u5 u6 : Value) (R : List Value), T = u0 :: .int .i64 i :: .pointer (some ⟨bs, 0, none⟩) :: u3 :: .int .i64 0 :: u5 :: u6 :: R) ?_ ?_
 ·refine wpC_block ?_
  refine sr (fun LL hLL => ?_)
  simp only [oxk, simprocAttr, go]
  refine between_ok x.kind 1 8 _ _ ?_
  obtain ⟨p1, d1⟩ := dq (1 ≤ x.kind ∧ x.kind ≤ 8)
  cases p1
  ·simp only [oxk, simprocAttr, d1]
   refine hLL _ _ ?_
   refine wpC_if ?_
   simp only [oxz, simprocAttr]
   refine sr (fun LL hLL => ?_)
   simp only [oxz, simprocAttr]
   refine hLL _ _ ?_
   refine wpC_ret (out_ret ?_)
   simp only [oxz, simprocAttr]
   exact hk _ _ (fun h => by cases h) sF
  simp only [oxk, simprocAttr, d1]
  refine hLL _ _ ?_
  refine wpC_if ?_
  simp only [oxz, simprocAttr]
  refine sr (fun LL hLL => ?_)
  simp only [oxk, simprocAttr, gs2]
  refine inputs_ok g a c L sp i hi _ s2 _ fun q2 h4 s4 => ?_
  simp only [oxk, simprocAttr]
  refine hLL _ _ ?_
  cases q2
  ·refine wpC_if ?_
   simp only [oxz, simprocAttr]
   refine sr (fun LL hLL => ?_)
   simp only [oxz, simprocAttr]
   refine hLL _ _ ?_
   refine wpC_ret (out_ret ?_)
   simp only [oxz, simprocAttr]
   exact hk _ _ (fun h => by cases h) s4.drop.drop
  refine wpC_if ?_
  simp only [oxz, simprocAttr]
  have go4 := s4.get
  refine sr (fun LL hLL => ?_)
  simp only [oxk, simprocAttr, go4]
  refine may_ok x.kind x.f1 x.f2 x.f3 _ s4 _ fun q3 h5 s5 => ?_
  have go5 := s5.get
  have sF5 := s5.drop.drop
  cases q3
  ·simp only [oxk, simprocAttr]
   refine hLL _ _ ?_
   refine wpC_if ?_
   simp only [oxz, simprocAttr]
   refine sr (fun LL hLL => ?_)
   simp only [oxz, simprocAttr]
   refine hLL _ _ ?_
   refine wpC_ret (out_ret ?_)
   simp only [oxz, simprocAttr]
   exact hk _ _ (fun h => by cases h) sF5
  cases q
  ·simp only [oxk, simprocAttr]
   refine hLL _ _ ?_
   refine wpC_if ?_
   simp only [oxz, simprocAttr]
   refine sr (fun LL hLL => ?_)
   simp only [oxz, simprocAttr]
   refine hLL _ _ ?_
   refine wpC_ret (out_ret ?_)
   simp only [oxz, simprocAttr]
   exact hk _ _ (fun h => by cases h) sF5
  simp only [oxk, simprocAttr, go5]
  refine between_ok x.cost 1 1000 _ _ ?_
  obtain ⟨p2, d2⟩ := dq (1 ≤ x.cost ∧ x.cost ≤ 1000)
  cases p2
  ·simp only [oxk, simprocAttr, d2]
   refine hLL _ _ ?_
   refine wpC_if ?_
   simp only [oxz, simprocAttr]
   refine sr (fun LL hLL => ?_)
   simp only [oxz, simprocAttr]
   refine hLL _ _ ?_
   refine wpC_ret (out_ret ?_)
   simp only [oxz, simprocAttr]
   exact hk _ _ (fun h => by cases h) sF5
  simp only [oxk, simprocAttr, d2]
  refine hLL _ _ ?_
  refine wpC_if ?_
  simp only [oxz, simprocAttr]
  refine wpC_skip ?_
  simp only [oxz, simprocAttr]
  exact ⟨sF5, _, _, _, _, _, rfl⟩
 rintro T h' ⟨s5, hq1, u0, u3, u5, u6, R, rfl⟩
 refine sr (fun LL hLL => ?_)
 simp only [oxz, simprocAttr]
 refine hLL _ _ ?_
 refine wpC_ret (out_ret ?_)
 simp only [oxz, simprocAttr]
 exact hk _ _ (fun _ => hq hq1) s5
end Go.Proofs.Cd

namespace Go.Proofs.Cd
open Go Go.Ox
set_option maxRecDepth 100000
set_option maxHeartbeats 4000000
theorem usersF_ok {h0 : AHeap} {F : List Asn} (bp : Nat) (op : Int) (x : OpX) (r : Rd h0 (own bp (.cells false 0 [.int .i64 op] 3) :: F) icell 1 x.a x.inn) (hl : x.inn.length < 17592186045000) (h : AHeap) (s : St h0 h (own bp (.cells false 0 [.int .i64 op] 3) :: F)) (K : Value → AHeap → Prop) (hk : ∀ (b : Bool) h', St h0 h' (own bp (.cells false 0 [.int .i64 op] 3) :: F) → K (.bool b) h') :
  wpF Tryz.prog (.fn 75) [.agg x.cells.toArray, .pointer (some ⟨bp, 0, none⟩)] h K := by
 obtain ⟨kind, inn, a, cap, f1, f2, f3, parts, rate, cost⟩ := x
 simp only at r hl
 simp only [OpX.cells]
 refine wpF_fun 8 [.tmp 3] Tryz.func75 rfl rfl rfl rfl ?_
 have s1 := s.push (.cells false 0 [.int .i64 kind, .slice a inn.length cap, .int .i64 f1, .int .i64 f2, .int .i64 f3, .int .i64 parts, .int .i64 rate, .int .i64 cost] 56)
 obtain ⟨h1, e1⟩ : ∃ h1, h1 = h.push (.cells false 0 [.int .i64 kind, .slice a inn.length cap, .int .i64 f1, .int .i64 f2, .int .i64 f3, .int .i64 parts, .int .i64 rate, .int .i64 cost] 56) := ⟨_, rfl⟩
 obtain ⟨bs, ebs⟩ : ∃ b, b = h.next := ⟨_, rfl⟩
 rw [← e1, ← ebs] at s1
 refine sr (fun LL hLL => ?_)
 simp only [oxz, simprocAttr]
 refine hLL _ _ ?_
 rw [← e1, ← ebs]
 have g1 := s1.get
 have g2 := (s1.mv 1).get
 refine sr (fun LL hLL => ?_)
 simp only [oxz, simprocAttr, g1, g2]
 refine contains_ok inn op a cap _ (r _ s1.drop) hl _ ?_
 refine hLL _ _ ?_
 refine wpC_ret (out_ret ?_)
 simp only [oxz, simprocAttr]
 exact hk _ _ s1.drop
theorem users_ok {h0 : AHeap} {F : List Asn} (g : Int) (a : Option Addr) (c : Nat) (L : List OpX) (sp : SpR h0 a L) (op : Int) (h : AHeap) (s : St h0 h F) (K : Value → AHeap → Prop)
  (hk : ∀ b d (n : Nat) h', n ≤ L.length → St h0 h' F → K (.slice b n d) h') : wpF Tryz.prog (.fn 52) [.agg #[.int .i64 g, .slice a L.length c], .int .i64 op] h K := by
 have hfew := sp.few
 refine wpF_fun 8 [.tmp 4] Tryz.func52 rfl rfl rfl rfl ?_
 have s1 := (s.push (spB g a L.length c)).push (.cells false 0 [.int .i64 op] 3)
 rw [AHeap.next_push] at s1
 obtain ⟨b2, eb2⟩ : ∃ b, b = h.next + 1 := ⟨_, rfl⟩
 obtain ⟨b1, eb1⟩ : ∃ b, b = h.next := ⟨_, rfl⟩
 obtain ⟨h1, e1⟩ : ∃ h1, h1 = (h.push (spB g a L.length c)).push (.cells false 0 [.int .i64 op] 3) := ⟨_, rfl⟩
 rw [← e1, ← eb2, ← eb1] at s1
 refine sr (fun LL hLL => ?_)
 simp only [oxz, simprocAttr]
 refine hLL _ _ ?_
 rw [← e1, ← eb2, ← eb1]
 have gs := (s1.mv 1).get
 refine sr (fun LL hLL => ?_)
 simp only [oxz, simprocAttr, gs]
 have hOut := hLL
 refine wpF_fun 25 [.tmp 4] Tryz.func74 rfl rfl rfl rfl ?_
 have s2 := s1.push (spB g a L.length c)
 obtain ⟨b3, eb3⟩ : ∃ b, b = h1.next := ⟨_, rfl⟩
 obtain ⟨h2, e2⟩ : ∃ h2, h2 = h1.push (spB g a L.length c) := ⟨_, rfl⟩
 rw [← e2, ← eb3] at s2
 refine sr (fun LL hLL => ?_)
 simp only [oxz, simprocAttr]
 refine hLL _ _ ?_
 rw [← e2, ← eb3]
 have g3 := s2.get
 refine sr (fun LL hLL => ?_)
 simp only [oxz, simprocAttr]
 refine hLL _ _ ?_
 refine wpC_seq ?_
 refine sr (fun LL hLL => ?_)
 simp only [oxz, simprocAttr, g3]
 refine hLL _ _ ?_
 clear e2 e1 s1 gs g3
 refine wpC_block ?_
 refine wpC_loop (fun m T h' => ∃ (i : Nat) (b : Option Addr) (d : Nat) (Q : List Int) (u3 : Value) (R : List Value), m + i = L.length ∧ Q.length ≤ i ∧ St h0 h' (wn icell 1 3 b d Q :: own b2 (.cells false 0 [.int .i64 op] 3) :: F) ∧
  T = .agg #[.int .i64 g, .slice a L.length c] :: .func (.func 75) #[] #[.pointer (some ⟨b2, 0, none⟩)] :: .pointer (some ⟨b3, 0, none⟩) :: u3 :: .slice none 0 0 :: .slice b Q.length d :: R ∧ tget R 3 = .slice a L.length c ∧ tget R 4 = .int .i64 L.length ∧ tget R 5 = .int .i64 i) ?_ L.length _ _ ⟨0, none, 0, [], _, _, by omega, by simp, (s2.sel 3 [1]).wn_nil, rfl, rfl, rfl, rfl⟩
 clear s2
 rintro m T h' ⟨i, b, d, Q, u3, R, hmi, hQ, s2, rfl, q1, q2, q3⟩
 refine sr (fun LL hLL => ?_)
 simp only [oxz, simprocAttr, q1, q2, q3]
 refine hLL _ _ ?_
 refine wpC_seq ?_
 refine wpC_if ?_
 simp only [oxz, simprocAttr]
 refine gC_of (fun hc => ?_) (fun hc => ?_)
 ·refine wpC_skip ?_
  simp only [oxz, simprocAttr]
  have hi : i < L.length := by omega
  obtain ⟨b1, o1, ro1, sz1, C1, T1, ea, p1, g1, w0, w1, w2, x2, w8, x8⟩ := (sp.fr s2.base).at i hi
  have hin := sp.ins L[i] (List.getElem_mem hi)
  obtain ⟨x, ex⟩ : ∃ x, x = L[i] := ⟨_, rfl⟩
  rw [← ex] at w8 hin
  rw [ea] at q1
  have s3 := (s2.push (.cells false 0 [.int .i64 0, .slice none 0 0, .int .i64 0, .int .i64 0, .int .i64 0, .int .i64 0, .int .i64 0, .int .i64 0] 56)).set (.cells false 0 x.cells 56)
  have gz := (s2.push (.cells false 0 [.int .i64 0, .slice none 0 0, .int .i64 0, .int .i64 0, .int .i64 0, .int .i64 0, .int .i64 0, .int .i64 0] 56)).get
  obtain ⟨bo, ebo⟩ : ∃ b, b = h'.next := ⟨_, rfl⟩
  unfold OpX.cells at w8 s3
  refine wpC_seq (wpC_block ?_)
  refine sr (fun LL hLL => ?_)
  simp only [oxz, simprocAttr, q1, q2, q3, ixF hi, g1, w8, x8, OpX.len, gz]
  refine hLL _ _ ?_
  obtain ⟨h3, e3⟩ : ∃ h3, h3 = (h'.push (.cells false 0 [.int .i64 0, .slice none 0 0, .int .i64 0, .int .i64 0, .int .i64 0, .int .i64 0, .int .i64 0, .int .i64 0] 56)).set h'.next (.cells false 0 [.int .i64 x.kind, .slice x.a x.inn.length x.cap, .int .i64 x.f1, .int .i64 x.f2, .int .i64 x.f3, .int .i64 x.parts, .int .i64 x.rate, .int .i64 x.cost] 56) := ⟨_, rfl⟩
  rw [← e3, ← ebo] at s3
  rw [← e3, ← ebo]
  have go := s3.get
  refine sr (fun LL hLL => ?_)
  simp only [oxk, simprocAttr, go]
  refine usersF_ok (F := wn icell 1 3 b d Q :: F) b2 op x (Rd.of_base hin.1) hin.2 _ (s3.sel 3 [2, 1]) _ fun q h4 s4 => ?_
  simp only [oxk, simprocAttr]
  refine hLL _ _ ?_
  cases q
  ·refine wpC_if ?_
   simp only [oxz, simprocAttr]
   refine wpC_skip ?_
   simp only [oxz, simprocAttr]
   refine rg (fun LL hLL => ?_)
   simp only [oxz, simprocAttr, q1, q2, q3, wsucc (show i < 9223372036854775807 by omega)]
   refine hLL _ _ ?_
   simp only [oxz, simprocAttr]
   exact ⟨m - 1, by omega, i + 1, b, d, Q, _, _, by omega, by omega, s4.mv 1, rfl, by simp [tget_tput, q1, ea], by simp [tget_tput, q2], by simp [tget_tput]⟩
  ·refine wpC_if ?_
   simp only [oxz, simprocAttr]
   have zz : aZeros [.int .i64 0] 1 = [.int .i64 0] := rfl
   obtain ⟨aE, cE, h7, y1, y2⟩ := (s4.mv 1).app1 (bytes := 8) (i : Int) icell.len icell.oc (by omega) (by omega)
   simp only [icell] at y1
   refine rg (fun LL hLL => ?_)
   simp only [oxz, simprocAttr, zz]
   rw [y1]
   simp only [oxz, simprocAttr]
   refine hLL _ _ ?_
   simp only [oxz, simprocAttr]
   refine rg (fun LL hLL => ?_)
   simp only [oxz, simprocAttr, q1, q2, q3, wsucc (show i < 9223372036854775807 by omega)]
   refine hLL _ _ ?_
   simp only [oxz, simprocAttr]
   exact ⟨m - 1, by omega, i + 1, aE, cE, Q ++ [(i : Int)], _, _, by omega, by simp; omega, y2, by rw [List.length_append]; rfl, by simp [tget_tput, q1, ea], by simp [tget_tput, q2], by simp [tget_tput]⟩
 ·refine wpC_exit ?_
  simp only [oxz, simprocAttr]
  refine sr (fun LL hLL => ?_)
  simp only [oxz, simprocAttr]
  refine hLL _ _ ?_
  refine wpC_ret (out_ret ?_)
  simp only [oxz, simprocAttr]
  refine hOut _ _ ?_
  refine wpC_ret (out_ret ?_)
  simp only [oxz, simprocAttr]
  exact hk _ _ _ _ (by omega) s2.drop.drop
end Go.Proofs.Cd

namespace Go.Ox
/-- A scope whose label stands behind two pieces: what holds at each jump, and a measure that each pass lowers. -/
theorem wpC_back {P : Program} [X : Ext P] {sz : Nat} {rnd : Bool} {T : List Value} {h : AHeap} {K : AExit → List Value → AHeap → Prop} {a b body : Code} (l : Nat) (ha : findLabel a l = none) (hb : findLabel b l = none) (I : Nat → List Value → AHeap → Prop)
  (pass : ∀ k T h, I k T h → wpC P sz rnd body T h (AExit.jmp l (fun T' h' => ∃ k', k' < k ∧ I k' T' h') K))
  (first : ∀ KK, wpC P sz rnd a T h (AExit.go (fun T1 h1 => wpC P sz rnd b T1 h1 (AExit.go (fun T2 h2 => ∃ k, I k T2 h2) KK)) KK)) : wpC P sz rnd (.scope (.seq a (.seq b (.seq (.label l) body)))) T h K := by
 refine wpC_scope l (rest := .seq .skip body) (by simp [findLabel, ha, hb]) I (fun k T h hI => wpC_seq (wpC_skip (pass k T h hI))) ?_
 refine wpC_seq (wpC_mono (first (AExit.jmp l (fun T' h' => ∃ k, I k T' h') K)) fun e T1 h1 k1 => ?_)
 cases e with
 | normal =>
  refine wpC_seq (wpC_mono k1 fun e T2 h2 k2 => ?_)
  cases e with
  | normal =>
   obtain ⟨k, hI⟩ := k2
   refine wpC_seq (wpC_label (wpC_mono (pass k T2 h2 hI) fun e T3 h3 k3 => ?_))
   cases e with
   | goto l' => exact ⟨k3.1, let ⟨_, k', _, hk'⟩ := k3; ⟨k', hk'⟩⟩
   | _ => exact k3
  | _ => exact k2
 | _ => exact k1
end Go.Ox
namespace Go.Proofs.Cd
open Go Go.Ox
set_option maxRecDepth 100000
set_option maxHeartbeats 4000000
/-- Some operators, none twice, each behind its inputs. -/
def OrdOk (L : List OpX) (Q : List Int) : Prop := Q.Nodup ∧ ∀ j (hj : j < Q.length), ∃ (i : Nat) (hi : i < L.length), Q[j] = (i : Int) ∧ ∀ y ∈ L[i].inn, y ∈ Q.take j
theorem OrdOk.nil (L : List OpX) : OrdOk L [] := ⟨by simp, fun j hj => by simp at hj⟩
theorem OrdOk.snoc {L : List OpX} {Q : List Int} (o : OrdOk L Q) (i : Nat) (hi : i < L.length) (hn : ¬ (i : Int) ∈ Q) (hy : ∀ y ∈ L[i].inn, y ∈ Q) : OrdOk L (Q ++ [(i : Int)]) := by
 refine ⟨?_, fun j hj => ?_⟩
 ·rw [List.nodup_append]
  exact ⟨o.1, by simp, by rintro a ha b hb rfl; simp at hb; exact hn (hb ▸ ha)⟩
 ·by_cases hl : j < Q.length
  ·obtain ⟨i', hi', e, h⟩ := o.2 j hl
   exact ⟨i', hi', by rw [List.getElem_append_left hl]; exact e, fun y hy => by rw [List.take_append_of_le_length (by omega)]; exact h y hy⟩
  ·have e : j = Q.length := by simp at hj; omega
   subst e
   refine ⟨i, hi, by simp, fun y hy' => ?_⟩
   rw [List.take_append_of_le_length (by omega), List.take_length]
   exact hy y hy'
theorem mem_take_succ {Q : List Int} {j : Nat} {y : Int} (h : y ∈ Q.take j) : ∃ (k : Nat) (hk : k < Q.length), k < j ∧ Q[k] = y := by
 obtain ⟨k, hk, e⟩ := List.mem_iff_getElem.1 h
 rw [List.length_take] at hk
 exact ⟨k, by omega, by omega, by rw [List.getElem_take] at e; exact e⟩
theorem sub_len : ∀ (L M : List Int), L.Nodup → (∀ x ∈ L, x ∈ M) → L.length ≤ M.length
 | [], _, _, _ => by simp
 | x :: L, M, hn, h => by
  rw [List.nodup_cons] at hn
  have hx : x ∈ M := h x (by simp)
  have h1 := sub_len L (M.erase x) hn.2 fun y hy => (List.mem_erase_of_ne (by rintro rfl; exact hn.1 hy)).2 (h y (by simp [hy]))
  rw [List.length_erase_of_mem hx] at h1
  have := List.length_pos_of_mem hx
  simp; omega
theorem OrdOk.sub {L : List OpX} {Q : List Int} (o : OrdOk L Q) : ∀ x ∈ Q, x ∈ (List.range L.length).map Int.ofNat := fun x hx => by
 obtain ⟨j, hj, rfl⟩ := List.mem_iff_getElem.1 hx
 obtain ⟨i, hi, e, _⟩ := o.2 j hj
 exact List.mem_map.2 ⟨i, List.mem_range.2 hi, by rw [e]; rfl⟩
theorem OrdOk.len {L : List OpX} {Q : List Int} (o : OrdOk L Q) : Q.length ≤ L.length := by
 simpa using sub_len _ _ o.1 o.sub
/-- All of them. -/
theorem OrdOk.all {L : List OpX} {Q : List Int} (o : OrdOk L Q) (hl : L.length ≤ Q.length) (i : Nat) (hi : i < L.length) : (i : Int) ∈ Q := by
 by_cases h : (i : Int) ∈ Q
 ·exact h
 ·have := sub_len ((i : Int) :: Q) _ (List.nodup_cons.2 ⟨h, o.1⟩) (fun x hx => by
   rcases List.mem_cons.1 hx with rfl | hx
   ·exact List.mem_map.2 ⟨i, List.mem_range.2 hi, rfl⟩
   ·exact o.sub x hx)
  simp at this; omega
abbrev misF (b3 : Nat) : Value := .func (.func 77) #[] #[.pointer (some ⟨b3, 0, none⟩)]
theorem missing_ok (b3 : Nat) (b : Option Addr) (d : Nat) (Q : List Int) (op : Int) (h : AHeap) (g : h.get b3 = some (.cells false 0 [.slice b Q.length d] 25)) (r : Rs icell 1 h b Q) (hl : Q.length < 17592186045000) (K : Value → AHeap → Prop) (hk : K (.bool (!decide (op ∈ Q))) h) :
  wpF Tryz.prog (.fn 77) [.int .i64 op, .pointer (some ⟨b3, 0, none⟩)] h K := by
 refine wpF_fun 8 [.tmp 3] Tryz.func77 rfl rfl rfl rfl ?_
 refine sr (fun LL hLL => ?_)
 simp only [oxz, simprocAttr]
 refine hLL _ _ ?_
 refine sr (fun LL hLL => ?_)
 simp only [oxz, simprocAttr, g]
 refine contains_ok Q op b d h r hl _ ?_
 obtain ⟨q, dd⟩ := dq (op ∈ Q)
 rw [dd] at hk
 cases q
 ·simp only [oxz, simprocAttr, dd]
  refine hLL _ _ ?_
  refine wpC_ret (out_ret ?_)
  simp only [oxz, simprocAttr]
  exact hk
 ·simp only [oxz, simprocAttr, dd]
  refine hLL _ _ ?_
  refine wpC_ret (out_ret ?_)
  simp only [oxz, simprocAttr]
  exact hk
theorem indexF_ok (b3 : Nat) (b : Option Addr) (d : Nat) (Q : List Int) (I : List Int) (a : Option Addr) (c : Nat) (h : AHeap) (g : h.get b3 = some (.cells false 0 [.slice b Q.length d] 25)) (rQ : Rs icell 1 h b Q) (hlQ : Q.length < 17592186045000) (r : Rs icell 1 h a I) (hl : I.length < 17592186045000) (K : Value → AHeap → Prop) (hk : ∀ k : Int, (¬ 0 ≤ k → ∀ y ∈ I, y ∈ Q) → K (.int .i64 k) h) :
  wpF Tryz.prog (.fn 98) [.slice a I.length c, misF b3] h K := by
 refine wpF_fun 19 [.tmp 4] Tryz.func98 rfl rfl rfl rfl ?_
 refine sr (fun LL hLL => ?_)
 simp only [oxz, simprocAttr]
 refine hLL _ _ ?_
 refine wpC_seq ?_
 refine sr (fun LL hLL => ?_)
 simp only [oxz, simprocAttr]
 refine hLL _ _ ?_
 refine fg9 (fun R => ?_)
 refine wpC_block ?_
 refine wpC_loop (fun k T h' => ∃ (i : Nat) (u2 u3 u4 u5 : Value) (R : List Value), h' = h ∧ k + i = I.length ∧ (∀ y ∈ I.take i, y ∈ Q) ∧ T = .slice a I.length c :: misF b3 :: u2 :: u3 :: u4 :: u5 :: .slice a I.length c :: .int .i64 I.length :: .int .i64 i :: R) ?_ I.length _ _ ⟨0, _, _, _, _, R, rfl, by omega, by simp, rfl⟩
 rintro k T h' ⟨i, u2, u3, u4, u5, R, rfl, hki, hn, rfl⟩
 refine sr (fun LL hLL => ?_)
 simp only [oxz, simprocAttr]
 refine hLL _ _ ?_
 refine wpC_seq ?_
 refine wpC_if ?_
 simp only [oxz, simprocAttr]
 refine gC_of (fun hc => ?_) (fun hc => ?_)
 ·refine wpC_skip ?_
  simp only [oxz, simprocAttr]
  refine fg9 (fun R => ?_)
  have hi : i < I.length := by omega
  have hne : I ≠ [] := by rintro rfl; simp at hi
  obtain ⟨b1, o1, ro1, sz1, C1, e1, ea, p1, g1, r1, q1⟩ := r.resolve_left hne
  have w1 : C1[o1 + i * 1]? = some (.int .i64 I[i]) := Rs.cell icell.len r1 q1 i hi 0 (by omega)
  refine wpC_seq (wpC_block ?_)
  refine sr (fun LL hLL => ?_)
  simp only [oxz, simprocAttr]
  refine hLL _ _ ?_
  rw [ea]
  refine sr (fun LL hLL => ?_)
  simp only [oxk, simprocAttr, ixF hi, g1, w1]
  refine missing_ok b3 b d Q I[i] _ g rQ hlQ _ ?_
  obtain ⟨q, dd⟩ := dq (I[i] ∈ Q)
  simp only [oxk, simprocAttr, dd]
  refine hLL _ _ ?_
  cases q
  ·refine wpC_if ?_
   simp only [oxz, simprocAttr]
   refine sr (fun LL hLL => ?_)
   simp only [oxz, simprocAttr]
   refine hLL _ _ ?_
   refine wpC_ret (out_ret ?_)
   simp only [oxz, simprocAttr]
   exact hk _ fun h => absurd (show (0 : Int) ≤ (i : Int) by omega) h
  ·refine wpC_if ?_
   simp only [oxz, simprocAttr]
   refine wpC_skip ?_
   simp only [oxz, simprocAttr]
   refine fg9 (fun R => ?_)
   refine rg (fun LL hLL => ?_)
   simp only [oxz, simprocAttr, wsucc (show i < 9223372036854775807 by omega)]
   refine hLL _ _ ?_
   simp only [oxz, simprocAttr]
   refine ⟨k - 1, by omega, i + 1, _, _, _, _, _, by omega, fun y hy => ?_, rfl⟩
   rw [List.take_succ_eq_append_getElem hi] at hy
   rcases List.mem_append.1 hy with hy | hy
   ·exact hn y hy
   ·obtain rfl := List.mem_singleton.1 hy
    exact of_decide_eq_true dd
 ·have hil : i = I.length := by omega
  subst hil
  refine wpC_exit ?_
  simp only [oxz, simprocAttr]
  refine fg9 (fun R => ?_)
  refine sr (fun LL hLL => ?_)
  simp only [oxz, simprocAttr]
  refine hLL _ _ ?_
  refine wpC_ret (out_ret ?_)
  simp only [oxz, simprocAttr]
  rw [List.take_length] at hn
  exact hk _ fun _ => hn
theorem containsF_ok (b3 : Nat) (b : Option Addr) (d : Nat) (Q : List Int) (I : List Int) (a : Option Addr) (c : Nat) (h : AHeap) (g : h.get b3 = some (.cells false 0 [.slice b Q.length d] 25)) (rQ : Rs icell 1 h b Q) (hlQ : Q.length < 17592186045000) (r : Rs icell 1 h a I) (hl : I.length < 17592186045000) (K : Value → AHeap → Prop) (hk : ∀ q : Bool, (q = false → ∀ y ∈ I, y ∈ Q) → K (.bool q) h) :
  wpF Tryz.prog (.fn 78) [.slice a I.length c, misF b3] h K := by
 refine wpF_fun 9 [.tmp 4] Tryz.func78 rfl rfl rfl rfl ?_
 refine sr (fun LL hLL => ?_)
 simp only [oxz, simprocAttr]
 refine hLL _ _ ?_
 refine sr (fun LL hLL => ?_)
 simp only [oxz, simprocAttr]
 refine indexF_ok b3 b d Q I a c h g rQ hlQ r hl _ fun k hk2 => ?_
 by_cases h1 : 0 ≤ k
 ·simp only [oxz, simprocAttr, eq_true h1]
  refine hLL _ _ ?_
  refine wpC_ret (out_ret ?_)
  simp only [oxz, simprocAttr]
  exact hk _ fun h => by cases h
 ·simp only [oxz, simprocAttr, eq_false h1]
  refine hLL _ _ ?_
  refine wpC_ret (out_ret ?_)
  simp only [oxz, simprocAttr]
  exact hk _ fun _ => hk2 h1
end Go.Proofs.Cd

namespace Go.Proofs.Cd
open Go Go.Ox
set_option maxRecDepth 100000
set_option maxHeartbeats 4000000
theorem order_ok {h0 : AHeap} {F : List Asn} (g : Int) (a : Option Addr) (c : Nat) (L : List OpX) (sp : SpR h0 a L) (h : AHeap) (s : St h0 h F) (K : Value → AHeap → Prop)
  (hk : ∀ b d Q h', OrdOk L Q → St h0 h' (wn icell 1 3 b d Q :: F) → K (.slice b Q.length d) h') : wpF Tryz.prog (.fn 53) [.agg #[.int .i64 g, .slice a L.length c]] h K := by
 have hfew := sp.few
 refine wpF_fun 32 [.tmp 2] Tryz.func53 rfl rfl rfl rfl ?_
 have s1 := s.push (spB g a L.length c)
 obtain ⟨h1, e1⟩ : ∃ h1, h1 = h.push (spB g a L.length c) := ⟨_, rfl⟩
 obtain ⟨bs, ebs⟩ : ∃ b, b = h.next := ⟨_, rfl⟩
 rw [← e1, ← ebs] at s1
 refine sr (fun LL hLL => ?_)
 simp only [oxz, simprocAttr]
 refine hLL _ _ ?_
 rw [← e1, ← ebs]
 obtain ⟨b3, eb3⟩ : ∃ b, b = h1.next := ⟨_, rfl⟩
 have s2 := s1.push (.cells false 0 [.slice none 0 0] 25)
 rw [← eb3] at s2
 refine wpC_back 0 (by rfl) (by rfl) (fun k T h' => ∃ (b : Option Addr) (d : Nat) (Q : List Int) (R : List Value), k + Q.length = L.length ∧ OrdOk L Q ∧ St h0 h' (wn icell 1 3 b d Q :: own b3 (.cells false 0 [.slice b Q.length d] 25) :: own bs (spB g a L.length c) :: F) ∧
  T = .agg #[.int .i64 g, .slice a L.length c] :: .pointer (some ⟨bs, 0, none⟩) :: .slice none 0 0 :: .pointer (some ⟨b3, 0, none⟩) :: misF b3 :: R) ?_ (fun KK => ?_)
 ·clear s2 s1 e1
  rintro k T h' ⟨b, d, Q, R, hkQ, hQ, s2, rfl⟩
  have gs := (s2.mv 2).get
  refine wpC_seq ?_
  refine sr (fun LL hLL => ?_)
  simp only [oxz, simprocAttr, gs]
  refine hLL _ _ ?_
  refine wpC_block ?_
  refine wpC_loop (fun m T h' => ∃ (i : Nat) (R : List Value), m + i = L.length ∧ St h0 h' (wn icell 1 3 b d Q :: own b3 (.cells false 0 [.slice b Q.length d] 25) :: own bs (spB g a L.length c) :: F) ∧
   T = .agg #[.int .i64 g, .slice a L.length c] :: .pointer (some ⟨bs, 0, none⟩) :: .slice none 0 0 :: .pointer (some ⟨b3, 0, none⟩) :: misF b3 :: R ∧ tget R 4 = .slice a L.length c ∧ tget R 5 = .int .i64 L.length ∧ tget R 6 = .int .i64 i) ?_ L.length _ _ ⟨0, _, by omega, s2, rfl, by simp [tget_tput], by simp [tget_tput], by simp [tget_tput]⟩
  clear gs s2
  rintro m T h' ⟨i, R, hmi, s2, rfl, q1, q2, q3⟩
  have rQ := s2.rs icell.len
  have hQl := hQ.len
  refine sr (fun LL hLL => ?_)
  simp only [oxz, simprocAttr, q1, q2, q3]
  refine hLL _ _ ?_
  refine wpC_seq ?_
  refine wpC_if ?_
  simp only [oxz, simprocAttr]
  refine gC_of (fun hc => ?_) (fun hc => ?_)
  ·refine wpC_skip ?_
   simp only [oxz, simprocAttr]
   have hi : i < L.length := by omega
   obtain ⟨b1, o1, ro1, sz1, C1, T1, ea, p1, g1, w0, w1, w2, x2, w8, x8⟩ := (sp.fr s2.base).at i hi
   have hin := sp.ins L[i] (List.getElem_mem hi)
   obtain ⟨x, ex⟩ : ∃ x, x = L[i] := ⟨_, rfl⟩
   rw [← ex] at w8 hin
   rw [ea] at q1
   have s3 := (s2.push (.cells false 0 [.int .i64 0, .slice none 0 0, .int .i64 0, .int .i64 0, .int .i64 0, .int .i64 0, .int .i64 0, .int .i64 0] 56)).set (.cells false 0 x.cells 56)
   have gz := (s2.push (.cells false 0 [.int .i64 0, .slice none 0 0, .int .i64 0, .int .i64 0, .int .i64 0, .int .i64 0, .int .i64 0, .int .i64 0] 56)).get
   obtain ⟨bo, ebo⟩ : ∃ b, b = h'.next := ⟨_, rfl⟩
   unfold OpX.cells at w8 s3
   refine wpC_seq (wpC_block ?_)
   refine sr (fun LL hLL => ?_)
   simp only [oxz, simprocAttr, q1, q2, q3, ixF hi, g1, w8, x8, OpX.len, gz]
   refine hLL _ _ ?_
   obtain ⟨h3, e3⟩ : ∃ h3, h3 = (h'.push (.cells false 0 [.int .i64 0, .slice none 0 0, .int .i64 0, .int .i64 0, .int .i64 0, .int .i64 0, .int .i64 0, .int .i64 0] 56)).set h'.next (.cells false 0 [.int .i64 x.kind, .slice x.a x.inn.length x.cap, .int .i64 x.f1, .int .i64 x.f2, .int .i64 x.f3, .int .i64 x.parts, .int .i64 x.rate, .int .i64 x.cost] 56) := ⟨_, rfl⟩
   rw [← e3, ← ebo] at s3
   rw [← e3, ← ebo]
   have go := s3.get
   have g3 := (s3.mv 2).get
   have rQ3 := (s3.mv 1).rs icell.len
   refine sm (fun T h'' => h'' = h3 ∧ ∃ (q : Bool) (R : List Value), (q = true → ¬ (i : Int) ∈ Q ∧ ∀ y ∈ x.inn, y ∈ Q) ∧ T = .agg #[.int .i64 g, .slice a L.length c] :: .pointer (some ⟨bs, 0, none⟩) :: .slice none 0 0 :: .pointer (some ⟨b3, 0, none⟩) :: misF b3 :: R ∧ tget R 4 = .slice a L.length c ∧ tget R 5 = .int .i64 L.length ∧ tget R 6 = .int .i64 i ∧ tget R 0 = .int .i64 i ∧ tget R 20 = .bool q) ?_ ?_
   ·refine rg (fun LL hLL => ?_)
    simp only [oxk, simprocAttr, q1, q2, q3]
    refine missing_ok b3 b d Q (i : Int) _ g3 rQ3 (by omega) _ ?_
    obtain ⟨q, dd⟩ := dq ((i : Int) ∈ Q)
    cases q
    ·simp only [oxk, simprocAttr, dd, go]
     refine containsF_ok b3 b d Q x.inn x.a x.cap _ g3 rQ3 (by omega) (hin.1.fr s3.base) hin.2 _ fun q2 hq2 => ?_
     cases q2
     ·simp only [oxk, simprocAttr]
      refine hLL _ _ ?_
      simp only [oxz, simprocAttr]
      exact ⟨true, _, fun _ => ⟨of_decide_eq_false dd, hq2 rfl⟩, rfl, by simp [tget_tput, q1, ea], by simp [tget_tput, q2], by simp [tget_tput, q3], by simp [tget_tput], by simp [tget_tput]⟩
     ·simp only [oxk, simprocAttr]
      refine hLL _ _ ?_
      simp only [oxz, simprocAttr]
      exact ⟨false, _, (fun h => by cases h), rfl, by simp [tget_tput, q1, ea], by simp [tget_tput, q2], by simp [tget_tput, q3], by simp [tget_tput], by simp [tget_tput]⟩
    ·simp only [oxk, simprocAttr, dd]
     refine hLL _ _ ?_
     simp only [oxz, simprocAttr]
     exact ⟨false, _, (fun h => by cases h), rfl, by simp [tget_tput, q1, ea], by simp [tget_tput, q2], by simp [tget_tput, q3], by simp [tget_tput], by simp [tget_tput]⟩
   rintro T h'' ⟨rfl, q, R, hq, rfl, q1, q2, q3, q0, q4⟩
   cases q
   ·refine wpC_if ?_
    simp only [oxz, simprocAttr, q4]
    refine wpC_skip ?_
    simp only [oxz, simprocAttr]
    refine rg (fun LL hLL => ?_)
    simp only [oxz, simprocAttr, q1, q2, q3, wsucc (show i < 9223372036854775807 by omega)]
    refine hLL _ _ ?_
    simp only [oxz, simprocAttr]
    exact ⟨m - 1, by omega, i + 1, _, by omega, s3.sel 2 [1], rfl, by simp [tget_tput, q1], by simp [tget_tput, q2], by simp [tget_tput]⟩
   ·refine wpC_if ?_
    simp only [oxz, simprocAttr, q4]
    obtain ⟨hn1, hn2⟩ := hq rfl
    have hnew := hQ.snoc i hi hn1 (by rw [← ex]; exact hn2)
    have hnl := hnew.len
    rw [List.length_append, List.length_singleton] at hnl
    have zz : aZeros [.int .i64 0] 1 = [.int .i64 0] := rfl
    obtain ⟨aE, cE, h7, y1, y2⟩ := (s3.mv 1).app1 (bytes := 8) (i : Int) icell.len icell.oc (by omega) (by omega)
    have g37 := (y2.mv 2).get
    simp only [icell] at y1
    refine sr (fun LL hLL => ?_)
    simp only [oxz, simprocAttr, zz, g3, q0, y1, g37]
    refine hLL _ _ ?_
    refine wpC_goto ?_
    have s4 := (y2.mv 2).set (.cells false 0 [.slice aE (Q.length + 1) cE] 25)
    exact ⟨rfl, k - 1, by omega, aE, cE, Q ++ [(i : Int)], _, by rw [List.length_append, List.length_singleton]; omega, hnew, by rw [List.length_append, List.length_singleton]; exact s4.sel 4 [1, 0, 3], rfl⟩
  ·refine wpC_exit ?_
   simp only [oxz, simprocAttr]
   have g3 := (s2.mv 1).get
   refine sr (fun LL hLL => ?_)
   simp only [oxz, simprocAttr, g3]
   refine hLL _ _ ?_
   refine wpC_ret (out_ret ?_)
   simp only [oxz, simprocAttr]
   exact hk _ _ _ _ hQ (s2.sel 3 [0])
 ·refine rg (fun LL hLL => ?_)
  simp only [oxz, simprocAttr]
  refine hLL _ _ ?_
  rw [← eb3]
  refine rg (fun LL hLL => ?_)
  simp only [oxz, simprocAttr]
  refine hLL _ _ ?_
  simp only [oxz, simprocAttr]
  exact ⟨L.length, none, 0, [], _, by simp, OrdOk.nil L, s2.wn_nil, rfl⟩
end Go.Proofs.Cd

namespace Go.Proofs.Cd
open Go Go.Ox
set_option maxRecDepth 100000
set_option maxHeartbeats 4000000
def orU (a b : Int) : Int := IntKind.u64.wrap (BitVec.ofInt 64 a ||| BitVec.ofInt 64 b).toNat
def andU (a b : Int) : Int := IntKind.u64.wrap (BitVec.ofInt 64 a &&& BitVec.ofInt 64 b).toNat
def shlU (b : Nat) : Int := IntKind.u64.wrap (1 * 2 ^ (min ((b : Int).toNat) 64))
theorem or_u (a b : Int) : aInt .or .u64 a .u64 b = some (.int .u64 (orU a b)) := rfl
theorem and_u (a b : Int) : aInt .and .u64 a .u64 b = some (.int .u64 (andU a b)) := rfl
theorem shl_u (b : Nat) : aInt .shl .u64 1 .i64 (b : Int) = some (.int .u64 (shlU b)) := by
 simp only [aInt]
 rw [if_neg (by omega)]
 rfl
abbrev rooF (bs bf : Nat) : Value := .func (.func 79) #[] #[.pointer (some ⟨bs, 0, none⟩), .pointer (some ⟨bf, 0, none⟩)]
theorem rootsF_ok (g : Int) (a : Option Addr) (c : Nat) (L : List OpX) (h : AHeap) (sp : SpR h a L) (Q : List Int) (o : OrdOk L Q) (bs bf : Nat) (gs : h.get bs = some (spB g a L.length c)) (gf : h.get bf = some (.cells false 0 [rooF bs bf] 139)) : ∀ (j : Nat) (hj : j < Q.length) (K : Value → AHeap → Prop)
  (_hk : ∀ v : Int, K (.int .u64 v) h), wpF Tryz.prog (.fn 79) [.int .i64 Q[j], .pointer (some ⟨bs, 0, none⟩), .pointer (some ⟨bf, 0, none⟩)] h K := by
 intro j
 induction j using Nat.strongRecOn with
 | _ j ih => ?_
 intro hj K hk
 obtain ⟨i, hi, eQ, hy⟩ := o.2 j hj
 rw [eQ]
 have hfew := sp.few
 obtain ⟨b1, o1, ro1, sz1, C1, T1, ea, p1, g1, w0, w1, w2, x2, w8, x8⟩ := sp.at i hi
 have hxin := sp.ins L[i] (List.getElem_mem hi)
 have rin := hxin.1
 have hil := hxin.2
 obtain ⟨I, eI⟩ : ∃ I, I = L[i].inn := ⟨_, rfl⟩
 rw [← eI] at rin hil w1 hy
 obtain ⟨ai, eai⟩ : ∃ x, x = L[i].a := ⟨_, rfl⟩
 obtain ⟨ci, eci⟩ : ∃ x, x = L[i].cap := ⟨_, rfl⟩
 obtain ⟨kd, ekd⟩ : ∃ x, x = L[i].kind := ⟨_, rfl⟩
 rw [← eai] at rin
 rw [← eai, ← eci] at w1
 rw [← ekd] at w0
 have gs' := gs
 rw [ea] at gs'
 refine wpF_fun 34 [.tmp 4] Tryz.func79 rfl rfl rfl rfl ?_
 refine sr (fun LL hLL => ?_)
 simp only [oxz, simprocAttr]
 refine hLL _ _ ?_
 by_cases hf : kd = 1
 ·refine wpC_seq (sr fun LL hLL => ?_)
  simp only [oxz, simprocAttr, gs', ixF hi, g1, w0, eq_true hf]
  refine hLL _ _ ?_
  refine wpC_if ?_
  simp only [oxz, simprocAttr]
  refine sr (fun LL hLL => ?_)
  simp only [oxz, simprocAttr, shl_u]
  refine hLL _ _ ?_
  refine wpC_ret (out_ret ?_)
  simp only [oxz, simprocAttr]
  exact hk _
 refine wpC_seq (sr fun LL hLL => ?_)
 simp only [oxz, simprocAttr, gs', ixF hi, g1, w0, eq_false hf]
 refine hLL _ _ ?_
 refine wpC_if ?_
 simp only [oxz, simprocAttr]
 refine wpC_skip ?_
 simp only [oxz, simprocAttr]
 refine fg7 (fun R => ?_)
 refine wpC_seq ?_
 refine sr (fun LL hLL => ?_)
 simp only [oxz, simprocAttr, gs', ixF hi, g1, w1]
 refine hLL _ _ ?_
 refine wpC_block ?_
 refine wpC_loop (fun m T h' => h' = h ∧ ∃ (k : Nat) (v : Int) (u3 u5 u6 : Value) (R : List Value), m + k = I.length ∧
  T = .int .i64 i :: .pointer (some ⟨bs, 0, none⟩) :: .pointer (some ⟨bf, 0, none⟩) :: u3 :: .int .u64 v :: u5 :: u6 :: R ∧ tget R 14 = .slice ai I.length ci ∧ tget R 15 = .int .i64 I.length ∧ tget R 16 = .int .i64 k) ?_ I.length _ _ ⟨rfl, 0, 0, _, _, _, _, by omega, rfl, by simp [tget_tput], by simp [tget_tput], by simp [tget_tput]⟩
 rintro m T h' ⟨rfl, k, v, u3, u5, u6, R, hmk, rfl, q1, q2, q3⟩
 refine sr (fun LL hLL => ?_)
 simp only [oxz, simprocAttr, q1, q2, q3]
 refine hLL _ _ ?_
 refine wpC_seq ?_
 refine wpC_if ?_
 simp only [oxz, simprocAttr]
 refine gC_of (fun hc => ?_) (fun hc => ?_)
 ·refine wpC_skip ?_
  simp only [oxz, simprocAttr]
  have hk' : k < I.length := by omega
  obtain ⟨b3, o3, ro3, sz3, C3, T3, e3, p3, g3, r3, q4⟩ := rin.resolve_left (by rintro e; rw [e] at hk'; simp at hk')
  have v3 : C3[o3 + k * 1]? = some (.int .i64 I[k]) := Rs.cell icell.len r3 q4 k hk' 0 (by omega)
  rw [e3] at q1
  obtain ⟨j', hj', hlt, ej⟩ := mem_take_succ (hy I[k] (List.getElem_mem hk'))
  refine wpC_seq (wpC_block ?_)
  refine sr (fun LL hLL => ?_)
  simp only [oxz, simprocAttr, q1, q2, q3, ixF hk', g3, v3]
  refine hLL _ _ ?_
  refine rg (fun LL hLL => ?_)
  simp only [oxk, simprocAttr, gf]
  rw [← ej]
  refine ih j' hlt hj' _ fun w => ?_
  simp only [oxk, simprocAttr, or_u]
  refine hLL _ _ ?_
  simp only [oxz, simprocAttr]
  refine rg (fun LL hLL => ?_)
  simp only [oxz, simprocAttr, q1, q2, q3, wsucc (show k < 9223372036854775807 by omega)]
  refine hLL _ _ ?_
  simp only [oxz, simprocAttr]
  exact ⟨m - 1, by omega, k + 1, orU v w, _, _, _, _, by omega, rfl, by simp [tget_tput, q1, e3], by simp [tget_tput, q2], by simp [tget_tput]⟩
 ·refine wpC_exit ?_
  simp only [oxz, simprocAttr]
  refine sr (fun LL hLL => ?_)
  simp only [oxz, simprocAttr]
  refine hLL _ _ ?_
  refine wpC_ret (out_ret ?_)
  simp only [oxz, simprocAttr]
  exact hk _
theorem roots_ok {h0 : AHeap} {F : List Asn} (g : Int) (a : Option Addr) (c : Nat) (L : List OpX) (sp : SpR h0 a L) (Q : List Int) (o : OrdOk L Q) (j : Nat) (hj : j < Q.length) (h : AHeap) (s : St h0 h F) (K : Value → AHeap → Prop)
  (hk : ∀ (v : Int) h', St h0 h' F → K (.int .u64 v) h') : wpF Tryz.prog (.fn 54) [.agg #[.int .i64 g, .slice a L.length c], .int .i64 Q[j]] h K := by
 refine wpF_fun 10 [.tmp 4] Tryz.func54 rfl rfl rfl rfl ?_
 have s1 := s.push (spB g a L.length c)
 obtain ⟨h1, e1⟩ : ∃ h1, h1 = h.push (spB g a L.length c) := ⟨_, rfl⟩
 obtain ⟨bs, ebs⟩ : ∃ b, b = h.next := ⟨_, rfl⟩
 rw [← e1, ← ebs] at s1
 refine sr (fun LL hLL => ?_)
 simp only [oxz, simprocAttr]
 refine hLL _ _ ?_
 rw [← e1, ← ebs]
 have s2 := s1.push (.cells false 0 [.nilFunc] 139)
 obtain ⟨h2, e2⟩ : ∃ h2, h2 = h1.push (.cells false 0 [.nilFunc] 139) := ⟨_, rfl⟩
 obtain ⟨bf, ebf⟩ : ∃ b, b = h1.next := ⟨_, rfl⟩
 rw [← e2, ← ebf] at s2
 refine sr (fun LL hLL => ?_)
 simp only [oxz, simprocAttr]
 refine hLL _ _ ?_
 rw [← e2, ← ebf]
 have g2 := s2.get
 have s3 := s2.set (.cells false 0 [rooF bs bf] 139)
 refine sr (fun LL hLL => ?_)
 simp only [oxz, simprocAttr, g2]
 refine hLL _ _ ?_
 have g3 := s3.get
 have gs3 := (s3.mv 1).get
 refine sr (fun LL hLL => ?_)
 simp only [oxk, simprocAttr, g3]
 refine rootsF_ok g a c L _ (sp.fr s3.base) Q o bs bf gs3 g3 j hj _ fun v => ?_
 simp only [oxk, simprocAttr]
 refine hLL _ _ ?_
 refine wpC_ret (out_ret ?_)
 simp only [oxz, simprocAttr]
 exact hk v _ s3.drop.drop
end Go.Proofs.Cd

namespace Go.Proofs.Cd
open Go Go.Ox
set_option maxRecDepth 100000
set_option maxHeartbeats 8000000
theorem neBo (x y : Operand) (p q : Bool) : aBin Tryz.prog .neq 4 x y (.bool p) (.bool q) = some (.bool (p != q)) := by cases p <;> cases q <;> rfl
/-- What is known of a job that may be. -/
structure SpOk (g : Int) (L : List OpX) : Prop where
 g1 : 1 ≤ g
 g64 : g ≤ 64
 n1 : 1 ≤ L.length
 n12 : L.length ≤ 12
 parts : ∀ x ∈ L, x.kind = 1 → 1 ≤ x.parts ∧ x.parts ≤ 8
theorem check_ok {h0 : AHeap} {F : List Asn} (g : Int) (a : Option Addr) (c : Nat) (L : List OpX) (sp : SpR h0 a L) (h : AHeap) (s : St h0 h F) (K : Value → AHeap → Prop)
  (hk : ∀ (e : Int) h', (e = 0 → SpOk g L) → St h0 h' F → K (.int .i64 e) h') : wpF Tryz.prog (.fn 18) [.agg #[.int .i64 g, .slice a L.length c]] h K := by
 have hfew := sp.few
 refine wpF_fun 88 [.tmp 2] Tryz.func18 rfl rfl rfl rfl ?_
 have s1 := s.push (spB g a L.length c)
 obtain ⟨h1, e1⟩ : ∃ h1, h1 = h.push (spB g a L.length c) := ⟨_, rfl⟩
 obtain ⟨bs, ebs⟩ : ∃ b, b = h.next := ⟨_, rfl⟩
 rw [← e1, ← ebs] at s1
 refine sr (fun LL hLL => ?_)
 simp only [oxz, simprocAttr]
 refine hLL _ _ ?_
 rw [← e1, ← ebs]
 have gs := s1.get
 have bad : ∀ (e : Int) h', ¬ e = 0 → St h0 h' F → K (.int .i64 e) h' := fun e h' he s' => hk e h' (fun h => absurd h he) s'
 refine sm (fun T h' => h' = h1 ∧ ((1 ≤ g ∧ g ≤ 64) ∧ 1 ≤ L.length ∧ L.length ≤ 12) ∧ ∃ (u0 : Value) (R : List Value), T = u0 :: .pointer (some ⟨bs, 0, none⟩) :: .int .i64 0 :: R) ?_ ?_
 ·refine wpC_block ?_
  refine sr (fun LL hLL => ?_)
  simp only [oxk, simprocAttr, gs]
  refine between_ok g 1 64 _ _ ?_
  by_cases c1 : 1 ≤ g ∧ g ≤ 64
  ·simp only [oxk, simprocAttr, decide_eq_true c1]
   refine hLL _ _ ?_
   refine wpC_if ?_
   simp only [oxz, simprocAttr]
   refine sr (fun LL hLL => ?_)
   simp only [oxk, simprocAttr, gs]
   refine between_ok (L.length : Int) 1 12 _ _ ?_
   by_cases c2 : (1 : Int) ≤ (L.length : Int) ∧ (L.length : Int) ≤ 12
   ·simp only [oxk, simprocAttr, decide_eq_true c2]
    refine hLL _ _ ?_
    refine wpC_if ?_
    simp only [oxz, simprocAttr]
    refine wpC_skip ?_
    simp only [oxz, simprocAttr]
    exact ⟨⟨c1, by omega, by omega⟩, _, _, rfl⟩
   ·simp only [oxk, simprocAttr, decide_eq_false c2]
    refine hLL _ _ ?_
    refine wpC_if ?_
    simp only [oxz, simprocAttr]
    refine sr (fun LL hLL => ?_)
    simp only [oxz, simprocAttr]
    refine hLL _ _ ?_
    refine wpC_ret (out_ret ?_)
    simp only [oxz, simprocAttr]
    exact bad _ _ (by decide) s1.drop
  ·simp only [oxk, simprocAttr, decide_eq_false c1]
   refine hLL _ _ ?_
   refine wpC_if ?_
   simp only [oxz, simprocAttr]
   refine sr (fun LL hLL => ?_)
   simp only [oxz, simprocAttr]
   refine hLL _ _ ?_
   refine wpC_ret (out_ret ?_)
   simp only [oxz, simprocAttr]
   exact bad _ _ (by decide) s1.drop
 rintro T h' ⟨rfl, ⟨hg, hl1, hl12⟩, u0, R, rfl⟩
 refine sm (fun T h' => (∀ x ∈ L, x.kind = 1 → 1 ≤ x.parts ∧ x.parts ≤ 8) ∧ St h0 h' (own bs (spB g a L.length c) :: F) ∧ ∃ (u0 : Value) (R : List Value), T = u0 :: .pointer (some ⟨bs, 0, none⟩) :: .int .i64 0 :: R) ?_ ?_
 ·refine sr (fun LL hLL => ?_)
  simp only [oxz, simprocAttr, gs]
  refine hLL _ _ ?_
  refine wpC_block ?_
  refine wpC_loop (fun m T h' => ∃ (k : Nat) (u0 : Value) (R : List Value), m + k = L.length ∧ (∀ x ∈ L.take k, x.kind = 1 → 1 ≤ x.parts ∧ x.parts ≤ 8) ∧ St h0 h' (own bs (spB g a L.length c) :: F) ∧ T = u0 :: .pointer (some ⟨bs, 0, none⟩) :: .int .i64 0 :: R ∧ tget R 23 = .int .i64 L.length ∧ tget R 24 = .int .i64 k) ?_ L.length _ _ ⟨0, _, _, by omega, by simp, s1, rfl, by simp [tget_tput], by simp [tget_tput]⟩
  clear gs s1
  rintro m T h' ⟨k, u0, R, hmk, hin, s2, rfl, q1, q2⟩
  have gs := s2.get
  refine sr (fun LL hLL => ?_)
  simp only [oxz, simprocAttr, q1, q2]
  refine hLL _ _ ?_
  refine wpC_seq ?_
  refine wpC_if ?_
  simp only [oxz, simprocAttr]
  refine gC_of (fun hc => ?_) (fun hc => ?_)
  ·refine wpC_skip ?_
   simp only [oxz, simprocAttr]
   have hk' : k < L.length := by omega
   refine wpC_seq (wpC_block ?_)
   refine sr (fun LL hLL => ?_)
   simp only [oxz, simprocAttr, q1, q2]
   refine hLL _ _ ?_
   refine sr (fun LL hLL => ?_)
   simp only [oxk, simprocAttr, gs]
   refine alone_ok g a c L sp k hk' _ s2 _ fun e h3 he s3 => ?_
   simp only [oxk, simprocAttr]
   refine hLL _ _ ?_
   by_cases h0e : e = 0
   ·refine sr (fun LL hLL => ?_)
    simp only [oxz, simprocAttr, eq_true h0e, not_true_eq_false]
    refine hLL _ _ ?_
    refine wpC_if ?_
    simp only [oxz, simprocAttr]
    refine wpC_skip ?_
    simp only [oxz, simprocAttr]
    refine rg (fun LL hLL => ?_)
    simp only [oxz, simprocAttr, q1, q2, wsucc (show k < 9223372036854775807 by omega)]
    refine hLL _ _ ?_
    simp only [oxz, simprocAttr]
    refine ⟨m - 1, by omega, k + 1, _, _, by omega, fun y hy => ?_, s3, rfl, by simp [tget_tput, q1], by simp [tget_tput]⟩
    rw [List.take_succ_eq_append_getElem hk'] at hy
    rcases List.mem_append.1 hy with hy | hy
    ·exact hin y hy
    ·obtain rfl := List.mem_singleton.1 hy
     exact he h0e
   ·refine sr (fun LL hLL => ?_)
    simp only [oxz, simprocAttr, eq_false h0e, not_false_eq_true]
    refine hLL _ _ ?_
    refine wpC_if ?_
    simp only [oxz, simprocAttr]
    refine sr (fun LL hLL => ?_)
    simp only [oxz, simprocAttr]
    refine hLL _ _ ?_
    refine wpC_ret (out_ret ?_)
    simp only [oxz, simprocAttr]
    exact bad _ _ h0e s3.drop
  ·have : k = L.length := by omega
   subst this
   rw [List.take_length] at hin
   refine wpC_exit ?_
   simp only [oxz, simprocAttr]
   exact ⟨hin, s2, _, _, rfl⟩
 clear gs s1 e1
 rintro T h2 ⟨hin, s1, u0, R, rfl⟩
 have hok : SpOk g L := ⟨hg.1, hg.2, hl1, hl12, hin⟩
 refine sm (fun T h' => St h0 h' (own bs (spB g a L.length c) :: F) ∧ ∃ (u0 : Value) (R : List Value), T = u0 :: .pointer (some ⟨bs, 0, none⟩) :: .int .i64 0 :: R) ?_ ?_
 ·have gs := s1.get
  refine sr (fun LL hLL => ?_)
  simp only [oxz, simprocAttr, gs]
  refine hLL _ _ ?_
  refine wpC_block ?_
  refine wpC_loop (fun m T h' => ∃ (k : Nat) (u0 : Value) (R : List Value), m + k = L.length ∧ St h0 h' (own bs (spB g a L.length c) :: F) ∧ T = u0 :: .pointer (some ⟨bs, 0, none⟩) :: .int .i64 0 :: R ∧ tget R 35 = .slice a L.length c ∧ tget R 36 = .int .i64 L.length ∧ tget R 37 = .int .i64 k) ?_ L.length _ _ ⟨0, _, _, by omega, s1, rfl, by simp [tget_tput], by simp [tget_tput], by simp [tget_tput]⟩
  clear gs s1
  rintro m T h' ⟨k, u0, R, hmk, s2, rfl, q1, q2, q3⟩
  refine sr (fun LL hLL => ?_)
  simp only [oxz, simprocAttr, q1, q2, q3]
  refine hLL _ _ ?_
  refine wpC_seq ?_
  refine wpC_if ?_
  simp only [oxz, simprocAttr]
  refine gC_of (fun hc => ?_) (fun hc => ?_)
  ·refine wpC_skip ?_
   simp only [oxz, simprocAttr]
   have hk' : k < L.length := by omega
   obtain ⟨b1, o1, ro1, sz1, C1, T1, ea, p1, g1, w0, w1, w2, x2, w8, x8⟩ := (sp.fr s2.base).at k hk'
   obtain ⟨x, ex⟩ : ∃ x, x = L[k] := ⟨_, rfl⟩
   rw [← ex] at w8
   rw [ea] at q1
   have s3 := (s2.push (.cells false 0 [.int .i64 0, .slice none 0 0, .int .i64 0, .int .i64 0, .int .i64 0, .int .i64 0, .int .i64 0, .int .i64 0] 56)).set (.cells false 0 x.cells 56)
   have gz := (s2.push (.cells false 0 [.int .i64 0, .slice none 0 0, .int .i64 0, .int .i64 0, .int .i64 0, .int .i64 0, .int .i64 0, .int .i64 0] 56)).get
   obtain ⟨bo, ebo⟩ : ∃ b, b = h'.next := ⟨_, rfl⟩
   unfold OpX.cells at w8 s3
   refine wpC_seq (wpC_block ?_)
   refine sr (fun LL hLL => ?_)
   simp only [oxz, simprocAttr, q1, q2, q3, ixF hk', g1, w8, x8, OpX.len, gz]
   refine hLL _ _ ?_
   obtain ⟨h3, e3⟩ : ∃ h3, h3 = (h'.push (.cells false 0 [.int .i64 0, .slice none 0 0, .int .i64 0, .int .i64 0, .int .i64 0, .int .i64 0, .int .i64 0, .int .i64 0] 56)).set h'.next (.cells false 0 [.int .i64 x.kind, .slice x.a x.inn.length x.cap, .int .i64 x.f1, .int .i64 x.f2, .int .i64 x.f3, .int .i64 x.parts, .int .i64 x.rate, .int .i64 x.cost] 56) := ⟨_, rfl⟩
   rw [← e3, ← ebo] at s3
   rw [← e3, ← ebo]
   have go := s3.get
   have gs := (s3.mv 1).get
   obtain ⟨q8, d8⟩ := dq (x.kind = 8)
   refine su [some 45, some 46, some 47, some 48, some 49, some 50, some 51, some 52, some 53] 9 [0, 1, 3, 0, 0, 24, 56, 120, 255] (by rfl) (by rfl) (by decide +kernel) (by decide +kernel) (by decide +kernel) (fun LL hLL => ?_)
   simp only [oxk, simprocAttr, go, gs, d8]
   refine users_ok g a c L sp (k : Int) _ s3 _ fun b d n h4 hn s4 => ?_
   have go4 := s4.get
   have gs4 := (s4.mv 1).get
   obtain ⟨q0, d0⟩ := dq (n = 0)
   have d0' : decide ((n : Int) = 0) = q0 := by rw [← d0]; simp
   cases q8 <;> cases q0
   all_goals
    simp only [oxk, simprocAttr, go4, gs4, d0', d8, neBo, bne_self_eq_false, Bool.true_bne, Bool.bne_true, Bool.false_bne, Bool.not_true, Bool.not_false]
    refine hLL _ _ ?_
    refine wpC_if ?_
    simp only [oxz, simprocAttr]
   ·refine wpC_skip ?_
    simp only [oxz, simprocAttr]
    refine rg (fun LL hLL => ?_)
    simp only [oxz, simprocAttr, q1, q2, q3, wsucc (show k < 9223372036854775807 by omega)]
    refine hLL _ _ ?_
    simp only [oxz, simprocAttr]
    exact ⟨m - 1, by omega, k + 1, _, _, by omega, s4.drop, rfl, by simp [tget_tput, q1, ea], by simp [tget_tput, q2], by simp [tget_tput]⟩
   ·refine sr (fun LL hLL => ?_)
    simp only [oxz, simprocAttr]
    refine hLL _ _ ?_
    refine wpC_ret (out_ret ?_)
    simp only [oxz, simprocAttr]
    exact bad _ _ (by decide) s4.drop.drop
   ·refine sr (fun LL hLL => ?_)
    simp only [oxz, simprocAttr]
    refine hLL _ _ ?_
    refine wpC_ret (out_ret ?_)
    simp only [oxz, simprocAttr]
    exact bad _ _ (by decide) s4.drop.drop
   ·refine wpC_skip ?_
    simp only [oxz, simprocAttr]
    refine rg (fun LL hLL => ?_)
    simp only [oxz, simprocAttr, q1, q2, q3, wsucc (show k < 9223372036854775807 by omega)]
    refine hLL _ _ ?_
    simp only [oxz, simprocAttr]
    exact ⟨m - 1, by omega, k + 1, _, _, by omega, s4.drop, rfl, by simp [tget_tput, q1, ea], by simp [tget_tput, q2], by simp [tget_tput]⟩
  ·refine wpC_exit ?_
   simp only [oxz, simprocAttr]
   exact ⟨s2, _, _, rfl⟩
 clear s1
 rintro T h3 ⟨s1, u0, R, rfl⟩
 have gs := s1.get
 refine wpC_seq ?_
 refine sd [0, 3, 4, 5, 1, 2, 6] [0, 0, 8, 24, 1, 3, 63] (by decide +kernel) (by decide +kernel) (by decide +kernel) (fun LL hLL => ?_)
 simp only [oxk, simprocAttr, gs]
 refine order_ok g a c L sp _ s1 _ fun b d Q h4 hQ s4 => ?_
 have gs4 := (s4.mv 1).get
 simp only [oxk, simprocAttr, gs4]
 refine hLL _ _ ?_
 refine wpC_if ?_
 simp only [oxz, simprocAttr]
 refine gC_of (fun hc => ?_) (fun hc => ?_)
 ·refine sr (fun LL hLL => ?_)
  simp only [oxz, simprocAttr]
  refine hLL _ _ ?_
  refine wpC_ret (out_ret ?_)
  simp only [oxz, simprocAttr]
  exact bad _ _ (by decide) s4.drop.drop
 have hQl : L.length ≤ Q.length := by omega
 refine wpC_skip ?_
 simp only [oxz, simprocAttr]
 refine wpC_seq ?_
 have s5 := s4.drop
 refine sr (fun LL hLL => ?_)
 simp only [oxz, simprocAttr, gs4]
 refine hLL _ _ ?_
 clear gs gs4 s4 s1
 refine wpC_block ?_
 refine wpC_loop (fun m T h' => ∃ (k : Nat) (u0 : Value) (R : List Value), m + k = L.length ∧ St h0 h' (own bs (spB g a L.length c) :: F) ∧ T = u0 :: .pointer (some ⟨bs, 0, none⟩) :: .int .i64 0 :: R ∧ tget R 60 = .slice a L.length c ∧ tget R 61 = .int .i64 L.length ∧ tget R 62 = .int .i64 k) ?_ L.length _ _ ⟨0, _, _, by omega, s5, rfl, by simp [tget_tput], by simp [tget_tput], by simp [tget_tput]⟩
 clear s5
 rintro m T h' ⟨k, u0, R, hmk, s2, rfl, q1, q2, q3⟩
 refine sr (fun LL hLL => ?_)
 simp only [oxz, simprocAttr, q1, q2, q3]
 refine hLL _ _ ?_
 refine wpC_seq ?_
 refine wpC_if ?_
 simp only [oxz, simprocAttr]
 refine gC_of (fun hc2 => ?_) (fun hc2 => ?_)
 ·refine wpC_skip ?_
  simp only [oxz, simprocAttr]
  have hk' : k < L.length := by omega
  obtain ⟨b1, o1, ro1, sz1, C1, T1, ea, p1, g1, w0, w1, w2, x2, w8, x8⟩ := (sp.fr s2.base).at k hk'
  have hxin := sp.ins L[k] (List.getElem_mem hk')
  obtain ⟨jQ, hjQ, ejQ⟩ := List.mem_iff_getElem.1 (hQ.all hQl k hk')
  have hy : ∀ y ∈ L[k].inn, y ∈ Q.take jQ := by
   obtain ⟨i', hi', e', hy'⟩ := hQ.2 jQ hjQ
   rw [ejQ] at e'
   have : i' = k := by omega
   subst this
   exact hy'
  obtain ⟨x, ex⟩ : ∃ x, x = L[k] := ⟨_, rfl⟩
  rw [← ex] at w8 hxin hy
  rw [ea] at q1
  have s3 := (s2.push (.cells false 0 [.int .i64 0, .slice none 0 0, .int .i64 0, .int .i64 0, .int .i64 0, .int .i64 0, .int .i64 0, .int .i64 0] 56)).set (.cells false 0 x.cells 56)
  have gz := (s2.push (.cells false 0 [.int .i64 0, .slice none 0 0, .int .i64 0, .int .i64 0, .int .i64 0, .int .i64 0, .int .i64 0, .int .i64 0] 56)).get
  obtain ⟨bo, ebo⟩ : ∃ b, b = h'.next := ⟨_, rfl⟩
  unfold OpX.cells at w8 s3
  refine wpC_seq (wpC_block ?_)
  refine sr (fun LL hLL => ?_)
  simp only [oxz, simprocAttr, q1, q2, q3, ixF hk', g1, w8, x8, OpX.len, gz]
  refine hLL _ _ ?_
  obtain ⟨h3, e3⟩ : ∃ h3, h3 = (h'.push (.cells false 0 [.int .i64 0, .slice none 0 0, .int .i64 0, .int .i64 0, .int .i64 0, .int .i64 0, .int .i64 0, .int .i64 0] 56)).set h'.next (.cells false 0 [.int .i64 x.kind, .slice x.a x.inn.length x.cap, .int .i64 x.f1, .int .i64 x.f2, .int .i64 x.f3, .int .i64 x.parts, .int .i64 x.rate, .int .i64 x.cost] 56) := ⟨_, rfl⟩
  rw [← e3, ← ebo] at s3
  rw [← e3, ← ebo]
  have go := s3.get
  refine sr (fun LL hLL => ?_)
  simp only [oxz, simprocAttr]
  refine hLL _ _ ?_
  refine sr (fun LL hLL => ?_)
  simp only [oxz, simprocAttr, go]
  refine hLL _ _ ?_
  have s4 := s3.drop
  clear go gz e3
  refine wpC_block ?_
  refine wpC_loop (fun m2 T h'' => ∃ (j : Nat) (v : Int) (u0 : Value) (R : List Value), m2 + j = x.inn.length ∧ St h0 h'' (own bs (spB g a L.length c) :: F) ∧ T = u0 :: .pointer (some ⟨bs, 0, none⟩) :: .int .i64 0 :: R ∧ tget R 60 = .slice a L.length c ∧ tget R 61 = .int .i64 L.length ∧ tget R 62 = .int .i64 k ∧ tget R 67 = .slice x.a x.inn.length x.cap ∧ tget R 68 = .int .i64 x.inn.length ∧ tget R 69 = .int .i64 j ∧ tget R 6 = .int .u64 v) ?_ x.inn.length _ _ ⟨0, 0, _, _, by omega, s4, rfl, by simp [tget_tput, q1, ea], by simp [tget_tput, q2], by simp [tget_tput, q3], by simp [tget_tput], by simp [tget_tput], by simp [tget_tput], by simp [tget_tput]⟩
  clear s4 s3 s2 q1 q2 q3
  rintro m2 T h'' ⟨j, v, u0, R, hm2, s2, rfl, q1, q2, q3, q4, q5, q6, q7⟩
  refine sr (fun LL hLL => ?_)
  simp only [oxz, simprocAttr, q4, q5, q6]
  refine hLL _ _ ?_
  refine wpC_seq ?_
  refine wpC_if ?_
  simp only [oxz, simprocAttr]
  refine gC_of (fun hc3 => ?_) (fun hc3 => ?_)
  ·refine wpC_skip ?_
   simp only [oxz, simprocAttr]
   have hj : j < x.inn.length := by omega
   obtain ⟨b3, o3, ro3, sz3, C3, T3, e4, p3, g3, r3, w3⟩ := (hxin.1.fr s2.base).resolve_left (by rintro e; rw [e] at hj; simp at hj)
   have v3 : C3[o3 + j * 1]? = some (.int .i64 x.inn[j]) := Rs.cell icell.len r3 w3 j hj 0 (by omega)
   rw [e4] at q4
   obtain ⟨j', hj', hlt, ej⟩ := mem_take_succ (hy _ (List.getElem_mem hj))
   have gs := s2.get
   refine wpC_seq (wpC_block ?_)
   refine sr (fun LL hLL => ?_)
   simp only [oxz, simprocAttr, q4, q5, q6, ixF hj, g3, v3]
   refine hLL _ _ ?_
   refine sr (fun LL hLL => ?_)
   simp only [oxk, simprocAttr, gs]
   rw [← ej]
   refine roots_ok g a c L sp Q hQ j' hj' _ s2 _ fun w h5 s5 => ?_
   simp only [oxk, simprocAttr]
   refine hLL _ _ ?_
   refine wpC_seq ?_
   by_cases hz : andU v w = 0
   ·refine sr (fun LL hLL => ?_)
    simp only [oxz, simprocAttr, q7, and_u, hz, not_true_eq_false]
    refine hLL _ _ ?_
    refine wpC_if ?_
    simp only [oxz, simprocAttr]
    refine wpC_skip ?_
    simp only [oxz, simprocAttr]
    refine rg (fun LL hLL => ?_)
    simp only [oxz, simprocAttr, q7, or_u]
    refine hLL _ _ ?_
    simp only [oxz, simprocAttr]
    refine rg (fun LL hLL => ?_)
    simp only [oxz, simprocAttr, q4, q5, q6, wsucc (show j < 9223372036854775807 by omega)]
    refine hLL _ _ ?_
    simp only [oxz, simprocAttr]
    exact ⟨m2 - 1, by omega, j + 1, orU v w, _, _, by omega, s5, rfl, by simp [tget_tput, q1], by simp [tget_tput, q2], by simp [tget_tput, q3], by simp [tget_tput, q4, e4], by simp [tget_tput, q5], by simp [tget_tput], by simp [tget_tput]⟩
   ·refine sr (fun LL hLL => ?_)
    simp only [oxz, simprocAttr, q7, and_u, eq_false hz, not_false_eq_true]
    refine hLL _ _ ?_
    refine wpC_if ?_
    simp only [oxz, simprocAttr]
    refine sr (fun LL hLL => ?_)
    simp only [oxz, simprocAttr]
    refine hLL _ _ ?_
    refine wpC_ret (out_ret ?_)
    simp only [oxz, simprocAttr]
    exact bad _ _ (by decide) s5.drop
  ·refine wpC_exit ?_
   simp only [oxz, simprocAttr]
   refine rg (fun LL hLL => ?_)
   simp only [oxz, simprocAttr, q1, q2, q3, wsucc (show k < 9223372036854775807 by omega)]
   refine hLL _ _ ?_
   simp only [oxz, simprocAttr]
   exact ⟨m - 1, by omega, k + 1, _, _, by omega, s2, rfl, by simp [tget_tput, q1], by simp [tget_tput, q2], by simp [tget_tput]⟩
 ·refine wpC_exit ?_
  simp only [oxz, simprocAttr]
  refine sr (fun LL hLL => ?_)
  simp only [oxz, simprocAttr]
  refine hLL _ _ ?_
  refine wpC_ret (out_ret ?_)
  simp only [oxz, simprocAttr]
  exact hk _ _ (fun _ => hok) s2.drop
end Go.Proofs.Cd

namespace Go.Proofs.Cd
open Go Go.Ox
set_option maxRecDepth 100000
set_option maxHeartbeats 8000000
theorem right20_ok {h0 : AHeap} {F : List Asn} (g : Int) (a : Option Addr) (c : Nat) (L : List OpX) (hfew : L.length < 17592186044000) (pa : Option Addr) (pc : Nat) (P : List Int) (r : Rd h0 F icell 1 pa P) (hl : P.length < 17592186045000) (h : AHeap) (s : St h0 h F) (K : Value → AHeap → Prop)
  (hk : ∀ (q : Bool) h', (q = true → P.length = L.length ∧ ∀ x ∈ P, 1 ≤ x ∧ x ≤ 8 ∧ x ≤ g) → St h0 h' F → K (.bool q) h') : wpF Tryz.prog (.fn 19) [.agg #[.int .i64 g, .slice a L.length c], .slice pa P.length pc] h K := by
 refine wpF_fun 39 [.tmp 4] Tryz.func19 rfl rfl rfl rfl ?_
 have s1 := s.push (spB g a L.length c)
 obtain ⟨h1, e1⟩ : ∃ h1, h1 = h.push (spB g a L.length c) := ⟨_, rfl⟩
 obtain ⟨bs, ebs⟩ : ∃ b, b = h.next := ⟨_, rfl⟩
 rw [← e1, ← ebs] at s1
 refine sr (fun LL hLL => ?_)
 simp only [oxz, simprocAttr]
 refine hLL _ _ ?_
 rw [← e1, ← ebs]
 have gs := s1.get
 by_cases c1 : P.length = L.length
 ·refine wpC_seq (sr fun LL hLL => ?_)
  simp only [oxz, simprocAttr, gs, eq_false (show ¬ ((P.length : Int) ≠ (L.length : Int)) by omega), c1, not_true_eq_false]
  refine hLL _ _ ?_
  refine wpC_if ?_
  simp only [oxz, simprocAttr, not_true_eq_false]
  refine wpC_skip ?_
  simp only [oxz, simprocAttr]
  refine fg6 (fun R => ?_)
  refine wpC_seq ?_
  refine sr (fun LL hLL => ?_)
  simp only [oxz, simprocAttr]
  refine hLL _ _ ?_
  refine fg6 (fun R => ?_)
  rw [← c1]
  refine wpC_block ?_
  refine wpC_loop (fun m T h' => h' = h1 ∧ ∃ (k : Nat) (u0 u3 u4 : Value) (R : List Value), m + k = P.length ∧ (∀ x ∈ P.take k, 1 ≤ x ∧ x ≤ 8 ∧ x ≤ g) ∧ T = u0 :: .slice pa P.length pc :: .pointer (some ⟨bs, 0, none⟩) :: u3 :: u4 :: .int .i64 k :: R) ?_ P.length _ _ ⟨rfl, 0, _, _, _, R, by omega, by simp, rfl⟩
  rintro m T h' ⟨rfl, k, u0, u3, u4, R, hmk, hin, rfl⟩
  refine wpC_seq (sr fun LL hLL => ?_)
  simp only [oxz, simprocAttr]
  refine hLL _ _ ?_
  refine wpC_if ?_
  simp only [oxz, simprocAttr]
  refine gC_of (fun hc => ?_) (fun hc => ?_)
  ·refine wpC_skip ?_
   simp only [oxz, simprocAttr]
   refine fg6 (fun R => ?_)
   have hk' : k < P.length := by omega
   obtain ⟨b3, o3, ro3, sz3, C3, T3, e3, p3, g3, r3, w3⟩ := (r _ s1.drop).resolve_left (by rintro e; rw [e] at hk'; simp at hk')
   have v3 : C3[o3 + k * 1]? = some (.int .i64 P[k]) := Rs.cell icell.len r3 w3 k hk' 0 (by omega)
   refine wpC_seq (wpC_block ?_)
   refine wpC_seq ?_
   rw [e3]
   obtain ⟨q1, d1⟩ := dq (P[k] < 1)
   obtain ⟨q2, d2⟩ := dq (8 < P[k])
   obtain ⟨q3, d3⟩ := dq (g < P[k])
   cases q1 <;> cases q2 <;> cases q3
   all_goals
    refine du [some 18, some 19, some 20, some 21, some 22, some 23, some 24, some 25, some 26, some 27, some 28, some 29, some 30, some 31, some 32, some 33, some 34, some 35, some 36, some 37, some 38] 21 [0, 0, 3, 7, 15, 31, 63, 63, 255, 511, 1023, 2047, 4095, 8191, 8191, 32767, 65535, 8191, 139263, 524287, 1048575] (by rfl) (by rfl) (by decide +kernel) (by decide +kernel) (by decide +kernel) (fun LL hLL => ?_)
    simp only [oxz, simprocAttr, ixF hk', g3, v3, gs, d1, d2, d3]
    refine hLL _ _ ?_
    refine wpC_if ?_
    simp only [oxz, simprocAttr]
   ·refine wpC_skip ?_
    simp only [oxz, simprocAttr]
    refine fg6 (fun R => ?_)
    refine rg (fun LL hLL => ?_)
    simp only [oxz, simprocAttr, wsucc (show k < 9223372036854775807 by omega)]
    refine hLL _ _ ?_
    simp only [oxz, simprocAttr]
    refine ⟨m - 1, by omega, k + 1, _, _, _, _, by omega, fun y hy => ?_, rfl⟩
    rw [List.take_succ_eq_append_getElem hk'] at hy
    rcases List.mem_append.1 hy with hy | hy
    ·exact hin y hy
    ·obtain rfl := List.mem_singleton.1 hy
     have := of_decide_eq_false d1
     have := of_decide_eq_false d2
     have := of_decide_eq_false d3
     omega
   all_goals
    refine sr (fun LL hLL => ?_)
    simp only [oxz, simprocAttr]
    refine hLL _ _ ?_
    refine wpC_ret (out_ret ?_)
    simp only [oxz, simprocAttr]
    exact hk _ _ (fun h => by cases h) s1.drop
  ·have hkl : k = P.length := by omega
   subst hkl
   rw [List.take_length] at hin
   refine wpC_exit ?_
   simp only [oxz, simprocAttr]
   refine fg6 (fun R => ?_)
   refine sr (fun LL hLL => ?_)
   simp only [oxz, simprocAttr]
   refine hLL _ _ ?_
   refine wpC_ret (out_ret ?_)
   simp only [oxz, simprocAttr]
   exact hk _ _ (fun _ => ⟨c1, hin⟩) s1.drop
 ·refine wpC_seq (sr fun LL hLL => ?_)
  simp only [oxz, simprocAttr, gs, eq_true (show ((P.length : Int) ≠ (L.length : Int)) by omega)]
  refine hLL _ _ ?_
  refine wpC_if ?_
  simp only [oxz, simprocAttr]
  refine sr (fun LL hLL => ?_)
  simp only [oxz, simprocAttr]
  refine hLL _ _ ?_
  refine wpC_ret (out_ret ?_)
  simp only [oxz, simprocAttr]
  exact hk _ _ (fun h => by cases h) s1.drop
/-- What is known of a job with numbers of tasks. -/
structure JbOk (g : Int) (L : List OpX) (P : List Int) : Prop where
 sp : SpOk g L
 len : P.length = L.length
 par : ∀ x ∈ P, 1 ≤ x ∧ x ≤ 8 ∧ x ≤ g
theorem right_ok {h0 : AHeap} {F : List Asn} (g : Int) (a : Option Addr) (c : Nat) (L : List OpX) (sp : SpR h0 a L) (pa : Option Addr) (pc : Nat) (P : List Int) (r : Rd h0 F icell 1 pa P) (hl : P.length < 17592186045000) (h : AHeap) (s : St h0 h F) (K : Value → AHeap → Prop)
  (hk : ∀ (q : Bool) h', (q = true → JbOk g L P) → St h0 h' F → K (.bool q) h') : wpF Tryz.prog (.fn 5) [.agg #[.int .i64 g, .slice a L.length c], .slice pa P.length pc, .int .i64 0] h K := by
 refine wpF_fun 26 [.tmp 6] Tryz.func5 rfl rfl rfl rfl ?_
 have s1 := s.push (spB g a L.length c)
 obtain ⟨h1, e1⟩ : ∃ h1, h1 = h.push (spB g a L.length c) := ⟨_, rfl⟩
 obtain ⟨bs, ebs⟩ : ∃ b, b = h.next := ⟨_, rfl⟩
 rw [← e1, ← ebs] at s1
 refine sr (fun LL hLL => ?_)
 simp only [oxz, simprocAttr]
 refine hLL _ _ ?_
 rw [← e1, ← ebs]
 have gs := s1.get
 refine sr (fun LL hLL => ?_)
 simp only [oxk, simprocAttr, gs]
 refine check_ok g a c L sp _ s1 _ fun e h2 he s2 => ?_
 have gs2 := s2.get
 by_cases h0e : e = 0
 ·simp only [oxk, simprocAttr, eq_true h0e, gs2]
  refine right20_ok g a c L sp.few pa pc P r.up hl _ s2 _ fun q h3 hq s3 => ?_
  have gs3 := s3.get
  cases q
  ·simp only [oxk, simprocAttr]
   refine hLL _ _ ?_
   refine wpC_ret (out_ret ?_)
   simp only [oxz, simprocAttr]
   exact hk _ _ (fun h => by cases h) s3.drop
  ·have hok := he h0e
   obtain ⟨hq1, hq2⟩ := hq rfl
   have := hok.n1
   simp only [oxk, simprocAttr, gs3, eq_true (show (0 : Int) < (L.length : Int) by omega)]
   refine hLL _ _ ?_
   refine wpC_ret (out_ret ?_)
   simp only [oxz, simprocAttr]
   exact hk _ _ (fun _ => ⟨hok, hq1, hq2⟩) s3.drop
 ·simp only [oxk, simprocAttr, eq_false h0e]
  refine hLL _ _ ?_
  refine wpC_ret (out_ret ?_)
  simp only [oxz, simprocAttr]
  exact hk _ _ (fun h => by cases h) s2.drop
end Go.Proofs.Cd

namespace Go.Proofs.Cd
open Go Go.Ox
set_option maxRecDepth 100000
set_option maxHeartbeats 8000000
theorem long0_ok (b : Nat) (h : AHeap) (K : Value → AHeap → Prop) (hk : K (.bool false) h) : wpF Tryz.prog (.fn 7) [.slice (some ⟨b, 0, none⟩) 0 0] h K := by
 refine wpF_fun 49 [.tmp 2] Tryz.func7 rfl rfl rfl rfl ?_
 refine sr (fun LL hLL => ?_)
 simp only [oxz, simprocAttr]
 refine hLL _ _ ?_
 refine wpC_seq ?_
 refine sr (fun LL hLL => ?_)
 simp only [oxz, simprocAttr]
 refine hLL _ _ ?_
 refine wpC_block ?_
 refine wpC_loop (fun m T h' => h' = h ∧ ∃ R, T = .slice (some ⟨b, 0, none⟩) 0 0 :: R ∧ tget R 2 = .int .i64 0) ?_ 0 _ _ ⟨rfl, _, rfl, rfl⟩
 rintro m T h' ⟨rfl, R, rfl, q⟩
 refine wpC_seq (sr fun LL hLL => ?_)
 simp only [oxz, simprocAttr, q]
 refine hLL _ _ ?_
 refine wpC_if ?_
 simp only [oxz, simprocAttr]
 refine wpC_exit ?_
 simp only [oxz, simprocAttr]
 refine sr (fun LL hLL => ?_)
 simp only [oxz, simprocAttr]
 refine hLL _ _ ?_
 refine wpC_ret (out_ret ?_)
 simp only [oxz, simprocAttr]
 exact hk
/-- A call that tells an answer, as it lies. -/
abbrev actC (x : AckX) : List Value := [.int .i64 0, .int .i64 0, .int .i64 0, .int .i64 0, .bool false, .int .i64 x.no, .int .i64 x.task, .slice x.oa x.offs.length x.oc, .slice x.ra x.rows.length x.rc, .slice x.ta x.outs.length x.tc]
theorem long1_ok (x : AckX) (b : Nat) (h : AHeap) (g : h.get b = some (.cells false 10 (actC x) 35)) (K : Value → AHeap → Prop) (hk : ∀ q : Bool, (q = false → AckSm x) → K (.bool q) h) : wpF Tryz.prog (.fn 7) [.slice (some ⟨b, 0, none⟩) 1 1] h K := by
 refine wpF_fun 49 [.tmp 2] Tryz.func7 rfl rfl rfl rfl ?_
 refine sr (fun LL hLL => ?_)
 simp only [oxz, simprocAttr]
 refine hLL _ _ ?_
 refine wpC_seq ?_
 refine sr (fun LL hLL => ?_)
 simp only [oxz, simprocAttr]
 refine hLL _ _ ?_
 refine wpC_block ?_
 refine wpC_loop (fun m T h' => h' = h ∧ ∃ (i : Nat) (R : List Value), m + i = 1 ∧ (0 < i → AckSm x) ∧ T = .slice (some ⟨b, 0, none⟩) 1 1 :: R ∧ tget R 1 = .bool false ∧ tget R 2 = .int .i64 i) ?_ 1 _ _ ⟨rfl, 0, _, rfl, (by omega), rfl, rfl, rfl⟩
 rintro m T h' ⟨rfl, i, R, hmi, hi, rfl, q0, q⟩
 by_cases h0 : i = 0
 ·subst h0
  refine wpC_seq (sr fun LL hLL => ?_)
  simp only [oxz, simprocAttr, q]
  refine hLL _ _ ?_
  refine wpC_if ?_
  simp only [oxz, simprocAttr]
  refine wpC_skip ?_
  simp only [oxz, simprocAttr]
  obtain ⟨p1, d1⟩ := dq (100 < (x.offs.length : Int))
  obtain ⟨p2, d2⟩ := dq (100 < (x.rows.length : Int))
  obtain ⟨p3, d3⟩ := dq (100 < (x.outs.length : Int))
  refine wpC_seq (wpC_block ?_)
  cases p1 <;> cases p2 <;> cases p3
  all_goals
   refine sr (fun LL hLL => ?_)
   simp only [oxz, simprocAttr, q, g, d1, d2, d3]
   refine hLL _ _ ?_
   refine wpC_if ?_
   simp only [oxz, simprocAttr]
  ·refine wpC_skip ?_
   simp only [oxz, simprocAttr]
   refine rg (fun LL hLL => ?_)
   simp only [oxz, simprocAttr, q]
   refine hLL _ _ ?_
   simp only [oxz, simprocAttr]
   exact ⟨0, by omega, 1, _, rfl, fun _ => ⟨by have := of_decide_eq_false d1; omega, by have := of_decide_eq_false d2; omega, by have := of_decide_eq_false d3; omega⟩, rfl, by simp [tget_tput, q0], (by simp [tget_tput]; rfl)⟩
  all_goals
   refine sr (fun LL hLL => ?_)
   simp only [oxz, simprocAttr]
   refine hLL _ _ ?_
   refine wpC_ret (out_ret ?_)
   simp only [oxz, simprocAttr]
   exact hk _ (fun h => by cases h)
 ·have h1 : i = 1 := by omega
  subst h1
  refine wpC_seq (sr fun LL hLL => ?_)
  simp only [oxz, simprocAttr, q]
  refine hLL _ _ ?_
  refine wpC_if ?_
  simp only [oxz, simprocAttr]
  refine wpC_exit ?_
  simp only [oxz, simprocAttr]
  refine sr (fun LL hLL => ?_)
  simp only [oxz, simprocAttr]
  refine hLL _ _ ?_
  refine wpC_ret (out_ret ?_)
  simp only [oxz, simprocAttr]
  exact hk _ (fun _ => hi (by omega))
end Go.Proofs.Cd

namespace Go.Proofs.Cd
open Go Go.Ox
set_option maxRecDepth 100000
set_option maxHeartbeats 4000000
def againK (l : List AckX) (i k : Nat) : Prop := ∃ (j : Nat) (hj : j < l.length) (hi : i < l.length), j < k ∧ l[j].task = l[i].task
/-- The first one of each task, of those from i on. -/
structure FstOk (l : List AckX) (i : Nat) (F : List AckX) : Prop where
 of : ∀ x ∈ F, ∃ (j : Nat) (hj : j < l.length), i ≤ j ∧ x = l[j] ∧ ¬ againK l j j
 all : ∀ (j : Nat) (hj : j < l.length), i ≤ j → ¬ againK l j j → l[j] ∈ F
 len : F.length + i ≤ l.length
theorem FstOk.nil (l : List AckX) : FstOk l l.length [] := ⟨(fun x h => by cases h), (fun j hj hi => by omega), (by simp)⟩
theorem FstOk.step {l : List AckX} {i : Nat} {F : List AckX} (f : FstOk l (i + 1) F) (hi : i < l.length) (hn : ¬ againK l i i) : FstOk l i (F ++ [l[i]]) := by
 have hlen := f.len
 refine ⟨fun x hx => ?_, fun j hj hij hj2 => ?_, by simp; omega⟩
 ·rcases List.mem_append.1 hx with hx | hx
  ·obtain ⟨j, hj, h1, h2, h3⟩ := f.of x hx
   exact ⟨j, hj, by omega, h2, h3⟩
  ·obtain rfl := List.mem_singleton.1 hx
   exact ⟨i, hi, Nat.le_refl _, rfl, hn⟩
 ·by_cases e : j = i
  ·subst e; simp
  ·exact List.mem_append_left _ (f.all j hj (by omega) hj2)
theorem FstOk.skip {l : List AckX} {i : Nat} {F : List AckX} (f : FstOk l (i + 1) F) (hi : i < l.length) (hn : againK l i i) : FstOk l i F := by
 have hlen := f.len
 refine ⟨fun x hx => ?_, fun j hj hij hj2 => ?_, by omega⟩
 ·obtain ⟨j, hj, h1, h2, h3⟩ := f.of x hx
  exact ⟨j, hj, by omega, h2, h3⟩
 ·by_cases e : j = i
  ·subst e; exact absurd hn hj2
  ·exact f.all j hj (by omega) hj2
theorem FstOk.find {l F : List AckX} (f : FstOk l 0 F) (t : Nat) : F.find? (isT t) = l.find? (isT t) := by
 cases hl : l.find? (isT t) with
 | none =>
  rw [List.find?_eq_none] at hl ⊢
  intro x hx
  obtain ⟨j, hj, _, rfl, _⟩ := f.of x hx
  exact hl _ (List.getElem_mem hj)
 | some x =>
  obtain ⟨hx, A, B, e, hA⟩ := List.find?_eq_some_iff_append.1 hl
  have hi : A.length < l.length := by rw [e]; simp
  have ex : l[A.length] = x := by simp [e]
  have htx : x.task = (t : Int) := of_decide_eq_true hx
  have hAt : ∀ (k : Nat) (hk : k < l.length), k < A.length → ¬ l[k].task = (t : Int) := fun k hk hkA h => by
   have hm : l[k] ∈ A := by
    have : l[k] = A[k] := by simp [e, List.getElem_append_left hkA]
    rw [this]; exact List.getElem_mem hkA
   have := hA _ hm
   simp [isT, h] at this
  have hna : ¬ againK l A.length A.length := by
   rintro ⟨k, hk, _, hkA, hke⟩
   exact hAt k hk hkA (by rw [hke, ex, htx])
  have hxF : x ∈ F := by rw [← ex]; exact f.all A.length hi (by omega) hna
  cases hF : F.find? (isT t) with
  | none => exact absurd hx (by simpa using List.find?_eq_none.1 hF x hxF)
  | some y =>
   have hyt : y.task = (t : Int) := of_decide_eq_true (show isT t y = true from List.find?_some hF)
   obtain ⟨j, hj, _, rfl, hnj⟩ := f.of y (List.mem_of_find?_eq_some hF)
   have hij : j = A.length := by
    rcases Nat.lt_trichotomy j A.length with h | h | h
    ·exact absurd hyt (hAt j hj h)
    ·exact h
    ·exact absurd ⟨A.length, hi, hj, h, by rw [ex, htx, hyt]⟩ hnj
   subst hij
   rw [ex]
def fstC (l : List AckX) (t : Nat) : Ct := match l.find? (isT t) with
 | some x => x.cont
 | none => emC
theorem toldE_new (n : Nat) (l : List AckX) (t : Nat) (ht : t < n) : toldE n (fun _ => none) l t = some (fstC l t) := by
 unfold toldE stepE fstC
 simp only [ht, if_true]
 cases l.find? (isT t) <;> rfl
theorem toldE_old (n : Nat) (E : Nat → Option Ct) (l : List AckX) (t : Nat) (c : Ct) (h : E t = some c) : toldE n E l t = some c := by
 unfold toldE stepE
 rw [h]
theorem fstC_find {l F : List AckX} {t : Nat} (h : F.find? (isT t) = l.find? (isT t)) : fstC F t = fstC l t := by unfold fstC; rw [h]
theorem TlD.cont {n : Nat} {E : Nat → Option Ct} {W : List Int} {X : List AckX} (q : TlD n E W X) {t : Nat} {c : Ct} (ht : t < n) (h : E t = some c) : (∃ x, X.find? (fun y => decide (y.task = (t : Int))) = some x) ∧ (contX X t).cont = c := by
 obtain ⟨x, h1, h2⟩ := q.get t c ht h
 have h3 : X.find? (fun y => decide (y.task = (t : Int))) = some x := h1
 refine ⟨⟨x, h3⟩, ?_⟩
 unfold contX
 rw [h3]; exact h2
theorem atOp_cong {P : List Int} {C C' : Nat → AckX} {m : Nat} {β : Type} (f : AckX → β) (h : ∀ t, t < m → f (C t) = f (C' t)) (op : Nat) : (atOp P C m op).map f = (atOp P C' m op).map f := by
 unfold atOp
 rw [List.map_map, List.map_map]
 refine List.map_congr_left fun t ht => ?_
 exact h t (List.mem_range.1 (List.mem_filter.1 ht).1)
theorem cont_offs {x y : AckX} (h : x.cont = y.cont) : x.offs = y.offs := congrArg Prod.fst h
theorem cont_rows {x y : AckX} (h : x.cont = y.cont) : x.rows = y.rows := congrArg (fun c => c.2.1) h
theorem cont_outs {x y : AckX} (h : x.cont = y.cont) : x.outs = y.outs := congrArg (fun c => c.2.2) h
theorem man_cong {G : Int} {L : List OpX} {P : List Int} {C C' : Nat → AckX} (h : ∀ t, t < (tasksL P).length → (C t).cont = (C' t).cont) : manO L P C = manO L P C' ∧ manR G L P C = manR G L P C' ∧ manT L P C = manT L P C' := by
 refine ⟨?_, ?_, ?_⟩
 ·refine List.map_congr_left fun x _ => ?_
  unfold layO
  rw [atOp_cong AckX.offs fun t ht => cont_offs (h t ht)]
 ·refine List.map_congr_left fun x _ => ?_
  unfold layR
  rw [atOp_cong AckX.rows fun t ht => cont_rows (h t ht)]
 ·refine List.map_congr_left fun x _ => ?_
  unfold layT
  rw [atOp_cong AckX.outs fun t ht => cont_outs (h t ht)]
theorem man_small {G : Int} {L : List OpX} {P : List Int} {C : Nat → AckX} (hT : (tasksL P).length ≤ 1000) (hpt : ∀ x ∈ L, x.kind = 1 → 1 ≤ x.parts ∧ x.parts ≤ 8) (hC : ∀ t, t < (tasksL P).length → AckSm (C t)) : (∀ x ∈ manO L P C, x.length < 1000000) ∧ (∀ x ∈ manR G L P C, x.length < 1000000) ∧ (∀ x ∈ manT L P C, x.length < 1000000) := by
 have key : ∀ {β : Type} (f : AckX → List β) (op : Nat), (∀ x, AckSm x → (f x).length ≤ 100) → (((atOp P C (tasksL P).length op).map f).flatten).length < 1000000 := fun f op hf => by
  have h1 := flat_few (B := 100) ((atOp P C (tasksL P).length op).map f) fun l hl => by
   obtain ⟨x, hx, rfl⟩ := List.mem_map.1 hl
   obtain ⟨j, hj, rfl⟩ := atOp_mem hx
   exact hf _ (hC j hj)
  rw [List.length_map] at h1
  have h2 := atOp_len P C (tasksL P).length op
  omega
 refine ⟨fun x hx => ?_, fun x hx => ?_, fun x hx => ?_⟩
 ·obtain ⟨y, hy, rfl⟩ := List.mem_map.1 hx
  unfold layO
  split
  ·rename_i hk
   have hm : y.1 ∈ L := by
    obtain ⟨i, hi, e⟩ := List.mem_iff_getElem.1 hy
    rw [← e]; simp
   have := hpt _ hm hk
   rw [offsL_len]; omega
  ·simp
 ·obtain ⟨y, _, rfl⟩ := List.mem_map.1 hx
  unfold layR
  split
  ·rw [sortB_len (ltg_ord G)]
   exact key AckX.rows _ fun x s => s.r
  ·simp
 ·obtain ⟨y, _, rfl⟩ := List.mem_map.1 hx
  unfold layT
  split
  ·exact key AckX.outs _ fun x s => s.t
  ·simp
end Go.Proofs.Cd

namespace Go.Proofs.Cd
open Go Go.Ox
set_option maxRecDepth 100000
set_option maxHeartbeats 8000000
theorem newG_ok {h0 : AHeap} {F : List Asn} (h : AHeap) (s : St h0 h F) (K : Value → AHeap → Prop) (hk : ∀ β h', St h0 h' (own β (coB false 0 0 false 0 (.map none) (.map none)) :: F) → K (.pointer (some ⟨β, 0, none⟩)) h') : wpF Tryz.prog (.fn 9) [] h K := new_ok h s K hk
theorem tasks_pos {P : List Int} (h0 : 0 < P.length) (h1 : ∀ x ∈ P, 1 ≤ x) : 0 < (tasksL P).length := by
 have := preT_at P 0 0 h0 (by have := h1 P[0] (List.getElem_mem h0); omega)
 by_cases h : 0 < (tasksL P).length
 ·exact h
 ·rw [List.eq_nil_of_length_eq_zero (show (tasksL P).length = 0 by omega)] at this
  simp at this
theorem any_body (g : Int) (sa : Option Addr) (sc : Nat) (L : List OpX) (pa : Option Addr) (pc : Nat) (P : List Int) (la : Option Addr) (lc : Nat) (l : List AckX) (no other : Int) (h : AHeap) (sp : SpR h sa L) (rP : Rs icell 1 h pa P) (nP : pa = none → P = [] ∧ pc = 0) (hP : P.length < 17592186045000)
  (rl : Rs AckX.cells 5 h la l) (hl : l.length < 17592186044000) (rx : ∀ x ∈ l, AckRs h x) (K : Value → AHeap → Prop) (hk : ∀ h', Fr h h' [] → K (.bool true) h') :
  wpF Tryz.prog (.fn 17) [.agg #[.int .i64 g, .slice sa L.length sc], .slice pa P.length pc, .slice la l.length lc, .int .i64 no, .int .i64 other] h K := by
 have s0 := St.init h
 refine wpF_fun 175 [.tmp 10] Tryz.func17 rfl rfl rfl rfl ?_
 have s1 := s0.push (spB g sa L.length sc)
 obtain ⟨h1, e1⟩ : ∃ h1, h1 = h.push (spB g sa L.length sc) := ⟨_, rfl⟩
 obtain ⟨bs, ebs⟩ : ∃ b, b = h.next := ⟨_, rfl⟩
 rw [← e1, ← ebs] at s1
 refine sr (fun LL hLL => ?_)
 simp only [oxz, simprocAttr]
 refine hLL _ _ ?_
 rw [← e1, ← ebs]
 clear e1
 have gs := s1.get
 have out : ∀ h', Fr h h' [] → wpF Tryz.prog (.fn 6) [] h' (fun v h'' => v = .bool true ∧ Fr h h'' []) := fun h' f => wpF_ext rfl ⟨rfl, f⟩
 refine sm (fun T h' => ∃ (u0 u6 u7 u8 u9 : Value) (R : List Value), JbOk g L P ∧ l.length ≤ 60 ∧ St h h' [own bs (spB g sa L.length sc)] ∧ T = u0 :: .slice pa P.length pc :: .slice la l.length lc :: .int .i64 no :: .int .i64 other :: .pointer (some ⟨bs, 0, none⟩) :: u6 :: u7 :: u8 :: u9 :: .bool false :: R) ?_ ?_
 ·refine sr (fun LL hLL => ?_)
  simp only [oxk, simprocAttr, gs]
  refine right_ok g sa sc L sp pa pc P (Rd.of_base rP) hP _ s1 _ fun q h2 hq s2 => ?_
  cases q
  ·simp only [oxk, simprocAttr]
   refine hLL _ _ ?_
   refine wpC_if ?_
   simp only [oxz, simprocAttr]
   refine sr (fun LL hLL => ?_)
   simp only [oxz, simprocAttr]
   refine wpF_ext rfl ?_
   refine hLL _ _ ?_
   refine wpC_ret (out_ret ?_)
   simp only [oxz, simprocAttr]
   exact hk _ s2.base
  by_cases h60 : 60 < (l.length : Int)
  ·simp only [oxk, simprocAttr, eq_true h60]
   refine hLL _ _ ?_
   refine wpC_if ?_
   simp only [oxz, simprocAttr]
   refine sr (fun LL hLL => ?_)
   simp only [oxz, simprocAttr]
   refine wpF_ext rfl ?_
   refine hLL _ _ ?_
   refine wpC_ret (out_ret ?_)
   simp only [oxz, simprocAttr]
   exact hk _ s2.base
  simp only [oxk, simprocAttr, eq_false h60]
  refine long0_ok _ _ _ ?_
  simp only [oxk, simprocAttr]
  refine hLL _ _ ?_
  refine wpC_if ?_
  simp only [oxz, simprocAttr]
  refine wpC_skip ?_
  simp only [oxz, simprocAttr]
  have z0 : ∀ z, aZeros z 0 = [] := fun _ => rfl
  exact ⟨_, _, _, _, _, _, hq rfl, by omega, (s2.push _).drop, rfl⟩
 clear s1 gs
 rintro T h2 ⟨u0, u6, u7, u8, u9, R, jb, hl60, s1, rfl⟩
 have rlB : Rd h [own bs (spB g sa L.length sc)] AckX.cells 5 la l := Rd.of_base rl
 refine sm (fun T h' => ∃ (u0 u6 u7 u8 u9 : Value) (R : List Value), (∀ x ∈ l, AckSm x) ∧ St h h' [own bs (spB g sa L.length sc)] ∧ T = u0 :: .slice pa P.length pc :: .slice la l.length lc :: .int .i64 no :: .int .i64 other :: .pointer (some ⟨bs, 0, none⟩) :: u6 :: u7 :: u8 :: u9 :: .bool false :: R) ?_ ?_
 ·refine sr (fun LL hLL => ?_)
  simp only [oxz, simprocAttr]
  refine hLL _ _ ?_
  refine wpC_block ?_
  refine wpC_loop (fun m T h' => ∃ (i : Nat) (u0 u6 u7 u8 u9 : Value) (R : List Value), m + i = l.length ∧ (∀ x ∈ l.take i, AckSm x) ∧ St h h' [own bs (spB g sa L.length sc)] ∧ T = u0 :: .slice pa P.length pc :: .slice la l.length lc :: .int .i64 no :: .int .i64 other :: .pointer (some ⟨bs, 0, none⟩) :: u6 :: u7 :: u8 :: u9 :: .bool false :: R ∧ tget R 0 = .int .i64 i) ?_ l.length _ _ ⟨0, _, _, _, _, _, _, by omega, by simp, s1, rfl, by simp [tget_tput]⟩
  clear s1
  rintro m T h' ⟨i, u0, u6, u7, u8, u9, R, hmi, hsm, s1, rfl, q0⟩
  refine wpC_seq (sr fun LL hLL => ?_)
  simp only [oxz, simprocAttr, q0]
  refine hLL _ _ ?_
  refine wpC_if ?_
  simp only [oxz, simprocAttr]
  refine gC_of (fun hc => ?_) (fun hc => ?_)
  ·refine wpC_skip ?_
   simp only [oxz, simprocAttr]
   have hi : i < l.length := by omega
   obtain ⟨bq, oq, roq, szq, Cq, Tq, eq, pq, gq, rq, qq⟩ := (rl.fr s1.base).resolve_left (by rintro rfl; simp at hi)
   obtain ⟨wq, xq⟩ := Rs.row AckX.len rq qq i hi
   obtain ⟨x, ex⟩ : ∃ x, x = l[i] := ⟨_, rfl⟩
   rw [← ex] at wq
   unfold AckX.cells at wq
   have zz : aZeros [.int .i64 0, .int .i64 0, .int .i64 0, .int .i64 0, .bool false, .int .i64 0, .int .i64 0, .slice none 0 0, .slice none 0 0, .slice none 0 0] 1 = [.int .i64 0, .int .i64 0, .int .i64 0, .int .i64 0, .bool false, .int .i64 0, .int .i64 0, .slice none 0 0, .slice none 0 0, .slice none 0 0] := rfl
   have s2 := s1.push (.cells false 10 (actC x) 35)
   refine wpC_seq (wpC_block ?_)
   rw [eq]
   refine sr (fun LL hLL => ?_)
   simp only [oxk, simprocAttr, q0, ixF hi, gq, wq, xq, AckX.len, zz]
   refine long1_ok x h'.next _ s2.get _ fun q hq => ?_
   cases q
   ·simp only [oxk, simprocAttr]
    refine hLL _ _ ?_
    refine wpC_if ?_
    simp only [oxz, simprocAttr]
    refine wpC_skip ?_
    simp only [oxz, simprocAttr]
    refine rg (fun LL hLL => ?_)
    simp only [oxz, simprocAttr, q0, wsucc (show i < 9223372036854775807 by omega)]
    refine hLL _ _ ?_
    simp only [oxz, simprocAttr]
    refine ⟨m - 1, by omega, i + 1, _, _, _, _, _, _, by omega, fun y hy => ?_, s2.drop, rfl, by simp [tget_tput]⟩
    rw [List.take_succ_eq_append_getElem hi] at hy
    rcases List.mem_append.1 hy with hy | hy
    ·exact hsm y hy
    ·obtain rfl := List.mem_singleton.1 hy
     rw [← ex]; exact hq rfl
   ·simp only [oxk, simprocAttr]
    refine hLL _ _ ?_
    refine wpC_if ?_
    simp only [oxz, simprocAttr]
    refine sr (fun LL hLL => ?_)
    simp only [oxz, simprocAttr]
    refine wpF_ext rfl ?_
    refine hLL _ _ ?_
    refine wpC_ret (out_ret ?_)
    simp only [oxz, simprocAttr]
    exact hk _ s2.base
  ·have hil : i = l.length := by omega
   subst hil
   rw [List.take_length] at hsm
   refine wpC_exit ?_
   simp only [oxz, simprocAttr]
   exact ⟨_, _, _, _, _, _, hsm, s1, rfl⟩
 clear s1
 rintro T h3 ⟨u0, u6, u7, u8, u9, R, hsm, s1, rfl⟩
 have hP12 : P.length ≤ 12 := by rw [jb.len]; exact jb.sp.n12
 refine sr (fun LL hLL => ?_)
 simp only [oxk, simprocAttr]
 refine tasks_ok (F := [own bs (spB g sa L.length sc)]) pa pc P (Rd.of_base rP) (by omega) (fun x hx => by have := jb.par x hx; omega) _ s1 _ fun ab ad h4 s4 => ?_
 simp only [oxk, simprocAttr]
 refine hLL _ _ ?_
 obtain ⟨n, en⟩ : ∃ n, n = (tasksL P).length := ⟨_, rfl⟩
 have hn0 : 0 < n := by rw [en]; exact tasks_pos (by have := jb.sp.n1; have := jb.len; omega) fun x hx => (jb.par x hx).1
 have hn96 : n ≤ 96 := by
  have := preT_few P (B := 8) (fun x hx => (jb.par x hx).2.1) P.length
  rw [en]; unfold tasksL; omega
 rw [← en]
 refine sr (fun LL hLL => ?_)
 simp only [oxz, simprocAttr]
 refine newG_ok _ s4 _ fun βa h5 s5 => ?_
 refine hLL _ _ ?_
 refine sr (fun LL hLL => ?_)
 simp only [oxz, simprocAttr]
 refine newG_ok _ s5 _ fun βb h6 s6 => ?_
 refine hLL _ _ ?_
 refine wpC_seq (sr fun LL hLL => ?_)
 simp only [oxz, simprocAttr, eq_false (show ¬ (n : Int) = 0 by omega)]
 refine hLL _ _ ?_
 refine wpC_if ?_
 simp only [oxz, simprocAttr]
 refine wpC_skip ?_
 simp only [oxz, simprocAttr]
 refine sr (fun LL hLL => ?_)
 simp only [oxk, simprocAttr]
 refine startG_ok no n false 0 (by omega) _ (s6.mv 1) _ fun h7 s7 => ?_
 simp only [oxk, simprocAttr]
 refine hLL _ _ ?_
 refine sr (fun LL hLL => ?_)
 simp only [oxk, simprocAttr]
 refine startG_ok no n true 9 (by omega) _ (s7.mv 1) _ fun h8 s8 => ?_
 simp only [oxk, simprocAttr]
 refine hLL _ _ ?_
 have s9 := (s8).sel 4 [1, 0, 3]
 simp only [oxf] at s9
 clear s8 s7 s6 s5 s4
 refine sr (fun LL hLL => ?_)
 simp only [oxk, simprocAttr]
 refine told_ok (F := _ :: [own bs (spB g sa L.length sc)]) no 0 false n (by omega) la lc l (Rd.of_base rl) (fun x hx => ⟨Rd.of_base (rx x hx).o, (rx x hx).on, Rd.of_base (rx x hx).r, (rx x hx).rn, Rd.of_base (rx x hx).t, (rx x hx).tn⟩) hsm (by omega) false (TlD.new n) s9 _ fun Xa h9 qa s10 => ?_
 simp only [oxk, simprocAttr]
 refine hLL _ _ ?_
 refine sr (fun LL hLL => ?_)
 simp only [oxz, simprocAttr]
 refine hLL _ _ ?_
 refine sm (fun T h' => ∃ (Fi : List AckX) (af : Option Addr) (df : Nat) (Wb : List Int) (Xb : List AckX) (u0 u6 u7 u8 u9 : Value) (R : List Value), FstOk l 0 Fi ∧ TlD n (fun _ => none) Wb Xb ∧ St h h' [coG βa no 0 false n [] Xa, coG βb no 9 true n Wb Xb, wn AckX.cells 5 33 af df Fi, own bs (spB g sa L.length sc)] ∧
  T = u0 :: .slice pa P.length pc :: .slice la l.length lc :: .int .i64 no :: .int .i64 other :: .pointer (some ⟨bs, 0, none⟩) :: u6 :: u7 :: u8 :: u9 :: .bool false :: R ∧ tget R 1 = .int .i64 n ∧ tget R 2 = .pointer (some ⟨βa, 0, none⟩) ∧ tget R 3 = .pointer (some ⟨βb, 0, none⟩) ∧ tget R 4 = .slice af Fi.length df) ?_ ?_
 ·have hw : IntKind.i64.wrap ((l.length : Int) - 1) = (l.length : Int) - 1 := wrap_i64 (by omega) (by omega)
  refine sr (fun LL hLL => ?_)
  simp only [oxz, simprocAttr, hw]
  refine hLL _ _ ?_
  refine wpC_block ?_
  refine wpC_loop (fun m T h' => ∃ (Fi : List AckX) (af : Option Addr) (df : Nat) (Wb : List Int) (Xb : List AckX) (u0 u6 u7 u8 u9 : Value) (R : List Value), m ≤ l.length ∧ FstOk l m Fi ∧ TlD n (fun _ => none) Wb Xb ∧ St h h' [coG βa no 0 false n [] Xa, coG βb no 9 true n Wb Xb, wn AckX.cells 5 33 af df Fi, own bs (spB g sa L.length sc)] ∧
   T = u0 :: .slice pa P.length pc :: .slice la l.length lc :: .int .i64 no :: .int .i64 other :: .pointer (some ⟨bs, 0, none⟩) :: u6 :: u7 :: u8 :: u9 :: .bool false :: R ∧ tget R 1 = .int .i64 n ∧ tget R 2 = .pointer (some ⟨βa, 0, none⟩) ∧ tget R 3 = .pointer (some ⟨βb, 0, none⟩) ∧ tget R 4 = .slice af Fi.length df ∧ tget R 5 = .int .i64 ((m : Int) - 1)) ?_ l.length _ _
   ⟨[], none, 0, _, _, _, _, _, _, _, _, by omega, FstOk.nil l, TlD.new n, ((s10.sel 2 [0, 1]).wn_nil.sel 3 [1, 2, 0]), rfl, by simp [tget_tput], by simp [tget_tput], by simp [tget_tput], by simp [tget_tput], by simp [tget_tput]⟩
  clear s9 s10
  rintro m T h' ⟨Fi, af, df, Wb, Xb, u0, u6, u7, u8, u9, R, hml, hF, qb, s1, rfl, q1, q2, q3, q4, q5⟩
  refine wpC_seq (sr fun LL hLL => ?_)
  simp only [oxz, simprocAttr, q5]
  refine hLL _ _ ?_
  refine wpC_if ?_
  simp only [oxz, simprocAttr]
  refine gC_of (fun hc => ?_) (fun hc => ?_)
  ·refine wpC_skip ?_
   simp only [oxz, simprocAttr]
   obtain ⟨i, rfl⟩ : ∃ i, m = i + 1 := ⟨m - 1, by omega⟩
   have hi : i < l.length := by omega
   have ei : (((i + 1 : Nat) : Int) - 1) = (i : Int) := by omega
   rw [ei] at q5
   refine wpC_seq (wpC_block ?_)
   refine sr (fun LL hLL => ?_)
   simp only [oxz, simprocAttr]
   refine hLL _ _ ?_
   refine sm (fun T h'' => h'' = h' ∧ ∃ (q : Bool) (u0 u6 u7 u8 u9 : Value) (R : List Value), (q = true ↔ againK l i i) ∧ T = u0 :: .slice pa P.length pc :: .slice la l.length lc :: .int .i64 no :: .int .i64 other :: .pointer (some ⟨bs, 0, none⟩) :: u6 :: u7 :: u8 :: u9 :: .bool false :: R ∧ tget R 1 = .int .i64 n ∧ tget R 2 = .pointer (some ⟨βa, 0, none⟩) ∧ tget R 3 = .pointer (some ⟨βb, 0, none⟩) ∧ tget R 4 = .slice af Fi.length df ∧ tget R 5 = .int .i64 i ∧ tget R 6 = .bool q) ?_ ?_
   ·refine sr (fun LL hLL => ?_)
    simp only [oxz, simprocAttr]
    refine hLL _ _ ?_
    refine wpC_block ?_
    refine wpC_loop (fun m T h'' => h'' = h' ∧ ∃ (k : Nat) (q : Bool) (u0 u6 u7 u8 u9 : Value) (R : List Value), m + k = i ∧ (q = true ↔ againK l i k) ∧ T = u0 :: .slice pa P.length pc :: .slice la l.length lc :: .int .i64 no :: .int .i64 other :: .pointer (some ⟨bs, 0, none⟩) :: u6 :: u7 :: u8 :: u9 :: .bool false :: R ∧ tget R 1 = .int .i64 n ∧ tget R 2 = .pointer (some ⟨βa, 0, none⟩) ∧ tget R 3 = .pointer (some ⟨βb, 0, none⟩) ∧ tget R 4 = .slice af Fi.length df ∧ tget R 5 = .int .i64 i ∧ tget R 6 = .bool q ∧ tget R 7 = .int .i64 k) ?_ i _ _
     ⟨rfl, 0, false, _, _, _, _, _, _, by omega, ⟨(fun h => by cases h), fun ⟨j, _, _, h, _⟩ => by omega⟩, rfl, by simp [tget_tput, q1], by simp [tget_tput, q2], by simp [tget_tput, q3], by simp [tget_tput, q4], by simp [tget_tput, q5], by simp [tget_tput], by simp [tget_tput]⟩
    clear q1 q2 q3 q4 q5
    rintro m T h'' ⟨rfl, k, q, u0, u6, u7, u8, u9, R, hmk, hq, rfl, q1, q2, q3, q4, q5, q6, q7⟩
    refine wpC_seq (sr fun LL hLL => ?_)
    simp only [oxz, simprocAttr, q7, q5]
    refine hLL _ _ ?_
    refine wpC_if ?_
    simp only [oxz, simprocAttr]
    refine gC_of (fun hc2 => ?_) (fun hc2 => ?_)
    ·refine wpC_skip ?_
     simp only [oxz, simprocAttr]
     have hk' : k < i := by omega
     have hkl : k < l.length := by omega
     obtain ⟨bq, oq, roq, szq, Cq, Tq, eq, pq, gq, rq, qq⟩ := (rl.fr s1.base).resolve_left (by rintro rfl; simp at hi)
     have v1 : Cq[oq + k * 5 + 1]? = some (.int .i64 l[k].task) := by rw [Nat.add_assoc]; exact Rs.cell AckX.len rq qq k hkl 1 (by omega)
     have v2 : Cq[oq + i * 5 + 1]? = some (.int .i64 l[i].task) := by rw [Nat.add_assoc]; exact Rs.cell AckX.len rq qq i hi 1 (by omega)
     have hsucc : againK l i (k + 1) ↔ (againK l i k ∨ l[k].task = l[i].task) := by
      constructor
      ·rintro ⟨j, hj, hi', hjk, e⟩
       by_cases ejk : j = k
       ·subst ejk; exact .inr e
       ·exact .inl ⟨j, hj, hi', by omega, e⟩
      ·rintro (⟨j, hj, hi', hjk, e⟩ | e)
       ·exact ⟨j, hj, hi', by omega, e⟩
       ·exact ⟨k, hkl, hi, by omega, e⟩
     refine wpC_seq (wpC_block ?_)
     cases q
     ·obtain ⟨p, dp⟩ := dq (l[k].task = l[i].task)
      rw [eq]
      refine du [some 92, some 93, some 94, some 95, some 96, some 97, some 98, some 99, some 100, some 101, some 102, some 103, some 104, some 105, some 17] 15 [0, 1, 3, 3, 15, 31, 63, 3, 3, 387, 899, 1923, 4095, 8191, 16383] (by rfl) (by rfl) (by decide +kernel) (by decide +kernel) (by decide +kernel) (fun LL hLL => ?_)
      simp only [oxz, simprocAttr, q5, q6, q7, ixF hi, ixF hkl, gq, v1, v2, dp]
      refine hLL _ _ ?_
      simp only [oxz, simprocAttr]
      refine rg (fun LL hLL => ?_)
      simp only [oxz, simprocAttr, q7, wsucc (show k < 9223372036854775807 by omega)]
      refine hLL _ _ ?_
      simp only [oxz, simprocAttr]
      refine ⟨m - 1, by omega, k + 1, p, _, _, _, _, _, _, by omega, ?_, rfl, by simp [tget_tput, q1], by simp [tget_tput, q2], by simp [tget_tput, q3], by simp [tget_tput, q4], by simp [tget_tput, q5], by simp [tget_tput], by simp [tget_tput]⟩
      rw [hsucc, ← dp, decide_eq_true_eq]
      exact ⟨.inr, fun h => h.elim (fun h => absurd (hq.2 h) (by simp)) id⟩
     ·refine du [some 92, some 93, some 94, some 95, some 96, some 97, some 98, some 99, some 100, some 101, some 102, some 103, some 104, some 105, some 17] 15 [0, 1, 3, 3, 15, 31, 63, 3, 3, 387, 899, 1923, 4095, 8191, 16383] (by rfl) (by rfl) (by decide +kernel) (by decide +kernel) (by decide +kernel) (fun LL hLL => ?_)
      simp only [oxz, simprocAttr, q5, q6, q7]
      refine hLL _ _ ?_
      simp only [oxz, simprocAttr]
      refine rg (fun LL hLL => ?_)
      simp only [oxz, simprocAttr, q7, wsucc (show k < 9223372036854775807 by omega)]
      refine hLL _ _ ?_
      simp only [oxz, simprocAttr]
      exact ⟨m - 1, by omega, k + 1, true, _, _, _, _, _, _, by omega, ⟨fun _ => hsucc.2 (.inl (hq.1 rfl)), fun _ => rfl⟩, rfl, by simp [tget_tput, q1], by simp [tget_tput, q2], by simp [tget_tput, q3], by simp [tget_tput, q4], by simp [tget_tput, q5], by simp [tget_tput], by simp [tget_tput]⟩
    ·have hki : k = i := by omega
     subst hki
     refine wpC_exit ?_
     simp only [oxz, simprocAttr]
     exact ⟨q, _, _, _, _, _, _, hq, rfl, by simp [tget_tput, q1], by simp [tget_tput, q2], by simp [tget_tput, q3], by simp [tget_tput, q4], by simp [tget_tput, q5], by simp [tget_tput, q6]⟩
   clear q1 q2 q3 q4 q5
   rintro T h'' ⟨rfl, q, u0, u6, u7, u8, u9, R, hq, rfl, q1, q2, q3, q4, q5, q6⟩
   obtain ⟨bq, oq, roq, szq, Cq, Tq, eq, pq, gq, rq, qq⟩ := (rl.fr s1.base).resolve_left (by rintro rfl; simp at hi)
   obtain ⟨wq, xq⟩ := Rs.row AckX.len rq qq i hi
   obtain ⟨x, ex⟩ : ∃ x, x = l[i] := ⟨_, rfl⟩
   have hxl : x ∈ l := by rw [ex]; exact List.getElem_mem hi
   rw [← ex] at wq
   unfold AckX.cells at wq
   refine sm (fun T h2 => ∃ (F2 : List AckX) (a2 : Option Addr) (d2 : Nat) (u0 u6 u7 u8 u9 : Value) (R : List Value), FstOk l i F2 ∧ St h h2 [coG βa no 0 false n [] Xa, coG βb no 9 true n Wb Xb, wn AckX.cells 5 33 a2 d2 F2, own bs (spB g sa L.length sc)] ∧
    T = u0 :: .slice pa P.length pc :: .slice la l.length lc :: .int .i64 no :: .int .i64 other :: .pointer (some ⟨bs, 0, none⟩) :: u6 :: u7 :: u8 :: u9 :: .bool false :: R ∧ tget R 1 = .int .i64 n ∧ tget R 2 = .pointer (some ⟨βa, 0, none⟩) ∧ tget R 3 = .pointer (some ⟨βb, 0, none⟩) ∧ tget R 4 = .slice a2 F2.length d2 ∧ tget R 5 = .int .i64 i) ?_ ?_
   ·cases q
    ·have hna : ¬ againK l i i := fun h => by have := hq.2 h; cases this
     have hFl := hF.len
     have zz : aZeros ackZ 1 = ackZ := rfl
     obtain ⟨aE, cE, h7, y1, y2⟩ := (s1.mv 2).app1 (bytes := 88) x AckX.len AckX.ones (by omega) (by omega)
     simp only [AckX.cells] at y1
     refine sr (fun LL hLL => ?_)
     simp only [oxz, simprocAttr, q6]
     refine hLL _ _ ?_
     refine wpC_if ?_
     simp only [oxz, simprocAttr]
     rw [eq]
     refine rg (fun LL hLL => ?_)
     simp only [oxz, simprocAttr, q4, q5, ixF hi, gq, wq, xq, AckX.len, zz, y1]
     refine hLL _ _ ?_
     simp only [oxz, simprocAttr]
     have hF2 := hF.step hi hna
     rw [← ex] at hF2
     exact ⟨Fi ++ [x], aE, cE, _, _, _, _, _, _, hF2, y2.sel 4 [1, 2, 0, 3], rfl, by simp [tget_tput, q1], by simp [tget_tput, q2], by simp [tget_tput, q3], by simp [tget_tput], by simp [tget_tput, q5]⟩
    ·refine sr (fun LL hLL => ?_)
     simp only [oxz, simprocAttr, q6]
     refine hLL _ _ ?_
     refine wpC_if ?_
     simp only [oxz, simprocAttr]
     refine wpC_skip ?_
     simp only [oxz, simprocAttr]
     exact ⟨Fi, af, df, _, _, _, _, _, _, hF.skip hi (hq.1 rfl), s1, rfl, by simp [tget_tput, q1], by simp [tget_tput, q2], by simp [tget_tput, q3], by simp [tget_tput, q4], by simp [tget_tput, q5]⟩
   clear s1 q1 q2 q3 q4 q5 q6 gq pq
   rintro T h2 ⟨F2, a2, d2, u0, u6, u7, u8, u9, R, hF2, s1, rfl, q1, q2, q3, q4, q5⟩
   have hwi : IntKind.i64.wrap ((i : Int) - 1) = (i : Int) - 1 := wrap_i64 (by omega) (by omega)
   by_cases hno : other = no
   ·refine sr (fun LL hLL => ?_)
    simp only [oxz, simprocAttr, hno, not_true_eq_false]
    refine hLL _ _ ?_
    refine wpC_if ?_
    simp only [oxz, simprocAttr]
    refine wpC_skip ?_
    simp only [oxz, simprocAttr]
    refine rg (fun LL hLL => ?_)
    simp only [oxz, simprocAttr, q5, hwi]
    refine hLL _ _ ?_
    simp only [oxz, simprocAttr]
    exact ⟨i, by omega, F2, a2, d2, Wb, Xb, _, _, _, _, _, _, by omega, hF2, qb, s1, by rw [hno], by simp [tget_tput, q1], by simp [tget_tput, q2], by simp [tget_tput, q3], by simp [tget_tput, q4], by simp [tget_tput]⟩
   ·obtain ⟨bq, oq, roq, szq, Cq, Tq, eq, pq, gq, rq, qq⟩ := (rl.fr s1.base).resolve_left (by rintro rfl; simp at hi)
    obtain ⟨wq, xq⟩ := Rs.row AckX.len rq qq i hi
    rw [← ex] at wq
    have s2 := (s1.push (.cells false 0 ackZ 33)).set (.cells false 0 x.cells 33)
    have gz := (s1.push (.cells false 0 ackZ 33)).get
    obtain ⟨ba, eba⟩ : ∃ b, b = h2.next := ⟨_, rfl⟩
    unfold AckX.cells at wq s2
    refine sr (fun LL hLL => ?_)
    simp only [oxz, simprocAttr, eq_true hno, not_false_eq_true]
    refine hLL _ _ ?_
    refine wpC_if ?_
    simp only [oxz, simprocAttr]
    rw [eq]
    refine sr (fun LL hLL => ?_)
    simp only [oxz, simprocAttr, q5, ixF hi, gq, wq, xq, AckX.len, gz]
    refine hLL _ _ ?_
    obtain ⟨h3, e3⟩ : ∃ h3, h3 = (h2.push (.cells false 0 ackZ 33)).set h2.next (.cells false 0 [.int .i64 x.no, .int .i64 x.task, .slice x.oa x.offs.length x.oc, .slice x.ra x.rows.length x.rc, .slice x.ta x.outs.length x.tc] 33) := ⟨_, rfl⟩
    rw [← e3, ← eba] at s2
    rw [← e3, ← eba]
    have ga := s2.get
    refine sr (fun LL hLL => ?_)
    simp only [oxz, simprocAttr, ga]
    refine hLL _ _ ?_
    have s3 := s2.set (.cells false 0 [.int .i64 other, .int .i64 x.task, .slice x.oa x.offs.length x.oc, .slice x.ra x.rows.length x.rc, .slice x.ta x.outs.length x.tc] 33)
    have ga3 := s3.get
    refine rg (fun LL hLL => ?_)
    simp only [oxz, simprocAttr, ga3, q3]
    have hx := rx x hxl
    refine ackQ_ok (F := [own ba (.cells false 0 [.int .i64 other, .int .i64 x.task, .slice x.oa x.offs.length x.oc, .slice x.ra x.rows.length x.rc, .slice x.ta x.outs.length x.tc] 33), coG βa no 0 false n [] Xa, wn AckX.cells 5 33 a2 d2 F2, own bs (spB g sa L.length sc)]) (x.setNo other) (AckRd.setNo ⟨Rd.of_base hx.o, hx.on, Rd.of_base hx.r, hx.rn, Rd.of_base hx.t, hx.tn⟩ other) ((hsm x hxl).setNo other) qb (s3.sel 3 [2, 0, 1]) _ fun W2 X2 h5 q8 s5 => ?_
    rw [if_neg (show ¬ (x.setNo other).no = no from hno)] at q8
    refine hLL _ _ ?_
    simp only [oxz, simprocAttr]
    refine rg (fun LL hLL => ?_)
    simp only [oxz, simprocAttr, q5, hwi]
    refine hLL _ _ ?_
    simp only [oxz, simprocAttr]
    exact ⟨i, by omega, F2, a2, d2, W2, X2, _, _, _, _, _, _, by omega, hF2, q8, s5.sel 4 [2, 0, 3], rfl, by simp [tget_tput, q1], by simp [tget_tput, q2], by simp [tget_tput, q3], by simp [tget_tput, q4], by simp [tget_tput]⟩
  ·have h0 : m = 0 := by omega
   subst h0
   refine wpC_exit ?_
   simp only [oxz, simprocAttr]
   exact ⟨Fi, af, df, Wb, Xb, _, _, _, _, _, _, hF, qb, s1, rfl, by simp [tget_tput, q1], by simp [tget_tput, q2], by simp [tget_tput, q3], by simp [tget_tput, q4]⟩
 clear s9 s10
 rintro T h10 ⟨Fi, af, df, Wb, Xb, u0, u6, u7, u8, u9, R, hF, qb, s1, rfl, q1, q2, q3, q4⟩
 have hFl := hF.len
 have hFm : ∀ x ∈ Fi, x ∈ l := fun x hx => by
  obtain ⟨j, hj, _, rfl, _⟩ := hF.of x hx
  exact List.getElem_mem hj
 have rB : ∀ {G : List Asn}, ∀ x ∈ l, AckRd h G x := fun x hx => ⟨Rd.of_base (rx x hx).o, (rx x hx).on, Rd.of_base (rx x hx).r, (rx x hx).rn, Rd.of_base (rx x hx).t, (rx x hx).tn⟩
 refine sr (fun LL hLL => ?_)
 simp only [oxk, simprocAttr, q1, q3, q4]
 refine told_ok (F := [coG βa no 0 false n [] Xa, wn AckX.cells 5 33 af df Fi, own bs (spB g sa L.length sc)]) no 9 true n (by omega) af df Fi (fun h s => (s.mv 1).rs AckX.len) (fun x hx => rB x (hFm x hx)) (fun x hx => hsm x (hFm x hx)) (by omega) true qb (s1.sel 4 [1, 0, 2, 3]) _ fun X1 h11 qb1 s2 => ?_
 simp only [oxk, simprocAttr]
 refine hLL _ _ ?_
 refine sr (fun LL hLL => ?_)
 simp only [oxk, simprocAttr, q1, q3]
 refine told_ok (F := [coG βa no 0 false n [] Xa, wn AckX.cells 5 33 af df Fi, own bs (spB g sa L.length sc)]) no 9 true n (by omega) la lc l (Rd.of_base rl) (fun x hx => rB x hx) hsm (by omega) true qb1 s2 _ fun X2 h12 qb2 s3 => ?_
 simp only [oxk, simprocAttr]
 refine hLL _ _ ?_
 have ca : ∀ t, t < n → toldE n (fun _ => none) l t = some (fstC l t) := fun t ht => toldE_new n l t ht
 have cb : ∀ t, t < n → toldE n (toldE n (fun _ => none) Fi) l t = some (fstC l t) := fun t ht => toldE_old n _ l t _ (by rw [toldE_new n Fi t ht, fstC_find (hF.find t)])
 have gs := (s3.mv 3).get
 have hpt := jb.sp.parts
 have hP8 : ∀ x ∈ P, 1 ≤ x ∧ x ≤ 8 := fun x hx => ⟨(jb.par x hx).1, (jb.par x hx).2.1⟩
 refine sr (fun LL hLL => ?_)
 simp only [oxk, simprocAttr, q2, gs]
 have s4 : St h h12 [coG βa no 0 false (tasksL P).length [] Xa, coG βb no 9 true n [] X2, own bs (spB g sa L.length sc)] := by rw [← en]; exact s3.sel 4 [1, 0, 3]
 refine manifest_ok (F := [coG βb no 9 true n [] X2, own bs (spB g sa L.length sc)]) g sa sc L sp jb.sp.n12 hpt pa pc P (Rd.of_base rP) nP jb.len hP8 βa no 0 false Xa qa.sm (fun t ht => (qa.cont (t := t) (by omega) (ca t (by omega))).1) _ s4 _ fun qa1 qc1 a1 a2 a3 h13 s5 => ?_
 have gz := (s5.push (.cells false 0 manZ 48)).get
 have s6 := (s5.push (.cells false 0 manZ 48)).set (manB no qa1 P qc1 L.length a1 a2 a3)
 obtain ⟨c20, ec20⟩ : ∃ b, b = h13.next := ⟨_, rfl⟩
 simp only [oxk, simprocAttr, gz]
 refine hLL _ _ ?_
 obtain ⟨h14, e14⟩ : ∃ h14, h14 = (h13.push (.cells false 0 manZ 48)).set h13.next (manB no qa1 P qc1 L.length a1 a2 a3) := ⟨_, rfl⟩
 rw [← e14, ← ec20] at s6
 rw [← e14, ← ec20]
 clear e14 gz s5 s4 s3 s2 s1 gs
 have gs := (s6.mv 7).get
 have s7 : St h h14 [coG βb no 9 true (tasksL P).length [] X2, own c20 (manB no qa1 P qc1 L.length a1 a2 a3), wn icell 1 3 qa1 qc1 P, nest icell 1 3 25 (some ⟨a1, 0, none⟩) L.length (manO L P (contX Xa)), nest rcell 3 63 30 (some ⟨a2, 0, none⟩) L.length (manR g L P (contX Xa)), nest r2cell 2 65 31 (some ⟨a3, 0, none⟩) L.length (manT L P (contX Xa)), own bs (spB g sa L.length sc)] := by rw [← en]; exact s6.sel 8 [6, 0, 1, 2, 3, 4, 7]
 refine sr (fun LL hLL => ?_)
 simp only [oxk, simprocAttr, q3, gs]
 refine manifest_ok (F := [own c20 (manB no qa1 P qc1 L.length a1 a2 a3), wn icell 1 3 qa1 qc1 P, nest icell 1 3 25 (some ⟨a1, 0, none⟩) L.length (manO L P (contX Xa)), nest rcell 3 63 30 (some ⟨a2, 0, none⟩) L.length (manR g L P (contX Xa)), nest r2cell 2 65 31 (some ⟨a3, 0, none⟩) L.length (manT L P (contX Xa)), own bs (spB g sa L.length sc)]) g sa sc L sp jb.sp.n12 hpt pa pc P (Rd.of_base rP) nP jb.len hP8 βb no 9 true X2 qb2.sm (fun t ht => (qb2.cont (t := t) (by omega) (cb t (by omega))).1) _ s7 _ fun qa2 qc2 d1 d2 d3 h15 s8 => ?_
 have hcc : ∀ t, t < (tasksL P).length → (contX X2 t).cont = (contX Xa t).cont := fun t ht => by rw [(qa.cont (t := t) (by omega) (ca t (by omega))).2, (qb2.cont (t := t) (by omega) (cb t (by omega))).2]
 obtain ⟨m1, m2, m3⟩ := man_cong (G := g) (L := L) hcc
 rw [m1, m2, m3] at s8
 have hsmall := man_small (G := g) (L := L) (P := P) (C := contX Xa) (by omega) hpt fun t ht => by
  obtain ⟨x, hx⟩ := (qa.cont (t := t) (by omega) (ca t (by omega))).1
  unfold contX
  rw [hx]
  exact qa.sm _ (List.mem_of_find?_eq_some hx)
 have gz := (s8.push (.cells false 0 manZ 48)).get
 have s9 := (s8.push (.cells false 0 manZ 48)).set (manB no qa2 P qc2 L.length d1 d2 d3)
 obtain ⟨c22, ec22⟩ : ∃ b, b = h15.next := ⟨_, rfl⟩
 simp only [oxk, simprocAttr, gz]
 refine hLL _ _ ?_
 obtain ⟨h16, e16⟩ : ∃ h16, h16 = (h15.push (.cells false 0 manZ 48)).set h15.next (manB no qa2 P qc2 L.length d1 d2 d3) := ⟨_, rfl⟩
 rw [← e16, ← ec22] at s9
 rw [← e16, ← ec22]
 clear e16 gz s8 s7 s6 gs
 have g22 := s9.get
 have g20 := (s9.mv 6).get
 refine sr (fun LL hLL => ?_)
 simp only [oxk, simprocAttr, g20, g22]
 refine sameMan_ok (h0 := h) (F := _) no P (manO L P (contX Xa)) (manR g L P (contX Xa)) (manT L P (contX Xa)) L.length (manO_len _ _ _) (manR_len _ _ _ _) (manT_len _ _ _) (by omega) (by have := jb.sp.n12; omega) qa1 qa2 qc1 qc2 _ _ _ _ _ _ _ _ _ _ _ _
  (fun h s => ((s.mv 7).rs icell.len)) (fun h s => ((s.mv 1).rs icell.len)) (fun h s => ((s.mv 8).rsn icell.len)) (fun h s => ((s.mv 2).rsn icell.len)) (fun h s => ((s.mv 9).rsn rcell.len)) (fun h s => ((s.mv 3).rsn rcell.len)) (fun h s => ((s.mv 10).rsn r2cell.len)) (fun h s => ((s.mv 4).rsn r2cell.len)) hsmall.1 hsmall.2.1 hsmall.2.2 _ s9 _ fun h17 s10 => ?_
 have g20' := (s10.mv 6).get
 simp only [oxk, simprocAttr, g20', eq_self]
 refine sameInts_ok P _ _ _ _ _ _ ((s10.mv 7).rs icell.len) (rP.fr s10.base) (by omega) ?_
 simp only [oxk, simprocAttr]
 refine wpF_ext rfl ?_
 simp only [oxk, simprocAttr]
 refine hLL _ _ ?_
 refine wpC_ret (out_ret ?_)
 simp only [oxz, simprocAttr]
 exact hk _ s10.base
end Go.Proofs.Cd

