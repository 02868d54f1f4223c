/-
  A part of the proof: what functions of the program do on an abstract heap. CONDITIONS: none.
-/
import Derived.Test.YtcnlilnkbhefbaaGreatOxZBb
import Derived.Test.YtcnlilnkbhefbaaGreatOxExY
import Derived.Test.YtcnlilnkbhefbaaGreatOxSi
import Derived.Test.YtcnlilnkbhefbaaGreatOxAr
set_option linter.unusedSimpArgs false
set_option linter.unusedVariables false
namespace Go.Proofs
open Go Go.Ox
set_option maxRecDepth 100000
set_option maxHeartbeats 1000000
theorem tbX : TbX oxExt := ⟨by unfold Out; decide, rfl, rfl, fun _ _ => rfl⟩
/-- An operator, and where its inputs stand. -/
structure OpX where
 kind : Int
 inn : List Int
 a : Option Addr
 cap : Nat
 f1 : Int
 f2 : Int
 f3 : Int
 parts : Int
 rate : Int
 cost : Int
def OpX.cells (x : OpX) : List Value := [.int .i64 x.kind, .slice x.a x.inn.length x.cap, .int .i64 x.f1, .int .i64 x.f2, .int .i64 x.f3, .int .i64 x.parts, .int .i64 x.rate, .int .i64 x.cost]
theorem OpX.len (x : OpX) : x.cells.length = 8 := rfl
/-- A job's operators, as they lie. -/
structure SpR (h : AHeap) (a : Option Addr) (L : List OpX) : Prop where
 rs : Rs OpX.cells 8 h a L
 ins : ∀ x ∈ L, Rs icell 1 h x.a x.inn ∧ x.inn.length < 17592186045000
 few : L.length < 17592186044000
theorem SpR.fr {h h' : AHeap} {a : Option Addr} {L : List OpX} (s : SpR h a L) (f : Fr h h' []) : SpR h' a L := ⟨s.rs.fr f, fun x hx => ⟨(s.ins x hx).1.fr f, (s.ins x hx).2⟩, s.few⟩
/-- What is known of one operator's cells. -/
theorem SpR.at {h : AHeap} {a : Option Addr} {L : List OpX} (s : SpR h a L) (i : Nat) (hi : i < L.length) : ∃ b o ro sz C T, a = some ⟨b, o, none⟩ ∧ b < h.next ∧ h.get b = some (.cells ro sz C T) ∧ C[o + i * 8]? = some (.int .i64 L[i].kind) ∧ C[o + i * 8 + 1]? = some (.slice L[i].a L[i].inn.length L[i].cap) ∧
  (C.drop (o + i * 8 + 2)).take 3 = [.int .i64 L[i].f1, .int .i64 L[i].f2, .int .i64 L[i].f3] ∧ o + i * 8 + 2 + 3 ≤ C.length ∧ (C.drop (o + i * 8)).take 8 = L[i].cells ∧ o + i * 8 + 8 ≤ C.length := by
 have hne : L ≠ [] := by rintro rfl; simp at hi
 obtain ⟨b, o, ro, sz, C, T, rfl, p, g, r, q⟩ := s.rs.resolve_left hne
 obtain ⟨w, x⟩ := Rs.row OpX.len r q i hi
 refine ⟨b, o, ro, sz, C, T, rfl, p, g, Rs.cell OpX.len r q i hi 0 (by omega), by rw [Nat.add_assoc]; exact Rs.cell OpX.len r q i hi 1 (by omega), ?_, by omega, w, x⟩
 rw [row_sub (j := 2) (m := 3) w (by omega)]; rfl
theorem has_ok (L : List Int) (n : Int) (a : Option Addr) (c : Nat) (h : AHeap) (r : Rs icell 1 h a L) (hl : L.length < 17592186045000) (K : Value → AHeap → Prop) (hk : K (.bool (decide (n ∈ L))) h) : wpF Tryz.prog (.fn 81) [.slice a L.length c, .int .i64 n] h K := by
 refine wpF_fun 18 [.tmp 4] Tryz.func81 rfl rfl rfl rfl ?_
 refine sr (fun LL hLL => ?_)
 simp only [ptrTo, oxs, simprocAttr]
 refine hLL _ _ ?_
 refine wpC_seq ?_
 refine sr (fun LL hLL => ?_)
 simp only [ptrTo, oxs, simprocAttr]
 refine hLL _ _ ?_
 refine fg6 (fun R => ?_)
 refine wpC_block ?_
 refine wpC_loop (fun k T h' => ∃ (i : Nat) (u2 u3 u4 : Value) (R : List Value), h' = h ∧ k + i = L.length ∧ (¬ n ∈ L.take i) ∧ T = .slice a L.length c :: .int .i64 n :: u2 :: u3 :: u4 :: .int .i64 i :: R) ?_ L.length _ _ ⟨0, _, _, _, R, rfl, by omega, by simp, rfl⟩
 rintro k T h' ⟨i, u2, u3, u4, R, rfl, hki, hn, rfl⟩
 refine wpC_seq (sr fun LL hLL => ?_)
 simp only [ptrTo, oxs, simprocAttr]
 refine hLL _ _ ?_
 refine wpC_if ?_
 simp only [ptrTo, oxs, simprocAttr]
 refine gC_of (fun hc => ?_) (fun hc => ?_)
 ·refine wpC_skip ?_
  simp only [ptrTo, oxs, simprocAttr]
  refine fg6 (fun R => ?_)
  have hi : i < L.length := by omega
  have hne : L ≠ [] := by rintro rfl; simp at hi
  obtain ⟨b1, o1, ro1, sz1, C1, e1, rfl, p1, g1, r1, q1⟩ := r.resolve_left hne
  have w1 : C1[o1 + i * 1]? = some (.int .i64 L[i]) := Rs.cell icell.len r1 q1 i hi 0 (by omega)
  refine wpC_seq (wpC_block ?_)
  by_cases hx : L[i] = n
  ·refine sr (fun LL hLL => ?_)
   simp only [ptrTo, oxs, simprocAttr, ixF hi, g1, w1, eq_true hx]
   refine hLL _ _ ?_
   refine wpC_if ?_
   simp only [ptrTo, oxs, simprocAttr]
   refine sr (fun LL hLL => ?_)
   simp only [ptrTo, oxs, simprocAttr]
   refine hLL _ _ ?_
   refine wpC_ret (out_ret ?_)
   simp only [ptrTo, oxs, simprocAttr]
   rw [decide_eq_true (by rw [← hx]; exact List.getElem_mem hi)] at hk
   exact hk
  ·refine sr (fun LL hLL => ?_)
   simp only [ptrTo, oxs, simprocAttr, ixF hi, g1, w1, eq_false hx]
   refine hLL _ _ ?_
   refine wpC_if ?_
   simp only [ptrTo, oxs, simprocAttr]
   refine wpC_skip ?_
   simp only [ptrTo, oxs, simprocAttr]
   refine fg6 (fun R => ?_)
   refine rg (fun LL hLL => ?_)
   simp only [ptrTo, oxs, simprocAttr, wsucc (show i < 9223372036854775807 by omega)]
   refine hLL _ _ ?_
   simp only [ptrTo, oxs, simprocAttr]
   refine ⟨k - 1, by omega, i + 1, _, _, _, _, by omega, ?_, rfl⟩
   rw [List.take_succ_eq_append_getElem hi, List.mem_append, not_or]
   exact ⟨hn, by simp; exact fun e => hx e.symm⟩
 ·have hil : i = L.length := by omega
  subst hil
  refine wpC_exit ?_
  simp only [ptrTo, oxs, simprocAttr]
  refine fg6 (fun R => ?_)
  refine sr (fun LL hLL => ?_)
  simp only [ptrTo, oxs, simprocAttr]
  refine hLL _ _ ?_
  refine wpC_ret (out_ret ?_)
  simp only [ptrTo, oxs, simprocAttr]
  rw [List.take_length] at hn
  rw [decide_eq_false hn] at hk
  exact hk
end Go.Proofs

namespace Go.Proofs
open Go Go.Ox
set_option maxRecDepth 100000
set_option maxHeartbeats 1000000
/-- A job, boxed. -/
abbrev spB (g : Int) (a : Option Addr) (n c : Nat) : ABlk := .cells false 0 [.int .i64 g, .slice a n c] 24
theorem kind_ok {h0 : AHeap} {F : List Asn} (g : Int) (a : Option Addr) (c : Nat) (L : List OpX) (sp : SpR h0 a L) (kd : Int) (h : AHeap) (s : St h0 h F) (K : Value → AHeap → Prop)
  (hk : ∀ b d Q h', (∀ x ∈ Q, 0 ≤ x ∧ x < (L.length : Int)) → Q.length ≤ L.length → St h0 h' (wn icell 1 3 b d Q :: F) → K (.slice b Q.length d) h') : wpF Tryz.prog (.fn 102) [.agg #[.int .i64 g, .slice a L.length c], .int .i64 kd] h K := by
 have hfew := sp.few
 refine wpF_fun 27 [.tmp 4] Tryz.func102 rfl rfl rfl rfl ?_
 have s1 := s.push (spB g a L.length c)
 obtain ⟨h1, e1⟩ : ∃ h1, h1 = h.push (spB g a L.length c) := ⟨_, rfl⟩
 obtain ⟨bs, ebs⟩ : ∃ b, b = h.next := ⟨_, rfl⟩
 rw [← e1, ← ebs] at s1
 refine sr (fun LL hLL => ?_)
 simp only [ptrTo, oxs, simprocAttr]
 refine hLL _ _ ?_
 rw [← e1, ← ebs]
 refine sr (fun LL hLL => ?_)
 simp only [ptrTo, oxs, simprocAttr]
 refine hLL _ _ ?_
 refine wpC_seq ?_
 refine sr (fun LL hLL => ?_)
 simp only [ptrTo, oxs, simprocAttr]
 refine hLL _ _ ?_
 refine fg7 (fun R => ?_)
 refine wpC_block ?_
 refine wpC_loop (fun k T h' => ∃ (i : Nat) (b : Option Addr) (d : Nat) (Q : List Int) (u0 u3 u4 : Value) (R : List Value), k + i = L.length ∧ (∀ x ∈ Q, 0 ≤ x ∧ x < (L.length : Int)) ∧ Q.length ≤ i ∧ St h0 h' (wn icell 1 3 b d Q :: own bs (spB g a L.length c) :: F) ∧
  T = u0 :: .int .i64 kd :: .pointer (some ⟨bs, 0, none⟩) :: u3 :: u4 :: .slice b Q.length d :: .int .i64 i :: R) ?_ L.length _ _ ⟨0, none, 0, [], _, _, _, R, by omega, by simp, by simp, s1.wn_nil, rfl⟩
 rintro k T h' ⟨i, b, d, Q, u0, u3, u4, R, hki, hQ, hQl, s2, rfl⟩
 have gs := (s2.mv 1).get
 refine wpC_seq (sr fun LL hLL => ?_)
 simp only [ptrTo, oxs, simprocAttr, gs]
 refine hLL _ _ ?_
 refine wpC_if ?_
 simp only [ptrTo, oxs, simprocAttr]
 refine gC_of (fun hc => ?_) (fun hc => ?_)
 ·refine wpC_skip ?_
  simp only [ptrTo, oxs, simprocAttr]
  refine fg7 (fun R => ?_)
  have hi : i < L.length := by omega
  obtain ⟨b1, o1, ro1, sz1, C1, T1, rfl, p1, g1, w0, w1, w2, x2, w8, x8⟩ := (sp.fr s2.base).at i hi
  refine wpC_seq (wpC_block ?_)
  by_cases hx : L[i].kind = kd
  ·refine sr (fun LL hLL => ?_)
   simp only [ptrTo, oxs, simprocAttr, gs, ixF hi, g1, w0, eq_true hx]
   refine hLL _ _ ?_
   refine wpC_if ?_
   simp only [ptrTo, oxs, simprocAttr]
   have zz : aZeros [.int .i64 0] 1 = [.int .i64 0] := rfl
   refine rg (fun LL hLL => ?_)
   simp only [ptrTo, oxs, simprocAttr, zz]
   obtain ⟨h6, e6⟩ : ∃ h6, h6 = h'.push (.cells false 1 [.int .i64 i] 3) := ⟨_, rfl⟩
   have s6 := s2.push (.cells false 1 [.int .i64 i] 3)
   rw [← e6] at s6
   obtain ⟨aE, cE, h7, y1, y2⟩ := (s6.mv 1).app (M := [(i : Int)]) (bytes := 8) (d := 1) (s' := some ⟨h'.next, 0, none⟩) icell.len icell.oc (fst_all s6.get rfl) (by simp; omega) (by simp; omega)
   rw [show ([(i : Int)] : List Int).length = 1 from rfl] at y1
   rw [← e6, y1]
   simp only [ptrTo, oxs, simprocAttr]
   refine hLL _ _ ?_
   simp only [ptrTo, oxs, simprocAttr]
   refine fg7 (fun R => ?_)
   refine rg (fun LL hLL => ?_)
   simp only [ptrTo, oxs, simprocAttr, wsucc (show i < 9223372036854775807 by omega)]
   refine hLL _ _ ?_
   simp only [ptrTo, oxs, simprocAttr]
   refine ⟨k - 1, by omega, i + 1, aE, cE, Q ++ [(i : Int)], _, _, _, _, by omega, fun x hx => ?_, by simp; omega, ?_, rfl⟩
   ·rcases List.mem_append.1 hx with hx | hx
    ·exact hQ x hx
    ·obtain rfl := List.mem_singleton.1 hx
     omega
   ·have s8 := (y2).sel 2 [0]
    simp only [oxf] at s8
    exact s8
  ·refine sr (fun LL hLL => ?_)
   simp only [ptrTo, oxs, simprocAttr, gs, ixF hi, g1, w0, eq_false hx]
   refine hLL _ _ ?_
   refine wpC_if ?_
   simp only [ptrTo, oxs, simprocAttr]
   refine wpC_skip ?_
   simp only [ptrTo, oxs, simprocAttr]
   refine fg7 (fun R => ?_)
   refine rg (fun LL hLL => ?_)
   simp only [ptrTo, oxs, simprocAttr, wsucc (show i < 9223372036854775807 by omega)]
   refine hLL _ _ ?_
   simp only [ptrTo, oxs, simprocAttr]
   exact ⟨k - 1, by omega, i + 1, b, d, Q, _, _, _, _, by omega, hQ, by omega, s2, rfl⟩
 ·refine wpC_exit ?_
  simp only [ptrTo, oxs, simprocAttr]
  refine fg7 (fun R => ?_)
  refine sr (fun LL hLL => ?_)
  simp only [ptrTo, oxs, simprocAttr]
  refine hLL _ _ ?_
  refine wpC_ret (out_ret ?_)
  simp only [ptrTo, oxs, simprocAttr]
  have s3 := (s2).sel 2 [0]
  simp only [oxf] at s3
  exact hk _ _ _ _ hQ (by omega) s3
theorem sources_ok {h0 : AHeap} {F : List Asn} (g : Int) (a : Option Addr) (c : Nat) (L : List OpX) (sp : SpR h0 a L) (h : AHeap) (s : St h0 h F) (K : Value → AHeap → Prop)
  (hk : ∀ b d Q h', (∀ x ∈ Q, 0 ≤ x ∧ x < (L.length : Int)) → Q.length ≤ L.length → St h0 h' (wn icell 1 3 b d Q :: F) → K (.slice b Q.length d) h') : wpF Tryz.prog (.fn 95) [.agg #[.int .i64 g, .slice a L.length c]] h K := by
 refine wpF_fun 5 [.tmp 2] Tryz.func95 rfl rfl rfl rfl ?_
 have s1 := s.push (spB g a L.length c)
 obtain ⟨h1, e1⟩ : ∃ h1, h1 = h.push (spB g a L.length c) := ⟨_, rfl⟩
 obtain ⟨bs, ebs⟩ : ∃ b, b = h.next := ⟨_, rfl⟩
 rw [← e1, ← ebs] at s1
 refine sr (fun LL hLL => ?_)
 simp only [ptrTo, oxs, simprocAttr]
 refine hLL _ _ ?_
 rw [← e1, ← ebs]
 have gs := s1.get
 refine sr (fun LL hLL => ?_)
 simp only [ptrTo, oxs, simprocAttr, gs]
 refine kind_ok g a c L sp _ _ s1 _ fun b d Q h2 hQ hl s2 => ?_
 refine hLL _ _ ?_
 refine wpC_ret (out_ret ?_)
 simp only [ptrTo, oxs, simprocAttr]
 have s3 := (s2).sel 2 [0]
 simp only [oxf] at s3
 exact hk _ _ _ _ hQ hl s3
theorem users_ok {h0 : AHeap} {F : List Asn} (g : Int) (a : Option Addr) (c : Nat) (L : List OpX) (sp : SpR h0 a L) (op : Int) (h : AHeap) (s : St h0 h F) (K : Value → AHeap → Prop)
  (hk : ∀ b d (n : Nat) h', n ≤ L.length → St h0 h' F → K (.slice b n d) h') : wpF Tryz.prog (.fn 60) [.agg #[.int .i64 g, .slice a L.length c], .int .i64 op] h K := by
 have hfew := sp.few
 refine wpF_fun 27 [.tmp 4] Tryz.func60 rfl rfl rfl rfl ?_
 have s1 := s.push (spB g a L.length c)
 obtain ⟨h1, e1⟩ : ∃ h1, h1 = h.push (spB g a L.length c) := ⟨_, rfl⟩
 obtain ⟨bs, ebs⟩ : ∃ b, b = h.next := ⟨_, rfl⟩
 rw [← e1, ← ebs] at s1
 refine sr (fun LL hLL => ?_)
 simp only [ptrTo, oxs, simprocAttr]
 refine hLL _ _ ?_
 rw [← e1, ← ebs]
 refine sr (fun LL hLL => ?_)
 simp only [ptrTo, oxs, simprocAttr]
 refine hLL _ _ ?_
 refine wpC_seq ?_
 refine sr (fun LL hLL => ?_)
 simp only [ptrTo, oxs, simprocAttr]
 refine hLL _ _ ?_
 refine fg7 (fun R => ?_)
 refine wpC_block ?_
 refine wpC_loop (fun k T h' => ∃ (i : Nat) (b : Option Addr) (d : Nat) (Q : List Int) (u0 u3 u4 : Value) (R : List Value), k + i = L.length ∧ Q.length ≤ i ∧ St h0 h' (wn icell 1 3 b d Q :: own bs (spB g a L.length c) :: F) ∧
  T = u0 :: .int .i64 op :: .pointer (some ⟨bs, 0, none⟩) :: u3 :: u4 :: .slice b Q.length d :: .int .i64 i :: R) ?_ L.length _ _ ⟨0, none, 0, [], _, _, _, R, by omega, by simp, s1.wn_nil, rfl⟩
 rintro k T h' ⟨i, b, d, Q, u0, u3, u4, R, hki, hQl, s2, rfl⟩
 have gs := (s2.mv 1).get
 refine wpC_seq (sr fun LL hLL => ?_)
 simp only [ptrTo, oxs, simprocAttr, gs]
 refine hLL _ _ ?_
 refine wpC_if ?_
 simp only [ptrTo, oxs, simprocAttr]
 refine gC_of (fun hc => ?_) (fun hc => ?_)
 ·refine wpC_skip ?_
  simp only [ptrTo, oxs, simprocAttr]
  refine fg7 (fun R => ?_)
  have hi : i < L.length := by omega
  obtain ⟨b1, o1, ro1, sz1, C1, T1, rfl, p1, g1, w0, w1, w2, x2, w8, x8⟩ := (sp.fr s2.base).at i hi
  have hin := sp.ins L[i] (List.getElem_mem hi)
  refine wpC_seq (wpC_block ?_)
  refine sr (fun LL hLL => ?_)
  simp only [ptrTo, pend, pend0, Pd.old, pendU, pendU0, Nat.testBit, oxh, simprocAttr, gs, ixF hi, g1, w1]
  refine has_ok L[i].inn op _ _ _ (hin.1.fr s2.base) hin.2 _ ?_
  simp only [ptrTo, pend, pend0, Pd.old, pendU, pendU0, Nat.testBit, oxh, simprocAttr]
  refine hLL _ _ ?_
  refine wpC_if ?_
  simp only [ptrTo, oxs, simprocAttr]
  refine gC_of (fun hx => ?_) (fun hx => ?_)
  ·have zz : aZeros [.int .i64 0] 1 = [.int .i64 0] := rfl
   refine rg (fun LL hLL => ?_)
   simp only [ptrTo, oxs, simprocAttr, zz]
   obtain ⟨h6, e6⟩ : ∃ h6, h6 = h'.push (.cells false 1 [.int .i64 i] 3) := ⟨_, rfl⟩
   have s6 := s2.push (.cells false 1 [.int .i64 i] 3)
   rw [← e6] at s6
   obtain ⟨aE, cE, h7, y1, y2⟩ := (s6.mv 1).app (M := [(i : Int)]) (bytes := 8) (d := 1) (s' := some ⟨h'.next, 0, none⟩) icell.len icell.oc (fst_all s6.get rfl) (by simp; omega) (by simp; omega)
   rw [show ([(i : Int)] : List Int).length = 1 from rfl] at y1
   rw [← e6, y1]
   simp only [ptrTo, oxs, simprocAttr]
   refine hLL _ _ ?_
   simp only [ptrTo, oxs, simprocAttr]
   refine fg7 (fun R => ?_)
   refine rg (fun LL hLL => ?_)
   simp only [ptrTo, oxs, simprocAttr, wsucc (show i < 9223372036854775807 by omega)]
   refine hLL _ _ ?_
   simp only [ptrTo, oxs, simprocAttr]
   refine ⟨k - 1, by omega, i + 1, aE, cE, Q ++ [(i : Int)], _, _, _, _, by omega, by simp; omega, ?_, rfl⟩
   have s8 := (y2).sel 2 [0]
   simp only [oxf] at s8
   exact s8
  ·refine wpC_skip ?_
   simp only [ptrTo, oxs, simprocAttr]
   refine fg7 (fun R => ?_)
   refine rg (fun LL hLL => ?_)
   simp only [ptrTo, oxs, simprocAttr, wsucc (show i < 9223372036854775807 by omega)]
   refine hLL _ _ ?_
   simp only [ptrTo, oxs, simprocAttr]
   exact ⟨k - 1, by omega, i + 1, b, d, Q, _, _, _, _, by omega, by omega, s2, rfl⟩
 ·refine wpC_exit ?_
  simp only [ptrTo, oxs, simprocAttr]
  refine fg7 (fun R => ?_)
  refine sr (fun LL hLL => ?_)
  simp only [ptrTo, oxs, simprocAttr]
  refine hLL _ _ ?_
  refine wpC_ret (out_ret ?_)
  simp only [ptrTo, oxs, simprocAttr]
  exact hk _ _ _ _ (by omega) s2.drop.drop
end Go.Proofs

namespace Go.Proofs
open Go Go.Ox
set_option maxRecDepth 100000
set_option maxHeartbeats 4000000
theorem dq (p : Prop) [Decidable p] : ∃ q : Bool, decide p = q := ⟨_, rfl⟩
theorem eqFn (x y : Operand) (a b c : Int) : ∃ q : Bool, aBin Tryz.prog .eql 67 x y (.agg #[.int .i64 a, .int .i64 b, .int .i64 c]) (.agg #[.int .i64 0, .int .i64 0, .int .i64 0]) = some (.bool q) := by
 have h := (aBin_nums (P := Tryz.prog) Tryz.underlying67 (by decide +kernel) (by decide +kernel) (by rfl) x y [a, b, c] [0, 0, 0] rfl rfl).2
 exact ⟨_, h⟩
theorem may_ok {h0 : AHeap} {F : List Asn} (kd f1 f2 f3 : Int) (h : AHeap) (s : St h0 h F) (K : Value → AHeap → Prop) (hk : ∀ (b : Bool) h', St h0 h' F → K (.bool b) h') : wpF Tryz.prog (.fn 80) [.int .i64 kd, .agg #[.int .i64 f1, .int .i64 f2, .int .i64 f3]] h K := by
 refine wpF_fun 117 [.tmp 4] Tryz.func80 rfl rfl rfl rfl ?_
 have s1 := s.push (.cells false 0 [.int .i64 f1, .int .i64 f2, .int .i64 f3] 67)
 obtain ⟨h1, e1⟩ : ∃ h1, h1 = h.push (.cells false 0 [.int .i64 f1, .int .i64 f2, .int .i64 f3] 67) := ⟨_, rfl⟩
 obtain ⟨bs, ebs⟩ : ∃ b, b = h.next := ⟨_, rfl⟩
 rw [← e1, ← ebs] at s1
 refine sr (fun LL hLL => ?_)
 simp only [ptrTo, oxs, simprocAttr]
 refine hLL _ _ ?_
 rw [← e1, ← ebs]
 have gs := s1.get
 have sF := s1.drop
 obtain ⟨q1, e11⟩ := dq (1 ≤ f1)
 obtain ⟨q2, e12⟩ := dq (f1 ≤ 4)
 obtain ⟨q3, e13⟩ := dq (f3 = 0)
 refine sm (fun T h' => h' = h1 ∧ ∃ (fold : Bool) (u1 u2 : Value) (R : List Value), T = .int .i64 kd :: u1 :: u2 :: .pointer (some ⟨bs, 0, none⟩) :: .bool false :: .bool fold :: R) ?_ ?_
 ·cases q1 <;> cases q2 <;> cases q3
  all_goals
   refine rg (fun LL hLL => ?_)
   simp only [ptrTo, oxs, simprocAttr, gs, e11, e12, e13]
   refine hLL _ _ ?_
   simp only [ptrTo, oxs, simprocAttr]
   exact ⟨_, _, _, _, rfl⟩
 ·rintro T h' ⟨rfl, fold, u1, u2, R, rfl⟩
  refine wpC_seq ?_
  refine sr (fun LL hLL => ?_)
  simp only [ptrTo, oxs, simprocAttr]
  refine hLL _ _ ?_
  refine wpC_block ?_
  by_cases k2 : kd = 2
  ·obtain ⟨p1, d1⟩ := dq (1 ≤ f1)
   obtain ⟨p2, d2⟩ := dq (f1 ≤ 7)
   obtain ⟨p3, d3⟩ := dq (f3 = 0)
   obtain ⟨p4, d4⟩ := dq (¬ f1 = 5)
   obtain ⟨p5, d5⟩ := dq (1 ≤ f2)
   refine sr (fun LL hLL => ?_)
   simp only [ptrTo, oxs, simprocAttr, eq_true k2]
   refine hLL _ _ ?_
   refine wpC_if ?_
   simp only [ptrTo, oxs, simprocAttr]
   cases p1 <;> cases p2 <;> cases p3 <;> cases p4 <;> cases p5
   all_goals
    refine sr (fun LL hLL => ?_)
    simp only [ptrTo, oxs, simprocAttr, gs, d1, d2, d3, d4, d5]
    refine hLL _ _ ?_
    refine wpC_ret (out_ret ?_)
    simp only [ptrTo, oxs, simprocAttr]
    exact hk _ _ sF
  refine sr (fun LL hLL => ?_)
  simp only [ptrTo, oxs, simprocAttr, eq_false k2]
  refine hLL _ _ ?_
  refine wpC_if ?_
  simp only [ptrTo, oxs, simprocAttr]
  by_cases k3 : kd = 3
  ·obtain ⟨p1, d1⟩ := dq (f1 = 1)
   obtain ⟨p2, d2⟩ := dq (f3 = 0)
   obtain ⟨p3, d3⟩ := dq (f1 = 2)
   obtain ⟨p4, d4⟩ := dq (f1 = 3)
   obtain ⟨p5, d5⟩ := dq (1 ≤ f2)
   obtain ⟨p6, d6⟩ := dq (0 ≤ f3)
   obtain ⟨p7, d7⟩ := dq (f3 < f2)
   refine sr (fun LL hLL => ?_)
   simp only [ptrTo, oxs, simprocAttr, eq_true k3]
   refine hLL _ _ ?_
   refine wpC_if ?_
   simp only [ptrTo, oxs, simprocAttr]
   cases p1
   ·refine wpC_seq (sr fun LL hLL => ?_)
    simp only [ptrTo, oxs, simprocAttr, gs, d1]
    refine hLL _ _ ?_
    refine wpC_if ?_
    simp only [ptrTo, oxs, simprocAttr]
    refine wpC_skip ?_
    simp only [ptrTo, oxs, simprocAttr]
    refine fg6 (fun R => ?_)
    cases p3 <;> cases p4 <;> cases p5 <;> cases p6 <;> cases p7
    all_goals
     refine sr (fun LL hLL => ?_)
     simp only [ptrTo, oxs, simprocAttr, gs, d3, d4, d5, d6, d7]
     refine hLL _ _ ?_
     refine wpC_ret (out_ret ?_)
     simp only [ptrTo, oxs, simprocAttr]
     exact hk _ _ sF
   ·refine wpC_seq (sr fun LL hLL => ?_)
    simp only [ptrTo, oxs, simprocAttr, gs, d1]
    refine hLL _ _ ?_
    refine wpC_if ?_
    simp only [ptrTo, oxs, simprocAttr]
    refine sr (fun LL hLL => ?_)
    simp only [ptrTo, oxs, simprocAttr, gs, d2]
    refine hLL _ _ ?_
    refine wpC_ret (out_ret ?_)
    simp only [ptrTo, oxs, simprocAttr]
    exact hk _ _ sF
  refine sr (fun LL hLL => ?_)
  simp only [ptrTo, oxs, simprocAttr, eq_false k3]
  refine hLL _ _ ?_
  refine wpC_if ?_
  simp only [ptrTo, oxs, simprocAttr]
  by_cases k4 : kd = 4
  ·obtain ⟨p1, d1⟩ := dq (f1 = 0)
   obtain ⟨p2, d2⟩ := dq (0 ≤ f2)
   obtain ⟨p3, d3⟩ := dq (f2 ≤ 4)
   refine sr (fun LL hLL => ?_)
   simp only [ptrTo, oxs, simprocAttr, eq_true k4]
   refine hLL _ _ ?_
   refine wpC_if ?_
   simp only [ptrTo, oxs, simprocAttr]
   cases p1 <;> cases p2 <;> cases p3
   all_goals
    refine sr (fun LL hLL => ?_)
    simp only [ptrTo, oxs, simprocAttr, gs, d1, d2, d3]
    refine hLL _ _ ?_
    refine wpC_ret (out_ret ?_)
    simp only [ptrTo, oxs, simprocAttr]
    exact hk _ _ sF
  refine sr (fun LL hLL => ?_)
  simp only [ptrTo, oxs, simprocAttr, eq_false k4]
  refine hLL _ _ ?_
  refine wpC_if ?_
  simp only [ptrTo, oxs, simprocAttr]
  by_cases k5 : kd = 5
  ·obtain ⟨p1, d1⟩ := dq (f2 = 0)
   refine sr (fun LL hLL => ?_)
   simp only [ptrTo, oxs, simprocAttr, eq_true k5]
   refine hLL _ _ ?_
   refine wpC_if ?_
   simp only [ptrTo, oxs, simprocAttr]
   cases fold <;> cases p1
   all_goals
    refine sr (fun LL hLL => ?_)
    simp only [ptrTo, oxs, simprocAttr, gs, d1]
    refine hLL _ _ ?_
    refine wpC_ret (out_ret ?_)
    simp only [ptrTo, oxs, simprocAttr]
    exact hk _ _ sF
  refine sr (fun LL hLL => ?_)
  simp only [ptrTo, oxs, simprocAttr, eq_false k5]
  refine hLL _ _ ?_
  refine wpC_if ?_
  simp only [ptrTo, oxs, simprocAttr]
  by_cases k6 : kd = 6
  ·obtain ⟨p1, d1⟩ := dq (1 ≤ f2)
   obtain ⟨p2, d2⟩ := dq (f2 ≤ 16)
   refine sr (fun LL hLL => ?_)
   simp only [ptrTo, oxs, simprocAttr, eq_true k6]
   refine hLL _ _ ?_
   refine wpC_if ?_
   simp only [ptrTo, oxs, simprocAttr]
   cases fold <;> cases p1 <;> cases p2
   all_goals
    refine sr (fun LL hLL => ?_)
    simp only [ptrTo, oxs, simprocAttr, gs, d1, d2]
    refine hLL _ _ ?_
    refine wpC_ret (out_ret ?_)
    simp only [ptrTo, oxs, simprocAttr]
    exact hk _ _ sF
  refine sr (fun LL hLL => ?_)
  simp only [ptrTo, oxs, simprocAttr, eq_false k6]
  refine hLL _ _ ?_
  refine wpC_if ?_
  simp only [ptrTo, oxs, simprocAttr]
  refine wpC_skip ?_
  simp only [ptrTo, oxs, simprocAttr]
  refine fg6 (fun R => ?_)
  have vf : ∀ x y : Operand, ∃ q : Bool, aBin Tryz.prog .eql 67 x y (.agg #[.int .i64 f1, .int .i64 f2, .int .i64 f3]) (.agg #[.int .i64 0, .int .i64 0, .int .i64 0]) = some (.bool q) := fun x y => eqFn x y f1 f2 f3
  obtain ⟨q, hq⟩ := vf (.tmp 114) (.tmp 115)
  refine sr (fun LL hLL => ?_)
  simp only [ptrTo, oxs, simprocAttr, gs, hq]
  refine hLL _ _ ?_
  refine wpC_ret (out_ret ?_)
  simp only [ptrTo, oxs, simprocAttr]
  exact hk _ _ sF
end Go.Proofs

namespace Go.Proofs
open Go Go.Ox
set_option maxRecDepth 100000
set_option maxHeartbeats 4000000
/-- Inputs that are operators. -/
def InnOk (L : List OpX) (x : OpX) : Prop := ∀ y ∈ x.inn, 0 ≤ y ∧ y < (L.length : Int)
theorem inputs_ok {h0 : AHeap} {F : List Asn} (g : Int) (a : Option Addr) (c : Nat) (L : List OpX) (sp : SpR h0 a L) (i : Nat) (hi : i < L.length) (h : AHeap) (s : St h0 h F) (K : Value → AHeap → Prop)
  (hk : ∀ (b : Bool) h', (b = true → InnOk L L[i]) → St h0 h' F → K (.bool b) h') : wpF Tryz.prog (.fn 79) [.agg #[.int .i64 g, .slice a L.length c], .int .i64 i] h K := by
 have hfew := sp.few
 refine wpF_fun 76 [.tmp 4] Tryz.func79 rfl rfl rfl rfl ?_
 have s1 := s.push (spB g a L.length c)
 obtain ⟨h1, e1⟩ : ∃ h1, h1 = h.push (spB g a L.length c) := ⟨_, rfl⟩
 obtain ⟨bs, ebs⟩ : ∃ b, b = h.next := ⟨_, rfl⟩
 rw [← e1, ← ebs] at s1
 refine sr (fun LL hLL => ?_)
 simp only [ptrTo, oxs, simprocAttr]
 refine hLL _ _ ?_
 rw [← e1, ← ebs]
 have gs := s1.get
 have sF := s1.drop
 obtain ⟨b1, o1, ro1, sz1, C1, T1, ea, p1, g1, w0, w1, w2, x2, w8, x8⟩ := (sp.fr s1.base).at i hi
 have hin := sp.ins L[i] (List.getElem_mem hi)
 have rin := hin.1.fr s1.base
 have hil := hin.2
 subst ea
 refine sr (fun LL hLL => ?_)
 simp only [ptrTo, oxs, simprocAttr, gs, ixF hi, g1, w1]
 refine hLL _ _ ?_
 refine fg8 (fun R => ?_)
 obtain ⟨I, eI⟩ : ∃ I, I = L[i].inn := ⟨_, rfl⟩
 rw [← eI] at rin hil
 rw [← eI]
 obtain ⟨ai, eai⟩ : ∃ x, x = L[i].a := ⟨_, rfl⟩
 obtain ⟨ci, eci⟩ : ∃ x, x = L[i].cap := ⟨_, rfl⟩
 rw [← eai] at rin
 rw [← eai, ← eci]
 refine sm (fun T h' => h' = h1 ∧ (∀ y ∈ I, 0 ≤ y ∧ y < (L.length : Int)) ∧ ∃ (u0 u3 u4 u6 u7 : Value) (R : List Value), T = u0 :: .int .i64 i :: .pointer (some ⟨bs, 0, none⟩) :: u3 :: u4 :: .slice ai I.length ci :: u6 :: u7 :: R) ?_ ?_
 ·refine sr (fun LL hLL => ?_)
  simp only [ptrTo, oxs, simprocAttr]
  refine hLL _ _ ?_
  refine fg8 (fun R => ?_)
  refine wpC_block ?_
  refine wpC_loop (fun m T h' => ∃ (k : Nat) (u0 u3 u4 u7 : Value) (R : List Value), h' = h1 ∧ m + k = I.length ∧ (∀ y ∈ I.take k, 0 ≤ y ∧ y < (L.length : Int)) ∧ T = u0 :: .int .i64 i :: .pointer (some ⟨bs, 0, none⟩) :: u3 :: u4 :: .slice ai I.length ci :: .int .i64 k :: u7 :: R) ?_ I.length _ _ ⟨0, _, _, _, _, R, rfl, by omega, by simp, rfl⟩
  rintro m T h' ⟨k, u0, u3, u4, u7, R, rfl, hmk, hI, rfl⟩
  refine wpC_seq (sr fun LL hLL => ?_)
  simp only [ptrTo, oxs, simprocAttr]
  refine hLL _ _ ?_
  refine wpC_if ?_
  simp only [ptrTo, oxs, simprocAttr]
  refine gC_of (fun hc => ?_) (fun hc => ?_)
  ·refine wpC_skip ?_
   simp only [ptrTo, oxs, simprocAttr]
   refine fg8 (fun R => ?_)
   have hk' : k < I.length := by omega
   have hne : I ≠ [] := by rintro rfl; simp at hk'
   obtain ⟨b3, o3, ro3, sz3, C3, T3, e3, p3, g3, r3, q3⟩ := rin.resolve_left hne
   subst e3
   have v1 : C3[o3 + k * 1]? = some (.int .i64 I[k]) := Rs.cell icell.len r3 q3 k hk' 0 (by omega)
   refine wpC_seq (wpC_block ?_)
   refine wpC_seq ?_
   obtain ⟨z1, d1⟩ := dq (I[k] < 0)
   obtain ⟨z2, d2⟩ := dq ((L.length : Int) ≤ I[k])
   obtain ⟨z3, d3⟩ := dq (I[k] = (i : Int))
   cases z1 <;> cases z2 <;> cases z3
   case false.false.false =>
    refine su [some 20, some 21, some 22, some 23, some 24, some 25, some 26, some 27, some 28, some 29, some 30, some 31, some 32, some 33, some 34, some 35, some 36, some 37, some 38, some 39, some 40, some 41, some 42] 23 [0, 0, 3, 7, 15, 31, 63, 63, 255, 511, 63, 1087, 3135, 8191, 16383, 32767, 65535, 65535, 262143, 524287, 65535, 2097151, 4194303] (by rfl) (by rfl) (by decide +kernel) (by decide +kernel) (by decide +kernel) (fun LL hLL => ?_)
    simp only [ptrTo, pend, pend0, Pd.old, pendU, pendU0, Nat.testBit, oxs, simprocAttr, gs, ixF hk', g3, v1, d1, d2, d3]
    refine hLL _ _ ?_
    refine wpC_if ?_
    simp only [ptrTo, oxs, simprocAttr]
    refine wpC_skip ?_
    simp only [ptrTo, oxs, simprocAttr]
    refine fg8 (fun R => ?_)
    refine sr (fun LL hLL => ?_)
    simp only [ptrTo, oxs, simprocAttr]
    refine hLL _ _ ?_
    refine fg8 (fun R => ?_)
    have hx : 0 ≤ I[k] ∧ I[k] < (L.length : Int) := by
     simp only [decide_eq_false_iff_not] at d1 d2
     omega
    refine wpC_block ?_
    refine wpC_loop (fun m T h'' => ∃ (j : Nat) (u0 u3 u4 : Value) (R : List Value), h'' = h' ∧ m + j = k ∧ T = u0 :: .int .i64 i :: .pointer (some ⟨bs, 0, none⟩) :: u3 :: u4 :: .slice (some ⟨b3, o3, none⟩) I.length ci :: .int .i64 k :: .int .i64 j :: R) ?_ k _ _ ⟨0, _, _, _, R, rfl, by omega, rfl⟩
    rintro m2 T2 h2' ⟨j, u0, u3, u4, R, rfl, hmj, rfl⟩
    refine wpC_seq (sr fun LL hLL => ?_)
    simp only [ptrTo, oxs, simprocAttr]
    refine hLL _ _ ?_
    refine wpC_if ?_
    simp only [ptrTo, oxs, simprocAttr]
    refine gC_of (fun hc2 => ?_) (fun hc2 => ?_)
    ·refine wpC_skip ?_
     simp only [ptrTo, oxs, simprocAttr]
     refine fg8 (fun R => ?_)
     have hj : j < I.length := by omega
     have v2 : C3[o3 + j * 1]? = some (.int .i64 I[j]) := Rs.cell icell.len r3 q3 j hj 0 (by omega)
     refine wpC_seq (wpC_block ?_)
     by_cases he : I[j] = I[k]
     ·refine su [some 48, some 49, some 50, some 51, some 52, some 53, some 54, some 55, some 56] 9 [0, 0, 3, 7, 0, 0, 48, 112, 255] (by rfl) (by rfl) (by decide +kernel) (by decide +kernel) (by decide +kernel) (fun LL hLL => ?_)
      simp only [ptrTo, pend, pend0, Pd.old, pendU, pendU0, Nat.testBit, oxs, simprocAttr, ixF hk', ixF hj, g3, v1, v2, eq_true he]
      refine hLL _ _ ?_
      refine wpC_if ?_
      simp only [ptrTo, oxs, simprocAttr]
      refine sr (fun LL hLL => ?_)
      simp only [ptrTo, oxs, simprocAttr]
      refine hLL _ _ ?_
      refine wpC_ret (out_ret ?_)
      simp only [ptrTo, oxs, simprocAttr]
      exact hk _ _ (fun h => by cases h) sF
     ·refine su [some 48, some 49, some 50, some 51, some 52, some 53, some 54, some 55, some 56] 9 [0, 0, 3, 7, 0, 0, 48, 112, 255] (by rfl) (by rfl) (by decide +kernel) (by decide +kernel) (by decide +kernel) (fun LL hLL => ?_)
      simp only [ptrTo, pend, pend0, Pd.old, pendU, pendU0, Nat.testBit, oxs, simprocAttr, ixF hk', ixF hj, g3, v1, v2, eq_false he]
      refine hLL _ _ ?_
      refine wpC_if ?_
      simp only [ptrTo, oxs, simprocAttr]
      refine wpC_skip ?_
      simp only [ptrTo, oxs, simprocAttr]
      refine fg8 (fun R => ?_)
      refine rg (fun LL hLL => ?_)
      simp only [ptrTo, oxs, simprocAttr, wsucc (show j < 9223372036854775807 by omega)]
      refine hLL _ _ ?_
      simp only [ptrTo, oxs, simprocAttr]
      exact ⟨m2 - 1, by omega, j + 1, _, _, _, _, by omega, rfl⟩
    ·refine wpC_exit ?_
     simp only [ptrTo, oxs, simprocAttr]
     refine fg8 (fun R => ?_)
     refine rg (fun LL hLL => ?_)
     simp only [ptrTo, oxs, simprocAttr, wsucc (show k < 9223372036854775807 by omega)]
     refine hLL _ _ ?_
     simp only [ptrTo, oxs, simprocAttr]
     refine ⟨m - 1, by omega, k + 1, _, _, _, _, _, by omega, fun y hy => ?_, rfl⟩
     rw [List.take_succ_eq_append_getElem hk'] at hy
     rcases List.mem_append.1 hy with hy | hy
     ·exact hI y hy
     ·obtain rfl := List.mem_singleton.1 hy
      exact hx
   all_goals
    refine su [some 20, some 21, some 22, some 23, some 24, some 25, some 26, some 27, some 28, some 29, some 30, some 31, some 32, some 33, some 34, some 35, some 36, some 37, some 38, some 39, some 40, some 41, some 42] 23 [0, 0, 3, 7, 15, 31, 63, 63, 255, 511, 63, 1087, 3135, 8191, 16383, 32767, 65535, 65535, 262143, 524287, 65535, 2097151, 4194303] (by rfl) (by rfl) (by decide +kernel) (by decide +kernel) (by decide +kernel) (fun LL hLL => ?_)
    simp only [ptrTo, pend, pend0, Pd.old, pendU, pendU0, Nat.testBit, oxs, simprocAttr, gs, ixF hk', g3, v1, d1, d2, d3]
    refine hLL _ _ ?_
    refine wpC_if ?_
    simp only [ptrTo, oxs, simprocAttr]
    refine sr (fun LL hLL => ?_)
    simp only [ptrTo, oxs, simprocAttr]
    refine hLL _ _ ?_
    refine wpC_ret (out_ret ?_)
    simp only [ptrTo, oxs, simprocAttr]
    exact hk _ _ (fun h => by cases h) sF
  ·have hil : k = I.length := by omega
   subst hil
   rw [List.take_length] at hI
   refine wpC_exit ?_
   simp only [ptrTo, oxs, simprocAttr]
   exact ⟨hI, _, _, _, _, _, _, rfl⟩
 ·rintro T h' ⟨rfl, hI, u0, u3, u4, u6, u7, R, rfl⟩
  have hok : ∀ b : Bool, (b = true → InnOk L L[i]) := fun b _ => by unfold InnOk; rw [← eI]; exact hI
  refine wpC_seq ?_
  refine sr (fun LL hLL => ?_)
  simp only [ptrTo, oxs, simprocAttr, gs, ixF hi, g1, w0]
  refine hLL _ _ ?_
  refine wpC_block ?_
  by_cases k1 : L[i].kind = 1
  ·refine sr (fun LL hLL => ?_)
   simp only [ptrTo, oxs, simprocAttr, eq_true k1]
   refine hLL _ _ ?_
   refine wpC_if ?_
   simp only [ptrTo, oxs, simprocAttr]
   refine sr (fun LL hLL => ?_)
   simp only [ptrTo, oxs, simprocAttr]
   refine hLL _ _ ?_
   refine wpC_ret (out_ret ?_)
   simp only [ptrTo, oxs, simprocAttr]
   exact hk _ _ (hok _) sF
  refine sr (fun LL hLL => ?_)
  simp only [ptrTo, oxs, simprocAttr, eq_false k1]
  refine hLL _ _ ?_
  refine wpC_if ?_
  simp only [ptrTo, oxs, simprocAttr]
  by_cases k7 : L[i].kind = 7
  ·refine sr (fun LL hLL => ?_)
   simp only [ptrTo, oxs, simprocAttr, eq_true k7]
   refine hLL _ _ ?_
   refine wpC_if ?_
   simp only [ptrTo, oxs, simprocAttr]
   refine sr (fun LL hLL => ?_)
   simp only [ptrTo, oxs, simprocAttr]
   refine hLL _ _ ?_
   refine wpC_ret (out_ret ?_)
   simp only [ptrTo, oxs, simprocAttr]
   exact hk _ _ (hok _) sF
  refine sr (fun LL hLL => ?_)
  simp only [ptrTo, oxs, simprocAttr, eq_false k7]
  refine hLL _ _ ?_
  refine wpC_if ?_
  simp only [ptrTo, oxs, simprocAttr]
  refine wpC_skip ?_
  simp only [ptrTo, oxs, simprocAttr]
  refine fg8 (fun R => ?_)
  refine sr (fun LL hLL => ?_)
  simp only [ptrTo, oxs, simprocAttr]
  refine hLL _ _ ?_
  refine wpC_ret (out_ret ?_)
  simp only [ptrTo, oxs, simprocAttr]
  exact hk _ _ (hok _) sF
end Go.Proofs

namespace Go.Proofs
open Go Go.Ox
set_option maxRecDepth 100000
set_option maxHeartbeats 4000000
theorem alone_ok {h0 : AHeap} {F : List Asn} (g : Int) (a : Option Addr) (c : Nat) (L : List OpX) (sp : SpR h0 a L) (i : Nat) (hi : i < L.length) (h : AHeap) (s : St h0 h F) (K : Value → AHeap → Prop)
  (hk : ∀ (e : Int) h', (e = 0 → InnOk L L[i]) → St h0 h' F → K (.int .i64 e) h') : wpF Tryz.prog (.fn 59) [.agg #[.int .i64 g, .slice a L.length c], .int .i64 i] h K := by
 have hfew := sp.few
 refine wpF_fun 73 [.tmp 4] Tryz.func59 rfl rfl rfl rfl ?_
 have s1 := s.push (spB g a L.length c)
 obtain ⟨h1, e1⟩ : ∃ h1, h1 = h.push (spB g a L.length c) := ⟨_, rfl⟩
 obtain ⟨bs, ebs⟩ : ∃ b, b = h.next := ⟨_, rfl⟩
 rw [← e1, ← ebs] at s1
 refine sr (fun LL hLL => ?_)
 simp only [ptrTo, oxs, simprocAttr]
 refine hLL _ _ ?_
 rw [← e1, ← ebs]
 have gs := s1.get
 obtain ⟨b1, o1, ro1, sz1, C1, T1, ea, p1, g1, w0, w1, w2, x2, w8, x8⟩ := (sp.fr s1.base).at i hi
 subst ea
 obtain ⟨x, ex⟩ : ∃ x, x = L[i] := ⟨_, rfl⟩
 rw [← ex] at w0 w1 w2 w8
 rw [← ex] at hk
 have s2 := s1.push (.cells false 0 [.int .i64 0, .slice none 0 0, .int .i64 0, .int .i64 0, .int .i64 0, .int .i64 0, .int .i64 0, .int .i64 0] 69)
 obtain ⟨h2, e2⟩ : ∃ h2, h2 = h1.push (.cells false 0 [.int .i64 0, .slice none 0 0, .int .i64 0, .int .i64 0, .int .i64 0, .int .i64 0, .int .i64 0, .int .i64 0] 69) := ⟨_, rfl⟩
 obtain ⟨bo, ebo⟩ : ∃ b, b = h1.next := ⟨_, rfl⟩
 rw [← e2, ← ebo] at s2
 have g2 := s2.get
 have s3 := s2.set (.cells false 0 x.cells 69)
 obtain ⟨h3, e3⟩ : ∃ h3, h3 = h2.set bo (.cells false 0 x.cells 69) := ⟨_, rfl⟩
 rw [← e3] at s3
 have g3 := s3.get
 have gs3 := (s3.mv 1).get
 have sF := s3.drop.drop
 unfold OpX.cells at g3 e3
 refine sr (fun LL hLL => ?_)
 simp only [ptrTo, oxs, simprocAttr, gs, ixF hi, g1, w8, x8, OpX.len, ← e2, ← ebo, g2, OpX.cells, ← e3]
 refine hLL _ _ ?_
 obtain ⟨q1, d1⟩ := dq (x.kind < 1)
 obtain ⟨q2, d2⟩ := dq (8 < x.kind)
 cases q1 <;> cases q2
 case false.false =>
  refine wpC_seq (sr fun LL hLL => ?_)
  simp only [ptrTo, oxs, simprocAttr, g3, d1, d2]
  refine hLL _ _ ?_
  refine wpC_if ?_
  simp only [ptrTo, oxs, simprocAttr]
  refine wpC_skip ?_
  simp only [ptrTo, oxs, simprocAttr]
  refine fg7 (fun R => ?_)
  refine wpC_seq (sr fun LL hLL => ?_)
  simp only [ptrTo, pend, pend0, Pd.old, pendU, pendU0, Nat.testBit, oxh, simprocAttr, gs3]
  refine inputs_ok g _ c L sp i hi _ s3 _ fun b h4 hin s4 => ?_
  simp only [ptrTo, pend, pend0, Pd.old, pendU, pendU0, Nat.testBit, oxh, simprocAttr]
  refine hLL _ _ ?_
  refine wpC_if ?_
  simp only [ptrTo, oxs, simprocAttr]
  cases b
  ·refine sr (fun LL hLL => ?_)
   simp only [ptrTo, oxs, simprocAttr]
   refine hLL _ _ ?_
   refine wpC_ret (out_ret ?_)
   simp only [ptrTo, oxs, simprocAttr]
   exact hk _ _ (fun h => by cases h) s4.drop.drop
  have hin := hin rfl
  rw [← ex] at hin
  have hok : ∀ e : Int, e = 0 → InnOk L x := fun _ _ => hin
  clear hin
  refine wpC_skip ?_
  simp only [ptrTo, oxs, simprocAttr]
  refine fg7 (fun R => ?_)
  have g4 := s4.get
  unfold OpX.cells at g4
  refine sm (fun T h' => h' = h4 ∧ ∃ (q : Bool) (u0 u1 u2 u3 u4 : Value) (R : List Value), T = u0 :: u1 :: u2 :: u3 :: u4 :: .pointer (some ⟨bo, 0, none⟩) :: .bool q :: R) ?_ ?_
  ·obtain ⟨q3, d3⟩ := dq (x.parts = 0)
   obtain ⟨q4, d4⟩ := dq (x.rate = 0)
   cases q3 <;> cases q4
   all_goals
    refine rg (fun LL hLL => ?_)
    simp only [ptrTo, oxs, simprocAttr, g4, d3, d4]
    refine hLL _ _ ?_
    simp only [ptrTo, oxs, simprocAttr]
    exact ⟨_, _, _, _, _, _, _, rfl⟩
  rintro T h' ⟨rfl, q, u0, u1, u2, u3, u4, R, rfl⟩
  refine sm (fun T h'' => h'' = h' ∧ ∃ (q : Bool) (u0 u1 u2 u3 u4 : Value) (R : List Value), T = u0 :: u1 :: u2 :: u3 :: u4 :: .pointer (some ⟨bo, 0, none⟩) :: .bool q :: R) ?_ ?_
  ·obtain ⟨q5, d5⟩ := dq (x.kind = 1)
   obtain ⟨q6, d6⟩ := dq (1 ≤ x.parts)
   obtain ⟨q7, d7⟩ := dq (x.parts ≤ 8)
   obtain ⟨q8, d8⟩ := dq (1 ≤ x.rate)
   obtain ⟨q9, d9⟩ := dq (x.rate ≤ 1048576)
   cases q5
   ·refine sr (fun LL hLL => ?_)
    simp only [ptrTo, oxs, simprocAttr, g4, d5]
    refine hLL _ _ ?_
    refine wpC_if ?_
    simp only [ptrTo, oxs, simprocAttr]
    refine wpC_skip ?_
    simp only [ptrTo, oxs, simprocAttr]
    exact ⟨_, _, _, _, _, _, _, rfl⟩
   ·refine sr (fun LL hLL => ?_)
    simp only [ptrTo, oxs, simprocAttr, g4, d5]
    refine hLL _ _ ?_
    refine wpC_if ?_
    simp only [ptrTo, oxs, simprocAttr]
    cases q6 <;> cases q7 <;> cases q8 <;> cases q9
    all_goals
     refine rg (fun LL hLL => ?_)
     simp only [ptrTo, oxs, simprocAttr, g4, d6, d7, d8, d9]
     refine hLL _ _ ?_
     simp only [ptrTo, oxs, simprocAttr]
     exact ⟨_, _, _, _, _, _, _, rfl⟩
  rintro T h'' ⟨rfl, q, u0, u1, u2, u3, u4, R, rfl⟩
  refine wpC_seq ?_
  obtain ⟨q10, d10⟩ := dq (x.cost < 1)
  obtain ⟨q11, d11⟩ := dq (1000 < x.cost)
  refine sr (fun LL hLL => ?_)
  simp only [ptrTo, pend, pend0, Pd.old, pendU, pendU0, Nat.testBit, oxh, simprocAttr, g4]
  refine may_ok x.kind x.f1 x.f2 x.f3 _ s4 _ fun b h5 s5 => ?_
  have g5 := s5.get
  unfold OpX.cells at g5
  simp only [ptrTo, pend, pend0, Pd.old, pendU, pendU0, Nat.testBit, oxh, simprocAttr]
  cases b <;> cases q <;> cases q10 <;> cases q11
  case true.true.false.false =>
   simp only [ptrTo, pend, pend0, Pd.old, pendU, pendU0, Nat.testBit, oxh, simprocAttr, g5, d10, d11]
   refine hLL _ _ ?_
   refine wpC_if ?_
   simp only [ptrTo, oxs, simprocAttr]
   refine wpC_skip ?_
   simp only [ptrTo, oxs, simprocAttr]
   refine fg7 (fun R => ?_)
   refine sr (fun LL hLL => ?_)
   simp only [ptrTo, oxs, simprocAttr]
   refine hLL _ _ ?_
   refine wpC_ret (out_ret ?_)
   simp only [ptrTo, oxs, simprocAttr]
   exact hk _ _ (hok _) s5.drop.drop
  all_goals
   simp only [ptrTo, pend, pend0, Pd.old, pendU, pendU0, Nat.testBit, oxh, simprocAttr, g5, d10, d11]
   refine hLL _ _ ?_
   refine wpC_if ?_
   simp only [ptrTo, oxs, simprocAttr]
   refine sr (fun LL hLL => ?_)
   simp only [ptrTo, oxs, simprocAttr]
   refine hLL _ _ ?_
   refine wpC_ret (out_ret ?_)
   simp only [ptrTo, oxs, simprocAttr]
   exact hk _ _ (hok _) s5.drop.drop
 all_goals
  refine wpC_seq (sr fun LL hLL => ?_)
  simp only [ptrTo, oxs, simprocAttr, g3, d1, d2]
  refine hLL _ _ ?_
  refine wpC_if ?_
  simp only [ptrTo, oxs, simprocAttr]
  refine sr (fun LL hLL => ?_)
  simp only [ptrTo, oxs, simprocAttr]
  refine hLL _ _ ?_
  refine wpC_ret (out_ret ?_)
  simp only [ptrTo, oxs, simprocAttr]
  exact hk _ _ (fun h => by cases h) sF
end Go.Proofs

namespace Go.Proofs
open Go Go.Ox
set_option maxRecDepth 100000
set_option maxHeartbeats 4000000
/-- Some operators, none twice, each behind its inputs. -/
def OrdOk (L : List OpX) (Q : List Int) : Prop := Q.Nodup ∧ ∀ j (hj : j < Q.length), ∃ (i : Nat) (hi : i < L.length), Q[j] = (i : Int) ∧ ∀ y ∈ L[i].inn, y ∈ Q.take j
theorem OrdOk.nil (L : List OpX) : OrdOk L [] := ⟨by simp, fun j hj => by simp at hj⟩
theorem OrdOk.snoc {L : List OpX} {Q : List Int} (o : OrdOk L Q) (i : Nat) (hi : i < L.length) (hn : ¬ (i : Int) ∈ Q) (hy : ∀ y ∈ L[i].inn, y ∈ Q) : OrdOk L (Q ++ [(i : Int)]) := by
 refine ⟨?_, fun j hj => ?_⟩
 ·rw [List.nodup_append]
  exact ⟨o.1, by simp, by rintro a ha b hb rfl; simp at hb; exact hn (hb ▸ ha)⟩
 ·by_cases hl : j < Q.length
  ·obtain ⟨i', hi', e, h⟩ := o.2 j hl
   exact ⟨i', hi', by rw [List.getElem_append_left hl]; exact e, fun y hy => by rw [List.take_append_of_le_length (by omega)]; exact h y hy⟩
  ·have e : j = Q.length := by simp at hj; omega
   subst e
   refine ⟨i, hi, by simp, fun y hy' => ?_⟩
   rw [List.take_append_of_le_length (by omega), List.take_length]
   exact hy y hy'
theorem mem_take_succ {Q : List Int} {j : Nat} {y : Int} (h : y ∈ Q.take j) : ∃ (k : Nat) (hk : k < Q.length), k < j ∧ Q[k] = y := by
 obtain ⟨k, hk, e⟩ := List.mem_iff_getElem.1 h
 rw [List.length_take] at hk
 exact ⟨k, by omega, by omega, by rw [List.getElem_take] at e; exact e⟩
theorem sub_len : ∀ (L M : List Int), L.Nodup → (∀ x ∈ L, x ∈ M) → L.length ≤ M.length
 | [], _, _, _ => by simp
 | x :: L, M, hn, h => by
  rw [List.nodup_cons] at hn
  have hx : x ∈ M := h x (by simp)
  have h1 := sub_len L (M.erase x) hn.2 fun y hy => (List.mem_erase_of_ne (by rintro rfl; exact hn.1 hy)).2 (h y (by simp [hy]))
  rw [List.length_erase_of_mem hx] at h1
  have := List.length_pos_of_mem hx
  simp; omega
theorem OrdOk.sub {L : List OpX} {Q : List Int} (o : OrdOk L Q) : ∀ x ∈ Q, x ∈ (List.range L.length).map Int.ofNat := fun x hx => by
 obtain ⟨j, hj, rfl⟩ := List.mem_iff_getElem.1 hx
 obtain ⟨i, hi, e, _⟩ := o.2 j hj
 exact List.mem_map.2 ⟨i, List.mem_range.2 hi, by rw [e]; rfl⟩
theorem OrdOk.len {L : List OpX} {Q : List Int} (o : OrdOk L Q) : Q.length ≤ L.length := by
 simpa using sub_len _ _ o.1 o.sub
/-- All of them. -/
theorem OrdOk.all {L : List OpX} {Q : List Int} (o : OrdOk L Q) (hl : L.length ≤ Q.length) (i : Nat) (hi : i < L.length) : (i : Int) ∈ Q := by
 by_cases h : (i : Int) ∈ Q
 ·exact h
 ·have := sub_len ((i : Int) :: Q) _ (List.nodup_cons.2 ⟨h, o.1⟩) (fun x hx => by
   rcases List.mem_cons.1 hx with rfl | hx
   ·exact List.mem_map.2 ⟨i, List.mem_range.2 hi, rfl⟩
   ·exact o.sub x hx)
  simp at this; omega
theorem order_ok {h0 : AHeap} {F : List Asn} (g : Int) (a : Option Addr) (c : Nat) (L : List OpX) (sp : SpR h0 a L) (hin : ∀ x ∈ L, InnOk L x) (h : AHeap) (s : St h0 h F) (K : Value → AHeap → Prop)
  (hk : ∀ b d Q h', OrdOk L Q → St h0 h' (wn icell 1 3 b d Q :: F) → K (.slice b Q.length d) h') : wpF Tryz.prog (.fn 61) [.agg #[.int .i64 g, .slice a L.length c]] h K := by
 have hfew := sp.few
 refine wpF_fun 61 [.tmp 2] Tryz.func61 rfl rfl rfl rfl ?_
 have s1 := s.push (spB g a L.length c)
 obtain ⟨h1, e1⟩ : ∃ h1, h1 = h.push (spB g a L.length c) := ⟨_, rfl⟩
 obtain ⟨bs, ebs⟩ : ∃ b, b = h.next := ⟨_, rfl⟩
 rw [← e1, ← ebs] at s1
 refine sr (fun LL hLL => ?_)
 simp only [ptrTo, oxs, simprocAttr]
 refine hLL _ _ ?_
 rw [← e1, ← ebs]
 refine sr (fun LL hLL => ?_)
 simp only [ptrTo, oxs, simprocAttr]
 refine hLL _ _ ?_
 have gs := s1.get
 refine wpC_seq ?_
 refine sr (fun LL hLL => ?_)
 simp only [ptrTo, oxs, simprocAttr, gs]
 refine hLL _ _ ?_
 refine fg12 (fun R => ?_)
 refine wpC_block ?_
 refine wpC_loop (fun m T h' => ∃ (k : Nat) (b : Option Addr) (d : Nat) (Q : List Int) (u0 u2 u4 u5 u6 u7 u8 u9 : Value) (R : List Value), m + k = L.length ∧ OrdOk L Q ∧ St h0 h' (wn icell 1 3 b d Q :: own bs (spB g a L.length c) :: F) ∧
  T = u0 :: .pointer (some ⟨bs, 0, none⟩) :: u2 :: .slice b Q.length d :: u4 :: u5 :: u6 :: u7 :: u8 :: u9 :: .int .i64 L.length :: .int .i64 k :: R) ?_ L.length _ _ ⟨0, none, 0, [], _, _, _, _, _, _, _, _, R, by omega, OrdOk.nil L, s1.wn_nil, rfl⟩
 clear gs s1
 rintro m T h' ⟨k, b, d, Q, u0, u2, u4, u5, u6, u7, u8, u9, R, hmk, hQ, s2, rfl⟩
 have gs := (s2.mv 1).get
 have hQl := hQ.len
 have rQ := s2.rs icell.len
 refine sr (fun LL hLL => ?_)
 simp only [ptrTo, oxs, simprocAttr]
 refine hLL _ _ ?_
 refine wpC_seq ?_
 refine wpC_if ?_
 simp only [ptrTo, oxs, simprocAttr]
 refine gC_of (fun hc => ?_) (fun hc => ?_)
 ·refine wpC_skip ?_
  simp only [ptrTo, oxs, simprocAttr]
  refine fg12 (fun R => ?_)
  refine wpC_seq (wpC_block ?_)
  refine sr (fun LL hLL => ?_)
  simp only [ptrTo, oxs, simprocAttr]
  refine hLL _ _ ?_
  refine fg12 (fun R => ?_)
  have hQl2 : Q.length < 17592186045000 := by omega
  refine sm (fun T h'' => h'' = h' ∧ ∃ (z : Int) (u0 u2 u5 u6 u7 u8 u9 : Value) (R : List Value), (z = -1 ∨ ∃ (i : Nat) (hi : i < L.length), z = (i : Int) ∧ ¬ (i : Int) ∈ Q ∧ ∀ y ∈ L[i].inn, y ∈ Q) ∧
   T = u0 :: .pointer (some ⟨bs, 0, none⟩) :: u2 :: .slice b Q.length d :: .int .i64 z :: u5 :: u6 :: u7 :: u8 :: u9 :: .int .i64 L.length :: .int .i64 k :: R) ?_ ?_
  ·have hw : IntKind.i64.wrap ((L.length : Int) - 1) = (L.length : Int) - 1 := wrap_i64 (by omega) (by omega)
   refine sr (fun LL hLL => ?_)
   simp only [ptrTo, oxs, simprocAttr, gs, hw]
   refine hLL _ _ ?_
   refine fg12 (fun R => ?_)
   refine wpC_block ?_
   refine wpC_loop (fun m T h'' => ∃ (z : Int) (u0 u2 u6 u7 u8 u9 : Value) (R : List Value), h'' = h' ∧ m ≤ L.length ∧ (z = -1 ∨ ∃ (i : Nat) (hi : i < L.length), z = (i : Int) ∧ ¬ (i : Int) ∈ Q ∧ ∀ y ∈ L[i].inn, y ∈ Q) ∧
    T = u0 :: .pointer (some ⟨bs, 0, none⟩) :: u2 :: .slice b Q.length d :: .int .i64 z :: .int .i64 ((m : Int) - 1) :: u6 :: u7 :: u8 :: u9 :: .int .i64 L.length :: .int .i64 k :: R) ?_ L.length _ _ ⟨-1, _, _, _, _, _, _, R, rfl, by omega, .inl rfl, rfl⟩
   rintro m2 T h'' ⟨z, u0, u2, u6, u7, u8, u9, R, rfl, hm2, hz, rfl⟩
   refine wpC_seq (sr fun LL hLL => ?_)
   simp only [ptrTo, oxs, simprocAttr]
   refine hLL _ _ ?_
   refine wpC_if ?_
   simp only [ptrTo, oxs, simprocAttr]
   refine gC_of (fun hc2 => ?_) (fun hc2 => ?_)
   ·refine wpC_skip ?_
    simp only [ptrTo, oxs, simprocAttr]
    refine fg12 (fun R => ?_)
    obtain ⟨i, rfl⟩ : ∃ i, m2 = i + 1 := ⟨m2 - 1, by omega⟩
    have hi : i < L.length := by omega
    have ei : (((i + 1 : Nat) : Int) - 1) = (i : Int) := by omega
    rw [ei]
    obtain ⟨b1, o1, ro1, sz1, C1, T1, rfl, p1, g1, w0, w1, w2, x2, w8, x8⟩ := (sp.fr s2.base).at i hi
    have hxin := sp.ins L[i] (List.getElem_mem hi)
    have rin := hxin.1.fr s2.base
    have hil := hxin.2
    obtain ⟨I, eI⟩ : ∃ I, I = L[i].inn := ⟨_, rfl⟩
    rw [← eI] at rin hil w1
    obtain ⟨ai, eai⟩ : ∃ x, x = L[i].a := ⟨_, rfl⟩
    obtain ⟨ci, eci⟩ : ∃ x, x = L[i].cap := ⟨_, rfl⟩
    rw [← eai] at rin
    rw [← eai, ← eci] at w1
    refine wpC_seq (wpC_block ?_)
    refine sr (fun LL hLL => ?_)
    simp only [ptrTo, pend, pend0, Pd.old, pendU, pendU0, Nat.testBit, oxh, simprocAttr]
    refine has_ok Q i _ _ _ rQ hQl2 _ ?_
    simp only [ptrTo, pend, pend0, Pd.old, pendU, pendU0, Nat.testBit, oxh, simprocAttr]
    refine hLL _ _ ?_
    refine fg12 (fun R => ?_)
    refine sm (fun T h3 => h3 = h'' ∧ ∃ (r : Bool) (u0 u2 u7 u8 u9 : Value) (R : List Value), (r = true → ¬ (i : Int) ∈ Q ∧ ∀ y ∈ I, y ∈ Q) ∧
     T = u0 :: .pointer (some ⟨bs, 0, none⟩) :: u2 :: .slice b Q.length d :: .int .i64 z :: .int .i64 i :: .bool r :: u7 :: u8 :: u9 :: .int .i64 L.length :: .int .i64 k :: R) ?_ ?_
    ·refine sr (fun LL hLL => ?_)
     simp only [ptrTo, oxs, simprocAttr]
     refine hLL _ _ ?_
     refine fg12 (fun R => ?_)
     refine wpC_block ?_
     refine wpC_loop (fun m3 T h3 => ∃ (j : Nat) (r : Bool) (u0 u2 u8 u9 : Value) (R : List Value), h3 = h'' ∧ m3 + j = I.length ∧ (r = true → ¬ (i : Int) ∈ Q ∧ ∀ y ∈ I.take j, y ∈ Q) ∧
      T = u0 :: .pointer (some ⟨bs, 0, none⟩) :: u2 :: .slice b Q.length d :: .int .i64 z :: .int .i64 i :: .bool r :: .int .i64 j :: u8 :: u9 :: .int .i64 L.length :: .int .i64 k :: R) ?_ I.length _ _ ⟨0, _, _, _, _, _, R, rfl, by omega, fun h => ⟨by simpa using h, by simp⟩, rfl⟩
     rintro m3 T h3 ⟨j, r, u0, u2, u8, u9, R, rfl, hm3, hr, rfl⟩
     refine wpC_seq (sr fun LL hLL => ?_)
     simp only [ptrTo, oxs, simprocAttr, gs, ixF hi, g1, w1]
     refine hLL _ _ ?_
     refine wpC_if ?_
     simp only [ptrTo, oxs, simprocAttr]
     refine gC_of (fun hc3 => ?_) (fun hc3 => ?_)
     ·refine wpC_skip ?_
      simp only [ptrTo, oxs, simprocAttr]
      refine fg12 (fun R => ?_)
      have hj : j < I.length := by omega
      have hne : I ≠ [] := by rintro rfl; simp at hj
      obtain ⟨b3, o3, ro3, sz3, C3, T3, e3, p3, g3, r3, q3⟩ := rin.resolve_left hne
      subst e3
      have v1 : C3[o3 + j * 1]? = some (.int .i64 I[j]) := Rs.cell icell.len r3 q3 j hj 0 (by omega)
      refine wpC_seq (wpC_block ?_)
      cases r
      ·refine rg (fun LL hLL => ?_)
       simp only [ptrTo, oxs, simprocAttr]
       refine hLL _ _ ?_
       simp only [ptrTo, oxs, simprocAttr]
       refine fg12 (fun R => ?_)
       refine rg (fun LL hLL => ?_)
       simp only [ptrTo, oxs, simprocAttr, wsucc (show j < 9223372036854775807 by omega)]
       refine hLL _ _ ?_
       simp only [ptrTo, oxs, simprocAttr]
       exact ⟨m3 - 1, by omega, j + 1, _, _, _, _, _, _, by omega, fun h => (by cases h), rfl⟩
      ·refine rg (fun LL hLL => ?_)
       simp only [ptrTo, pend, pend0, Pd.old, pendU, pendU0, Nat.testBit, oxh, simprocAttr, gs, ixF hi, g1, w1, ixF hj, g3, v1]
       refine has_ok Q I[j] _ _ _ rQ hQl2 _ ?_
       simp only [ptrTo, pend, pend0, Pd.old, pendU, pendU0, Nat.testBit, oxh, simprocAttr]
       refine hLL _ _ ?_
       simp only [ptrTo, oxs, simprocAttr]
       refine fg12 (fun R => ?_)
       refine rg (fun LL hLL => ?_)
       simp only [ptrTo, oxs, simprocAttr, wsucc (show j < 9223372036854775807 by omega)]
       refine hLL _ _ ?_
       simp only [ptrTo, oxs, simprocAttr]
       refine ⟨m3 - 1, by omega, j + 1, _, _, _, _, _, _, by omega, fun h => ⟨(hr rfl).1, fun y hy => ?_⟩, rfl⟩
       rw [List.take_succ_eq_append_getElem hj] at hy
       rcases List.mem_append.1 hy with hy | hy
       ·exact (hr rfl).2 y hy
       ·obtain rfl := List.mem_singleton.1 hy
        exact of_decide_eq_true h
     ·have hjl : j = I.length := by omega
      subst hjl
      rw [List.take_length] at hr
      refine wpC_exit ?_
      simp only [ptrTo, oxs, simprocAttr]
      exact ⟨_, _, _, _, _, _, _, hr, rfl⟩
    rintro T h3 ⟨rfl, r, u0, u2, u7, u8, u9, R, hr, rfl⟩
    refine sr (fun LL hLL => ?_)
    simp only [ptrTo, oxs, simprocAttr]
    refine hLL _ _ ?_
    refine wpC_if ?_
    simp only [ptrTo, oxs, simprocAttr]
    cases r
    ·refine wpC_skip ?_
     simp only [ptrTo, oxs, simprocAttr]
     refine fg12 (fun R => ?_)
     have hw : IntKind.i64.wrap ((i : Int) - 1) = (i : Int) - 1 := wrap_i64 (by omega) (by omega)
     refine rg (fun LL hLL => ?_)
     simp only [ptrTo, oxs, simprocAttr, hw]
     refine hLL _ _ ?_
     simp only [ptrTo, oxs, simprocAttr]
     exact ⟨i, by omega, z, _, _, _, _, _, _, _, by omega, hz, rfl⟩
    ·clear hmk
     refine rg (fun LL hLL => ?_)
     simp only [ptrTo, oxs, simprocAttr]
     refine hLL _ _ ?_
     simp only [ptrTo, oxs, simprocAttr]
     refine fg12 (fun R => ?_)
     have hw : IntKind.i64.wrap ((i : Int) - 1) = (i : Int) - 1 := wrap_i64 (by omega) (by omega)
     refine rg (fun LL hLL => ?_)
     simp only [ptrTo, oxs, simprocAttr, hw]
     refine hLL _ _ ?_
     simp only [ptrTo, oxs, simprocAttr]
     exact ⟨i, by omega, (i : Int), _, _, _, _, _, _, _, by omega, .inr ⟨i, hi, rfl, (hr rfl).1, by rw [← eI]; exact (hr rfl).2⟩, rfl⟩
   ·refine wpC_exit ?_
    simp only [ptrTo, oxs, simprocAttr]
    exact ⟨z, _, _, _, _, _, _, _, _, hz, rfl⟩
  rintro T h'' ⟨rfl, z, u0, u2, u5, u6, u7, u8, u9, R, hz, rfl⟩
  rcases hz with rfl | ⟨i, hi, rfl, hiQ, hiy⟩
  ·refine wpC_seq (sr fun LL hLL => ?_)
   simp only [ptrTo, oxs, simprocAttr]
   refine hLL _ _ ?_
   refine wpC_if ?_
   simp only [ptrTo, oxs, simprocAttr]
   refine sr (fun LL hLL => ?_)
   simp only [ptrTo, oxs, simprocAttr]
   refine hLL _ _ ?_
   refine wpC_ret (out_ret ?_)
   simp only [ptrTo, oxs, simprocAttr]
   have s3 := (s2).sel 2 [0]
   simp only [oxf] at s3
   exact hk _ _ _ _ hQ s3
  ·refine wpC_seq (sr fun LL hLL => ?_)
   simp only [ptrTo, oxs, simprocAttr, eq_false (show ¬ ((i : Int) < 0) by omega)]
   refine hLL _ _ ?_
   refine wpC_if ?_
   simp only [ptrTo, oxs, simprocAttr]
   refine wpC_skip ?_
   simp only [ptrTo, oxs, simprocAttr]
   refine fg12 (fun R => ?_)
   have zz : aZeros [.int .i64 0] 1 = [.int .i64 0] := rfl
   refine rg (fun LL hLL => ?_)
   simp only [ptrTo, oxs, simprocAttr, zz]
   obtain ⟨aE, cE, h7, y1, y2⟩ := s2.app1 (bytes := 8) (i : Int) icell.len icell.oc (by omega) (by omega)
   simp only [icell] at y1
   rw [y1]
   simp only [ptrTo, oxs, simprocAttr]
   refine hLL _ _ ?_
   simp only [ptrTo, oxs, simprocAttr]
   refine fg12 (fun R => ?_)
   refine rg (fun LL hLL => ?_)
   simp only [ptrTo, oxs, simprocAttr, wsucc (show k < 9223372036854775807 by omega)]
   refine hLL _ _ ?_
   simp only [ptrTo, oxs, simprocAttr]
   rw [show Q.length + 1 = (Q ++ [(i : Int)]).length by simp]
   exact ⟨m - 1, by omega, k + 1, aE, cE, Q ++ [(i : Int)], _, _, _, _, _, _, _, _, _, by omega, hQ.snoc i hi hiQ hiy, y2, rfl⟩
 ·refine wpC_exit ?_
  simp only [ptrTo, oxs, simprocAttr]
  refine fg12 (fun R => ?_)
  refine sr (fun LL hLL => ?_)
  simp only [ptrTo, oxs, simprocAttr]
  refine hLL _ _ ?_
  refine wpC_ret (out_ret ?_)
  simp only [ptrTo, oxs, simprocAttr]
  have s3 := (s2).sel 2 [0]
  simp only [oxf] at s3
  exact hk _ _ _ _ hQ s3
end Go.Proofs

namespace Go.Proofs
open Go Go.Ox
set_option maxRecDepth 100000
set_option maxHeartbeats 4000000
theorem comes_ok {h0 : AHeap} (g : Int) (a : Option Addr) (c : Nat) (L : List OpX) (sp : SpR h0 a L) (Q : List Int) (o : OrdOk L Q) (frm : Int) : ∀ (j : Nat) (hj : j < Q.length) (F : List Asn) (h : AHeap) (_s : St h0 h F) (K : Value → AHeap → Prop)
  (_hk : ∀ (b : Bool) h', St h0 h' F → K (.bool b) h'), wpF Tryz.prog (.fn 96) [.agg #[.int .i64 g, .slice a L.length c], .int .i64 Q[j], .int .i64 frm] h K := by
 intro j
 induction j using Nat.strongRecOn with
 | _ j ih => ?_
 intro hj F h s K hk
 obtain ⟨i, hi, eQ, hy⟩ := o.2 j hj
 rw [eQ]
 have hfew := sp.few
 refine wpF_fun 34 [.tmp 6] Tryz.func96 rfl rfl rfl rfl ?_
 have s1 := s.push (spB g a L.length c)
 obtain ⟨h1, e1⟩ : ∃ h1, h1 = h.push (spB g a L.length c) := ⟨_, rfl⟩
 obtain ⟨bs, ebs⟩ : ∃ b, b = h.next := ⟨_, rfl⟩
 rw [← e1, ← ebs] at s1
 refine sr (fun LL hLL => ?_)
 simp only [ptrTo, oxs, simprocAttr]
 refine hLL _ _ ?_
 rw [← e1, ← ebs]
 by_cases hf : (i : Int) = frm
 ·refine wpC_seq (sr fun LL hLL => ?_)
  simp only [ptrTo, oxs, simprocAttr, eq_true hf]
  refine hLL _ _ ?_
  refine wpC_if ?_
  simp only [ptrTo, oxs, simprocAttr]
  refine sr (fun LL hLL => ?_)
  simp only [ptrTo, oxs, simprocAttr]
  refine hLL _ _ ?_
  refine wpC_ret (out_ret ?_)
  simp only [ptrTo, oxs, simprocAttr]
  exact hk _ _ s1.drop
 refine wpC_seq (sr fun LL hLL => ?_)
 simp only [ptrTo, oxs, simprocAttr, eq_false hf]
 refine hLL _ _ ?_
 refine wpC_if ?_
 simp only [ptrTo, oxs, simprocAttr]
 refine wpC_skip ?_
 simp only [ptrTo, oxs, simprocAttr]
 refine fg8 (fun R => ?_)
 refine wpC_seq ?_
 refine sr (fun LL hLL => ?_)
 simp only [ptrTo, oxs, simprocAttr]
 refine hLL _ _ ?_
 refine fg8 (fun R => ?_)
 obtain ⟨I, eI⟩ : ∃ I, I = L[i].inn := ⟨_, rfl⟩
 rw [← eI] at hy
 refine wpC_block ?_
 refine wpC_loop (fun m T h' => ∃ (k : Nat) (u0 u4 u5 u6 : Value) (R : List Value), m + k = I.length ∧ St h0 h' (own bs (spB g a L.length c) :: F) ∧
  T = u0 :: .int .i64 i :: .int .i64 frm :: .pointer (some ⟨bs, 0, none⟩) :: u4 :: u5 :: u6 :: .int .i64 k :: R) ?_ I.length _ _ ⟨0, _, _, _, _, R, by omega, s1, rfl⟩
 rintro m T h' ⟨k, u0, u4, u5, u6, R, hmk, s2, rfl⟩
 have gs := s2.get
 obtain ⟨b1, o1, ro1, sz1, C1, T1, rfl, p1, g1, w0, w1, w2, x2, w8, x8⟩ := (sp.fr s2.base).at i hi
 have hxin := sp.ins L[i] (List.getElem_mem hi)
 have rin := hxin.1.fr s2.base
 have hil := hxin.2
 rw [← eI] at rin hil w1
 obtain ⟨ai, eai⟩ : ∃ x, x = L[i].a := ⟨_, rfl⟩
 obtain ⟨ci, eci⟩ : ∃ x, x = L[i].cap := ⟨_, rfl⟩
 rw [← eai] at rin
 rw [← eai, ← eci] at w1
 refine wpC_seq (sr fun LL hLL => ?_)
 simp only [ptrTo, oxs, simprocAttr, gs, ixF hi, g1, w1]
 refine hLL _ _ ?_
 refine wpC_if ?_
 simp only [ptrTo, oxs, simprocAttr]
 refine gC_of (fun hc => ?_) (fun hc => ?_)
 ·refine wpC_skip ?_
  simp only [ptrTo, oxs, simprocAttr]
  refine fg8 (fun R => ?_)
  have hk' : k < I.length := by omega
  have hne : I ≠ [] := by rintro rfl; simp at hk'
  obtain ⟨b3, o3, ro3, sz3, C3, T3, e3, p3, g3, r3, q3⟩ := rin.resolve_left hne
  subst e3
  have v1 : C3[o3 + k * 1]? = some (.int .i64 I[k]) := Rs.cell icell.len r3 q3 k hk' 0 (by omega)
  obtain ⟨j', hj', hlt, ej⟩ := mem_take_succ (hy I[k] (List.getElem_mem hk'))
  have gsl := (sp.fr s2.base)
  refine wpC_seq (wpC_block ?_)
  refine su [some 22, some 23, some 24, some 25, some 26, some 27, some 28, some 29, some 30, some 31, some 32, some 33] 12 [0, 0, 2, 0, 14, 30, 62, 0, 254, 510, 0, 2047] (by rfl) (by rfl) (by decide +kernel) (by decide +kernel) (by decide +kernel) (fun LL hLL => ?_)
  simp only [ptrTo, pend, pend0, Pd.old, pendU, pendU0, Nat.testBit, oxh, simprocAttr, gs, ixF hi, g1, w1, ixF hk', g3, v1]
  rw [← ej]
  refine ih j' hlt hj' _ _ s2 _ fun b h3 s3 => ?_
  simp only [ptrTo, pend, pend0, Pd.old, pendU, pendU0, Nat.testBit, oxh, simprocAttr]
  refine hLL _ _ ?_
  refine wpC_if ?_
  simp only [ptrTo, oxs, simprocAttr]
  cases b
  ·refine wpC_skip ?_
   simp only [ptrTo, oxs, simprocAttr]
   refine fg8 (fun R => ?_)
   refine rg (fun LL hLL => ?_)
   simp only [ptrTo, oxs, simprocAttr, wsucc (show k < 9223372036854775807 by omega)]
   refine hLL _ _ ?_
   simp only [ptrTo, oxs, simprocAttr]
   exact ⟨m - 1, by omega, k + 1, _, _, _, _, _, by omega, s3, rfl⟩
  ·refine sr (fun LL hLL => ?_)
   simp only [ptrTo, oxs, simprocAttr]
   refine hLL _ _ ?_
   refine wpC_ret (out_ret ?_)
   simp only [ptrTo, oxs, simprocAttr]
   exact hk _ _ s3.drop
 ·refine wpC_exit ?_
  simp only [ptrTo, oxs, simprocAttr]
  refine fg8 (fun R => ?_)
  refine sr (fun LL hLL => ?_)
  simp only [ptrTo, oxs, simprocAttr]
  refine hLL _ _ ?_
  refine wpC_ret (out_ret ?_)
  simp only [ptrTo, oxs, simprocAttr]
  exact hk _ _ s2.drop
theorem roots_ok {h0 : AHeap} {F : List Asn} (g : Int) (a : Option Addr) (c : Nat) (L : List OpX) (sp : SpR h0 a L) (Q : List Int) (o : OrdOk L Q) (hl : L.length ≤ Q.length) (i : Nat) (hi : i < L.length) (h : AHeap) (s : St h0 h F) (K : Value → AHeap → Prop)
  (hk : ∀ b d Z h', Z.length ≤ L.length → St h0 h' (wn icell 1 3 b d Z :: F) → K (.slice b Z.length d) h') : wpF Tryz.prog (.fn 82) [.agg #[.int .i64 g, .slice a L.length c], .int .i64 i] h K := by
 obtain ⟨j, hj, ej⟩ := List.mem_iff_getElem.1 (o.all hl i hi)
 have hfew := sp.few
 refine wpF_fun 42 [.tmp 4] Tryz.func82 rfl rfl rfl rfl ?_
 have s1 := s.push (spB g a L.length c)
 obtain ⟨h1, e1⟩ : ∃ h1, h1 = h.push (spB g a L.length c) := ⟨_, rfl⟩
 obtain ⟨bs, ebs⟩ : ∃ b, b = h.next := ⟨_, rfl⟩
 rw [← e1, ← ebs] at s1
 refine sr (fun LL hLL => ?_)
 simp only [ptrTo, oxs, simprocAttr]
 refine hLL _ _ ?_
 rw [← e1, ← ebs]
 have gs := s1.get
 refine sr (fun LL hLL => ?_)
 simp only [ptrTo, oxs, simprocAttr]
 refine hLL _ _ ?_
 refine sr (fun LL hLL => ?_)
 simp only [ptrTo, pend, pend0, Pd.old, pendU, pendU0, Nat.testBit, oxh, simprocAttr, gs]
 refine sources_ok g a c L sp _ s1 _ fun b1 d1 S h2 hS hSl s2 => ?_
 simp only [ptrTo, pend, pend0, Pd.old, pendU, pendU0, Nat.testBit, oxh, simprocAttr]
 refine hLL _ _ ?_
 refine fg8 (fun R => ?_)
 refine wpC_seq ?_
 refine sr (fun LL hLL => ?_)
 simp only [ptrTo, oxs, simprocAttr]
 refine hLL _ _ ?_
 refine fg8 (fun R => ?_)
 refine wpC_block ?_
 refine wpC_loop (fun m T h' => ∃ (k : Nat) (b : Option Addr) (d : Nat) (Z : List Int) (u0 u3 u4 : Value) (R : List Value), m + k = S.length ∧ Z.length ≤ k ∧ St h0 h' (wn icell 1 3 b d Z :: wn icell 1 3 b1 d1 S :: own bs (spB g a L.length c) :: F) ∧
  T = u0 :: .int .i64 i :: .pointer (some ⟨bs, 0, none⟩) :: u3 :: u4 :: .slice b Z.length d :: .slice b1 S.length d1 :: .int .i64 k :: R) ?_ S.length _ _ ⟨0, none, 0, [], _, _, _, R, by omega, by simp, s2.wn_nil, rfl⟩
 rintro m T h' ⟨k, b, d, Z, u0, u3, u4, R, hmk, hZ, s3, rfl⟩
 have gs := (s3.mv 2).get
 have rS := (s3.mv 1).rs icell.len
 by_cases hk' : k < S.length
 ·refine wpC_seq (sr fun LL hLL => ?_)
  simp only [ptrTo, oxs, simprocAttr, gs, eq_true (show (k : Int) < (S.length : Int) by omega), eq_true (show (0 : Int) ≤ (i : Int) by omega), eq_true (show (i : Int) < (L.length : Int) by omega)]
  refine hLL _ _ ?_
  refine wpC_if ?_
  simp only [ptrTo, oxs, simprocAttr]
  refine wpC_skip ?_
  simp only [ptrTo, oxs, simprocAttr]
  refine fg8 (fun R => ?_)
  have hne : S ≠ [] := by rintro rfl; simp at hk'
  obtain ⟨b3, o3, ro3, sz3, C3, T3, rfl, p3, g3, r3, q3⟩ := rS.resolve_left hne
  have v1 : C3[o3 + k * 1]? = some (.int .i64 S[k]) := Rs.cell icell.len r3 q3 k hk' 0 (by omega)
  refine wpC_seq (wpC_block ?_)
  refine su [some 27, some 28, some 29, some 30, some 31, some 32, some 33] 7 [0, 0, 0, 0, 12, 28, 63] (by rfl) (by rfl) (by decide +kernel) (by decide +kernel) (by decide +kernel) (fun LL hLL => ?_)
  simp only [ptrTo, pend, pend0, Pd.old, pendU, pendU0, Nat.testBit, oxh, simprocAttr, gs, ixF hk', g3, v1]
  rw [← ej]
  refine comes_ok g a c L sp Q o S[k] j hj _ _ s3 _ fun q h4 s4 => ?_
  rw [ej]
  simp only [ptrTo, pend, pend0, Pd.old, pendU, pendU0, Nat.testBit, oxh, simprocAttr]
  refine hLL _ _ ?_
  refine wpC_if ?_
  simp only [ptrTo, oxs, simprocAttr]
  cases q
  ·refine wpC_skip ?_
   simp only [ptrTo, oxs, simprocAttr]
   refine fg8 (fun R => ?_)
   refine rg (fun LL hLL => ?_)
   simp only [ptrTo, oxs, simprocAttr, wsucc (show k < 9223372036854775807 by omega)]
   refine hLL _ _ ?_
   simp only [ptrTo, oxs, simprocAttr]
   exact ⟨m - 1, by omega, k + 1, b, d, Z, _, _, _, _, by omega, by omega, s4, rfl⟩
  ·have rS := (s4.mv 1).rs icell.len
   obtain ⟨b5, o5, ro5, sz5, C5, T5, e5, p5, g5, r5, q5⟩ := rS.resolve_left hne
   cases e5
   have v5 : C5[o3 + k * 1]? = some (.int .i64 S[k]) := Rs.cell icell.len r5 q5 k hk' 0 (by omega)
   have zz : aZeros [.int .i64 0] 1 = [.int .i64 0] := rfl
   refine rg (fun LL hLL => ?_)
   simp only [ptrTo, oxs, simprocAttr, zz, ixF hk', g5, v5]
   obtain ⟨aE, cE, h7, y1, y2⟩ := s4.app1 (bytes := 8) S[k] icell.len icell.oc (by omega) (by omega)
   simp only [icell] at y1
   rw [y1]
   simp only [ptrTo, oxs, simprocAttr]
   refine hLL _ _ ?_
   simp only [ptrTo, oxs, simprocAttr]
   refine fg8 (fun R => ?_)
   refine rg (fun LL hLL => ?_)
   simp only [ptrTo, oxs, simprocAttr, wsucc (show k < 9223372036854775807 by omega)]
   refine hLL _ _ ?_
   simp only [ptrTo, oxs, simprocAttr]
   rw [show Z.length + 1 = (Z ++ [S[k]]).length by simp]
   exact ⟨m - 1, by omega, k + 1, aE, cE, Z ++ [S[k]], _, _, _, _, by omega, by simp; omega, y2, rfl⟩
 ·refine wpC_seq (sr fun LL hLL => ?_)
  simp only [ptrTo, oxs, simprocAttr, eq_false (show ¬ (k : Int) < (S.length : Int) by omega)]
  refine hLL _ _ ?_
  refine wpC_if ?_
  simp only [ptrTo, oxs, simprocAttr]
  refine wpC_exit ?_
  simp only [ptrTo, oxs, simprocAttr]
  refine fg8 (fun R => ?_)
  refine sr (fun LL hLL => ?_)
  simp only [ptrTo, oxs, simprocAttr]
  refine hLL _ _ ?_
  refine wpC_ret (out_ret ?_)
  simp only [ptrTo, oxs, simprocAttr]
  have s5 := (s3).sel 3 [0]
  simp only [oxf] at s5
  exact hk _ _ _ _ (by omega) s5
end Go.Proofs

namespace Go.Proofs
open Go Go.Ox
set_option maxRecDepth 100000
set_option maxHeartbeats 4000000
theorem wnFst {h0 h : AHeap} {F : List Asn} {e : TypeId} {b : Option Addr} {d : Nat} {Z : List Int} (s : St h0 h (wn icell 1 e b d Z :: F)) : Go.Ox.fst h 1 Z.length b = some (Z.flatMap icell) := by
 refine (s.rs icell.len).fst fun hb => ?_
 subst hb
 obtain ⟨B, w⟩ := s.wnB
 rcases w with ⟨_, _, _, h⟩ | ⟨b, h, _⟩
 ·first | exact h | assumption | simp_all
 ·cases h
theorem apart_ok {h0 : AHeap} {F : List Asn} (g : Int) (a : Option Addr) (c : Nat) (L : List OpX) (sp : SpR h0 a L) (hn : L.length ≤ 20) (hin : ∀ x ∈ L, InnOk L x) (Q : List Int) (o : OrdOk L Q) (hl : L.length ≤ Q.length) (i : Nat) (hi : i < L.length) (hi20 : L[i].inn.length ≤ 20) (h : AHeap) (s : St h0 h F) (K : Value → AHeap → Prop)
  (hk : ∀ (b : Bool) h', St h0 h' F → K (.bool b) h') : wpF Tryz.prog (.fn 62) [.agg #[.int .i64 g, .slice a L.length c], .int .i64 i] h K := by
 have hfew := sp.few
 refine wpF_fun 46 [.tmp 4] Tryz.func62 rfl rfl rfl rfl ?_
 have s1 := s.push (spB g a L.length c)
 obtain ⟨h1, e1⟩ : ∃ h1, h1 = h.push (spB g a L.length c) := ⟨_, rfl⟩
 obtain ⟨bs, ebs⟩ : ∃ b, b = h.next := ⟨_, rfl⟩
 rw [← e1, ← ebs] at s1
 refine sr (fun LL hLL => ?_)
 simp only [ptrTo, oxs, simprocAttr]
 refine hLL _ _ ?_
 rw [← e1, ← ebs]
 refine sr (fun LL hLL => ?_)
 simp only [ptrTo, oxs, simprocAttr]
 refine hLL _ _ ?_
 refine wpC_seq ?_
 refine sr (fun LL hLL => ?_)
 simp only [ptrTo, oxs, simprocAttr]
 refine hLL _ _ ?_
 refine fg7 (fun R => ?_)
 obtain ⟨I, eI⟩ : ∃ I, I = L[i].inn := ⟨_, rfl⟩
 have hI := hin L[i] (List.getElem_mem hi)
 unfold InnOk at hI
 rw [← eI] at hI hi20
 refine wpC_block ?_
 refine wpC_loop (fun m T h' => ∃ (k : Nat) (b : Option Addr) (d : Nat) (Z : List Int) (u0 u3 u4 : Value) (R : List Value), m + k = I.length ∧ Z.length ≤ k * 20 ∧ St h0 h' (wn icell 1 3 b d Z :: own bs (spB g a L.length c) :: F) ∧
  T = u0 :: .int .i64 i :: .pointer (some ⟨bs, 0, none⟩) :: u3 :: u4 :: .slice b Z.length d :: .int .i64 k :: R) ?_ I.length _ _ ⟨0, none, 0, [], _, _, _, R, by omega, by simp, s1.wn_nil, rfl⟩
 rintro m T h' ⟨k, b, d, Z, u0, u3, u4, R, hmk, hZ, s2, rfl⟩
 have gs := (s2.mv 1).get
 obtain ⟨b1, o1, ro1, sz1, C1, T1, rfl, p1, g1, w0, w1, w2, x2, w8, x8⟩ := (sp.fr s2.base).at i hi
 have hxin := sp.ins L[i] (List.getElem_mem hi)
 have rin := hxin.1.fr s2.base
 have hil := hxin.2
 rw [← eI] at rin hil w1
 obtain ⟨ai, eai⟩ : ∃ x, x = L[i].a := ⟨_, rfl⟩
 obtain ⟨ci, eci⟩ : ∃ x, x = L[i].cap := ⟨_, rfl⟩
 rw [← eai] at rin
 rw [← eai, ← eci] at w1
 refine wpC_seq (sr fun LL hLL => ?_)
 simp only [ptrTo, oxs, simprocAttr, gs, ixF hi, g1, w1]
 refine hLL _ _ ?_
 refine wpC_if ?_
 simp only [ptrTo, oxs, simprocAttr]
 refine gC_of (fun hc => ?_) (fun hc => ?_)
 ·refine wpC_skip ?_
  simp only [ptrTo, oxs, simprocAttr]
  refine fg7 (fun R => ?_)
  have hk' : k < I.length := by omega
  have hne : I ≠ [] := by rintro rfl; simp at hk'
  obtain ⟨b3, o3, ro3, sz3, C3, T3, e3, p3, g3, r3, q3⟩ := rin.resolve_left hne
  subst e3
  have v1 : C3[o3 + k * 1]? = some (.int .i64 I[k]) := Rs.cell icell.len r3 q3 k hk' 0 (by omega)
  obtain ⟨y1, y2⟩ := hI I[k] (List.getElem_mem hk')
  obtain ⟨y, ey⟩ : ∃ y : Nat, I[k] = (y : Int) := ⟨I[k].toNat, by omega⟩
  rw [ey] at v1 y1 y2
  refine wpC_seq (wpC_block ?_)
  refine su [some 20, some 21, some 22, some 23, some 24, some 25, some 26, some 27, some 28, some 29, some 30, some 7] 12 [0, 0, 2, 0, 14, 30, 62, 0, 254, 510, 1023, 2047] (by rfl) (by rfl) (by decide +kernel) (by decide +kernel) (by decide +kernel) (fun LL hLL => ?_)
  simp only [ptrTo, pend, pend0, Pd.old, pendU, pendU0, Nat.testBit, oxh, simprocAttr, gs, ixF hi, g1, w1, ixF hk', g3, v1]
  refine roots_ok g _ c L sp Q o hl y (by omega) _ s2 _ fun b4 d4 S h4 hS s4 => ?_
  simp only [ptrTo, pend, pend0, Pd.old, pendU, pendU0, Nat.testBit, oxh, simprocAttr]
  refine hLL _ _ ?_
  refine xp7 2 (by repeat (first | exact tput_le _ _ _ _ (.inr (by omega)) | refine tput_le _ _ _ _ (.inl ?_))) (fun R => ?_)
  simp only [ptrTo, oxs, simprocAttr, show List.range 2 = [0, 1] from rfl]
  refine fg9 (fun R => ?_)
  refine sm (fun T h'' => h'' = h4 ∧ ∃ (u0 u3 u4 u8 : Value) (R : List Value),
   T = u0 :: .int .i64 i :: .pointer (some ⟨bs, 0, none⟩) :: u3 :: u4 :: .slice b Z.length d :: .int .i64 k :: .slice b4 S.length d4 :: u8 :: R) ?_ ?_
  ·refine sr (fun LL hLL => ?_)
   simp only [ptrTo, oxs, simprocAttr]
   refine hLL _ _ ?_
   refine fg9 (fun R => ?_)
   refine wpC_block ?_
   refine wpC_loop (fun m T h'' => ∃ (j : Nat) (u0 u3 u4 : Value) (R : List Value), h'' = h4 ∧ m + j = S.length ∧
    T = u0 :: .int .i64 i :: .pointer (some ⟨bs, 0, none⟩) :: u3 :: u4 :: .slice b Z.length d :: .int .i64 k :: .slice b4 S.length d4 :: .int .i64 j :: R) ?_ S.length _ _ ⟨0, _, _, _, R, rfl, by omega, rfl⟩
   rintro m2 T h'' ⟨j, u0, u3, u4, R, rfl, hmj, rfl⟩
   refine wpC_seq (sr fun LL hLL => ?_)
   simp only [ptrTo, oxs, simprocAttr]
   refine hLL _ _ ?_
   refine wpC_if ?_
   simp only [ptrTo, oxs, simprocAttr]
   refine gC_of (fun hc2 => ?_) (fun hc2 => ?_)
   ·refine wpC_skip ?_
    simp only [ptrTo, oxs, simprocAttr]
    refine fg9 (fun R => ?_)
    have hj : j < S.length := by omega
    have hneS : S ≠ [] := by rintro rfl; simp at hj
    obtain ⟨b5, o5, ro5, sz5, C5, T5, rfl, p5, g5, r5, q5⟩ := (s4.rs icell.len).resolve_left hneS
    have v5 : C5[o5 + j * 1]? = some (.int .i64 S[j]) := Rs.cell icell.len r5 q5 j hj 0 (by omega)
    refine wpC_seq (wpC_block ?_)
    refine sr (fun LL hLL => ?_)
    simp only [ptrTo, pend, pend0, Pd.old, pendU, pendU0, Nat.testBit, oxh, simprocAttr, ixF hj, g5, v5]
    refine has_ok Z S[j] _ _ _ ((s4.mv 1).rs icell.len) (by omega) _ ?_
    simp only [ptrTo, pend, pend0, Pd.old, pendU, pendU0, Nat.testBit, oxh, simprocAttr]
    refine hLL _ _ ?_
    refine wpC_if ?_
    simp only [ptrTo, oxs, simprocAttr]
    refine gC_of (fun hc3 => ?_) (fun hc3 => ?_)
    ·refine sr (fun LL hLL => ?_)
     simp only [ptrTo, oxs, simprocAttr]
     refine hLL _ _ ?_
     refine wpC_ret (out_ret ?_)
     simp only [ptrTo, oxs, simprocAttr]
     exact hk _ _ s4.drop.drop.drop
    ·refine wpC_skip ?_
     simp only [ptrTo, oxs, simprocAttr]
     refine fg9 (fun R => ?_)
     refine rg (fun LL hLL => ?_)
     simp only [ptrTo, oxs, simprocAttr, wsucc (show j < 9223372036854775807 by omega)]
     refine hLL _ _ ?_
     simp only [ptrTo, oxs, simprocAttr]
     exact ⟨m2 - 1, by omega, j + 1, _, _, _, _, by omega, rfl⟩
   ·refine wpC_exit ?_
    simp only [ptrTo, oxs, simprocAttr]
    exact ⟨_, _, _, _, _, rfl⟩
  rintro T h'' ⟨rfl, u0, u3, u4, u8, R, rfl⟩
  obtain ⟨aE, cE, h7, z1, z2⟩ := (s4.mv 1).app (bytes := 8) (d := d4) (M := S) icell.len icell.oc (wnFst s4) (by omega) (by omega)
  refine rg (fun LL hLL => ?_)
  simp only [ptrTo, oxs, simprocAttr, z1]
  refine hLL _ _ ?_
  simp only [ptrTo, oxs, simprocAttr]
  refine fg9 (fun R => ?_)
  refine rg (fun LL hLL => ?_)
  simp only [ptrTo, oxs, simprocAttr, wsucc (show k < 9223372036854775807 by omega)]
  refine hLL _ _ ?_
  simp only [ptrTo, oxs, simprocAttr]
  refine ⟨m - 1, by omega, k + 1, aE, cE, Z ++ S, _, _, _, _, by omega, by simp; omega, ?_, rfl⟩
  have s8 := (z2).sel 2 [0]
  simp only [oxf] at s8
  exact s8
 ·refine wpC_exit ?_
  simp only [ptrTo, oxs, simprocAttr]
  refine fg7 (fun R => ?_)
  refine sr (fun LL hLL => ?_)
  simp only [ptrTo, oxs, simprocAttr]
  refine hLL _ _ ?_
  refine wpC_ret (out_ret ?_)
  simp only [ptrTo, oxs, simprocAttr]
  exact hk _ _ s2.drop.drop
end Go.Proofs

