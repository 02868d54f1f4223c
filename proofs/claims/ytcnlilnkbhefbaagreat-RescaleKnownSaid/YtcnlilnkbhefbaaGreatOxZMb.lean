/-
  A part of the proof: what functions of the program do on an abstract heap. CONDITIONS: none.
-/
import Derived.Test.YtcnlilnkbhefbaaGreatOxZMa
import Derived.Test.YtcnlilnkbhefbaaGreatOxAq
import Derived.Test.YtcnlilnkbhefbaaGreatOxRf
import Derived.Test.YtcnlilnkbhefbaaGreatOxTn
set_option linter.unusedSimpArgs false
set_option linter.unusedVariables false
namespace Go.Proofs
open Go Go.Ox
set_option maxRecDepth 100000
set_option maxHeartbeats 4000000
theorem neBo (x y : Operand) (p q : Bool) : aBin Tryz.prog .neq 4 x y (.bool p) (.bool q) = some (.bool (p != q)) := by cases p <;> cases q <;> rfl
theorem check_ok {h0 : AHeap} {F : List Asn} (g : Int) (a : Option Addr) (c : Nat) (L : List OpX) (sp : SpR h0 a L) (hn : L.length ≤ 20) (h20 : ∀ x ∈ L, x.inn.length ≤ 20) (h : AHeap) (s : St h0 h F) (K : Value → AHeap → Prop)
  (hk : ∀ (e : Int) h', (e = 0 → 1 ≤ g ∧ g ≤ 64 ∧ 1 ≤ L.length ∧ L.length ≤ 12) → St h0 h' F → K (.int .i64 e) h') : wpF Tryz.prog (.fn 27) [.agg #[.int .i64 g, .slice a L.length c]] h K := by
 have hfew := sp.few
 refine wpF_fun 85 [.tmp 2] Tryz.func27 rfl rfl rfl rfl ?_
 have s1 := s.push (spB g a L.length c)
 obtain ⟨h1, e1⟩ : ∃ h1, h1 = h.push (spB g a L.length c) := ⟨_, rfl⟩
 obtain ⟨bs, ebs⟩ : ∃ b, b = h.next := ⟨_, rfl⟩
 rw [← e1, ← ebs] at s1
 refine sr (fun LL hLL => ?_)
 simp only [ptrTo, oxs, simprocAttr]
 refine hLL _ _ ?_
 rw [← e1, ← ebs]
 have gs := s1.get
 by_cases c1 : g < 1
 ·refine wpC_seq (sr fun LL hLL => ?_)
  simp only [ptrTo, oxs, simprocAttr, gs, eq_true c1]
  refine hLL _ _ ?_
  refine wpC_if ?_
  simp only [ptrTo, oxs, simprocAttr]
  refine sr (fun LL hLL => ?_)
  simp only [ptrTo, oxs, simprocAttr]
  refine hLL _ _ ?_
  refine wpC_ret (out_ret ?_)
  simp only [ptrTo, oxs, simprocAttr]
  exact hk _ _ (fun h => by cases h) s1.drop
 by_cases c2 : 64 < g
 ·refine wpC_seq (sr fun LL hLL => ?_)
  simp only [ptrTo, oxs, simprocAttr, gs, eq_false c1, eq_true c2]
  refine hLL _ _ ?_
  refine wpC_if ?_
  simp only [ptrTo, oxs, simprocAttr]
  refine sr (fun LL hLL => ?_)
  simp only [ptrTo, oxs, simprocAttr]
  refine hLL _ _ ?_
  refine wpC_ret (out_ret ?_)
  simp only [ptrTo, oxs, simprocAttr]
  exact hk _ _ (fun h => by cases h) s1.drop
 refine wpC_seq (sr fun LL hLL => ?_)
 simp only [ptrTo, oxs, simprocAttr, gs, eq_false c1, eq_false c2]
 refine hLL _ _ ?_
 refine wpC_if ?_
 simp only [ptrTo, oxs, simprocAttr]
 refine wpC_skip ?_
 simp only [ptrTo, oxs, simprocAttr]
 refine fg7 (fun R => ?_)
 by_cases c3 : L.length < 1
 ·refine wpC_seq (sr fun LL hLL => ?_)
  simp only [ptrTo, oxs, simprocAttr, gs, eq_true (show (L.length : Int) < 1 by omega)]
  refine hLL _ _ ?_
  refine wpC_if ?_
  simp only [ptrTo, oxs, simprocAttr]
  refine sr (fun LL hLL => ?_)
  simp only [ptrTo, oxs, simprocAttr]
  refine hLL _ _ ?_
  refine wpC_ret (out_ret ?_)
  simp only [ptrTo, oxs, simprocAttr]
  exact hk _ _ (fun h => by cases h) s1.drop
 by_cases c4 : 12 < L.length
 ·refine wpC_seq (sr fun LL hLL => ?_)
  simp only [ptrTo, oxs, simprocAttr, gs, eq_false (show ¬ (L.length : Int) < 1 by omega), eq_true (show 12 < (L.length : Int) by omega)]
  refine hLL _ _ ?_
  refine wpC_if ?_
  simp only [ptrTo, oxs, simprocAttr]
  refine sr (fun LL hLL => ?_)
  simp only [ptrTo, oxs, simprocAttr]
  refine hLL _ _ ?_
  refine wpC_ret (out_ret ?_)
  simp only [ptrTo, oxs, simprocAttr]
  exact hk _ _ (fun h => by cases h) s1.drop
 refine wpC_seq (sr fun LL hLL => ?_)
 simp only [ptrTo, oxs, simprocAttr, gs, eq_false (show ¬ (L.length : Int) < 1 by omega), eq_false (show ¬ 12 < (L.length : Int) by omega)]
 refine hLL _ _ ?_
 refine wpC_if ?_
 simp only [ptrTo, oxs, simprocAttr]
 refine wpC_skip ?_
 simp only [ptrTo, oxs, simprocAttr]
 refine fg7 (fun R => ?_)
 have hok : ∀ e : Int, e = 0 → 1 ≤ g ∧ g ≤ 64 ∧ 1 ≤ L.length ∧ L.length ≤ 12 := fun _ _ => by omega
 refine sm (fun T h' => (∀ x ∈ L, InnOk L x) ∧ St h0 h' (own bs (spB g a L.length c) :: F) ∧ ∃ (u0 u2 : Value) (R : List Value), T = u0 :: .pointer (some ⟨bs, 0, none⟩) :: u2 :: R) ?_ ?_
 ·refine sr (fun LL hLL => ?_)
  simp only [ptrTo, oxs, simprocAttr]
  refine hLL _ _ ?_
  refine fg4 (fun R => ?_)
  refine wpC_block ?_
  refine wpC_loop (fun m T h' => ∃ (k : Nat) (u0 u2 : Value) (R : List Value), m + k = L.length ∧ (∀ x ∈ L.take k, InnOk L x) ∧ St h0 h' (own bs (spB g a L.length c) :: F) ∧ T = u0 :: .pointer (some ⟨bs, 0, none⟩) :: u2 :: .int .i64 k :: R) ?_ L.length _ _ ⟨0, _, _, R, by omega, by simp, s1, rfl⟩
  rintro m T h' ⟨k, u0, u2, R, hmk, hin, s2, rfl⟩
  have gs := s2.get
  refine wpC_seq (sr fun LL hLL => ?_)
  simp only [ptrTo, oxs, simprocAttr, gs]
  refine hLL _ _ ?_
  refine wpC_if ?_
  simp only [ptrTo, oxs, simprocAttr]
  refine gC_of (fun hc => ?_) (fun hc => ?_)
  ·refine wpC_skip ?_
   simp only [ptrTo, oxs, simprocAttr]
   refine fg4 (fun R => ?_)
   have hk' : k < L.length := by omega
   refine wpC_seq (wpC_block ?_)
   refine sr (fun LL hLL => ?_)
   simp only [ptrTo, pend, pend0, Pd.old, pendU, pendU0, Nat.testBit, oxh, simprocAttr, gs]
   refine alone_ok g a c L sp k hk' _ s2 _ fun e h3 he s3 => ?_
   simp only [ptrTo, pend, pend0, Pd.old, pendU, pendU0, Nat.testBit, oxh, simprocAttr]
   refine hLL _ _ ?_
   refine xp4 1 (by repeat (first | exact tput_le _ _ _ _ (.inr (by omega)) | refine tput_le _ _ _ _ (.inl ?_))) (fun R => ?_)
   simp only [ptrTo, oxs, simprocAttr, show List.range 1 = [0] from rfl]
   refine fg5 (fun R => ?_)
   refine sr (fun LL hLL => ?_)
   simp only [ptrTo, oxs, simprocAttr]
   refine hLL _ _ ?_
   by_cases h0e : e = 0
   ·refine wpC_if ?_
    simp only [ptrTo, oxs, simprocAttr, h0e]
    refine wpC_skip ?_
    simp only [ptrTo, oxs, simprocAttr]
    refine fg4 (fun R => ?_)
    refine rg (fun LL hLL => ?_)
    simp only [ptrTo, oxs, simprocAttr, wsucc (show k < 9223372036854775807 by omega)]
    refine hLL _ _ ?_
    simp only [ptrTo, oxs, simprocAttr]
    refine ⟨m - 1, by omega, k + 1, _, _, _, by omega, fun y hy => ?_, s3, rfl⟩
    rw [List.take_succ_eq_append_getElem hk'] at hy
    rcases List.mem_append.1 hy with hy | hy
    ·exact hin y hy
    ·obtain rfl := List.mem_singleton.1 hy
     exact he h0e
   ·refine wpC_if ?_
    simp only [ptrTo, oxs, simprocAttr, h0e]
    refine sr (fun LL hLL => ?_)
    simp only [ptrTo, oxs, simprocAttr]
    refine hLL _ _ ?_
    refine wpC_ret (out_ret ?_)
    simp only [ptrTo, oxs, simprocAttr]
    exact hk _ _ (fun h => absurd h h0e) s3.drop
  ·have : k = L.length := by omega
   subst this
   rw [List.take_length] at hin
   refine wpC_exit ?_
   simp only [ptrTo, oxs, simprocAttr]
   exact ⟨hin, s2, _, _, _, rfl⟩
 clear gs s1 e1
 rintro T h2 ⟨hin, s1, u0, u2, R, rfl⟩
 refine sm (fun T h' => St h0 h' (own bs (spB g a L.length c) :: F) ∧ ∃ (u0 u2 : Value) (R : List Value), T = u0 :: .pointer (some ⟨bs, 0, none⟩) :: u2 :: R) ?_ ?_
 ·refine sr (fun LL hLL => ?_)
  simp only [ptrTo, oxs, simprocAttr]
  refine hLL _ _ ?_
  refine xp3 3 (by repeat (first | exact tput_le _ _ _ _ (.inr (by omega)) | refine tput_le _ _ _ _ (.inl ?_))) (fun R => ?_)
  simp only [ptrTo, oxs, simprocAttr, show List.range 3 = [0, 1, 2] from rfl]
  refine fg6 (fun R => ?_)
  refine wpC_block ?_
  refine wpC_loop (fun m T h' => ∃ (k : Nat) (u0 u2 u3 u4 : Value) (R : List Value), m + k = L.length ∧ St h0 h' (own bs (spB g a L.length c) :: F) ∧ T = u0 :: .pointer (some ⟨bs, 0, none⟩) :: u2 :: u3 :: u4 :: .int .i64 k :: R) ?_ L.length _ _ ⟨0, _, _, _, _, R, by omega, s1, rfl⟩
  rintro m T h' ⟨k, u0, u2, u3, u4, R, hmk, s2, rfl⟩
  have gs := s2.get
  refine wpC_seq (sr fun LL hLL => ?_)
  simp only [ptrTo, oxs, simprocAttr, gs]
  refine hLL _ _ ?_
  refine wpC_if ?_
  simp only [ptrTo, oxs, simprocAttr]
  refine gC_of (fun hc => ?_) (fun hc => ?_)
  ·refine wpC_skip ?_
   simp only [ptrTo, oxs, simprocAttr]
   refine fg6 (fun R => ?_)
   have hk' : k < L.length := by omega
   obtain ⟨b1, o1, ro1, sz1, C1, T1, ea, p1, g1, w0, w1, w2, x2, w8, x8⟩ := (sp.fr s2.base).at k hk'
   refine wpC_seq (wpC_block ?_)
   subst ea
   obtain ⟨q2, d2⟩ := dq (L[k].kind = 8)
   refine sd [0, 1, 5, 6, 7, 8, 9, 10, 11, 2, 3, 4, 12] [0, 0, 0, 32, 0, 224, 480, 992, 2016, 3, 7, 15, 4095] (by decide +kernel) (by decide +kernel) (by decide +kernel) (fun LL hLL => ?_)
   simp only [ptrTo, pend, pend0, Pd.old, pendU, pendU0, Nat.testBit, oxh, simprocAttr, gs, ixF hk', g1, w0, d2]
   refine users_ok g _ c L sp (k : Int) _ s2 _ fun b d n h3 hn3 s3 => ?_
   obtain ⟨b4, o4, ro4, sz4, C4, T4, ea4, p4, g4, w4, _, _, _, _, _⟩ := (sp.fr s3.base).at k hk'
   have gs3 := s3.get
   obtain ⟨q1, d1⟩ := dq (n = 0)
   have d1' : decide ((n : Int) = 0) = q1 := by rw [← d1]; simp
   cases ea4
   cases q1 <;> cases q2
   all_goals
    simp only [ptrTo, pend, pend0, Pd.old, pendU, pendU0, Nat.testBit, oxh, simprocAttr, gs3, ixF hk', g4, w4, d1', d2, neBo, bne_self_eq_false, Bool.true_bne, Bool.bne_true, Bool.false_bne, Bool.not_true, Bool.not_false]
    refine hLL _ _ ?_
    refine wpC_if ?_
    simp only [ptrTo, oxs, simprocAttr]
   ·refine wpC_skip ?_
    simp only [ptrTo, oxs, simprocAttr]
    refine fg6 (fun R => ?_)
    refine rg (fun LL hLL => ?_)
    simp only [ptrTo, oxs, simprocAttr, wsucc (show k < 9223372036854775807 by omega)]
    refine hLL _ _ ?_
    simp only [ptrTo, oxs, simprocAttr]
    exact ⟨m - 1, by omega, k + 1, _, _, _, _, _, by omega, s3, rfl⟩
   ·refine sr (fun LL hLL => ?_)
    simp only [ptrTo, oxs, simprocAttr]
    refine hLL _ _ ?_
    refine wpC_ret (out_ret ?_)
    simp only [ptrTo, oxs, simprocAttr]
    exact hk _ _ (fun h => by cases h) s3.drop
   ·refine sr (fun LL hLL => ?_)
    simp only [ptrTo, oxs, simprocAttr]
    refine hLL _ _ ?_
    refine wpC_ret (out_ret ?_)
    simp only [ptrTo, oxs, simprocAttr]
    exact hk _ _ (fun h => by cases h) s3.drop
   ·refine wpC_skip ?_
    simp only [ptrTo, oxs, simprocAttr]
    refine fg6 (fun R => ?_)
    refine rg (fun LL hLL => ?_)
    simp only [ptrTo, oxs, simprocAttr, wsucc (show k < 9223372036854775807 by omega)]
    refine hLL _ _ ?_
    simp only [ptrTo, oxs, simprocAttr]
    exact ⟨m - 1, by omega, k + 1, _, _, _, _, _, by omega, s3, rfl⟩
  ·refine wpC_exit ?_
   simp only [ptrTo, oxs, simprocAttr]
   exact ⟨s2, _, _, _, rfl⟩
 clear s1
 rintro T h3 ⟨s1, u0, u2, R, rfl⟩
 have gs := s1.get
 refine wpC_seq ?_
 refine sd [0, 3, 4, 5, 1, 2, 6] [0, 0, 8, 24, 1, 3, 63] (by decide +kernel) (by decide +kernel) (by decide +kernel) (fun LL hLL => ?_)
 simp only [ptrTo, pend, pend0, Pd.old, pendU, pendU0, Nat.testBit, oxh, simprocAttr, gs]
 refine order_ok g a c L sp hin _ s1 _ fun b d Q h4 hQ s4 => ?_
 have gs4 := (s4.mv 1).get
 simp only [ptrTo, pend, pend0, Pd.old, pendU, pendU0, Nat.testBit, oxh, simprocAttr, gs4]
 refine hLL _ _ ?_
 refine wpC_if ?_
 simp only [ptrTo, oxs, simprocAttr]
 refine gC_of (fun hc => ?_) (fun hc => ?_)
 ·refine sr (fun LL hLL => ?_)
  simp only [ptrTo, oxs, simprocAttr]
  refine hLL _ _ ?_
  refine wpC_ret (out_ret ?_)
  simp only [ptrTo, oxs, simprocAttr]
  exact hk _ _ (fun h => by cases h) s4.drop.drop
 have hQl : L.length ≤ Q.length := by omega
 refine wpC_skip ?_
 simp only [ptrTo, oxs, simprocAttr]
 refine fg3 (fun R => ?_)
 refine wpC_seq ?_
 refine sr (fun LL hLL => ?_)
 simp only [ptrTo, oxs, simprocAttr]
 refine hLL _ _ ?_
 refine xp3 4 (by repeat (first | exact tput_le _ _ _ _ (.inr (by omega)) | refine tput_le _ _ _ _ (.inl ?_))) (fun R => ?_)
 simp only [ptrTo, oxs, simprocAttr, show List.range 4 = [0, 1, 2, 3] from rfl]
 refine fg7 (fun R => ?_)
 refine wpC_block ?_
 refine wpC_loop (fun m T h' => ∃ (k : Nat) (u0 u2 u3 u4 u5 : Value) (R : List Value), m + k = L.length ∧ St h0 h' (wn icell 1 3 b d Q :: own bs (spB g a L.length c) :: F) ∧ T = u0 :: .pointer (some ⟨bs, 0, none⟩) :: u2 :: u3 :: u4 :: u5 :: .int .i64 k :: R) ?_ L.length _ _ ⟨0, _, _, _, _, _, R, by omega, s4, rfl⟩
 rintro m T h' ⟨k, u0, u2, u3, u4, u5, R, hmk, s2, rfl⟩
 have gs := (s2.mv 1).get
 refine wpC_seq (sr fun LL hLL => ?_)
 simp only [ptrTo, oxs, simprocAttr, gs]
 refine hLL _ _ ?_
 refine wpC_if ?_
 simp only [ptrTo, oxs, simprocAttr]
 refine gC_of (fun hc => ?_) (fun hc => ?_)
 ·refine wpC_skip ?_
  simp only [ptrTo, oxs, simprocAttr]
  refine fg7 (fun R => ?_)
  have hk' : k < L.length := by omega
  obtain ⟨b1, o1, ro1, sz1, C1, T1, ea, p1, g1, w0, w1, w2, x2, w8, x8⟩ := (sp.fr s2.base).at k hk'
  subst ea
  refine wpC_seq (wpC_block ?_)
  by_cases h7 : L[k].kind = 7
  ·refine sr (fun LL hLL => ?_)
   simp only [ptrTo, pend, pend0, Pd.old, pendU, pendU0, Nat.testBit, oxh, simprocAttr, gs, ixF hk', g1, w0, eq_true h7]
   refine apart_ok g _ c L sp hn hin Q hQ hQl k hk' (h20 _ (List.getElem_mem hk')) _ s2 _ fun q h5 s5 => ?_
   simp only [ptrTo, pend, pend0, Pd.old, pendU, pendU0, Nat.testBit, oxh, simprocAttr]
   refine hLL _ _ ?_
   refine wpC_if ?_
   simp only [ptrTo, oxs, simprocAttr]
   cases q
   ·refine sr (fun LL hLL => ?_)
    simp only [ptrTo, oxs, simprocAttr]
    refine hLL _ _ ?_
    refine wpC_ret (out_ret ?_)
    simp only [ptrTo, oxs, simprocAttr]
    exact hk _ _ (fun h => by cases h) s5.drop.drop
   ·refine wpC_skip ?_
    simp only [ptrTo, oxs, simprocAttr]
    refine fg7 (fun R => ?_)
    refine rg (fun LL hLL => ?_)
    simp only [ptrTo, oxs, simprocAttr, wsucc (show k < 9223372036854775807 by omega)]
    refine hLL _ _ ?_
    simp only [ptrTo, oxs, simprocAttr]
    exact ⟨m - 1, by omega, k + 1, _, _, _, _, _, _, by omega, s5, rfl⟩
  ·refine sr (fun LL hLL => ?_)
   simp only [ptrTo, oxs, simprocAttr, gs, ixF hk', g1, w0, eq_false h7]
   refine hLL _ _ ?_
   refine wpC_if ?_
   simp only [ptrTo, oxs, simprocAttr]
   refine wpC_skip ?_
   simp only [ptrTo, oxs, simprocAttr]
   refine fg7 (fun R => ?_)
   refine rg (fun LL hLL => ?_)
   simp only [ptrTo, oxs, simprocAttr, wsucc (show k < 9223372036854775807 by omega)]
   refine hLL _ _ ?_
   simp only [ptrTo, oxs, simprocAttr]
   exact ⟨m - 1, by omega, k + 1, _, _, _, _, _, _, by omega, s2, rfl⟩
 ·refine wpC_exit ?_
  simp only [ptrTo, oxs, simprocAttr]
  refine fg7 (fun R => ?_)
  refine sr (fun LL hLL => ?_)
  simp only [ptrTo, oxs, simprocAttr]
  refine hLL _ _ ?_
  refine wpC_ret (out_ret ?_)
  simp only [ptrTo, oxs, simprocAttr]
  exact hk _ _ (hok _) s2.drop.drop
end Go.Proofs

namespace Go.Proofs
open Go Go.Ox
set_option maxRecDepth 100000
set_option maxHeartbeats 4000000
/-- A manifest, and where its parts stand. -/
structure MfX where
 id : Int
 pa : Option Addr
 P : List Int
 pc : Nat
 la : Option Addr
 LI : List (List Int)
 lc : Nat
 ra : Option Addr
 RR : List (List Rw)
 rc : Nat
 ea : Option Addr
 ES : List Sv
 ec : Nat
def MfX.cells (m : MfX) : List Value := [.int .i64 m.id, .slice m.pa m.P.length m.pc, .slice m.la m.LI.length m.lc, .slice m.ra m.RR.length m.rc, .slice m.ea m.ES.length m.ec]
theorem MfX.len (m : MfX) : m.cells.length = 5 := rfl
/-- What can be read of it. -/
structure MfR (h : AHeap) (m : MfX) : Prop where
 p : Rs icell 1 h m.pa m.P
 l : RsN icell 1 h m.la m.LI
 r : RsN rcell 3 h m.ra m.RR
 e : Rs Sv.cells 1 h m.ea m.ES
theorem MfR.fr {h h' : AHeap} {m : MfX} (s : MfR h m) (f : Fr h h' []) : MfR h' m := ⟨s.p.fr f, s.l.fr f, s.r.fr f, s.e.fr f⟩
/-- How much there is of it. -/
structure MfB (m : MfX) : Prop where
 p : m.P.length < 17592186045000
 l : m.LI.length < 17592186044000
 r : m.RR.length < 17592186044000
 e : m.ES.length < 17592186044000
 l1 : ∀ x ∈ m.LI, x.length < 17592186045000
 r1 : ∀ x ∈ m.RR, x.length < 17592186044000
 e1 : ∀ x ∈ m.ES, x.len < 17592186045000
/-- What 'not long' tells. -/
structure MfS (m : MfX) : Prop where
 n : m.LI.length ≤ 60 ∧ m.RR.length ≤ 60 ∧ m.ES.length ≤ 20 ∧ ∀ x ∈ m.ES, x.len ≤ 2000
 l1 : ∀ x ∈ m.LI, x.length ≤ 2000
 r1 : ∀ x ∈ m.RR, x.length ≤ 2000
theorem long5_ok {h0 : AHeap} {F : List Asn} (g : Int) (a : Option Addr) (c : Nat) (L : List OpX) (sp : SpR h0 a L) (h : AHeap) (s : St h0 h F) (K : Value → AHeap → Prop)
  (hk : ∀ (b : Bool) h', (b = false → L.length ≤ 20 ∧ ∀ x ∈ L, x.inn.length ≤ 20) → St h0 h' F → K (.bool b) h') : wpF Tryz.prog (.fn 25) [.agg #[.int .i64 g, .slice a L.length c]] h K := by
 have hfew := sp.few
 refine wpF_fun 23 [.tmp 2] Tryz.func25 rfl rfl rfl rfl ?_
 have s1 := s.push (spB g a L.length c)
 obtain ⟨h1, e1⟩ : ∃ h1, h1 = h.push (spB g a L.length c) := ⟨_, rfl⟩
 obtain ⟨bs, ebs⟩ : ∃ b, b = h.next := ⟨_, rfl⟩
 rw [← e1, ← ebs] at s1
 refine sr (fun LL hLL => ?_)
 simp only [ptrTo, oxs, simprocAttr]
 refine hLL _ _ ?_
 rw [← e1, ← ebs]
 have gs := s1.get
 refine wpC_seq (sr fun LL hLL => ?_)
 simp only [ptrTo, oxs, simprocAttr, gs]
 refine hLL _ _ ?_
 refine wpC_if ?_
 simp only [ptrTo, oxs, simprocAttr]
 refine gC_of (fun hc => ?_) (fun hc => ?_)
 ·refine sr (fun LL hLL => ?_)
  simp only [ptrTo, oxs, simprocAttr]
  refine hLL _ _ ?_
  refine wpC_ret (out_ret ?_)
  simp only [ptrTo, oxs, simprocAttr]
  exact hk _ _ (fun h => by cases h) s1.drop
 refine wpC_skip ?_
 simp only [ptrTo, oxs, simprocAttr]
 refine fg4 (fun R => ?_)
 refine wpC_seq ?_
 refine sr (fun LL hLL => ?_)
 simp only [ptrTo, oxs, simprocAttr]
 refine hLL _ _ ?_
 refine fg4 (fun R => ?_)
 refine wpC_block ?_
 refine wpC_loop (fun m T h' => ∃ (k : Nat) (u0 u2 : Value) (R : List Value), h' = h1 ∧ m + k = L.length ∧ (∀ x ∈ L.take k, x.inn.length ≤ 20) ∧ T = u0 :: .pointer (some ⟨bs, 0, none⟩) :: u2 :: .int .i64 k :: R) ?_ L.length _ _ ⟨0, _, _, R, rfl, by omega, by simp, rfl⟩
 rintro m T h' ⟨k, u0, u2, R, rfl, hmk, hin, rfl⟩
 refine wpC_seq (sr fun LL hLL => ?_)
 simp only [ptrTo, oxs, simprocAttr, gs]
 refine hLL _ _ ?_
 refine wpC_if ?_
 simp only [ptrTo, oxs, simprocAttr]
 refine gC_of (fun hc1 => ?_) (fun hc1 => ?_)
 ·refine wpC_skip ?_
  simp only [ptrTo, oxs, simprocAttr]
  refine fg4 (fun R => ?_)
  have hk' : k < L.length := by omega
  obtain ⟨b1, o1, ro1, sz1, C1, T1, rfl, p1, g1, w0, w1, w2, x2, w8, x8⟩ := (sp.fr s1.base).at k hk'
  refine wpC_seq (wpC_block ?_)
  refine sr (fun LL hLL => ?_)
  simp only [ptrTo, oxs, simprocAttr, gs, ixF hk', g1, w1]
  refine hLL _ _ ?_
  refine wpC_if ?_
  simp only [ptrTo, oxs, simprocAttr]
  refine gC_of (fun hc2 => ?_) (fun hc2 => ?_)
  ·refine sr (fun LL hLL => ?_)
   simp only [ptrTo, oxs, simprocAttr]
   refine hLL _ _ ?_
   refine wpC_ret (out_ret ?_)
   simp only [ptrTo, oxs, simprocAttr]
   exact hk _ _ (fun h => by cases h) s1.drop
  ·refine wpC_skip ?_
   simp only [ptrTo, oxs, simprocAttr]
   refine fg4 (fun R => ?_)
   refine rg (fun LL hLL => ?_)
   simp only [ptrTo, oxs, simprocAttr, wsucc (show k < 9223372036854775807 by omega)]
   refine hLL _ _ ?_
   simp only [ptrTo, oxs, simprocAttr]
   refine ⟨m - 1, by omega, k + 1, _, _, _, by omega, fun y hy => ?_, rfl⟩
   rw [List.take_succ_eq_append_getElem hk'] at hy
   rcases List.mem_append.1 hy with hy | hy
   ·exact hin y hy
   ·obtain rfl := List.mem_singleton.1 hy
    omega
 ·have : k = L.length := by omega
  subst this
  rw [List.take_length] at hin
  refine wpC_exit ?_
  simp only [ptrTo, oxs, simprocAttr]
  refine fg4 (fun R => ?_)
  refine sr (fun LL hLL => ?_)
  simp only [ptrTo, oxs, simprocAttr]
  refine hLL _ _ ?_
  refine wpC_ret (out_ret ?_)
  simp only [ptrTo, oxs, simprocAttr]
  exact hk _ _ (fun _ => ⟨by omega, hin⟩) s1.drop
theorem few_ok (n : Nat) (hn : n ≤ 4000000000000000) (ES : List Sv) (a : Option Addr) (c : Nat) (h : AHeap) (r : Rs Sv.cells 1 h a ES) (hl : ES.length < 17592186044000) (hl1 : ∀ x ∈ ES, x.len < 17592186045000) (K : Value → AHeap → Prop)
  (hk : ∀ b : Bool, (b = true → n ≤ 2000 ∧ ES.length ≤ 20 ∧ ∀ x ∈ ES, x.len ≤ 2000) → K (.bool b) h) : wpF Tryz.prog (.fn 58) [.int .i64 n, .slice a ES.length c] h K := by
 refine wpF_fun 30 [.tmp 4] Tryz.func58 rfl rfl rfl rfl ?_
 refine sr (fun LL hLL => ?_)
 simp only [ptrTo, oxs, simprocAttr]
 refine hLL _ _ ?_
 refine wpC_seq ?_
 refine sr (fun LL hLL => ?_)
 simp only [ptrTo, oxs, simprocAttr]
 refine hLL _ _ ?_
 refine fg6 (fun R => ?_)
 refine wpC_block ?_
 refine wpC_loop (fun m T h' => ∃ (k t : Nat) (u2 u3 u4 : Value) (R : List Value), h' = h ∧ m + k = ES.length ∧ k ≤ 20 ∧ n ≤ t ∧ t ≤ n + k * 17592186045000 ∧ (∀ x ∈ ES.take k, x.len ≤ t) ∧ T = .int .i64 t :: .slice a ES.length c :: u2 :: u3 :: u4 :: .int .i64 k :: R) ?_ ES.length _ _ ⟨0, n, _, _, _, R, rfl, by omega, by omega, by omega, by omega, by simp, rfl⟩
 rintro m T h' ⟨k, t, u2, u3, u4, R, rfl, hmk, hk20, hnt, ht, hall, rfl⟩
 by_cases hk' : k < ES.length
 ·by_cases hk2 : k < 20
  ·refine wpC_seq (sr fun LL hLL => ?_)
   simp only [ptrTo, oxs, simprocAttr, eq_true (show (k : Int) < (ES.length : Int) by omega), eq_true (show (k : Int) < 20 by omega)]
   refine hLL _ _ ?_
   refine wpC_if ?_
   simp only [ptrTo, oxs, simprocAttr]
   refine wpC_skip ?_
   simp only [ptrTo, oxs, simprocAttr]
   refine fg6 (fun R => ?_)
   have hne : ES ≠ [] := by rintro rfl; simp at hk'
   obtain ⟨b3, o3, ro3, sz3, C3, T3, rfl, p3, g3, r3, q3⟩ := r.resolve_left hne
   have v1 : C3[o3 + k * 1]? = some (.slice ES[k].a ES[k].len ES[k].cap) := Rs.cell Sv.len1 r3 q3 k hk' 0 (by omega)
   have hx := hl1 ES[k] (List.getElem_mem hk')
   have hw : IntKind.i64.wrap ((t : Int) + (ES[k].len : Int)) = ((t + ES[k].len : Nat) : Int) := by rw [wrap_i64 (by omega) (by omega)]; omega
   refine wpC_seq (wpC_block ?_)
   refine rg (fun LL hLL => ?_)
   simp only [ptrTo, oxs, simprocAttr, ixF hk', g3, v1, hw]
   refine hLL _ _ ?_
   simp only [ptrTo, oxs, simprocAttr]
   refine fg6 (fun R => ?_)
   refine rg (fun LL hLL => ?_)
   simp only [ptrTo, oxs, simprocAttr, wsucc (show k < 9223372036854775807 by omega)]
   refine hLL _ _ ?_
   simp only [ptrTo, oxs, simprocAttr]
   refine ⟨m - 1, by omega, k + 1, t + ES[k].len, _, _, _, _, by omega, by omega, by omega, by omega, fun x hx => ?_, rfl⟩
   rw [List.take_succ_eq_append_getElem hk'] at hx
   rcases List.mem_append.1 hx with hx | hx
   ·have := hall x hx; omega
   ·obtain rfl := List.mem_singleton.1 hx
    omega
  ·refine wpC_seq (sr fun LL hLL => ?_)
   simp only [ptrTo, oxs, simprocAttr, eq_true (show (k : Int) < (ES.length : Int) by omega), eq_false (show ¬ (k : Int) < 20 by omega)]
   refine hLL _ _ ?_
   refine wpC_if ?_
   simp only [ptrTo, oxs, simprocAttr]
   refine wpC_exit ?_
   simp only [ptrTo, oxs, simprocAttr]
   refine fg6 (fun R => ?_)
   by_cases h2 : t ≤ 2000
   ·refine sr (fun LL hLL => ?_)
    simp only [ptrTo, oxs, simprocAttr, eq_true (show (t : Int) ≤ 2000 by omega), eq_false (show ¬ (ES.length : Int) ≤ 20 by omega)]
    refine hLL _ _ ?_
    refine wpC_ret (out_ret ?_)
    simp only [ptrTo, oxs, simprocAttr]
    exact hk _ fun h => by cases h
   ·refine sr (fun LL hLL => ?_)
    simp only [ptrTo, oxs, simprocAttr, eq_false (show ¬ (t : Int) ≤ 2000 by omega)]
    refine hLL _ _ ?_
    refine wpC_ret (out_ret ?_)
    simp only [ptrTo, oxs, simprocAttr]
    exact hk _ fun h => by cases h
 ·refine wpC_seq (sr fun LL hLL => ?_)
  simp only [ptrTo, oxs, simprocAttr, eq_false (show ¬ (k : Int) < (ES.length : Int) by omega)]
  refine hLL _ _ ?_
  refine wpC_if ?_
  simp only [ptrTo, oxs, simprocAttr]
  refine wpC_exit ?_
  simp only [ptrTo, oxs, simprocAttr]
  refine fg6 (fun R => ?_)
  have hkl : k = ES.length := by omega
  subst hkl
  rw [List.take_length] at hall
  by_cases h2 : t ≤ 2000
  ·refine sr (fun LL hLL => ?_)
   simp only [ptrTo, oxs, simprocAttr, eq_true (show (t : Int) ≤ 2000 by omega), eq_true (show (ES.length : Int) ≤ 20 by omega)]
   refine hLL _ _ ?_
   refine wpC_ret (out_ret ?_)
   simp only [ptrTo, oxs, simprocAttr]
   exact hk _ fun _ => ⟨by omega, by omega, fun x hx => by have := hall x hx; omega⟩
  ·refine sr (fun LL hLL => ?_)
   simp only [ptrTo, oxs, simprocAttr, eq_false (show ¬ (t : Int) ≤ 2000 by omega)]
   refine hLL _ _ ?_
   refine wpC_ret (out_ret ?_)
   simp only [ptrTo, oxs, simprocAttr]
   exact hk _ fun h => by cases h
end Go.Proofs

namespace Go.Proofs
open Go Go.Ox
set_option maxRecDepth 100000
set_option maxHeartbeats 4000000
/-- One list of many. -/
theorem rsnAt {α : Type} {f : α → List Value} {k : Nat} {h : AHeap} {a : Option Addr} {LI : List (List α)} (r : RsN f k h a LI) (i : Nat) (hi : i < LI.length) : ∃ b o ro sz C T ai ci, a = some ⟨b, o, none⟩ ∧ b < h.next ∧ h.get b = some (.cells ro sz C T) ∧ C[o + i * 1]? = some (.slice ai LI[i].length ci) ∧ Rs f k h ai LI[i] ∧ (ai = none → LI[i] = [] ∧ ci = 0) := by
 obtain ⟨S, hS, r1, r2⟩ := r
 have hl : S.length = LI.length := by simpa using congrArg List.length hS
 have hi' : i < S.length := by omega
 have hne : S ≠ [] := by rintro rfl; simp at hi'
 obtain ⟨b, o, ro, sz, C, T, rfl, p, g, q, w⟩ := r1.resolve_left hne
 have v : C[o + i * 1]? = some (.slice S[i].a S[i].len S[i].cap) := Rs.cell Sv.len1 q w i hi' 0 (by omega)
 have e : S[i].len = LI[i].length := by
  have := congrArg (fun l => l[i]?) hS
  simpa [List.getElem?_map, List.getElem?_eq_getElem hi', List.getElem?_eq_getElem hi] using this
 rw [e] at v
 exact ⟨b, o, ro, sz, C, T, S[i].a, S[i].cap, rfl, p, g, v, (r2 i hi' hi).1, (r2 i hi' hi).2⟩
theorem long7_ok {h0 : AHeap} {F : List Asn} (m : MfX) (mr : MfR h0 m) (mb : MfB m) (h : AHeap) (s : St h0 h F) (K : Value → AHeap → Prop)
  (hk : ∀ (b : Bool) h', (b = false → MfS m) → St h0 h' F → K (.bool b) h') : wpF Tryz.prog (.fn 26) [.agg m.cells.toArray] h K := by
 obtain ⟨id, pa, P, pc, la, LI, lc, ra, RR, rc, ea, ES, ec⟩ := m
 obtain ⟨bp, bl, br, be, bl1, br1, be1⟩ := mb
 obtain ⟨rp, rl, rr, re⟩ := mr
 simp only at *
 unfold MfX.cells
 refine wpF_fun 54 [.tmp 2] Tryz.func26 rfl rfl rfl rfl ?_
 have s1 := s.push (.cells false 0 [.int .i64 id, .slice pa P.length pc, .slice la LI.length lc, .slice ra RR.length rc, .slice ea ES.length ec] 30)
 obtain ⟨h1, e1⟩ : ∃ h1, h1 = h.push (.cells false 0 [.int .i64 id, .slice pa P.length pc, .slice la LI.length lc, .slice ra RR.length rc, .slice ea ES.length ec] 30) := ⟨_, rfl⟩
 obtain ⟨bs, ebs⟩ : ∃ b, b = h.next := ⟨_, rfl⟩
 rw [← e1, ← ebs] at s1
 refine sr (fun LL hLL => ?_)
 simp only [ptrTo, oxs, simprocAttr]
 refine hLL _ _ ?_
 rw [← e1, ← ebs]
 have gs := s1.get
 have hw1 : IntKind.i64.wrap ((P.length : Int) + (LI.length : Int)) = ((P.length + LI.length : Nat) : Int) := by rw [wrap_i64 (by omega) (by omega)]; omega
 have hw2 : IntKind.i64.wrap (((P.length + LI.length : Nat) : Int) + (RR.length : Int)) = ((P.length + LI.length + RR.length : Nat) : Int) := by rw [wrap_i64 (by omega) (by omega)]; omega
 refine sr (fun LL hLL => ?_)
 simp only [ptrTo, oxs, simprocAttr, gs, hw1, hw2]
 refine hLL _ _ ?_
 refine fg4 (fun R => ?_)
 by_cases c1 : 60 < P.length + LI.length + RR.length
 ·refine wpC_seq (sr fun LL hLL => ?_)
  simp only [ptrTo, oxs, simprocAttr, eq_true (show (60 : Int) < ((P.length + LI.length + RR.length : Nat) : Int) by omega)]
  refine hLL _ _ ?_
  refine wpC_if ?_
  simp only [ptrTo, oxs, simprocAttr]
  refine sr (fun LL hLL => ?_)
  simp only [ptrTo, oxs, simprocAttr]
  refine hLL _ _ ?_
  refine wpC_ret (out_ret ?_)
  simp only [ptrTo, oxs, simprocAttr]
  exact hk _ _ (fun h => by cases h) s1.drop
 refine wpC_seq (sr fun LL hLL => ?_)
 simp only [ptrTo, oxs, simprocAttr, eq_false (show ¬ (60 : Int) < ((P.length + LI.length + RR.length : Nat) : Int) by omega)]
 refine hLL _ _ ?_
 refine wpC_if ?_
 simp only [ptrTo, oxs, simprocAttr]
 refine wpC_skip ?_
 simp only [ptrTo, oxs, simprocAttr]
 refine fg4 (fun R => ?_)
 refine sm (fun T h' => h' = h1 ∧ ∃ (t : Nat) (u0 u2 : Value) (R : List Value), t ≤ 60 + LI.length * 17592186045000 ∧ (t ≤ 2000 → ∀ x ∈ LI, x.length ≤ 2000) ∧ T = u0 :: .pointer (some ⟨bs, 0, none⟩) :: u2 :: .int .i64 t :: R) ?_ ?_
 ·refine sr (fun LL hLL => ?_)
  simp only [ptrTo, oxs, simprocAttr]
  refine hLL _ _ ?_
  refine xp4 1 (by repeat (first | exact tput_le _ _ _ _ (.inr (by omega)) | refine tput_le _ _ _ _ (.inl ?_))) (fun R => ?_)
  simp only [ptrTo, oxs, simprocAttr, show List.range 1 = [0] from rfl]
  refine fg5 (fun R => ?_)
  refine wpC_block ?_
  refine wpC_loop (fun m T h' => ∃ (k t : Nat) (u0 u2 : Value) (R : List Value), h' = h1 ∧ m + k = LI.length ∧ t ≤ 60 + k * 17592186045000 ∧ (t ≤ 2000 → ∀ x ∈ LI.take k, x.length ≤ 2000) ∧ T = u0 :: .pointer (some ⟨bs, 0, none⟩) :: u2 :: .int .i64 t :: .int .i64 k :: R) ?_ LI.length _ _ ⟨0, _, _, _, R, rfl, by omega, by omega, by simp, rfl⟩
  rintro m T h' ⟨k, t, u0, u2, R, rfl, hmk, ht, hx, rfl⟩
  refine wpC_seq (sr fun LL hLL => ?_)
  simp only [ptrTo, oxs, simprocAttr, gs]
  refine hLL _ _ ?_
  refine wpC_if ?_
  simp only [ptrTo, oxs, simprocAttr]
  refine gC_of (fun hc1 => ?_) (fun hc1 => ?_)
  ·refine wpC_skip ?_
   simp only [ptrTo, oxs, simprocAttr]
   refine fg5 (fun R => ?_)
   have hk' : k < LI.length := by omega
   obtain ⟨b3, o3, ro3, sz3, C3, T3, ai, ci, rfl, p3, g3, v1, r3, n3⟩ := rsnAt (rl.fr s1.base) k hk'
   have hxl := bl1 LI[k] (List.getElem_mem hk')
   have hw : IntKind.i64.wrap ((t : Int) + (LI[k].length : Int)) = ((t + LI[k].length : Nat) : Int) := by rw [wrap_i64 (by omega) (by omega)]; omega
   refine wpC_seq (wpC_block ?_)
   refine rg (fun LL hLL => ?_)
   simp only [ptrTo, oxs, simprocAttr, gs, ixF hk', g3, v1, hw]
   refine hLL _ _ ?_
   simp only [ptrTo, oxs, simprocAttr]
   refine fg5 (fun R => ?_)
   refine rg (fun LL hLL => ?_)
   simp only [ptrTo, oxs, simprocAttr, wsucc (show k < 9223372036854775807 by omega)]
   refine hLL _ _ ?_
   simp only [ptrTo, oxs, simprocAttr]
   refine ⟨m - 1, by omega, k + 1, t + LI[k].length, _, _, _, by omega, by omega, fun h y hy => ?_, rfl⟩
   rw [List.take_succ_eq_append_getElem hk'] at hy
   rcases List.mem_append.1 hy with hy | hy
   ·exact hx (by omega) y hy
   ·obtain rfl := List.mem_singleton.1 hy
    omega
  ·have : k = LI.length := by omega
   subst this
   rw [List.take_length] at hx
   refine wpC_exit ?_
   simp only [ptrTo, oxs, simprocAttr]
   exact ⟨t, _, _, _, ht, hx, rfl⟩
 rintro T h' ⟨rfl, t0, u0, u2, R, ht0, hxl, rfl⟩
 refine sm (fun T h'' => h'' = h' ∧ ∃ (t : Nat) (u0 u2 : Value) (R : List Value), t ≤ t0 + RR.length * 17592186045000 ∧ (t ≤ 2000 → t0 ≤ 2000 ∧ ∀ x ∈ RR, x.length ≤ 2000) ∧ T = u0 :: .pointer (some ⟨bs, 0, none⟩) :: u2 :: .int .i64 t :: R) ?_ ?_
 ·refine sr (fun LL hLL => ?_)
  simp only [ptrTo, oxs, simprocAttr]
  refine hLL _ _ ?_
  refine xp4 2 (by repeat (first | exact tput_le _ _ _ _ (.inr (by omega)) | refine tput_le _ _ _ _ (.inl ?_))) (fun R => ?_)
  simp only [ptrTo, oxs, simprocAttr, show List.range 2 = [0, 1] from rfl]
  refine fg6 (fun R => ?_)
  refine wpC_block ?_
  refine wpC_loop (fun m T h'' => ∃ (k t : Nat) (u0 u2 u4 : Value) (R : List Value), h'' = h' ∧ m + k = RR.length ∧ t ≤ t0 + k * 17592186045000 ∧ (t ≤ 2000 → t0 ≤ 2000 ∧ ∀ x ∈ RR.take k, x.length ≤ 2000) ∧ T = u0 :: .pointer (some ⟨bs, 0, none⟩) :: u2 :: .int .i64 t :: u4 :: .int .i64 k :: R) ?_ RR.length _ _ ⟨0, t0, _, _, _, R, rfl, by omega, by omega, fun h => ⟨h, by simp⟩, rfl⟩
  rintro m T h'' ⟨k, t, u0, u2, u4, R, rfl, hmk, ht, hx, rfl⟩
  refine wpC_seq (sr fun LL hLL => ?_)
  simp only [ptrTo, oxs, simprocAttr, gs]
  refine hLL _ _ ?_
  refine wpC_if ?_
  simp only [ptrTo, oxs, simprocAttr]
  refine gC_of (fun hc1 => ?_) (fun hc1 => ?_)
  ·refine wpC_skip ?_
   simp only [ptrTo, oxs, simprocAttr]
   refine fg6 (fun R => ?_)
   have hk' : k < RR.length := by omega
   obtain ⟨b3, o3, ro3, sz3, C3, T3, ai, ci, rfl, p3, g3, v1, r3, n3⟩ := rsnAt (rr.fr s1.base) k hk'
   have hxl := br1 RR[k] (List.getElem_mem hk')
   have hw : IntKind.i64.wrap ((t : Int) + (RR[k].length : Int)) = ((t + RR[k].length : Nat) : Int) := by rw [wrap_i64 (by omega) (by omega)]; omega
   refine wpC_seq (wpC_block ?_)
   refine rg (fun LL hLL => ?_)
   simp only [ptrTo, oxs, simprocAttr, gs, ixF hk', g3, v1, hw]
   refine hLL _ _ ?_
   simp only [ptrTo, oxs, simprocAttr]
   refine fg6 (fun R => ?_)
   refine rg (fun LL hLL => ?_)
   simp only [ptrTo, oxs, simprocAttr, wsucc (show k < 9223372036854775807 by omega)]
   refine hLL _ _ ?_
   simp only [ptrTo, oxs, simprocAttr]
   refine ⟨m - 1, by omega, k + 1, t + RR[k].length, _, _, _, _, by omega, by omega, fun h => ⟨(hx (by omega)).1, fun y hy => ?_⟩, rfl⟩
   rw [List.take_succ_eq_append_getElem hk'] at hy
   rcases List.mem_append.1 hy with hy | hy
   ·exact (hx (by omega)).2 y hy
   ·obtain rfl := List.mem_singleton.1 hy
    omega
  ·have : k = RR.length := by omega
   subst this
   rw [List.take_length] at hx
   refine wpC_exit ?_
   simp only [ptrTo, oxs, simprocAttr]
   exact ⟨t, _, _, _, ht, hx, rfl⟩
 rintro T h'' ⟨rfl, t, u0, u2, R, ht, hxr, rfl⟩
 refine sr (fun LL hLL => ?_)
 simp only [ptrTo, pend, pend0, Pd.old, pendU, pendU0, Nat.testBit, oxh, simprocAttr, gs]
 refine few_ok t (by omega) ES ea ec _ (re.fr s1.base) be be1 _ fun b hb => ?_
 simp only [ptrTo, pend, pend0, Pd.old, pendU, pendU0, Nat.testBit, oxh, simprocAttr]
 refine hLL _ _ ?_
 refine wpC_ret (out_ret ?_)
 simp only [ptrTo, oxs, simprocAttr]
 refine hk _ _ (fun h => ?_) s1.drop
 obtain ⟨hb', he1, he2⟩ := hb (by simpa using h)
 exact ⟨⟨by show LI.length ≤ 60; omega, by show RR.length ≤ 60; omega, he1, he2⟩, hxl (hxr hb').1, (hxr hb').2⟩
theorem may_law {h0 : AHeap} {F : List Asn} (g : Int) (a : Option Addr) (c : Nat) (L : List OpX) (sp : SpR h0 a L) (m : MfX) (mr : MfR h0 m) (mb : MfB m) (h : AHeap) (s : St h0 h F) (K : Value → AHeap → Prop)
  (hk : ∀ (b : Bool) h', (b = true → MfS m ∧ 1 ≤ g ∧ g ≤ 64 ∧ (1 ≤ L.length ∧ ∀ x ∈ L, x.inn.length ≤ 20) ∧ L.length ≤ 12) → St h0 h' F → K (.bool b) h') : wpF Tryz.prog (.fn 5) [.agg #[.int .i64 g, .slice a L.length c], .agg m.cells.toArray] h K := by
 refine wpF_fun 18 [.tmp 4] Tryz.func5 rfl rfl rfl rfl ?_
 have s1 := s.push (spB g a L.length c)
 obtain ⟨h1, e1⟩ : ∃ h1, h1 = h.push (spB g a L.length c) := ⟨_, rfl⟩
 obtain ⟨bs, ebs⟩ : ∃ b, b = h.next := ⟨_, rfl⟩
 rw [← e1, ← ebs] at s1
 have s2 := s1.push (.cells false 0 m.cells 30)
 obtain ⟨h2, e2⟩ : ∃ h2, h2 = h1.push (.cells false 0 m.cells 30) := ⟨_, rfl⟩
 obtain ⟨bm, ebm⟩ : ∃ b, b = h1.next := ⟨_, rfl⟩
 rw [← e2, ← ebm] at s2
 refine sr (fun LL hLL => ?_)
 simp only [ptrTo, oxs, simprocAttr, ← e1, ← ebs, ← e2, ← ebm, MfX.len]
 refine hLL _ _ ?_
 have g1 := (s2.mv 1).get
 refine sr (fun LL hLL => ?_)
 simp only [ptrTo, pend, pend0, Pd.old, pendU, pendU0, Nat.testBit, oxh, simprocAttr, g1]
 refine long5_ok g a c L sp _ s2 _ fun b h3 hb s3 => ?_
 cases b
 ·have gm := s3.get
  simp only [ptrTo, pend, pend0, Pd.old, pendU, pendU0, Nat.testBit, oxh, simprocAttr, gm, MfX.len]
  refine long7_ok m mr mb _ s3 _ fun b h4 hb2 s4 => ?_
  have gsp := (s4.mv 1).get
  cases b
  ·simp only [ptrTo, pend, pend0, Pd.old, pendU, pendU0, Nat.testBit, oxh, simprocAttr, gsp]
   refine check_ok g a c L sp (hb rfl).1 (hb rfl).2 _ s4 _ fun e h5 he s5 => ?_
   simp only [ptrTo, pend, pend0, Pd.old, pendU, pendU0, Nat.testBit, oxh, simprocAttr]
   refine hLL _ _ ?_
   refine wpC_ret (out_ret ?_)
   simp only [ptrTo, oxs, simprocAttr]
   refine hk _ _ (fun h => ?_) s5.drop.drop
   obtain ⟨q1, q2, q3, q4⟩ := he (by simpa using h)
   exact ⟨hb2 rfl, q1, q2, ⟨q3, (hb rfl).2⟩, q4⟩
  ·simp only [ptrTo, pend, pend0, Pd.old, pendU, pendU0, Nat.testBit, oxh, simprocAttr]
   refine hLL _ _ ?_
   refine wpC_ret (out_ret ?_)
   simp only [ptrTo, oxs, simprocAttr]
   exact hk _ _ (fun h => by cases h) s4.drop.drop
 ·simp only [ptrTo, pend, pend0, Pd.old, pendU, pendU0, Nat.testBit, oxh, simprocAttr]
  refine hLL _ _ ?_
  refine wpC_ret (out_ret ?_)
  simp only [ptrTo, oxs, simprocAttr]
  exact hk _ _ (fun h => by cases h) s3.drop.drop
end Go.Proofs

namespace Go.Proofs
open Go Go.Ox
set_option maxRecDepth 100000
set_option maxHeartbeats 4000000
def parAt (g : Int) (l : List Int) (i : Nat) : Int := match l[i]? with | some x => 1 + pickV x (min 8 g) | none => 1
def parsOf (g : Int) (n : Nat) (l : List Int) : List Int := (List.range n).map (parAt g l)
theorem parsOf_len (g : Int) (n : Nat) (l : List Int) : (parsOf g n l).length = n := by simp [parsOf]
theorem parsOf_succ (g : Int) (n : Nat) (l : List Int) : parsOf g (n + 1) l = parsOf g n l ++ [parAt g l n] := by simp [parsOf, List.range_succ]
theorem parAt_range {g : Int} (h1 : 1 ≤ g) (l : List Int) (i : Nat) : 1 ≤ parAt g l i ∧ parAt g l i ≤ 8 ∧ parAt g l i ≤ g := by
 unfold parAt
 split
 ·rename_i x _
  have := pickV_range (k := x) (n := min 8 g) (by omega)
  omega
 ·omega
theorem pars_ok {h0 : AHeap} {F : List Asn} (g : Int) (hg : 1 ≤ g) (a : Option Addr) (c : Nat) (L : List OpX) (hn : L.length ≤ 12) (pa : Option Addr) (pc : Nat) (P : List Int) (hP : P.length < 17592186045000) (h : AHeap) (rp : Rd h0 F icell 1 pa P) (s : St h0 h F) (K : Value → AHeap → Prop)
  (hk : ∀ b d h', St h0 h' (wn icell 1 3 b d (parsOf g L.length P) :: F) → K (.slice b (parsOf g L.length P).length d) h') : wpF Tryz.prog (.fn 7) [.agg #[.int .i64 g, .slice a L.length c], .slice pa P.length pc] h K := by
 refine wpF_fun 33 [.tmp 4] Tryz.func7 rfl rfl rfl rfl ?_
 have s1 := s.push (spB g a L.length c)
 obtain ⟨h1, e1⟩ : ∃ h1, h1 = h.push (spB g a L.length c) := ⟨_, rfl⟩
 obtain ⟨bs, ebs⟩ : ∃ b, b = h.next := ⟨_, rfl⟩
 rw [← e1, ← ebs] at s1
 refine sr (fun LL hLL => ?_)
 simp only [ptrTo, oxs, simprocAttr]
 refine hLL _ _ ?_
 rw [← e1, ← ebs]
 refine sr (fun LL hLL => ?_)
 simp only [ptrTo, oxs, simprocAttr]
 refine hLL _ _ ?_
 refine wpC_seq ?_
 refine sr (fun LL hLL => ?_)
 simp only [ptrTo, oxs, simprocAttr]
 refine hLL _ _ ?_
 refine fg7 (fun R => ?_)
 refine wpC_block ?_
 refine wpC_loop (fun m T h' => ∃ (k : Nat) (b : Option Addr) (d : Nat) (Q : List Int) (u0 u3 u4 : Value) (R : List Value), m + k = L.length ∧ Q = parsOf g k P ∧ St h0 h' (wn icell 1 3 b d Q :: own bs (spB g a L.length c) :: F) ∧
  T = u0 :: .slice pa P.length pc :: .pointer (some ⟨bs, 0, none⟩) :: u3 :: u4 :: .slice b Q.length d :: .int .i64 k :: R) ?_ L.length _ _ ⟨0, none, 0, [], _, _, _, R, by omega, rfl, s1.wn_nil, rfl⟩
 rintro m T h' ⟨k, b, d, Q, u0, u3, u4, R, hmk, hQ, s2, rfl⟩
 have gs := (s2.mv 1).get
 refine wpC_seq (sr fun LL hLL => ?_)
 simp only [ptrTo, oxs, simprocAttr, gs]
 refine hLL _ _ ?_
 refine wpC_if ?_
 simp only [ptrTo, oxs, simprocAttr]
 refine gC_of (fun hc => ?_) (fun hc => ?_)
 ·refine wpC_skip ?_
  simp only [ptrTo, oxs, simprocAttr]
  refine fg7 (fun R => ?_)
  have hk' : k < L.length := by omega
  have hQl : Q.length = k := by rw [hQ, parsOf_len]
  refine wpC_seq (wpC_block ?_)
  refine sr (fun LL hLL => ?_)
  simp only [ptrTo, oxs, simprocAttr]
  refine hLL _ _ ?_
  refine xp7 1 (by repeat (first | exact tput_le _ _ _ _ (.inr (by omega)) | refine tput_le _ _ _ _ (.inl ?_))) (fun R => ?_)
  simp only [ptrTo, oxs, simprocAttr, show List.range 1 = [0] from rfl]
  refine fg8 (fun R => ?_)
  refine sm (fun T h'' => h'' = h' ∧ ∃ (u0 u3 u4 : Value) (R : List Value), T = u0 :: .slice pa P.length pc :: .pointer (some ⟨bs, 0, none⟩) :: u3 :: u4 :: .slice b Q.length d :: .int .i64 k :: .int .i64 (parAt g P k) :: R) ?_ ?_
  ·have hr := parAt_range hg P k
   by_cases hp : k < P.length
   ·refine sr (fun LL hLL => ?_)
    simp only [ptrTo, oxs, simprocAttr, eq_true (show (k : Int) < (P.length : Int) by omega)]
    refine hLL _ _ ?_
    refine wpC_if ?_
    simp only [ptrTo, oxs, simprocAttr]
    have hne : P ≠ [] := by rintro rfl; simp at hp
    have s3 := s2.drop.drop
    obtain ⟨b5, o5, ro5, sz5, C5, T5, rfl, p5, g5, r5, q5⟩ := (rp h' s3).resolve_left hne
    have v5 : C5[o5 + k * 1]? = some (.int .i64 P[k]) := Rs.cell icell.len r5 q5 k hp 0 (by omega)
    have hpk := pickV_range (k := P[k]) (n := min 8 g) (by omega)
    have ep : parAt g P k = 1 + pickV P[k] (min 8 g) := by unfold parAt; rw [List.getElem?_eq_getElem hp]
    have hw : IntKind.i64.wrap (1 + pickV P[k] (min 8 g)) = parAt g P k := by rw [ep, wrap_i64 (by omega) (by omega)]
    refine du [some 19, some 20, some 21, some 22, some 23, some 24, some 25, some 26, some 27, some 7] 10 [0, 0, 3, 7, 0, 16, 48, 127, 255, 511] (by rfl) (by rfl) (by decide +kernel) (by decide +kernel) (by decide +kernel) (fun LL hLL => ?_)
    simp only [ptrTo, pend, pend0, Pd.old, pendU, pendU0, Nat.testBit, oxh, simprocAttr, gs, ixF hp, g5, v5, (show (if g < 8 then g else 8) = min 8 g by split <;> omega)]
    refine pick_ok (by unfold Out; decide) P[k] (min 8 g) (by omega) (by omega) _ _ ?_
    simp only [ptrTo, pend, pend0, Pd.old, pendU, pendU0, Nat.testBit, oxh, simprocAttr, hw]
    refine hLL _ _ ?_
    first | exact ⟨rfl, _, _, _, _, rfl⟩ | exact ⟨_, _, _, _, rfl⟩
   ·refine sr (fun LL hLL => ?_)
    simp only [ptrTo, oxs, simprocAttr, eq_false (show ¬ (k : Int) < (P.length : Int) by omega)]
    refine hLL _ _ ?_
    refine wpC_if ?_
    simp only [ptrTo, oxs, simprocAttr]
    have ep : parAt g P k = 1 := by unfold parAt; rw [List.getElem?_eq_none (by omega)]
    rw [ep]
    refine wpC_skip ?_
    simp only [ptrTo, oxs, simprocAttr]
    first | exact ⟨rfl, _, _, _, _, rfl⟩ | exact ⟨_, _, _, _, rfl⟩ | (refine ⟨_, _, _, _, ?_⟩; trace_state; rfl)
  rintro T h'' ⟨rfl, u0, u3, u4, R, rfl⟩
  have zz : aZeros [.int .i64 0] 1 = [.int .i64 0] := rfl
  refine rg (fun LL hLL => ?_)
  simp only [ptrTo, oxs, simprocAttr, zz]
  obtain ⟨aE, cE, h7, y1, y2⟩ := s2.app1 (bytes := 8) (parAt g P k) icell.len icell.oc (by omega) (by omega)
  simp only [icell] at y1
  rw [y1]
  simp only [ptrTo, oxs, simprocAttr]
  refine hLL _ _ ?_
  simp only [ptrTo, oxs, simprocAttr]
  refine fg7 (fun R => ?_)
  refine rg (fun LL hLL => ?_)
  simp only [ptrTo, oxs, simprocAttr, wsucc (show k < 9223372036854775807 by omega)]
  refine hLL _ _ ?_
  simp only [ptrTo, oxs, simprocAttr]
  rw [show Q.length + 1 = (Q ++ [parAt g P k]).length by simp]
  exact ⟨m - 1, by omega, k + 1, aE, cE, Q ++ [parAt g P k], _, _, _, _, by omega, by rw [hQ, parsOf_succ], y2, rfl⟩
 ·have : k = L.length := by omega
  subst this
  subst hQ
  refine wpC_exit ?_
  simp only [ptrTo, oxs, simprocAttr]
  refine fg7 (fun R => ?_)
  refine sr (fun LL hLL => ?_)
  simp only [ptrTo, oxs, simprocAttr]
  refine hLL _ _ ?_
  refine wpC_ret (out_ret ?_)
  simp only [ptrTo, oxs, simprocAttr]
  have s3 := (s2).sel 2 [0]
  simp only [oxf] at s3
  exact hk _ _ _ s3
end Go.Proofs

namespace Go.Proofs
open Go Go.Ox
set_option maxRecDepth 100000
set_option maxHeartbeats 4000000
def ownr (p g x : Int) : Int := x * p / g
theorem ownr_range {p g x : Int} (hp : 1 ≤ p) (h0 : 0 ≤ x) (hx : x < g) : 0 ≤ ownr p g x ∧ ownr p g x < p := by
 refine ⟨Int.ediv_nonneg (Int.mul_nonneg h0 (by omega)) (by omega), Int.ediv_lt_of_lt_mul (by omega) ?_⟩
 rw [Int.mul_comm p g]
 exact Int.mul_lt_mul_of_pos_right hx (by omega)
theorem ownr_mono {p g x y : Int} (hp : 1 ≤ p) (hg : 1 ≤ g) (h : x ≤ y) : ownr p g x ≤ ownr p g y :=
 Int.ediv_le_ediv (by omega) (Int.mul_le_mul_of_nonneg_right h (by omega))
theorem ownr_last {p g : Int} (hp : 1 ≤ p) (hg : p ≤ g) : ownr p g (g - 1) = p - 1 := by
 unfold ownr
 have e : (g - 1) * p = (g - p) + (p - 1) * g := by
  rw [Int.sub_mul, Int.sub_mul, Int.mul_comm p g]; omega
 rw [e, Int.add_mul_ediv_right _ _ (by omega), Int.ediv_eq_zero_of_lt (by omega) (by omega)]
 omega
theorem eq92 (x y : Operand) (a b c d : Int) : aBin Tryz.prog .eql 114 x y (.agg #[.int .i64 a, .int .i64 b]) (.agg #[.int .i64 c, .int .i64 d]) = some (.bool (decide (a = c ∧ b = d))) :=
 (aBin_arr2 (P := Tryz.prog) Tryz.underlying114 Tryz.underlying3 (by rfl) (by decide +kernel) x y a b c d).2
theorem bd92 (a b : Int) : aBuild Tryz.prog 114 [(0, .int .i64 a), (1, .int .i64 b)] = some (.agg #[.int .i64 a, .int .i64 b]) := by rfl
theorem right_ok {p g : Int} (hp : 1 ≤ p) (hg : p ≤ g) (h64 : g ≤ 64) (h : AHeap) (K : Value → AHeap → Prop) (hk : K (.bool true) h) : wpF Tryz.prog (.fn 83) [.int .i64 p, .int .i64 g] h K := by
 refine wpF_fun 20 [.tmp 4] Tryz.func83 rfl rfl rfl rfl ?_
 refine sr (fun LL hLL => ?_)
 simp only [ptrTo, oxs, simprocAttr]
 refine hLL _ _ ?_
 refine sr (fun LL hLL => ?_)
 simp only [ptrTo, oxs, simprocAttr, eq_true (show 1 ≤ g by omega), eq_true h64, eq_true hp, eq_true hg]
 refine hLL _ _ ?_
 refine wpC_ret (out_ret ?_)
 simp only [ptrTo, oxs, simprocAttr]
 exact hk
theorem owner_ok {p g x : Int} (hp : 1 ≤ p) (hg : p ≤ g) (h64 : g ≤ 64) (h0 : 0 ≤ x) (hx : x < g) (h : AHeap) (K : Value → AHeap → Prop) (hk : K (.int .i64 (ownr p g x)) h) : wpF Tryz.prog (.fn 66) [.int .i64 x, .int .i64 p, .int .i64 g] h K := by
 refine wpF_fun 25 [.tmp 6] Tryz.func66 rfl rfl rfl rfl ?_
 refine sr (fun LL hLL => ?_)
 simp only [ptrTo, oxs, simprocAttr]
 refine hLL _ _ ?_
 refine wpC_seq (sr fun LL hLL => ?_)
 simp only [ptrTo, pend, pend0, Pd.old, pendU, pendU0, Nat.testBit, oxh, simprocAttr]
 refine right_ok hp hg h64 _ _ ?_
 simp only [ptrTo, pend, pend0, Pd.old, pendU, pendU0, Nat.testBit, oxh, simprocAttr, eq_false (show ¬ x < 0 by omega), eq_false (show ¬ g ≤ x by omega)]
 refine hLL _ _ ?_
 refine wpC_if ?_
 simp only [ptrTo, oxs, simprocAttr]
 refine wpC_skip ?_
 simp only [ptrTo, oxs, simprocAttr]
 refine fg7 (fun R => ?_)
 have h1 : x * p ≤ 64 * 64 := Int.mul_le_mul (by omega) (by omega) (by omega) (by omega)
 have h2 : 0 ≤ x * p := Int.mul_nonneg h0 (by omega)
 have hw : IntKind.i64.wrap (x * p) = x * p := wrap_i64 (by omega) (by omega)
 have ho := ownr_range hp h0 hx
 have hd : IntKind.i64.wrap ((x * p).tdiv g) = ownr p g x := by
  rw [Int.tdiv_eq_ediv_of_nonneg h2]
  exact wrap_i64 (by unfold ownr at ho; omega) (by unfold ownr at ho; omega)
 refine sr (fun LL hLL => ?_)
 simp only [ptrTo, oxs, simprocAttr, hw, hd, eq_false (show ¬ g = 0 by omega)]
 refine hLL _ _ ?_
 refine wpC_ret (out_ret ?_)
 simp only [ptrTo, oxs, simprocAttr]
 exact hk
theorem plan1_ok {o p g x : Int} (ho : 1 ≤ o) (hog : o ≤ g) (hp : 1 ≤ p) (hg : p ≤ g) (h64 : g ≤ 64) (h0 : 0 ≤ x) (hx : x < g) {b1 b2 b3 : Nat} (h : AHeap) (g1 : h.get b1 = some (.cells false 0 [.int .i64 o] 3)) (g2 : h.get b2 = some (.cells false 0 [.int .i64 g] 3)) (g3 : h.get b3 = some (.cells false 0 [.int .i64 p] 3))
  (n1 : b1 < h.next) (n2 : b2 < h.next) (n3 : b3 < h.next) (K : Value → AHeap → Prop) (hk : ∀ h', Fr h h' [] → K (.agg #[.int .i64 (ownr o g x), .int .i64 (ownr p g x)]) h') :
  wpF Tryz.prog (.fn 69) [.int .i64 x, .pointer (some ⟨b1, 0, none⟩), .pointer (some ⟨b2, 0, none⟩), .pointer (some ⟨b3, 0, none⟩)] h K := by
 refine wpF_fun 15 [.cell 5 114] Tryz.func69 rfl rfl rfl rfl ?_
 have s0 := St.init h
 have s1 := s0.push (.cells false 0 [.int .i64 0, .int .i64 0] 114)
 obtain ⟨h1, e1⟩ : ∃ h1, h1 = h.push (.cells false 0 [.int .i64 0, .int .i64 0] 114) := ⟨_, rfl⟩
 obtain ⟨bs, ebs⟩ : ∃ b, b = h.next := ⟨_, rfl⟩
 rw [← e1, ← ebs] at s1
 have g1 := s1.base.at g1 n1 (by simp)
 have g2 := s1.base.at g2 n2 (by simp)
 have g3 := s1.base.at g3 n3 (by simp)
 have gs := s1.get
 refine sr (fun LL hLL => ?_)
 simp only [ptrTo, oxs, simprocAttr, ← e1, ← ebs]
 refine hLL _ _ ?_
 have s2 := s1.set (.cells false 0 [.int .i64 (ownr o g x), .int .i64 (ownr p g x)] 114)
 refine sd [0, 1, 2, 4, 5, 6, 3, 7, 8, 9] [0, 0, 0, 0, 0, 0, 7, 127, 255, 511] (by decide +kernel) (by decide +kernel) (by decide +kernel) (fun LL hLL => ?_)
 simp only [ptrTo, pend, pend0, Pd.old, pendU, pendU0, Nat.testBit, oxh, simprocAttr, g1, g2, g3]
 refine owner_ok ho hog h64 h0 hx _ _ ?_
 simp only [ptrTo, pend, pend0, Pd.old, pendU, pendU0, Nat.testBit, oxh, simprocAttr, g1, g2, g3]
 refine owner_ok hp hg h64 h0 hx _ _ ?_
 simp only [ptrTo, pend, pend0, Pd.old, pendU, pendU0, Nat.testBit, oxh, simprocAttr, gs, bd92]
 refine hLL _ _ ?_
 refine wpC_ret (out_ret ?_)
 simp only [ptrTo, oxs, simprocAttr]
 simp only [s2.get]
 exact hk _ s2.base
end Go.Proofs

namespace Go.Proofs
open Go Go.Ox
set_option maxRecDepth 100000
set_option maxHeartbeats 4000000
/-- Two groups that have the same owners, before and behind. -/
def alike (o p g x y : Int) : Prop := ownr o g x = ownr o g y ∧ ownr p g x = ownr p g y
instance (o p g x y : Int) : Decidable (alike o p g x y) := by unfold alike; infer_instance
theorem runs1_ok {o p : Int} {g : Nat} (h64 : g ≤ 64) (β bg bf : Nat) (p1 p2 p3 : Nat) (h : AHeap) (K : Value → AHeap → Prop) (J : Nat → AHeap → Prop) (hJ : J 0 h)
  (hgb : ∀ lo h1, J lo h1 → h1.get bg = some (.cells false 0 [.int .i64 g] 3) ∧ h1.get bf = some (.cells false 0 [.func (.func 69) #[] #[.pointer (some ⟨p1, 0, none⟩), .pointer (some ⟨p2, 0, none⟩), .pointer (some ⟨p3, 0, none⟩)]] 115))
  (hof : ∀ lo h1 (x : Nat) (Q : Value → AHeap → Prop), J lo h1 → x < g → (∀ h2, J lo h2 → Q (.agg #[.int .i64 (ownr o g x), .int .i64 (ownr p g x)]) h2) → wpF Tryz.prog (.fn 69) [.int .i64 x, .pointer (some ⟨p1, 0, none⟩), .pointer (some ⟨p2, 0, none⟩), .pointer (some ⟨p3, 0, none⟩)] h1 Q)
  (step : ∀ (lo hi : Nat) h1 (Q : Value → AHeap → Prop), lo < hi → hi ≤ g → (∀ y : Nat, lo ≤ y → y < hi → alike o p g y lo) → (hi = g ∨ ¬ alike o p g hi lo) → J lo h1 → (∀ h2, J hi h2 → Q (.bool true) h2) → wpF Tryz.prog (.yield β) [.int .i64 lo, .int .i64 hi] h1 Q)
  (hk : ∀ h1, J g h1 → K (.tuple #[]) h1) : wpF Tryz.prog (.fn 84) [.func (.yield β) #[] #[], .pointer (some ⟨bg, 0, none⟩), .pointer (some ⟨bf, 0, none⟩)] h K := by
 have vf : veq 6 (.func (.func 69) #[] #[.pointer (some ⟨p1, 0, none⟩), .pointer (some ⟨p2, 0, none⟩), .pointer (some ⟨p3, 0, none⟩)]) (.func (.func 69) #[] #[.pointer (some ⟨p1, 0, none⟩), .pointer (some ⟨p2, 0, none⟩), .pointer (some ⟨p3, 0, none⟩)]) = true := by simp [veq]
 have va : ∀ a b : Int, veq 6 (.agg #[.int .i64 a, .int .i64 b]) (.agg #[.int .i64 a, .int .i64 b]) = true := fun a b => by simp [veq]
 refine wpF_fun 31 [] Tryz.func84 rfl rfl rfl rfl ?_
 refine sr (fun LL hLL => ?_)
 simp only [ptrTo, oxs, simprocAttr]
 refine hLL _ _ ?_
 refine fg6 (fun R => ?_)
 refine wpC_block ?_
 refine wpC_loop (fun m T h' => ∃ (lo : Nat) (u3 u5 : Value) (R : List Value), m + lo = g ∧ J lo h' ∧ T = .func (.yield β) #[] #[] :: .pointer (some ⟨bg, 0, none⟩) :: .pointer (some ⟨bf, 0, none⟩) :: u3 :: .int .i64 lo :: u5 :: R) ?_ g _ _ ⟨0, _, _, R, by omega, hJ, rfl⟩
 rintro m T h' ⟨lo, u3, u5, R, hm, hJ1, rfl⟩
 obtain ⟨gg, gf⟩ := hgb _ _ hJ1
 refine wpC_seq (sr fun LL hLL => ?_)
 simp only [ptrTo, oxs, simprocAttr, gg]
 refine hLL _ _ ?_
 refine wpC_if ?_
 simp only [ptrTo, oxs, simprocAttr]
 refine gC_of (fun hc => ?_) (fun hc => ?_)
 ·refine wpC_skip ?_
  simp only [ptrTo, oxs, simprocAttr]
  refine fg6 (fun R => ?_)
  have hlo : lo < g := by omega
  refine wpC_seq (wpC_block ?_)
  refine sm (fun T h2 => ∃ (hi : Nat) (u3 : Value) (R : List Value), lo < hi ∧ hi ≤ g ∧ (∀ y : Nat, lo ≤ y → y < hi → alike o p g y lo) ∧ (hi = g ∨ ¬ alike o p g hi lo) ∧ J lo h2 ∧
   T = .func (.yield β) #[] #[] :: .pointer (some ⟨bg, 0, none⟩) :: .pointer (some ⟨bf, 0, none⟩) :: u3 :: .int .i64 lo :: .int .i64 hi :: R) ?_ ?_
  ·have hone : ∀ y : Nat, lo ≤ y → y < lo + 1 → alike o p g y lo := fun y h1 h2 => by
    obtain rfl : y = lo := by omega
    exact ⟨rfl, rfl⟩
   refine sr (fun LL hLL => ?_)
   simp only [ptrTo, oxs, simprocAttr, wsucc (show lo < 9223372036854775807 by omega)]
   refine hLL _ _ ?_
   refine fg6 (fun R => ?_)
   refine wpC_block ?_
   refine wpC_loop (fun m T h2 => ∃ (hi : Nat) (u3 : Value) (R : List Value), m + hi = g ∧ lo < hi ∧ (∀ y : Nat, lo ≤ y → y < hi → alike o p g y lo) ∧ J lo h2 ∧
    T = .func (.yield β) #[] #[] :: .pointer (some ⟨bg, 0, none⟩) :: .pointer (some ⟨bf, 0, none⟩) :: u3 :: .int .i64 lo :: .int .i64 hi :: R) ?_ (g - (lo + 1)) _ _ ⟨lo + 1, _, R, by omega, by omega, hone, hJ1, rfl⟩
   rintro m2 T h2 ⟨hi, u3, R, hm2, hlh, hal, hJ2, rfl⟩
   obtain ⟨gg, gf⟩ := hgb _ _ hJ2
   refine wpC_seq ?_
   by_cases hc2 : hi < g
   ·refine sd [0, 1, 2, 3, 4, 5, 7, 8, 6, 9, 10, 11] [0, 0, 3, 7, 15, 15, 15, 15, 63, 511, 1023, 2047] (by decide +kernel) (by decide +kernel) (by decide +kernel) (fun LL hLL => ?_)
    simp only [ptrTo, pend, pend0, Pd.old, pendU, pendU0, Nat.testBit, oxh, simprocAttr, gg, gf, vf, eq_true (show (hi : Int) < (g : Int) by omega)]

    refine hof lo _ hi _ hJ2 hc2 fun h3 hJ3 => ?_
    obtain ⟨gg, gf⟩ := hgb _ _ hJ3
    simp only [ptrTo, pend, pend0, Pd.old, pendU, pendU0, Nat.testBit, oxh, simprocAttr, gg, gf, vf, va]
    refine hof lo _ lo _ hJ3 hlo fun h4 hJ4 => ?_
    obtain ⟨gg, gf⟩ := hgb _ _ hJ4
    by_cases hal2 : alike o p g hi lo
    ·have hal2' := hal2
     unfold alike at hal2'
     simp only [ptrTo, pend, pend0, Pd.old, pendU, pendU0, Nat.testBit, oxh, simprocAttr, gg, gf, vf, va, eq92, eq_true hal2', decide_true]
     refine hLL _ _ ?_
     refine wpC_if ?_
     simp only [ptrTo, oxs, simprocAttr]
     refine wpC_skip ?_
     simp only [ptrTo, oxs, simprocAttr]
     refine fg6 (fun R => ?_)
     refine wpC_seq (wpC_block (wpC_skip ?_))
     simp only [ptrTo, oxs, simprocAttr]
     refine rg (fun LL hLL => ?_)
     simp only [ptrTo, oxs, simprocAttr, wsucc (show hi < 9223372036854775807 by omega)]
     refine hLL _ _ ?_
     simp only [ptrTo, oxs, simprocAttr]
     refine ⟨m2 - 1, by omega, hi + 1, _, _, by omega, by omega, fun y h1 h2 => ?_, hJ4, rfl⟩
     by_cases hy : y = hi
     ·rw [hy]; exact hal2
     ·exact hal y h1 (by omega)
    ·have hal2' := hal2
     unfold alike at hal2'
     simp only [ptrTo, pend, pend0, Pd.old, pendU, pendU0, Nat.testBit, oxh, simprocAttr, gg, gf, vf, va, eq92, eq_false hal2', decide_false]
     refine hLL _ _ ?_
     refine wpC_if ?_
     simp only [ptrTo, oxs, simprocAttr]
     refine wpC_exit ?_
     simp only [ptrTo, oxs, simprocAttr]
     exact ⟨hi, _, _, hlh, by omega, hal, .inr hal2, hJ4, rfl⟩
   ·refine sd [0, 1, 2, 3, 4, 5, 7, 8, 6, 9, 10, 11] [0, 0, 3, 7, 15, 15, 15, 15, 63, 511, 1023, 2047] (by decide +kernel) (by decide +kernel) (by decide +kernel) (fun LL hLL => ?_)
    simp only [ptrTo, pend, pend0, Pd.old, pendU, pendU0, Nat.testBit, oxs, simprocAttr, gg, gf, eq_false (show ¬ (hi : Int) < (g : Int) by omega)]
    refine hLL _ _ ?_
    refine wpC_if ?_
    simp only [ptrTo, oxs, simprocAttr]
    refine wpC_exit ?_
    simp only [ptrTo, oxs, simprocAttr]
    exact ⟨hi, _, _, hlh, by omega, hal, .inl (by omega), hJ2, rfl⟩
  rintro T h2 ⟨hi, u3, R, hlh, hhi, hal, hend, hJ2, rfl⟩
  refine sr (fun LL hLL => ?_)
  simp only [ptrTo, pend, pend0, Pd.old, pendU, pendU0, Nat.testBit, oxh, simprocAttr]
  refine step lo hi _ _ hlh hhi hal hend hJ2 fun h3 hJ3 => ?_
  simp only [ptrTo, pend, pend0, Pd.old, pendU, pendU0, Nat.testBit, oxh, simprocAttr]
  refine hLL _ _ ?_
  refine wpC_if ?_
  simp only [ptrTo, oxs, simprocAttr]
  refine wpC_skip ?_
  simp only [ptrTo, oxs, simprocAttr]
  refine fg6 (fun R => ?_)
  refine rg (fun LL hLL => ?_)
  simp only [ptrTo, oxs, simprocAttr]
  refine hLL _ _ ?_
  simp only [ptrTo, oxs, simprocAttr]
  exact ⟨g - hi, by omega, hi, _, _, _, by omega, hJ3, rfl⟩
 ·have : lo = g := by omega
  subst this
  refine wpC_exit ?_
  simp only [ptrTo, oxs, simprocAttr]
  refine out_normal ?_
  simp only [ptrTo, oxs, simprocAttr]
  exact hk _ hJ1
end Go.Proofs

namespace Go.Proofs
open Go Go.Ox
set_option maxRecDepth 100000
set_option maxHeartbeats 4000000
structure Mv where
 fr : Int
 to : Int
 lo : Int
 hi : Int
def Mv.cells (m : Mv) : List Value := [.int .i64 m.fr, .int .i64 m.to, .int .i64 m.lo, .int .i64 m.hi]
theorem Mv.len (m : Mv) : m.cells.length = 4 := rfl
theorem Mv.oc (m : Mv) : m.cells.all Value.oneCell' = true := rfl
/-- Who owns a group when a move is done. -/
def mvF (f : Int → Int) (m : Mv) (x : Int) : Int := if m.lo ≤ x ∧ x < m.hi then m.to else f x
structure MvOk (g n : Int) (f : Int → Int) (m : Mv) : Prop where
 h1 : 0 ≤ m.lo
 h2 : m.lo < m.hi
 h3 : m.hi ≤ g
 h4 : ∀ x, m.lo ≤ x → x < m.hi → f x = m.fr
 h5 : m.fr ≠ m.to
 h6 : 0 ≤ m.fr ∧ m.fr < n
 h7 : 0 ≤ m.to ∧ m.to < n
/-- Moves that may be done one behind the other, and where they lead. -/
inductive PlanOk (g n : Int) : (Int → Int) → List Mv → (Int → Int) → Prop
 | nil {f f' : Int → Int} (h : ∀ x, 0 ≤ x → x < g → f x = f' x) : PlanOk g n f [] f'
 | cons {f f' : Int → Int} {m : Mv} {P : List Mv} (h : MvOk g n f m) (t : PlanOk g n (mvF f m) P f') : PlanOk g n f (m :: P) f'
theorem MvOk.congr {g n : Int} {f f' : Int → Int} {m : Mv} (h : ∀ x, 0 ≤ x → x < g → f x = f' x) (k : MvOk g n f' m) : MvOk g n f m :=
 ⟨k.h1, k.h2, k.h3, fun x h1 h2 => by rw [h x (by have := k.h1; omega) (by have := k.h3; omega)]; exact k.h4 x h1 h2, k.h5, k.h6, k.h7⟩
theorem PlanOk.to {g n : Int} {f f1 f' : Int → Int} {P : List Mv} (k : PlanOk g n f P f1) (h : ∀ x, 0 ≤ x → x < g → f1 x = f' x) : PlanOk g n f P f' := by
 induction k with
 | nil h1 => exact .nil fun x a b => (h1 x a b).trans (h x a b)
 | cons h1 t ih => exact .cons h1 (ih h)
theorem PlanOk.snoc {g n : Int} {f f1 f' : Int → Int} {P : List Mv} {m : Mv} (k : PlanOk g n f P f1) (hm : MvOk g n f1 m) (h : ∀ x, 0 ≤ x → x < g → mvF f1 m x = f' x) : PlanOk g n f (P ++ [m]) f' := by
 induction k with
 | nil h1 =>
  refine .cons (hm.congr h1) (.nil fun x a b => ?_)
  rw [← h x a b]; unfold mvF; split
  ·rfl
  ·exact h1 x a b
 | cons h1 t ih => exact .cons h1 (ih hm h)
theorem PlanOk.cons_inv {g n : Int} {f f' : Int → Int} {m : Mv} {P : List Mv} (k : PlanOk g n f (m :: P) f') : MvOk g n f m ∧ PlanOk g n (mvF f m) P f' := by
 cases k with
 | cons h t => exact ⟨h, t⟩
theorem PlanOk.nil_inv {g n : Int} {f f' : Int → Int} (k : PlanOk g n f [] f') : ∀ x, 0 ≤ x → x < g → f x = f' x := by
 cases k with
 | nil h => exact h
/-- Groups below one go the new way. -/
def fAt (o p g x y : Int) : Int := if y < x then ownr p g y else ownr o g y
/-- The plan, group by group. -/
def planL (o p g : Int) : Nat → List Mv
 | 0 => []
 | x + 1 => if ownr o g x = ownr p g x then planL o p g x
  else if 0 < x ∧ ownr o g x = ownr o g ((x : Int) - 1) ∧ ownr p g x = ownr p g ((x : Int) - 1) then (planL o p g x).dropLast ++ [⟨ownr o g x, ownr p g x, (((planL o p g x).getLast?.map Mv.lo).getD 0), (x : Int) + 1⟩]
  else planL o p g x ++ [⟨ownr o g x, ownr p g x, x, (x : Int) + 1⟩]
/-- What is planned when the runs below a group have been looked at. -/
structure PlanJ (o p g : Int) (x : Nat) (P : List Mv) : Prop where
 ok : PlanOk g (max o p) (ownr o g) P (fAt o p g x)
 edge : 0 < x → (x : Int) < g → ¬ alike o p g x ((x : Int) - 1)
 nil : x = 0 → P = []
 few : 0 < x → (P.length : Int) ≤ ownr o g ((x : Int) - 1) + ownr p g ((x : Int) - 1) + 1
 same : o = p → P = []
 eq : P = planL o p g x
theorem PlanJ.zero (o p g : Int) : PlanJ o p g 0 [] := ⟨.nil fun x h _ => by unfold fAt; rw [if_neg (by omega)], by omega, fun _ => rfl, by omega, fun _ => rfl, rfl⟩
theorem planL_stay {o p g : Int} {lo : Nat} : ∀ n : Nat, (∀ y : Nat, lo ≤ y → y < lo + n → ownr o g y = ownr p g y) → planL o p g (lo + n) = planL o p g lo
 | 0, _ => rfl
 | n + 1, h => by
  rw [← Nat.add_assoc, planL, if_pos (h (lo + n) (by omega) (by omega))]
  exact planL_stay n fun y h1 h2 => h y h1 (by omega)
theorem planL_move {o p g : Int} {lo : Nat} (he : ¬ ownr o g lo = ownr p g lo) (hedge : 0 < lo → ¬ (ownr o g lo = ownr o g ((lo : Int) - 1) ∧ ownr p g lo = ownr p g ((lo : Int) - 1))) : ∀ n : Nat, (∀ y : Nat, lo ≤ y → y < lo + n + 1 → ownr o g y = ownr o g lo ∧ ownr p g y = ownr p g lo) →
  planL o p g (lo + n + 1) = planL o p g lo ++ [⟨ownr o g lo, ownr p g lo, lo, ((lo + n + 1 : Nat) : Int)⟩]
 | 0, _ => by
  show planL o p g (lo + 1) = _
  rw [planL, if_neg he, if_neg (fun h => hedge h.1 h.2)]; rfl
 | n + 1, h => by
  have ih := planL_move he hedge n fun y h1 h2 => h y h1 (by omega)
  have a := h (lo + n + 1) (by omega) (by omega)
  have b := h (lo + n) (by omega) (by omega)
  have c : (((lo + n + 1 : Nat) : Int) - 1) = ((lo + n : Nat) : Int) := by omega
  rw [← Nat.add_assoc, planL, if_neg (by rw [a.1, a.2]; exact he), if_pos ⟨by omega, by rw [c, a.1, b.1], by rw [c, a.2, b.2]⟩, ih, a.1, a.2]
  simp
section
variable {o p g : Int} {lo hi : Nat} {P : List Mv}
theorem alike_run (hal : ∀ y : Nat, lo ≤ y → y < hi → alike o p g y lo) (x : Int) (h1 : (lo : Int) ≤ x) (h2 : x < (hi : Int)) : alike o p g x lo := by
 have := hal x.toNat (by omega) (by omega)
 rwa [Int.toNat_of_nonneg (by omega)] at this
theorem PlanJ.few_next (j : PlanJ o p g lo P) (ho : 1 ≤ o) (hp : 1 ≤ p) (hlh : lo < hi) (hh : (hi : Int) ≤ g) (hal : ∀ y : Nat, lo ≤ y → y < hi → alike o p g y lo) : (P.length : Int) + 1 ≤ ownr o g ((hi : Int) - 1) + ownr p g ((hi : Int) - 1) + 1 := by
 have ha := alike_run hal ((hi : Int) - 1) (by omega) (by omega)
 have r1 := ownr_range (p := o) (g := g) (x := lo) ho (by omega) (by omega)
 have r2 := ownr_range (p := p) (g := g) (x := lo) hp (by omega) (by omega)
 rw [ha.1, ha.2]
 by_cases h0 : lo = 0
 ·rw [j.nil h0]; simp; omega
 ·have e := j.edge (by omega) (by omega)
  have f := j.few (by omega)
  have m1 := ownr_mono (p := o) (g := g) (x := (lo : Int) - 1) (y := lo) ho (by omega) (by omega)
  have m2 := ownr_mono (p := p) (g := g) (x := (lo : Int) - 1) (y := lo) hp (by omega) (by omega)
  unfold alike at e
  omega
theorem PlanJ.edge_next (hlh : lo < hi) (hal : ∀ y : Nat, lo ≤ y → y < hi → alike o p g y lo) (hend : (hi : Int) = g ∨ ¬ alike o p g hi lo) : 0 < hi → (hi : Int) < g → ¬ alike o p g hi ((hi : Int) - 1) := fun _ h2 ha => by
 rcases hend with h | h
 ·omega
 ·have hb := alike_run hal ((hi : Int) - 1) (by omega) (by omega)
  exact h ⟨ha.1.trans hb.1, ha.2.trans hb.2⟩
/-- A run that stays where it is. -/
theorem PlanJ.stay (j : PlanJ o p g lo P) (ho : 1 ≤ o) (hp : 1 ≤ p) (hlh : lo < hi) (hh : (hi : Int) ≤ g) (hal : ∀ y : Nat, lo ≤ y → y < hi → alike o p g y lo) (hend : (hi : Int) = g ∨ ¬ alike o p g hi lo) (he : ownr o g lo = ownr p g lo) : PlanJ o p g hi P := by
 refine ⟨j.ok.to fun x h1 h2 => ?_, PlanJ.edge_next hlh hal hend, by omega, fun _ => by have := j.few_next ho hp hlh hh hal; omega, j.same, ?_⟩
 rotate_left
 ·obtain ⟨n, rfl⟩ : ∃ n, hi = lo + n := ⟨hi - lo, by omega⟩
  rw [planL_stay n fun y h1 h2 => by rw [(hal y h1 h2).1, (hal y h1 h2).2, he]]
  exact j.eq
 unfold fAt
 by_cases a : x < (lo : Int)
 ·rw [if_pos a, if_pos (by omega)]
 ·rw [if_neg a]
  by_cases b : x < (hi : Int)
  ·rw [if_pos b]
   have := alike_run hal x (by omega) b
   rw [this.1, this.2, he]
  ·rw [if_neg b]
/-- A run that moves. -/
theorem PlanJ.move (j : PlanJ o p g lo P) (ho : 1 ≤ o) (hp : 1 ≤ p) (hlh : lo < hi) (hh : (hi : Int) ≤ g) (hal : ∀ y : Nat, lo ≤ y → y < hi → alike o p g y lo) (hend : (hi : Int) = g ∨ ¬ alike o p g hi lo) (he : ¬ ownr o g lo = ownr p g lo) : PlanJ o p g hi (P ++ [⟨ownr o g lo, ownr p g lo, lo, hi⟩]) := by
 have r1 := ownr_range (p := o) (g := g) (x := lo) ho (by omega) (by omega)
 have r2 := ownr_range (p := p) (g := g) (x := lo) hp (by omega) (by omega)
 refine ⟨j.ok.snoc ⟨by simp, by simp; omega, by simp; omega, fun x h1 h2 => ?_, he, ⟨r1.1, by simp; omega⟩, ⟨r2.1, by simp; omega⟩⟩ fun x h1 h2 => ?_, PlanJ.edge_next hlh hal hend, by omega, fun _ => by have := j.few_next ho hp hlh hh hal; simp; omega, fun h => by rw [h] at he; exact absurd rfl he, ?_⟩
 rotate_left 2
 ·obtain ⟨n, rfl⟩ : ∃ n, hi = lo + n + 1 := ⟨hi - lo - 1, by omega⟩
  rw [planL_move he (fun h => j.edge h (by omega)) n fun y h1 h2 => hal y h1 h2, ← j.eq]
 ·simp only at h1 h2
  unfold fAt
  rw [if_neg (by omega)]
  exact (alike_run hal x h1 h2).1
 ·unfold mvF fAt
  simp only
  by_cases a : x < (lo : Int)
  ·rw [if_neg (by omega), if_pos a, if_pos (by omega)]
  ·by_cases b : x < (hi : Int)
   ·rw [if_pos (by omega), if_pos b]
    exact (alike_run hal x (by omega) b).2.symm
   ·rw [if_neg (by omega), if_neg a, if_neg b]
end
/-- What a plan is. -/
structure PlanP (o p g : Int) (P : List Mv) : Prop where
 ok : PlanOk g (max o p) (ownr o g) P (ownr p g)
 few : (P.length : Int) ≤ o + p - 1
 none : P = [] ↔ o = p
 eq : P = planL o p g g.toNat
theorem PlanJ.done {o p : Int} {g : Nat} {P : List Mv} (j : PlanJ o p g g P) (ho : 1 ≤ o) (hp : 1 ≤ p) (hog : o ≤ g) (hpg : p ≤ g) : PlanP o p g P := by
 have k : PlanOk g (max o p) (ownr o g) P (ownr p g) := j.ok.to fun x h1 h2 => by unfold fAt; rw [if_pos h2]
 refine ⟨k, ?_, ⟨fun h => ?_, j.same⟩, by rw [Int.toNat_natCast]; exact j.eq⟩
 ·have := j.few (by omega)
  rw [ownr_last ho hog, ownr_last hp hpg] at this
  omega
 ·subst h
  have := k.nil_inv ((g : Int) - 1) (by omega) (by omega)
  rw [ownr_last ho hog, ownr_last hp hpg] at this
  omega
end Go.Proofs

namespace Go.Proofs
open Go Go.Ox
set_option maxRecDepth 100000
set_option maxHeartbeats 4000000
abbrev p1V (b3 b5 b4 : Nat) : Value := .func (.func 69) #[] #[.pointer (some ⟨b3, 0, none⟩), .pointer (some ⟨b5, 0, none⟩), .pointer (some ⟨b4, 0, none⟩)]
theorem ia92 (b : Nat) : aIndexAddr Tryz.prog 114 (.pointer (some ⟨b, 0, none⟩)) (.int .i64 0) = some (.pointer (some ⟨b, 0, none⟩)) ∧ aIndexAddr Tryz.prog 114 (.pointer (some ⟨b, 0, none⟩)) (.int .i64 1) = some (.pointer (some ⟨b, 1, none⟩)) := ⟨congrArg id (by rfl), congrArg id (by rfl)⟩
theorem runs_ok {h0 : AHeap} {F : List Asn} (g : Int) (b3 b5 b4 : Nat) (h : AHeap) (s : St h0 h F) (K : Value → AHeap → Prop) (hk : ∀ bg bf h', St h0 h' (own bf (.cells false 0 [p1V b3 b5 b4] 115) :: own bg (.cells false 0 [.int .i64 g] 3) :: F) → K (.func (.func 84) #[] #[.pointer (some ⟨bg, 0, none⟩), .pointer (some ⟨bf, 0, none⟩)]) h') :
  wpF Tryz.prog (.fn 70) [.int .i64 g, p1V b3 b5 b4] h K := by
 have hv : (p1V b3 b5 b4).cells = #[p1V b3 b5 b4] := rfl
 have hv1 : (p1V b3 b5 b4).oneCell' = true := rfl
 refine wpF_fun 6 [.tmp 4] Tryz.func70 rfl rfl rfl rfl ?_
 refine sr (fun LL hLL => ?_)
 simp only [ptrTo, oxs, simprocAttr, hv, hv1]
 refine hLL _ _ ?_
 refine sr (fun LL hLL => ?_)
 simp only [ptrTo, oxs, simprocAttr]
 refine hLL _ _ ?_
 refine wpC_ret (out_ret ?_)
 simp only [ptrTo, oxs, simprocAttr]
 have := (s.push (.cells false 0 [.int .i64 g] 3)).push (.cells false 0 [p1V b3 b5 b4] 115)
 exact hk h.next (h.next + 1) _ this
theorem plan_ok {h0 : AHeap} {F : List Asn} {o p : Int} {g : Nat} (ho : 1 ≤ o) (hog : o ≤ g) (hp : 1 ≤ p) (hpg : p ≤ g) (h64 : g ≤ 64) (ho8 : o ≤ 8) (hp8 : p ≤ 8) (h : AHeap) (s : St h0 h F) (K : Value → AHeap → Prop)
  (hk : ∀ a c P h', PlanP o p g P → St h0 h' (wn Mv.cells 4 75 a c P :: F) → K (.slice a P.length c) h') : wpF Tryz.prog (.fn 35) [.int .i64 o, .int .i64 p, .int .i64 g] h K := by
 refine wpF_fun 61 [.tmp 6] Tryz.func35 rfl rfl rfl rfl ?_
 obtain ⟨b3, e3⟩ : ∃ b, b = h.next := ⟨_, rfl⟩
 obtain ⟨b4, e4⟩ : ∃ b, b = b3 + 1 := ⟨_, rfl⟩
 obtain ⟨b5, e5⟩ : ∃ b, b = b4 + 1 := ⟨_, rfl⟩
 obtain ⟨b7, e7⟩ : ∃ b, b = b5 + 1 := ⟨_, rfl⟩
 obtain ⟨b8, e8⟩ : ∃ b, b = b7 + 1 := ⟨_, rfl⟩
 have s1 := ((s.push (.cells false 0 [.int .i64 o] 3)).push (.cells false 0 [.int .i64 p] 3)).push (.cells false 0 [.int .i64 g] 3)
 obtain ⟨h1, e1⟩ : ∃ h1, h1 = ((h.push (.cells false 0 [.int .i64 o] 3)).push (.cells false 0 [.int .i64 p] 3)).push (.cells false 0 [.int .i64 g] 3) := ⟨_, rfl⟩
 have en1 : h1.next = b7 := by rw [e1, e7, e5, e4, e3]; simp only [AHeap.next_push]
 refine sr (fun LL hLL => ?_)
 simp only [ptrTo, oxs, simprocAttr, ← e1, AHeap.next_push, ← e3, ← e4, ← e5]
 refine hLL _ _ ?_
 simp only [AHeap.next_push, ← e1, ← e3, ← e4, ← e5] at s1
 have g5 := s1.get
 have g4 := (s1.mv 1).get
 have g3 := (s1.mv 2).get
 refine wpC_seq (sr fun LL hLL => ?_)
 simp only [ptrTo, oxs, simprocAttr, g3, g4, g5, eq_false (show ¬ (g : Int) < 1 by omega), eq_false (show ¬ (64 : Int) < g by omega), eq_false (show ¬ o < 1 by omega), eq_false (show ¬ (g : Int) < o by omega), eq_false (show ¬ p < 1 by omega), eq_false (show ¬ (g : Int) < p by omega)]
 refine hLL _ _ ?_
 refine wpC_if ?_
 simp only [ptrTo, oxs, simprocAttr]
 refine wpC_skip ?_
 simp only [ptrTo, oxs, simprocAttr]
 refine fg12 (fun R => ?_)
 have s2 := s1.push (.cells false 0 [.nilFunc] 115)
 rw [en1] at s2
 have gg := s2.get
 refine sr (fun LL hLL => ?_)
 simp only [ptrTo, oxs, simprocAttr, en1, gg]
 refine hLL _ _ ?_
 have s3 := s2.set (.cells false 0 [.func (.func 69) #[] #[.pointer (some ⟨b3, 0, none⟩), .pointer (some ⟨b5, 0, none⟩), .pointer (some ⟨b4, 0, none⟩)]] 115)
 obtain ⟨h3, eh3⟩ : ∃ h3, h3 = (h1.push (.cells false 0 [.nilFunc] 115)).set b7 (.cells false 0 [.func (.func 69) #[] #[.pointer (some ⟨b3, 0, none⟩), .pointer (some ⟨b5, 0, none⟩), .pointer (some ⟨b4, 0, none⟩)]] 115) := ⟨_, rfl⟩
 have en3 : h3.next = b8 := by rw [eh3, AHeap.next_set, AHeap.next_push, en1, e8]
 rw [← eh3] at s3 ⊢
 have s4 := s3.push (.cells false 0 [.slice none 0 0] 72)
 rw [en3] at s4
 refine sr (fun LL hLL => ?_)
 simp only [ptrTo, oxs, simprocAttr, en3]
 refine hLL _ _ ?_
 obtain ⟨h4, eh4⟩ : ∃ h4, h4 = h3.push (.cells false 0 [.slice none 0 0] 72) := ⟨_, rfl⟩
 rw [← eh4] at s4 ⊢
 have g5 := (s4.mv 2).get
 have g7 := (s4.mv 1).get
 refine wpC_seq ?_
 refine sr (fun LL hLL => ?_)
 simp only [ptrTo, pend, pend0, Pd.old, pendU, pendU0, Nat.testBit, oxh, simprocAttr, g5, g7]
 refine runs_ok (g : Int) b3 b5 b4 h4 s4 _ fun bg bf h5 s5 => ?_
 simp only [ptrTo, pend, pend0, Pd.old, pendU, pendU0, Nat.testBit, oxh, simprocAttr]
 refine hLL _ _ ?_
 obtain ⟨β, hβ⟩ : ∃ β, β = h5.next := ⟨_, rfl⟩
 refine wpC_block (wpC_rangeL 84 #[] #[.pointer (some ⟨bg, 0, none⟩), .pointer (some ⟨bf, 0, none⟩)] (by simp only [ptrTo, oxs, simprocAttr]) (fun L LB LD hL hLB hLD => ?_))
 have s6 := s5.push L
 rw [← hβ] at s6 ⊢
 obtain ⟨h6, e6⟩ : ∃ h6, h6 = h5.push L := ⟨_, rfl⟩
 rw [← e6] at s6 ⊢
 refine runs1_ok (o := o) (p := p) h64 β bg bf b3 b5 b4 h6 _
  (fun lo h' => ∃ a c P, PlanJ o p g lo P ∧ St h0 h' (wn Mv.cells 4 75 a c P :: own b8 (.cells false 0 [.slice a P.length c] 72) :: own β L :: own bf (.cells false 0 [p1V b3 b5 b4] 115) :: own bg (.cells false 0 [.int .i64 g] 3) :: own b7 (.cells false 0 [p1V b3 b5 b4] 115) :: own b5 (.cells false 0 [.int .i64 g] 3) :: own b4 (.cells false 0 [.int .i64 p] 3) :: own b3 (.cells false 0 [.int .i64 o] 3) :: F))
  ⟨none, 0, [], PlanJ.zero o p g, St.wn_nil (s6.sel 8 [3, 0, 1, 2, 4, 5, 6, 7])⟩ ?_ ?_ ?_ ?_
 ·rintro lo h' ⟨a, c, P, j, s7⟩
  exact ⟨(s7.mv 4).get, (s7.mv 3).get⟩
 ·rintro lo h' x Q ⟨a, c, P, j, s7⟩ hx hQ
  refine plan1_ok ho hog hp hpg (by omega) (by omega) (by omega) h' (s7.mv 8).get (s7.mv 6).get (s7.mv 7).get (s7.mv 8).lt.2 (s7.mv 6).lt.2 (s7.mv 7).lt.2 _ fun h'' hf => ?_
  exact hQ _ ⟨a, c, P, j, s7.fr hf⟩
 ·rintro lo hi h' Q hlh hhi hal hend ⟨a, c, P, j, s7⟩ hQ
  have hend' : (hi : Int) = (g : Int) ∨ ¬ alike o p g hi lo := hend.imp (fun h => by omega) id
  refine wpF_yieldL hL hLB hLD (s7.mv 2).get rfl (by decide) ?_
  change wpC _ _ _ _ (tput (tput _ 40 _) 41 _) _ _
  refine sr (fun LL hLL => ?_)
  simp only [ptrTo, oxs, simprocAttr]
  refine hLL _ _ ?_
  refine rg (fun LL hLL => ?_)
  simp only [ptrTo, oxs, simprocAttr]
  refine hLL _ _ ?_
  simp only [ptrTo, oxs, simprocAttr]
  refine ⟨(s7.mv 2).get, ?_⟩
  have s8 := (s7.mv 2).set LB
  obtain ⟨h8, e8'⟩ : ∃ h8, h8 = h'.set β LB := ⟨_, rfl⟩
  rw [← e8'] at s8 ⊢
  refine wpC_block ?_
  have g7 := (s8.mv 5).get
  refine sr (fun LL hLL => ?_)
  simp only [ptrTo, pend, pend0, Pd.old, pendU, pendU0, Nat.testBit, oxh, simprocAttr, g7]
  refine plan1_ok ho hog hp hpg (by omega) (by omega) (by omega) h8 (s8.mv 8).get (s8.mv 6).get (s8.mv 7).get (s8.mv 8).lt.2 (s8.mv 6).lt.2 (s8.mv 7).lt.2 _ fun h9 hf => ?_
  have s9 := s8.fr hf
  have s10 := s9.push (.cells false 0 [.int .i64 0, .int .i64 0] 114)
  have g10 := s10.get
  have s11 := s10.set (.cells false 0 [.int .i64 (ownr o g lo), .int .i64 (ownr p g lo)] 114)
  obtain ⟨h11, e11⟩ : ∃ h, h = (h9.push (.cells false 0 [.int .i64 0, .int .i64 0] 114)).set h9.next (.cells false 0 [.int .i64 (ownr o g lo), .int .i64 (ownr p g lo)] 114) := ⟨_, rfl⟩
  simp only [ptrTo, pend, pend0, Pd.old, pendU, pendU0, Nat.testBit, oxh, simprocAttr, g10]
  rw [← e11] at s11
  simp only [← e11]
  have g11 := s11.get
  refine hLL _ _ ?_
  by_cases he : ownr o g lo = ownr p g lo
  ·refine sr (fun LL hLL => ?_)
   simp only [ptrTo, oxs, simprocAttr, g11, ia92, eq_true he]
   refine hLL _ _ ?_
   refine wpC_if ?_
   simp only [ptrTo, oxs, simprocAttr]
   refine wpC_skip ?_
   simp only [ptrTo, oxs, simprocAttr]
   have s12 := (s11.mv 1).set L
   refine ⟨(s11.mv 1).get, .inl (hQ _ ⟨a, c, P, j.stay ho hp hlh (by omega) hal hend' he, ?_⟩)⟩
   exact s12.sel 10 [2, 3, 0, 4, 5, 6, 7, 8, 9]
  ·refine sr (fun LL hLL => ?_)
   simp only [ptrTo, oxs, simprocAttr, g11, ia92, eq_false he]
   refine hLL _ _ ?_
   refine wpC_if ?_
   simp only [ptrTo, oxs, simprocAttr]
   have hf1 := (j.move ho hp hlh (by omega) hal hend' he).few (by omega)
   have r1 := ownr_range (p := o) (g := g) (x := (hi : Int) - 1) ho (by omega) (by omega)
   have r2 := ownr_range (p := p) (g := g) (x := (hi : Int) - 1) hp (by omega) (by omega)
   have hPl : P.length ≤ 20 := by simp at hf1; omega
   have g8 := (s11.mv 3).get
   have zz : aZeros [.int .i64 0, .int .i64 0, .int .i64 0, .int .i64 0] 1 = [.int .i64 0, .int .i64 0, .int .i64 0, .int .i64 0] := rfl
   refine rg (fun LL hLL => ?_)
   simp only [ptrTo, oxs, simprocAttr, g11, ia92, g8, zz]
   obtain ⟨m, em⟩ : ∃ m : Mv, m = ⟨ownr o g lo, ownr p g lo, lo, hi⟩ := ⟨_, rfl⟩
   obtain ⟨aE, cE, h12, y1, y2⟩ := (s11.mv 2).app1 (bytes := 32) m Mv.len Mv.oc (by omega) (by omega)
   have y1' := y1
   rw [em] at y1'
   simp only [Mv.cells] at y1'
   rw [y1']
   have g8 := (y2.mv 3).get
   simp only [ptrTo, oxs, simprocAttr, g8]
   refine hLL _ _ ?_
   simp only [ptrTo, oxs, simprocAttr]
   rw [show P.length + 1 = (P ++ [m]).length by simp]
   have s13 := (y2.mv 3).set (.cells false 0 [.slice aE (P ++ [m]).length cE] 72)
   have s14 := (s13.mv 3).set L
   refine ⟨(s13.mv 3).get, .inl (hQ _ ⟨aE, cE, P ++ [m], by rw [em]; exact j.move ho hp hlh (by omega) hal hend' he, ?_⟩)⟩
   exact s14.sel 10 [2, 1, 0, 4, 5, 6, 7, 8, 9]
 ·rintro h' ⟨a, c, P, j, s7⟩
  have g9 := (s7.mv 2).get
  refine .inl ⟨g9, fun Y => ?_⟩
  have s8 := (s7.mv 2).set Y
  have g8 := (s8.mv 2).get
  simp only [ptrTo, oxs, simprocAttr]
  refine sr (fun LL hLL => ?_)
  simp only [ptrTo, oxs, simprocAttr, g8]
  refine hLL _ _ ?_
  refine wpC_ret (out_ret ?_)
  simp only [ptrTo, oxs, simprocAttr]
  have s9 := (s8).sel 9 [1]
  simp only [oxf] at s9
  exact hk _ _ _ _ (j.done ho hp hog hpg) s9
end Go.Proofs

namespace Go.Proofs
open Go Go.Ox
set_option maxRecDepth 100000
set_option maxHeartbeats 4000000
/-- Each table holds what is its own of a whole. -/
def TabsOk (g : Int) (f : Int → Int) (M : Tb) (T : List (Nat × Tb)) : Prop := ∀ j (hj : j < T.length), TbOk T[j].2 ∧ ∀ k, tgt T[j].2 k = if f (grp k g) = (j : Int) then tgt M k else (0, 0)
theorem lastOf_filter (q : Int → Bool) (k : Int) : ∀ l : List Rw, lastOf (l.filter fun r => q r.1) k = if q k = true then lastOf l k else none
 | [] => by simp [lastOf]
 | r :: l => by
  have ih := lastOf_filter q k l
  rw [lastOf_cons, List.filter_cons]
  by_cases h : q r.1 = true
  ·rw [if_pos h, lastOf_cons, ih]
   by_cases hk : q k = true
   ·simp [hk]
   ·have : ¬ r.1 = k := by rintro rfl; exact hk h
    simp [hk, this]
  ·rw [if_neg h, ih]
   by_cases hk : q k = true
   ·have : ¬ r.1 = k := by rintro rfl; exact h hk
    simp [hk, this]
   ·simp [hk]
def partOf (g : Int) (f : Int → Int) (l : List Rw) (j : Nat) : List Rw := l.filter fun r => decide (f (grp r.1 g) = (j : Int))
theorem partOf_snoc (g : Int) (f : Int → Int) (l : List Rw) (r : Rw) (j : Nat) : partOf g f (l ++ [r]) j = if f (grp r.1 g) = (j : Int) then partOf g f l j ++ [r] else partOf g f l j := by
 unfold partOf
 rw [List.filter_append]
 by_cases h : f (grp r.1 g) = (j : Int) <;> simp [h]
theorem tlay_snoc (M : Tb) (l : List Rw) (r : Rw) : tlay M (l ++ [r]) = tpt (tlay M l) r.1 r.2 := by simp [tlay, List.foldl_append]
theorem tabs_laid {g : Int} {f : Int → Int} {l : List Rw} {T : List (Nat × Tb)} (hw : ∀ r ∈ l, (Lit.int .i64 r.1).wf = true) (hT : ∀ j (hj : j < T.length), T[j].2 = tlay [] (partOf g f l j)) : TabsOk g f (tlay [] l) T := fun j hj => by
 have hw' : ∀ r ∈ partOf g f l j, (Lit.int .i64 r.1).wf = true := fun r hr => hw r (List.mem_filter.1 hr).1
 rw [hT j hj]
 refine ⟨TbOk.nil.lay hw', fun k => ?_⟩
 rw [TbOk.nil.get_lay hw', TbOk.nil.get_lay hw]
 have := lastOf_filter (fun k => decide (f (grp k g) = (j : Int))) k l
 unfold partOf
 rw [this]
 by_cases h : f (grp k g) = (j : Int) <;> simp [h, tgt]
theorem TabsOk.len {g : Int} {f : Int → Int} {M : Tb} {T : List (Nat × Tb)} (t : TabsOk g f M T) (ok : TbOk M) (j : Nat) (hj : j < T.length) : T[j].2.length ≤ M.length := by
 obtain ⟨h1, h2⟩ := t j hj
 have := sub_len (tbK T[j].2) (tbK M) h1.nd fun k hk => by
  rw [h1.iff, h2] at hk
  rw [ok.iff]
  intro e; rw [e] at hk; simp at hk
 rwa [tbK_len, tbK_len] at this
/-- Two tables when some rows have gone from one to the other. -/
def mvT (g : Int) (T : List (Nat × Tb)) (m : Mv) (A B : Nat × Tb) : List (Nat × Tb) := (T.set m.fr.toNat (A.1, tcut A.2 (keysIn g m.lo m.hi A.2))).set m.to.toNat (B.1, tlay B.2 (rowK A.2 (keysIn g m.lo m.hi A.2)))
theorem TabsOk.move {g n : Int} {f : Int → Int} {M : Tb} {T : List (Nat × Tb)} (t : TabsOk g f M T) {m : Mv} (hm : MvOk g n f m) (hn : n ≤ T.length) {A B : Nat × Tb} (hA : ∃ h : m.fr.toNat < T.length, A = T[m.fr.toNat]) (hB : ∃ h : m.to.toNat < T.length, B = T[m.to.toNat]) : TabsOk g (mvF f m) M (mvT g T m A B) := by
 obtain ⟨a1, rfl⟩ := hA
 obtain ⟨b1, rfl⟩ := hB
 have eF : ((m.fr.toNat : Nat) : Int) = m.fr := Int.toNat_of_nonneg hm.h6.1
 have eT : ((m.to.toNat : Nat) : Int) = m.to := Int.toNat_of_nonneg hm.h7.1
 have hne := hm.h5
 obtain ⟨okA, tA⟩ := t _ a1
 obtain ⟨okB, tB⟩ := t _ b1
 rw [eF] at tA
 rw [eT] at tB
 obtain ⟨L, eL⟩ : ∃ L, L = keysIn g m.lo m.hi T[m.fr.toNat].2 := ⟨_, rfl⟩
 have hL : ∀ k, k ∈ L ↔ k ∈ tbK T[m.fr.toNat].2 ∧ m.lo ≤ grp k g ∧ grp k g < m.hi := fun k => by rw [eL]; exact mem_keysIn
 have hin : ∀ k, m.lo ≤ grp k g → grp k g < m.hi → f (grp k g) = m.fr ∧ (k ∈ L ↔ tgt M k ≠ (0, 0)) := fun k h1 h2 => by
  have hf := hm.h4 _ h1 h2
  refine ⟨hf, ?_⟩
  rw [hL, okA.iff, tA, if_pos hf]
  exact ⟨fun h => h.1, fun h => ⟨h, h1, h2⟩⟩
 have hout : ∀ k, ¬ (m.lo ≤ grp k g ∧ grp k g < m.hi) → ¬ k ∈ L := fun k h hk => h ((hL k).1 hk).2
 have hwf : ∀ r ∈ rowK T[m.fr.toNat].2 L, (Lit.int .i64 r.1).wf = true := rowK_wf okA fun k hk => ((hL k).1 hk).1
 unfold mvT
 rw [← eL]
 intro j hj'
 have hj : j < T.length := by rw [List.length_set, List.length_set] at hj'; exact hj'
 by_cases hjt : m.to.toNat = j
 ·subst hjt
  rw [List.getElem_set_self]
  refine ⟨okB.lay hwf, fun k => ?_⟩
  rw [okB.get_lay hwf, lastOf_rowK, eT]
  unfold mvF
  by_cases hr : m.lo ≤ grp k g ∧ grp k g < m.hi
  ·rw [if_pos hr, if_pos rfl]
   obtain ⟨h1, h2⟩ := hin k hr.1 hr.2
   by_cases hk : k ∈ L
   ·rw [if_pos hk]; simp only [Option.getD_some]; rw [tA, if_pos h1]
   ·rw [if_neg hk]; simp only [Option.getD_none]; rw [tB, if_neg (by rw [h1]; exact hne)]
    exact (Decidable.not_not.1 fun h => hk (h2.2 h)).symm
  ·rw [if_neg hr, if_neg (hout k hr)]
   exact tB k
 ·rw [List.getElem_set_ne hjt]
  by_cases hjf : m.fr.toNat = j
  ·subst hjf
   rw [List.getElem_set_self]
   refine ⟨okA.cut L, fun k => ?_⟩
   rw [okA.get_cut, eF]
   unfold mvF
   by_cases hr : m.lo ≤ grp k g ∧ grp k g < m.hi
   ·rw [if_pos hr, if_neg (show ¬ m.to = m.fr from fun h => hne h.symm)]
    obtain ⟨h1, h2⟩ := hin k hr.1 hr.2
    by_cases hk : k ∈ L
    ·rw [if_pos hk]
    ·rw [if_neg hk, tA, if_pos h1]
     exact Decidable.not_not.1 fun h => hk (h2.2 h)
   ·rw [if_neg hr, if_neg (hout k hr)]
    exact tA k
  ·rw [List.getElem_set_ne hjf]
   refine ⟨(t j hj).1, fun k => ?_⟩
   rw [(t j hj).2]
   unfold mvF
   by_cases hr : m.lo ≤ grp k g ∧ grp k g < m.hi
   ·rw [if_pos hr, (hin k hr.1 hr.2).1, if_neg (by omega), if_neg (by omega)]
   ·rw [if_neg hr]
theorem flatMap_cg {α β : Type} {f g : α → List β} : ∀ {l : List α}, (∀ x ∈ l, f x = g x) → l.flatMap f = l.flatMap g
 | [], _ => rfl
 | x :: l, h => by rw [List.flatMap_cons, List.flatMap_cons, h x (by simp), flatMap_cg fun y hy => h y (by simp [hy])]
theorem TabsOk.congr {g : Int} {f f' : Int → Int} {M : Tb} {T : List (Nat × Tb)} (h1 : 1 ≤ g) (h64 : g ≤ 64) (t : TabsOk g f M T) (h : ∀ x, 0 ≤ x → x < g → f x = f' x) : TabsOk g f' M T := fun j hj => ⟨(t j hj).1, fun k => by
 rw [(t j hj).2, h _ (grp_lt k g).1 ((grp_lt k g).2.2 h1 h64)]⟩
/-- All tables' rows, one behind the other. -/
theorem TabsOk.rows {g p : Int} {M : Tb} {T : List (Nat × Tb)} (h1 : 1 ≤ g) (h64 : g ≤ 64) (hp : 1 ≤ p) (ok : TbOk M) (t : TabsOk g (ownr p g) M T) (hn : p.toNat ≤ T.length) : (T.take p.toNat).flatMap (fun x => rowsOf g x.2) = rowsOf g M := by
 have hmem : ∀ x ∈ T.take p.toNat, ∃ j : Nat, ∃ hj : j < T.length, x = T[j] := fun x hx => by
  obtain ⟨j, hj, e⟩ := List.mem_iff_getElem.1 hx
  rw [List.length_take] at hj
  rw [List.getElem_take] at e
  exact ⟨j, by omega, e.symm⟩
 have hkey : ∀ j (hj : j < T.length) k, k ∈ tbK T[j].2 → ownr p g (grp k g) = (j : Int) ∧ tgt M k ≠ (0, 0) ∧ tgt T[j].2 k = tgt M k := fun j hj k hk => by
  obtain ⟨okj, tj⟩ := t j hj
  rw [okj.iff, tj] at hk
  by_cases h : ownr p g (grp k g) = (j : Int)
  ·rw [if_pos h] at hk
   exact ⟨h, hk, by rw [tj, if_pos h]⟩
  ·rw [if_neg h] at hk; exact absurd rfl hk
 have e0 : ∀ x ∈ T.take p.toNat, rowsOf g x.2 = (keySort g (tbK x.2)).map (fun k => (k, tgt M k)) := fun x hx => by
  obtain ⟨j, hj, rfl⟩ := hmem x hx
  unfold rowsOf rowK
  refine List.map_congr_left fun k hk => ?_
  rw [(hkey j hj k ((keySort_perm g _).mem_iff.1 hk)).2.2]
 have e1 : (T.take p.toNat).flatMap (fun x => rowsOf g x.2) = rowK M ((T.take p.toNat).flatMap fun x => keySort g (tbK x.2)) := by
  unfold rowK
  rw [List.map_flatMap]
  exact flatMap_cg e0
 have hlt : ∀ a b : Nat, a < b → ∀ (ha : a < T.length) (hb : b < T.length), ∀ x ∈ keySort g (tbK T[a].2), ∀ y ∈ keySort g (tbK T[b].2), grp x g < grp y g := fun a b hab ha hb x hx y hy => by
  have k1 := (hkey a ha x ((keySort_perm g _).mem_iff.1 hx)).1
  have k2 := (hkey b hb y ((keySort_perm g _).mem_iff.1 hy)).1
  by_cases h : grp x g < grp y g
  ·exact h
  ·have := ownr_mono (p := p) (g := g) hp h1 (show grp y g ≤ grp x g by omega)
   omega
 have hpw : (T.take p.toNat).Pairwise (fun u v => ∀ x ∈ keySort g (tbK u.2), ∀ y ∈ keySort g (tbK v.2), grp x g < grp y g) := by
  rw [List.pairwise_iff_getElem]
  intro a b ha hb hab
  rw [List.length_take] at ha hb
  rw [List.getElem_take, List.getElem_take]
  exact hlt a b hab (by omega) (by omega)
 rw [e1]
 unfold rowsOf
 congr 1
 refine sorted_ext (g := g) ?_ (keySort_sorted g _) ?_ ((keySort_perm g _).nodup_iff.2 ok.nd) fun k => ?_
 ·rw [List.pairwise_flatMap]
  exact ⟨fun x _ => keySort_sorted g _, hpw.imp fun h x hx y hy => (keyLe_iff g x y).2 (.inl (h x hx y hy))⟩
 ·rw [List.Nodup, List.pairwise_flatMap]
  refine ⟨fun x hx => ?_, hpw.imp fun h x hx y hy e => ?_⟩
  ·obtain ⟨j, hj, rfl⟩ := hmem x hx
   exact (keySort_perm g _).nodup_iff.2 (t j hj).1.nd
  ·have := h x hx y hy
   rw [e] at this; omega
 ·rw [List.mem_flatMap, (keySort_perm g _).mem_iff]
  refine ⟨fun ⟨x, hx, hk⟩ => ?_, fun hk => ?_⟩
  ·obtain ⟨j, hj, rfl⟩ := hmem x hx
   rw [ok.iff]
   exact (hkey j hj k ((keySort_perm g _).mem_iff.1 hk)).2.1
  ·rw [ok.iff] at hk
   have hg := grp_lt k g
   have hr := ownr_range (p := p) (g := g) (x := grp k g) hp hg.1 (hg.2.2 h1 h64)
   have hj : (ownr p g (grp k g)).toNat < T.length := by omega
   refine ⟨T[(ownr p g (grp k g)).toNat], List.mem_iff_getElem.2 ⟨(ownr p g (grp k g)).toNat, by rw [List.length_take]; omega, by rw [List.getElem_take]⟩, ?_⟩
   rw [(keySort_perm g _).mem_iff, (t _ hj).1.iff, (t _ hj).2, if_pos (by omega)]
   exact hk
end Go.Proofs

