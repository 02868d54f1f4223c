/-
  A part of the proof: what functions of the program do on an abstract heap. CONDITIONS: none.
-/
import Derived.Test.YtfcajloeknedeaaGreatOxGBa
import Derived.Test.YtfcajloeknedeaaGreatOxTm
import Derived.Test.YtfcajloeknedeaaGreatOxNs
import Derived.Test.YtfcajloeknedeaaGreatOxVn
set_option linter.unusedSimpArgs false
set_option linter.unusedVariables false
namespace Go.Proofs
open Go Go.Ox
set_option maxRecDepth 100000
set_option maxHeartbeats 1000000
def icell (n : Int) : List Value := [.int .i64 n]
theorem icell.len (x : Int) : (icell x).length = 1 := rfl
theorem icell.oc (x : Int) : (icell x).all Value.oneCell' = true := rfl
def rcell (x : Rw) : List Value := [.int .i64 x.1, .int .i64 x.2.1, .int .i64 x.2.2]
theorem rcell.len (x : Rw) : (rcell x).length = 3 := rfl
theorem rcell.oc (x : Rw) : (rcell x).all Value.oneCell' = true := rfl
theorem wsucc {i : Nat} (h : i < 9223372036854775807) : IntKind.i64.wrap ((i : Int) + 1) = ((i + 1 : Nat) : Int) := by rw [wrap_i64 (by omega) (by omega)]; omega
/-- The summaries: that of the sorted keys, and none of a table's functions. -/
structure TbX (X : Ext Tryz.prog) : Prop where
 out : Out X [28, 30, 29, 149, 999999, 61, 32, 999999, 62, 90, 93, 95, 87, 101, 86, 85, 92, 94, 98]
 s : X.xs.contains skNo.s = true
 nf : X.fs.contains skNo.s = false
 app : ∀ args h, X.app skNo.s args h = skApp skNo skNo.s args h
/-- A table in the heap. -/
def tbA (β : Nat) (g : Int) (M : Tb) : Asn := exs fun r : Nat => star [own β (.cells false 0 [.int .i64 g, .map (some r)] 119), own r (.map (tbV M))]
theorem tbA_out {h0 h : AHeap} {F : List Asn} {β : Nat} {g : Int} {M : Tb} (s : St h0 h (tbA β g M :: F)) : ∃ r, St h0 h (own β (.cells false 0 [.int .i64 g, .map (some r)] 119) :: own r (.map (tbV M)) :: F) := by
 obtain ⟨r, s1⟩ := s.ex_out
 exact ⟨r, s1.star_out⟩
theorem tbA_in {h0 h : AHeap} {F : List Asn} {β r : Nat} {g : Int} {M : Tb} (s : St h0 h (own β (.cells false 0 [.int .i64 g, .map (some r)] 119) :: own r (.map (tbV M)) :: F)) : St h0 h (tbA β g M :: F) := St.ex_in r (St.star_in (l := [_, _]) s)
theorem clEq (a b c d : Int) : allEq [a, b] [c, d] = decide (((a, b) : Cl) = (c, d)) := by
 have h := @allEq_iff [a, b] [c, d] rfl
 by_cases e : ((a, b) : Cl) = (c, d)
 ·rw [decide_eq_true e, h]; cases e; rfl
 ·rw [decide_eq_false e, ← Bool.not_eq_true, h]
  intro e2; apply e; simp at e2; simp [e2]
theorem eqCl (x y : Operand) (a b c d : Int) : aBin Tryz.prog .eql 61 x y (.agg #[.int .i64 a, .int .i64 b]) (.agg #[.int .i64 c, .int .i64 d]) = some (.bool (decide (((a, b) : Cl) = (c, d)))) := by
 have h := (aBin_nums (P := Tryz.prog) Tryz.underlying61 (by decide +kernel) (by decide +kernel) (by rfl) x y [a, b] [c, d] rfl rfl).2
 rw [clEq] at h
 exact h
theorem neCl (x y : Operand) (a b c d : Int) : aBin Tryz.prog .neq 61 x y (.agg #[.int .i64 a, .int .i64 b]) (.agg #[.int .i64 c, .int .i64 d]) = some (.bool (!decide (((a, b) : Cl) = (c, d)))) := by
 have h := (aBin_nums (P := Tryz.prog) Tryz.underlying61 (by decide +kernel) (by decide +kernel) (by rfl) x y [a, b] [c, d] rfl rfl).1
 rw [clEq] at h
 exact h
theorem new_ok [X : Ext Tryz.prog] (tX : TbX X) {h0 : AHeap} {F : List Asn} (g : Int) (h : AHeap) (s : St h0 h F) (K : Value → AHeap → Prop) (hk : ∀ β h', St h0 h' (tbA β g [] :: F) → K (.pointer (some ⟨β, 0, none⟩)) h') : wpF Tryz.prog (.fn 28) [.int .i64 g] h K := by
 have hX := tX.out
 refine wpF_fun 7 [.tmp 2] Tryz.func28 rfl rfl rfl (hX.no (f := 28) (by decide)) ?_
 refine sr (fun LL hLL => ?_)
 simp only [oxz, simprocAttr]
 refine hLL _ _ ?_
 refine sr (fun LL hLL => ?_)
 simp only [oxz, simprocAttr]
 refine hLL _ _ ?_
 refine wpC_ret (out_ret ?_)
 simp only [oxz, simprocAttr]
 have s1 := (s.push (.map [])).push (.cells false 0 [.int .i64 g, .map (some h.next)] 119)
 exact hk _ _ (tbA_in (M := []) s1)
theorem put_ok [X : Ext Tryz.prog] (tX : TbX X) {h0 : AHeap} {F : List Asn} {β : Nat} {g : Int} {M : Tb} (k : Int) (c : Cl) (h : AHeap) (s : St h0 h (tbA β g M :: F)) (K : Value → AHeap → Prop) (hk : ∀ h', St h0 h' (tbA β g (tpt M k c) :: F) → K (.tuple #[]) h') : wpF Tryz.prog (.fn 30) [.pointer (some ⟨β, 0, none⟩), .int .i64 k, clV c] h K := by
 have hX := tX.out
 obtain ⟨r, s1⟩ := tbA_out s
 obtain ⟨c1, c2⟩ := c
 unfold clV
 refine wpF_fun 20 [] Tryz.func30 rfl rfl rfl (hX.no (f := 30) (by decide)) ?_
 refine sr (fun LL hLL => ?_)
 simp only [oxz, simprocAttr]
 refine hLL _ _ ?_
 have s2 := s1.push (.cells false 0 [.int .i64 c1, .int .i64 c2] 61)
 obtain ⟨h6, e6⟩ : ∃ h6, h6 = h.push (.cells false 0 [.int .i64 c1, .int .i64 c2] 61) := ⟨_, rfl⟩
 rw [← e6] at s2
 rw [← e6]
 have g1 := s2.get
 have g2 := (s2.mv 1).get
 have g3 := (s2.mv 2).get
 by_cases hc : ((c1, c2) : Cl) = (0, 0)
 ·have ep : tpt M k (c1, c2) = tdel M k := by unfold tpt; rw [if_pos hc]
  rw [ep] at hk
  refine wpC_seq (sr fun LL hLL => ?_)
  simp only [oxz, simprocAttr, g1, eqCl, decide_eq_true hc]
  refine hLL _ _ ?_
  refine wpC_if ?_
  simp only [oxz, simprocAttr]
  obtain ⟨h7, d1, s7⟩ := (s2.mv 2).tb_del Tryz.underlying117 Tryz.underlying3 k
  refine sr (fun LL hLL => ?_)
  simp only [oxz, simprocAttr, g2, d1]
  refine hLL _ _ ?_
  refine wpC_ret (out_ret ?_)
  simp only [oxz, simprocAttr]
  refine hk _ (tbA_in (r := r) ?_)
  have s8 := (s7).sel 3 [2, 0]
  simp only [oxf] at s8
  exact s8
 ·have ep : tpt M k (c1, c2) = tset M k (c1, c2) := by unfold tpt; rw [if_neg hc]
  rw [ep] at hk
  refine wpC_seq (sr fun LL hLL => ?_)
  simp only [oxz, simprocAttr, g1, eqCl, decide_eq_false hc]
  refine hLL _ _ ?_
  refine wpC_if ?_
  simp only [oxz, simprocAttr]
  refine wpC_skip ?_
  simp only [oxz, simprocAttr]
  have tp := tb_put h6 r M k (c1, c2)
  unfold clV at tp
  refine du [some 14, some 15, some 16, some 17, some 18, some 19, none] 7 [0, 1, 3, 7, 0, 0, 63] (by rfl) (by rfl) (by decide +kernel) (by decide +kernel) (by decide +kernel) (fun LL hLL => ?_)
  simp only [oxz, simprocAttr, g1, g2, g3, tp]
  refine hLL _ _ ?_
  refine out_normal ?_
  simp only [oxz, simprocAttr]
  have s7 := (s2.mv 2).set (.map (tbV (tset M k (c1, c2))))
  refine hk _ (tbA_in (r := r) ?_)
  have s8 := (s7).sel 3 [2, 0]
  simp only [oxf] at s8
  exact s8
end Go.Proofs

namespace Go.Proofs
open Go Go.Ox
set_option maxRecDepth 100000
set_option maxHeartbeats 1000000
theorem get_ok [X : Ext Tryz.prog] (tX : TbX X) {h0 : AHeap} {F : List Asn} {β : Nat} {g : Int} {M : Tb} (k : Int) (h : AHeap) (s : St h0 h (tbA β g M :: F)) (K : Value → AHeap → Prop) (hk : ∀ h', St h0 h' (tbA β g M :: F) → K (clV (tgt M k)) h') : wpF Tryz.prog (.fn 29) [.pointer (some ⟨β, 0, none⟩), .int .i64 k] h K := by
 have hX := tX.out
 obtain ⟨r, s1⟩ := tbA_out s
 refine wpF_fun 11 [.cell 4 61] Tryz.func29 rfl rfl rfl (hX.no (f := 29) (by decide)) ?_
 refine sr (fun LL hLL => ?_)
 simp only [oxz, simprocAttr]
 refine hLL _ _ ?_
 have s2 := s1.push (.cells false 0 [.int .i64 0, .int .i64 0] 61)
 obtain ⟨h6, e6⟩ : ∃ h6, h6 = h.push (.cells false 0 [.int .i64 0, .int .i64 0] 61) := ⟨_, rfl⟩
 rw [← e6] at s2
 rw [← e6]
 have g1 := s2.get
 have g2 := (s2.mv 1).get
 have g3 := (s2.mv 2).get
 have tl := tb_lookup M k
 unfold clV at tl
 refine sr (fun LL hLL => ?_)
 simp only [oxz, simprocAttr, g1, g2, g3, tl]
 have s3 := s2.set (.cells false 0 [.int .i64 (tgt M k).1, .int .i64 (tgt M k).2] 61)
 have g4 := s3.get
 refine hLL _ _ ?_
 refine wpC_ret (out_ret ?_)
 simp only [oxz, simprocAttr]
 simp only [g4, oxz, simprocAttr]
 exact hk _ (tbA_in s3.drop)
end Go.Proofs

namespace Go.Proofs
open Go Go.Ox
set_option maxRecDepth 100000
set_option maxHeartbeats 1000000
theorem rows_ok [X : Ext Tryz.prog] (tX : TbX X) {h0 : AHeap} {F : List Asn} {β : Nat} {g : Int} {M : Tb} (a : Option Addr) (c : Nat) (L : List Int) (h : AHeap) (s : St h0 h (tbA β g M :: F)) (r : Rd h0 F icell 1 a L) (hl : L.length < 1000000000) (K : Value → AHeap → Prop)
  (hk : ∀ b d h', St h0 h' (wn rcell 3 63 b d (rowK M L) :: tbA β g M :: F) → K (.slice b L.length d) h') : wpF Tryz.prog (.fn 61) [.pointer (some ⟨β, 0, none⟩), .slice a L.length c] h K := by
 have hX := tX.out
 refine wpF_fun 27 [.tmp 4] Tryz.func61 rfl rfl rfl (hX.no (f := 61) (by decide)) ?_
 refine sr (fun LL hLL => ?_)
 simp only [oxz, simprocAttr]
 refine hLL _ _ ?_
 refine sr (fun LL hLL => ?_)
 simp only [oxz, simprocAttr]
 refine hLL _ _ ?_
 refine wpC_seq ?_
 refine sr (fun LL hLL => ?_)
 simp only [oxz, simprocAttr]
 refine hLL _ _ ?_
 refine fg11 (fun R => ?_)
 refine wpC_block ?_
 refine wpC_loop (fun k T h' => ∃ (i : Nat) (b : Option Addr) (d : Nat) (u2 u3 u4 u6 u7 : Value) (R : List Value), k + i = L.length ∧ St h0 h' (wn rcell 3 63 b d (rowK M (L.take i)) :: tbA β g M :: F) ∧ T = .pointer (some ⟨β, 0, none⟩) :: .slice a L.length c :: u2 :: u3 :: u4 :: .slice b i d :: u6 :: u7 :: .slice a L.length c :: .int .i64 L.length :: .int .i64 i :: R) ?_ L.length _ _ ⟨0, none, 0, _, _, _, _, _, R, by omega, s.wn_nil, rfl⟩
 rintro k T h' ⟨i, b, d, u2, u3, u4, u6, u7, R, hi, s1, rfl⟩
 refine sr (fun LL hLL => ?_)
 simp only [oxz, simprocAttr]
 refine hLL _ _ ?_
 refine wpC_seq ?_
 refine wpC_if ?_
 simp only [oxz, simprocAttr]
 refine gC_of (fun hc => ?_) (fun hc => ?_)
 ·refine wpC_skip ?_
  simp only [oxz, simprocAttr]
  have hi' : i < L.length := by omega
  have hne : L ≠ [] := by rintro rfl; simp at hi'
  obtain ⟨b1, o1, ro1, sz1, C1, e1, rfl, p1, g1, r1, q1⟩ := (r _ s1.drop.drop).resolve_left hne
  have w1 : C1[o1 + i * 1]? = some (.int .i64 L[i]) := Rs.cell icell.len r1 q1 i hi' 0 (by omega)
  obtain ⟨m, s2⟩ := tbA_out (s1.mv 1)
  have g2 := s2.get
  have g3 := (s2.mv 1).get
  have tl := tb_lookup M L[i]
  unfold clV at tl
  have zz : aZeros [.int .i64 0, .int .i64 0, .int .i64 0] 1 = [.int .i64 0, .int .i64 0, .int .i64 0] := rfl
  refine wpC_seq (wpC_block ?_)
  refine sr (fun LL hLL => ?_)
  simp only [oxz, simprocAttr, ixF hi', g1, w1]
  refine hLL _ _ ?_
  refine rg (fun LL hLL => ?_)
  simp only [oxz, simprocAttr, g2, g3, tl, zz]
  obtain ⟨h6, e6⟩ : ∃ h6, h6 = h'.push (.cells false 3 [.int .i64 L[i], .int .i64 (tgt M L[i]).1, .int .i64 (tgt M L[i]).2] 63) := ⟨_, rfl⟩
  have s6 := s1.push (.cells false 3 [.int .i64 L[i], .int .i64 (tgt M L[i]).1, .int .i64 (tgt M L[i]).2] 63)
  rw [← e6] at s6
  have ht : L.take (i + 1) = L.take i ++ [L[i]] := List.take_succ_eq_append_getElem hi'
  have hr : rowK M (L.take (i + 1)) = rowK M (L.take i) ++ [(L[i], tgt M L[i])] := by unfold rowK; rw [ht, List.map_append]; rfl
  have hli : (rowK M (L.take i)).length = i := by simp [rowK]; omega
  obtain ⟨aE, cE, h7, y1, y2⟩ := (s6.mv 1).app (M := [(L[i], tgt M L[i])]) (bytes := 24) (d := 1) (s' := some ⟨h'.next, 0, none⟩) rcell.len rcell.oc (fst_all s6.get rfl) (by simp [hli]; omega) (by simp [hli]; omega)
  rw [← hr, hli] at y1
  rw [← hr] at y2
  rw [show ([(L[i], tgt M L[i])] : List Rw).length = 1 from rfl] at y1
  rw [← e6, y1]
  simp only [oxz, simprocAttr]
  refine hLL _ _ ?_
  simp only [oxz, simprocAttr]
  refine fg11 (fun R => ?_)
  refine rg (fun LL hLL => ?_)
  simp only [oxz, simprocAttr, wsucc (show i < 9223372036854775807 by omega)]
  refine hLL _ _ ?_
  simp only [oxz, simprocAttr]
  have hl2 : (rowK M (L.take (i + 1))).length = i + 1 := by simp [rowK]; omega
  exact ⟨k - 1, by omega, i + 1, aE, cE, _, _, _, _, _, _, by omega, (y2.mv 1).drop, by rw [hl2]⟩
 ·have hil : i = L.length := by omega
  subst hil
  refine wpC_exit ?_
  simp only [oxz, simprocAttr]
  refine fg11 (fun R => ?_)
  refine sr (fun LL hLL => ?_)
  simp only [oxz, simprocAttr]
  refine hLL _ _ ?_
  refine wpC_ret (out_ret ?_)
  simp only [oxz, simprocAttr]
  rw [List.take_length] at s1
  exact hk _ _ _ s1
end Go.Proofs

namespace Go.Proofs
open Go Go.Ox
set_option maxRecDepth 100000
set_option maxHeartbeats 1000000
/-- A key that stands outside of some groups. -/
def kOut (g lo hi : Int) (k : Int) : Bool := decide (grp k g < lo) || decide (hi ≤ grp k g)
/-- What the closures capture. -/
abbrev envP (b7 b3 blo bhi bt : Nat) (lo hi : Int) : List Asn := [own b7 (.cells false 0 [.func (.func 90) #[] #[.pointer (some ⟨b3, 0, none⟩)]] 124), own b3 (.cells false 0 [.pointer (some ⟨bt, 0, none⟩)] 86), own blo (.cells false 0 [.int .i64 lo] 3), own bhi (.cells false 0 [.int .i64 hi] 3)]
abbrev delF (b7 blo bhi : Nat) : Value := .func (.func 95) #[] #[.pointer (some ⟨b7, 0, none⟩), .pointer (some ⟨blo, 0, none⟩), .pointer (some ⟨bhi, 0, none⟩)]
theorem in3_ok [X : Ext Tryz.prog] (tX : TbX X) {h0 : AHeap} {F : List Asn} {b7 b3 blo bhi bt : Nat} {lo hi g : Int} {M : Tb} (k : Int) (h : AHeap) (s : St h0 h (envP b7 b3 blo bhi bt lo hi ++ tbA bt g M :: F)) (K : Value → AHeap → Prop) (hk : K (.bool (kOut g lo hi k)) h) :
  wpF Tryz.prog (.fn 95) [.int .i64 k, .pointer (some ⟨b7, 0, none⟩), .pointer (some ⟨blo, 0, none⟩), .pointer (some ⟨bhi, 0, none⟩)] h K := by
 have hX := tX.out
 have h7 := s.get
 have h3 := (s.mv 1).get
 have hlo := (s.mv 2).get
 have hhi := (s.mv 3).get
 obtain ⟨r, s1⟩ := tbA_out (s.mv 4)
 have ht := s1.get
 have v7 : veq 6 (.func (.func 90) #[] #[.pointer (some ⟨b3, 0, none⟩)]) (.func (.func 90) #[] #[.pointer (some ⟨b3, 0, none⟩)]) = true := by simp [veq]
 refine wpF_fun 18 [.tmp 5] Tryz.func95 rfl rfl rfl (hX.no (f := 95) (by decide)) ?_
 refine sr (fun LL hLL => ?_)
 simp only [oxz, simprocAttr]
 refine hLL _ _ ?_
 refine sd [0, 1, 3, 2, 4, 5, 6, 7, 9, 8, 10, 11, 12] [0, 0, 0, 3, 15, 31, 63, 63, 63, 255, 1023, 2047, 4095] (by decide +kernel) (by decide +kernel) (by decide +kernel) (fun LL hLL => ?_)
 simp only [oxk, simprocAttr, h7, v7, hlo, hhi]
 refine in1_ok (hX.sub (by decide)) _ _ _ _ _ _ _ _ _ _ _ _ h3 ht _ ?_
 by_cases hl : grp k g < lo
 ·have e : kOut g lo hi k = true := by unfold kOut; rw [decide_eq_true hl]; rfl
  rw [e] at hk
  simp only [oxk, simprocAttr, h7, v7, hlo, hhi, eq_true hl]
  refine hLL _ _ ?_
  refine wpC_ret (out_ret ?_)
  simp only [oxz, simprocAttr]
  exact hk
 ·have e : kOut g lo hi k = decide (hi ≤ grp k g) := by unfold kOut; rw [decide_eq_false hl]; rfl
  rw [e] at hk
  simp only [oxk, simprocAttr, h7, v7, hlo, hhi, eq_false hl]
  refine in1_ok (hX.sub (by decide)) _ _ _ _ _ _ _ _ _ _ _ _ h3 ht _ ?_
  simp only [oxk, simprocAttr, h7, v7, hlo, hhi, eq_false hl]
  refine hLL _ _ ?_
  refine wpC_ret (out_ret ?_)
  simp only [oxz, simprocAttr]
  exact hk
/-- Where the first key stands that stands outside. -/
theorem index_ok [X : Ext Tryz.prog] (tX : TbX X) {h0 : AHeap} {F : List Asn} {b b7 b3 blo bhi bt c : Nat} {lo hi g : Int} {M : Tb} (L : List Int) (h : AHeap) (s : St h0 h (own b (.cells false 1 (L.flatMap icell) 3) :: envP b7 b3 blo bhi bt lo hi ++ tbA bt g M :: F)) (hl : L.length < 1000000000) (K : Value → AHeap → Prop)
  (hk : ∀ i : Nat, (∀ k ∈ L.take i, kOut g lo hi k = false) → (i = L.length → K (.int .i64 (-1)) h) ∧ (i < L.length → kOut g lo hi (L.getD i 0) = true → K (.int .i64 i) h)) :
  wpF Tryz.prog (.fn 98) [.slice (some ⟨b, 0, none⟩) L.length c, delF b7 blo bhi] h K := by
 have hX := tX.out
 have gb := s.get
 refine wpF_fun 19 [.tmp 4] Tryz.func98 rfl rfl rfl (hX.no (f := 98) (by decide)) ?_
 refine sr (fun LL hLL => ?_)
 simp only [oxz, simprocAttr]
 refine hLL _ _ ?_
 refine wpC_seq ?_
 refine sr (fun LL hLL => ?_)
 simp only [oxz, simprocAttr]
 refine hLL _ _ ?_
 refine fg9 (fun R => ?_)
 refine wpC_block ?_
 refine wpC_loop (fun k T h' => ∃ (i : Nat) (u2 u3 u4 u5 : Value) (R : List Value), h' = h ∧ k + i = L.length ∧ (∀ k ∈ L.take i, kOut g lo hi k = false) ∧ T = .slice (some ⟨b, 0, none⟩) L.length c :: delF b7 blo bhi :: u2 :: u3 :: u4 :: u5 :: .slice (some ⟨b, 0, none⟩) L.length c :: .int .i64 L.length :: .int .i64 i :: R) ?_ L.length _ _ ⟨0, _, _, _, _, R, rfl, by omega, by simp, rfl⟩
 rintro k T h' ⟨i, u2, u3, u4, u5, R, rfl, hki, hp, rfl⟩
 refine sr (fun LL hLL => ?_)
 simp only [oxz, simprocAttr]
 refine hLL _ _ ?_
 refine wpC_seq ?_
 refine wpC_if ?_
 simp only [oxz, simprocAttr]
 refine gC_of (fun hc => ?_) (fun hc => ?_)
 ·refine wpC_skip ?_
  simp only [oxz, simprocAttr]
  have hi' : i < L.length := by omega
  have w1 : (L.flatMap icell)[i * 1]? = some (.int .i64 L[i]) := by
   have := flat_get icell.len L i 0 hi' (by omega)
   simpa [icell] using this
  refine wpC_seq (wpC_block ?_)
  refine sr (fun LL hLL => ?_)
  simp only [oxz, simprocAttr]
  refine hLL _ _ ?_
  have gd : L.getD i 0 = L[i] := by simp [hi']
  refine sr (fun LL hLL => ?_)
  simp only [oxk, simprocAttr, ixF hi', gb, w1]
  refine in3_ok tX L[i] _ s.drop _ ?_
  simp only [oxk, simprocAttr]
  refine hLL _ _ ?_
  refine wpC_if ?_
  simp only [oxz, simprocAttr]
  refine gC_bb (fun ho => ?_) (fun ho => ?_)
  ·refine sr (fun LL hLL => ?_)
   simp only [oxz, simprocAttr]
   refine hLL _ _ ?_
   refine wpC_ret (out_ret ?_)
   simp only [oxz, simprocAttr]
   exact (hk i hp).2 hi' (by rw [gd]; exact ho)
  ·refine wpC_skip ?_
   simp only [oxz, simprocAttr]
   refine fg9 (fun R => ?_)
   refine rg (fun LL hLL => ?_)
   simp only [oxz, simprocAttr, wsucc (show i < 9223372036854775807 by omega)]
   refine hLL _ _ ?_
   simp only [oxz, simprocAttr]
   have ht : L.take (i + 1) = L.take i ++ [L[i]] := List.take_succ_eq_append_getElem hi'
   refine ⟨k - 1, by omega, i + 1, _, _, _, _, _, by omega, ?_, rfl⟩
   rw [ht]
   intro x hx
   rcases List.mem_append.1 hx with hx | hx
   ·exact hp x hx
   ·obtain rfl := List.mem_singleton.1 hx
    exact ho
 ·have hil : i = L.length := by omega
  subst hil
  refine wpC_exit ?_
  simp only [oxz, simprocAttr]
  refine fg9 (fun R => ?_)
  refine sr (fun LL hLL => ?_)
  simp only [oxz, simprocAttr]
  refine hLL _ _ ?_
  refine wpC_ret (out_ret ?_)
  simp only [oxz, simprocAttr]
  exact (hk _ hp).1 rfl
end Go.Proofs

namespace Go.Proofs
open Go Go.Ox
set_option maxRecDepth 100000
set_option maxHeartbeats 1000000
def kKeep (g lo hi : Int) (L : List Int) : List Int := L.filter fun k => !kOut g lo hi k
theorem keep_in {g lo hi : Int} {L : List Int} (h : ∀ k ∈ L, kOut g lo hi k = false) : kKeep g lo hi L = L := by
 unfold kKeep
 rw [List.filter_eq_self]
 intro k hk
 rw [h k hk]; rfl
theorem keep_snoc (g lo hi : Int) (L : List Int) (k : Int) : kKeep g lo hi (L ++ [k]) = if kOut g lo hi k = true then kKeep g lo hi L else kKeep g lo hi L ++ [k] := by
 unfold kKeep
 rw [List.filter_append]
 split
 ·rename_i h; simp [h]
 ·rename_i h; simp [h]
theorem clear_row (C : List Int) (i : Nat) (hi : i ≤ C.length) : splice (C.flatMap icell) (i * 1) (aZeros [.int .i64 0] (C.length - i)) = (C.take i ++ List.replicate (C.length - i) 0).flatMap icell := by
 have e1 : C.flatMap icell = (C.take i).flatMap icell ++ ((C.drop i).flatMap icell ++ []) := by
  rw [List.append_nil, ← List.flatMap_append, List.take_append_drop]
 have e2 : ((C.take i).flatMap icell).length = i * 1 := by rw [flat_length icell.len]; simp; omega
 have e3 := zeros_flat (f := icell) 0 (C.length - i)
 rw [show icell 0 = [.int .i64 0] from rfl] at e3
 rw [e1, ← e2, splice_at _ _ _ _ (by rw [flat_length icell.len, e3, flat_length icell.len]; simp), e3, List.flatMap_append, List.append_nil]
theorem delete_ok [X : Ext Tryz.prog] (tX : TbX X) {h0 : AHeap} {F : List Asn} {b b7 b3 blo bhi bt c : Nat} {lo hi g : Int} {M : Tb} (L : List Int) (h : AHeap) (s : St h0 h (own b (.cells false 1 (L.flatMap icell) 3) :: envP b7 b3 blo bhi bt lo hi ++ tbA bt g M :: F)) (hl : L.length < 1000000000) (hc : c = L.length ∨ c = big + L.length) (K : Value → AHeap → Prop)
  (hk : ∀ (C : List Int) (h' : AHeap), (kKeep g lo hi L).length ≤ C.length → C.take (kKeep g lo hi L).length = kKeep g lo hi L → St h0 h' (own b (.cells false 1 (C.flatMap icell) 3) :: envP b7 b3 blo bhi bt lo hi ++ tbA bt g M :: F) → K (.slice (some ⟨b, 0, none⟩) (kKeep g lo hi L).length c) h') :
  wpF Tryz.prog (.fn 94) [.slice (some ⟨b, 0, none⟩) L.length c, delF b7 blo bhi] h K := by
 have hX := tX.out
 have hcap : capN c = L.length := capN_own (by omega) hc
 refine wpF_fun 42 [.tmp 4] Tryz.func94 rfl rfl rfl (hX.no (f := 94) (by decide)) ?_
 refine sr (fun LL hLL => ?_)
 simp only [oxz, simprocAttr]
 refine hLL _ _ ?_
 refine sr (fun LL hLL => ?_)
 simp only [oxz, simprocAttr]
 refine index_ok tX L _ s hl _ fun i0 hp => ⟨fun hi0 => ?_, fun hi0 ho => ?_⟩
 ·refine hLL _ _ ?_
  refine wpC_seq (sr fun LL hLL => ?_)
  simp only [oxz, simprocAttr]
  refine hLL _ _ ?_
  refine wpC_if ?_
  simp only [oxz, simprocAttr]
  refine sr (fun LL hLL => ?_)
  simp only [oxz, simprocAttr]
  refine hLL _ _ ?_
  refine wpC_ret (out_ret ?_)
  simp only [oxz, simprocAttr]
  rw [hi0, List.take_length] at hp
  have e := keep_in hp
  rw [e] at hk
  exact hk L h (Nat.le_refl _) (List.take_length) s
 ·refine hLL _ _ ?_
  refine wpC_seq (sr fun LL hLL => ?_)
  simp only [oxz, simprocAttr, eq_false (show ¬ ((i0 : Int) = -1) by omega)]
  refine hLL _ _ ?_
  refine wpC_if ?_
  simp only [oxz, simprocAttr]
  refine wpC_skip ?_
  simp only [oxz, simprocAttr]
  refine wpC_seq ?_
  refine sr (fun LL hLL => ?_)
  simp only [oxz, simprocAttr, wsucc (show i0 < 9223372036854775807 by omega)]
  refine hLL _ _ ?_
  refine fg8 (fun R => ?_)
  refine wpC_block ?_
  have gd : L.getD i0 0 = L[i0] := by simp [hi0]
  rw [gd] at ho
  have e0 : kKeep g lo hi (L.take (i0 + 1)) = L.take i0 := by
   rw [List.take_succ_eq_append_getElem hi0, keep_snoc, if_pos ho, keep_in hp]
  refine wpC_loop (fun k T h' => ∃ (i j : Nat) (C : List Int) (u2 u3 u4 u7 : Value) (R : List Value), k + j = L.length ∧ i < j ∧ C.length = L.length ∧ i = (kKeep g lo hi (L.take j)).length ∧ C.take i = kKeep g lo hi (L.take j) ∧ C.drop j = L.drop j ∧
   St h0 h' (own b (.cells false 1 (C.flatMap icell) 3) :: envP b7 b3 blo bhi bt lo hi ++ tbA bt g M :: F) ∧ T = .slice (some ⟨b, 0, none⟩) L.length c :: delF b7 blo bhi :: u2 :: u3 :: u4 :: .int .i64 i :: .int .i64 j :: u7 :: R) ?_ (L.length - (i0 + 1)) _ _ ⟨i0, i0 + 1, L, _, _, _, _, R, by omega, by omega, rfl, by rw [e0]; simp; omega, e0.symm, rfl, s, rfl⟩
  rintro k T h' ⟨i, j, C, u2, u3, u4, u7, R, hki, hij, hC, hq, ht, hd, s1, rfl⟩
  have gb := s1.get
  refine wpC_seq (sr fun LL hLL => ?_)
  simp only [oxz, simprocAttr]
  refine hLL _ _ ?_
  refine wpC_if ?_
  simp only [oxz, simprocAttr]
  refine gC_of (fun hc => ?_) (fun hc => ?_)
  ·refine wpC_skip ?_
   simp only [oxz, simprocAttr]
   have hj : j < L.length := by omega
   have hjC : j < C.length := by omega
   have hCj : C[j] = L[j] := by
    have h1 : (C.drop j)[0]? = (L.drop j)[0]? := by rw [hd]
    simpa [hj, hjC] using h1
   have w1 : (C.flatMap icell)[j * 1]? = some (.int .i64 L[j]) := by
    have := flat_get icell.len C j 0 hjC (by omega)
    rw [hCj] at this
    simpa [icell] using this
   have hsn := keep_snoc g lo hi (L.take j) L[j]
   rw [← List.take_succ_eq_append_getElem hj] at hsn
   have hd2 : ∀ D : List Int, D.drop j = C.drop j → D.drop (j + 1) = L.drop (j + 1) := fun D e => by
    rw [← List.drop_drop, e, hd, List.drop_drop]
   refine wpC_seq (wpC_block ?_)
   refine sr (fun LL hLL => ?_)
   simp only [oxz, simprocAttr, ixF hj, gb, w1]
   refine hLL _ _ ?_
   refine sr (fun LL hLL => ?_)
   simp only [oxk, simprocAttr]
   refine in3_ok tX L[j] _ s1.drop _ ?_
   simp only [oxk, simprocAttr]
   refine hLL _ _ ?_
   refine wpC_if ?_
   simp only [oxz, simprocAttr]
   by_cases ho2 : kOut g lo hi L[j] = true
   ·rw [if_pos ho2] at hsn
    simp only [ho2, Bool.not_true, gC_false]
    refine wpC_skip ?_
    simp only [oxz, simprocAttr]
    refine fg8 (fun R => ?_)
    refine rg (fun LL hLL => ?_)
    simp only [oxz, simprocAttr, wsucc (show j < 9223372036854775807 by omega)]
    refine hLL _ _ ?_
    simp only [oxz, simprocAttr]
    exact ⟨k - 1, by omega, i, j + 1, C, _, _, _, _, _, by omega, by omega, hC, by rw [hsn]; exact hq, by rw [hsn]; exact ht, hd2 C rfl, s1, rfl⟩
   ·rw [if_neg ho2] at hsn
    have ho3 : kOut g lo hi L[j] = false := by simpa using ho2
    simp only [ho3, Bool.not_false, gC_true]
    have hiC : i < C.length := by omega
    have fs := flat_store icell.len C i L[j] hiC
    rw [show icell L[j] = [.int .i64 L[j]] from rfl] at fs
    have hfl : (C.flatMap icell).length = L.length := by rw [flat_length icell.len, hC, Nat.mul_one]
    refine sr (fun LL hLL => ?_)
    simp only [oxz, simprocAttr, ixF (show i < L.length by omega), gb, fs, eq_true (show i * 1 + 1 ≤ (C.flatMap icell).length by omega)]
    refine hLL _ _ ?_
    have s2 := s1.set (.cells false 1 ((C.set i L[j]).flatMap icell) 3)
    refine rg (fun LL hLL => ?_)
    simp only [oxz, simprocAttr, wsucc (show i < 9223372036854775807 by omega)]
    refine hLL _ _ ?_
    simp only [oxz, simprocAttr]
    refine fg8 (fun R => ?_)
    refine rg (fun LL hLL => ?_)
    simp only [oxz, simprocAttr, wsucc (show j < 9223372036854775807 by omega)]
    refine hLL _ _ ?_
    simp only [oxz, simprocAttr]
    refine ⟨k - 1, by omega, i + 1, j + 1, C.set i L[j], _, _, _, _, _, by omega, by omega, by simp [hC], by rw [hsn]; simp [hq], ?_, hd2 _ (by rw [List.drop_set_of_lt hij]), s2, rfl⟩
    rw [hsn, ← ht, List.take_set, List.take_succ_eq_append_getElem hiC, List.set_append_right _ _ (by simp; omega)]
    simp
    rw [Nat.min_eq_left (by omega)]
    simp
  ·have hjl : j = L.length := by omega
   subst hjl
   rw [List.take_length] at hq ht
   refine wpC_exit ?_
   simp only [oxz, simprocAttr]
   refine fg8 (fun R => ?_)
   have hiC : i ≤ C.length := by omega
   have f1 := sl_from (P := Tryz.prog) (h := h') (t := 25) (b := b) (o := 0) (len := L.length) (cap := c) (i := i) (kk := .i64) Tryz.underlying25 (by rfl) (by rfl) (by omega) (by rw [hcap]; exact Nat.le_refl _) gb (.inl rfl)
   have c1 := clear_row C i hiC
   rw [hC] at c1
   have hz : (aZeros [.int .i64 0] (L.length - i)).length = L.length - i := by
    have e3 := zeros_flat (f := icell) 0 (L.length - i)
    rw [show icell 0 = [.int .i64 0] from rfl] at e3
    rw [e3, flat_length icell.len]; simp
   have ho : (aZeros [.int .i64 0] (L.length - i)).all Value.oneCell' = true := by
    have e3 := zeros_flat (f := icell) 0 (L.length - i)
    rw [show icell 0 = [.int .i64 0] from rfl] at e3
    rw [e3]; simp [icell, Value.oneCell']
   have hfl : (C.flatMap icell).length = L.length := by rw [flat_length icell.len, hC, Nat.mul_one]
   refine sr (fun LL hLL => ?_)
   simp only [oxz, simprocAttr, f1, if_neg (show ¬ L.length - i = 0 by omega), gb, c1, hz, ho, hfl, eq_true (show i * 1 + (L.length - i) ≤ L.length by omega)]
   refine hLL _ _ ?_
   have s2 := s1.set (.cells false 1 ((C.take i ++ List.replicate (L.length - i) 0).flatMap icell) 3)
   have f2 := sl_to (P := Tryz.prog) (h := h'.set b (.cells false 1 ((C.take i ++ List.replicate (L.length - i) 0).flatMap icell) 3)) (t := 25) (b := b) (o := 0) (len := L.length) (cap := c) (i := i) (kk := .i64) Tryz.underlying25 (by rfl) (by rw [hcap]; omega) (by rw [hcap]; exact Nat.le_refl _)
   refine sr (fun LL hLL => ?_)
   simp only [oxz, simprocAttr, f2]
   refine hLL _ _ ?_
   refine wpC_ret (out_ret ?_)
   simp only [oxz, simprocAttr]
   rw [← hq] at hk
   exact hk _ _ (by simp; omega) (by rw [List.take_append_of_le_length (by simp; omega), List.take_take, Nat.min_self, ht]) s2
end Go.Proofs

namespace Go.Proofs
open Go Go.Ox
set_option maxRecDepth 100000
set_option maxHeartbeats 1000000
theorem index_nil [X : Ext Tryz.prog] (tX : TbX X) (f : Value) (h : AHeap) (K : Value → AHeap → Prop) (hk : K (.int .i64 (-1)) h) : wpF Tryz.prog (.fn 98) [.slice none 0 0, f] h K := by
 have hX := tX.out
 refine wpF_fun 19 [.tmp 4] Tryz.func98 rfl rfl rfl (hX.no (f := 98) (by decide)) ?_
 refine sr (fun LL hLL => ?_)
 simp only [oxz, simprocAttr]
 refine hLL _ _ ?_
 refine wpC_seq ?_
 refine sr (fun LL hLL => ?_)
 simp only [oxz, simprocAttr]
 refine hLL _ _ ?_
 refine fg9 (fun R => ?_)
 refine wpC_block ?_
 refine wpC_loop (fun k T h' => ∃ (u0 u1 u2 u3 u4 u5 u6 : Value) (R : List Value), h' = h ∧ T = u0 :: u1 :: u2 :: u3 :: u4 :: u5 :: u6 :: .int .i64 0 :: .int .i64 0 :: R) ?_ 0 _ _ ⟨_, _, _, _, _, _, _, R, rfl, rfl⟩
 rintro k T h' ⟨u0, u1, u2, u3, u4, u5, u6, R, rfl, rfl⟩
 refine sr (fun LL hLL => ?_)
 simp only [oxz, simprocAttr]
 refine hLL _ _ ?_
 refine wpC_seq ?_
 refine wpC_if ?_
 simp only [oxz, simprocAttr]
 refine wpC_exit ?_
 simp only [oxz, simprocAttr]
 refine fg9 (fun R => ?_)
 refine sr (fun LL hLL => ?_)
 simp only [oxz, simprocAttr]
 refine hLL _ _ ?_
 refine wpC_ret (out_ret ?_)
 simp only [oxz, simprocAttr]
 exact hk
theorem delete_nil [X : Ext Tryz.prog] (tX : TbX X) (f : Value) (h : AHeap) (K : Value → AHeap → Prop) (hk : K (.slice none 0 0) h) : wpF Tryz.prog (.fn 94) [.slice none 0 0, f] h K := by
 have hX := tX.out
 refine wpF_fun 42 [.tmp 4] Tryz.func94 rfl rfl rfl (hX.no (f := 94) (by decide)) ?_
 refine sr (fun LL hLL => ?_)
 simp only [oxz, simprocAttr]
 refine hLL _ _ ?_
 refine sr (fun LL hLL => ?_)
 simp only [oxz, simprocAttr]
 refine index_nil tX _ _ _ ?_
 refine hLL _ _ ?_
 refine wpC_seq (sr fun LL hLL => ?_)
 simp only [oxz, simprocAttr]
 refine hLL _ _ ?_
 refine wpC_if ?_
 simp only [oxz, simprocAttr]
 refine sr (fun LL hLL => ?_)
 simp only [oxz, simprocAttr]
 refine hLL _ _ ?_
 refine wpC_ret (out_ret ?_)
 simp only [oxz, simprocAttr]
 exact hk
/-- Keys that can be read. -/
def kp (a : Option Addr) (L : List Int) : Asn := ⟨fun g B => (L = [] ∧ B = []) ∨ ∃ (b : Nat) (C : List Int), a = some ⟨b, 0, none⟩ ∧ B = [b] ∧ g b = some (.cells false 1 (C.flatMap icell) 3) ∧ L.length ≤ C.length ∧ C.take L.length = L, fun h hk => by
 rcases h with h | ⟨b, C, h1, h2, h3, h4⟩
 ·exact .inl h
 ·exact .inr ⟨b, C, h1, h2, by rw [hk b (by rw [h2]; simp)]; exact h3, h4⟩⟩
theorem kp_rd {h0 : AHeap} {F : List Asn} {a : Option Addr} {L : List Int} : Rd h0 (kp a L :: F) icell 1 a L := fun h s => s.know fun B hB hb => by
 rcases hB with ⟨h1, _⟩ | ⟨b, C, h1, h2, h3, h4, h5⟩
 ·exact .inl h1
 ·refine .inr ⟨b, 0, false, 1, C.flatMap icell, 3, h1, (hb b (by rw [h2]; simp)).2, h3, ?_, by rw [flat_length icell.len]; omega⟩
  have e : C.flatMap icell = (C.take L.length).flatMap icell ++ (C.drop L.length).flatMap icell := by rw [← List.flatMap_append, List.take_append_drop]
  rw [List.drop_zero, e, h5, List.take_left' (by rw [flat_length icell.len])]
theorem kp_nil {h0 h : AHeap} {F : List Asn} {a : Option Addr} (s : St h0 h F) : St h0 h (kp a [] :: F) := by
 obtain ⟨U, h1, h2⟩ := s.use
 exact ⟨s.base, U, ⟨[], U, rfl, .inl ⟨rfl, rfl⟩, by simp, h1⟩, h2⟩
theorem kp_own {h0 h : AHeap} {F : List Asn} {b : Nat} {C L : List Int} (s : St h0 h (own b (.cells false 1 (C.flatMap icell) 3) :: F)) (h1 : L.length ≤ C.length) (h2 : C.take L.length = L) : St h0 h (kp (some ⟨b, 0, none⟩) L :: F) :=
 s.imp fun g B ⟨k1, k2⟩ => .inr ⟨b, C, rfl, k1, k2, h1, h2⟩
theorem keep_keys (g lo hi : Int) (M : Tb) : kKeep g lo hi (keySort g (tbK M)) = keysIn g lo hi M := by
 unfold kKeep keysIn
 congr 1
 funext k
 unfold kOut
 by_cases h1 : grp k g < lo
 ·rw [decide_eq_true h1, decide_eq_false (show ¬ lo ≤ grp k g by omega)]; rfl
 ·rw [decide_eq_false h1, decide_eq_true (show lo ≤ grp k g by omega)]
  by_cases h2 : hi ≤ grp k g
  ·rw [decide_eq_true h2, decide_eq_false (show ¬ grp k g < hi by omega)]; rfl
  ·rw [decide_eq_false h2, decide_eq_true (show grp k g < hi by omega)]; rfl
theorem ints_flat (L : List Int) : L.map (Value.int .i64) = L.flatMap icell := by
 induction L with
 | nil => rfl
 | cons x L ih => rw [List.map_cons, List.flatMap_cons, ih]; rfl
theorem keys_ok [X : Ext Tryz.prog] (tX : TbX X) (r : Nat) (h : AHeap) (K : Value → AHeap → Prop) (hk : K (.func (.func 106) #[] #[.pointer (some ⟨h.next, 0, none⟩)]) (h.push (.cells false 0 [.map (some r)] 117))) : wpF Tryz.prog (.fn 92) [.map (some r)] h K := by
 have hX := tX.out
 refine wpF_fun 4 [.tmp 2] Tryz.func92 rfl rfl rfl (hX.no (f := 92) (by decide)) ?_
 refine sr (fun LL hLL => ?_)
 simp only [oxz, simprocAttr]
 refine hLL _ _ ?_
 refine sr (fun LL hLL => ?_)
 simp only [oxz, simprocAttr]
 refine hLL _ _ ?_
 refine wpC_ret (out_ret ?_)
 simp only [oxz, simprocAttr]
 exact hk
theorem sorted_ok [X : Ext Tryz.prog] (tX : TbX X) {h : AHeap} {bm b7 b3 bt r : Nat} {g : Int} {M : Tb} (hm : h.get bm = some (.cells false 0 [.map (some r)] 117)) (hr : h.get r = some (.map (tbV M))) (h7 : h.get b7 = some (.cells false 0 [.func (.func 90) #[] #[.pointer (some ⟨b3, 0, none⟩)]] 124))
  (h3 : h.get b3 = some (.cells false 0 [.pointer (some ⟨bt, 0, none⟩)] 86)) (ht : h.get bt = some (.cells false 0 [.int .i64 g, .map (some r)] 119)) (ok : TbOk M) (hM : M.length < 1000000000) (K : Value → AHeap → Prop)
  (hk0 : M = [] → K (.slice none 0 0) h) (hk1 : M ≠ [] → K (.slice (some ⟨h.next, 0, none⟩) M.length (big + M.length)) (h.push (.cells false 1 ((keySort g (tbK M)).flatMap icell) 3))) :
  wpF Tryz.prog (.fn 91) [.func (.func 106) #[] #[.pointer (some ⟨bm, 0, none⟩)], .func (.func 93) #[] #[.pointer (some ⟨b7, 0, none⟩)]] h K := by
 have ha := skApp_some (N := skNo) (h := h) hm hr (tbV_keys M) ⟨ok.nd, by rw [tbK_len]; omega, ok.wf⟩ h7 h3 ht rfl
 unfold skOut at ha
 rw [tbK_len, ints_flat] at ha
 by_cases hn : M = []
 ·rw [if_pos (by rw [hn]; rfl)] at ha
  exact wpF_app (f := skNo.s) (by rw [tX.nf]; rfl) tX.s ((tX.app _ _).trans ha) (hk0 hn)
 ·rw [if_neg (fun e => hn (by simpa [tbK] using e))] at ha
  exact wpF_app (f := skNo.s) (by rw [tX.nf]; rfl) tX.s ((tX.app _ _).trans ha) (hk1 hn)
theorem inK_ok [X : Ext Tryz.prog] (tX : TbX X) {h0 : AHeap} {F : List Asn} {β : Nat} {g : Int} {M : Tb} (lo hi : Int) (ok : TbOk M) (hM : M.length < 1000000000) (h : AHeap) (s : St h0 h (tbA β g M :: F)) (K : Value → AHeap → Prop)
  (hk : ∀ a c h', St h0 h' (kp a (keysIn g lo hi M) :: tbA β g M :: F) → K (.slice a (keysIn g lo hi M).length c) h') : wpF Tryz.prog (.fn 62) [.pointer (some ⟨β, 0, none⟩), .int .i64 lo, .int .i64 hi] h K := by
 have hX := tX.out
 refine wpF_fun 20 [.tmp 6] Tryz.func62 rfl rfl rfl (hX.no (f := 62) (by decide)) ?_
 refine sr (fun LL hLL => ?_)
 simp only [oxz, simprocAttr]
 refine hLL _ _ ?_
 have s1 := ((s.push (.cells false 0 [.pointer (some ⟨β, 0, none⟩)] 86)).push (.cells false 0 [.int .i64 lo] 3)).push (.cells false 0 [.int .i64 hi] 3)
 obtain ⟨h6, e6⟩ : ∃ h6, h6 = ((h.push (.cells false 0 [.pointer (some ⟨β, 0, none⟩)] 86)).push (.cells false 0 [.int .i64 lo] 3)).push (.cells false 0 [.int .i64 hi] 3) := ⟨_, rfl⟩
 rw [← e6] at s1
 simp only [AHeap.next_push] at s1
 rw [← e6]
 obtain ⟨b3, eb3⟩ : ∃ b, b = h.next := ⟨_, rfl⟩
 rw [← eb3] at s1
 rw [← eb3]
 clear e6
 have g0 := (s1.push (.cells false 0 [.nilFunc] 124)).get
 refine sr (fun LL hLL => ?_)
 simp only [oxz, simprocAttr, g0]
 refine hLL _ _ ?_
 have s2 := (s1.push (.cells false 0 [.nilFunc] 124)).set (.cells false 0 [.func (.func 90) #[] #[.pointer (some ⟨b3, 0, none⟩)]] 124)
 obtain ⟨h7, e7⟩ : ∃ h7, h7 = (h6.push (.cells false 0 [.nilFunc] 124)).set h6.next (.cells false 0 [.func (.func 90) #[] #[.pointer (some ⟨b3, 0, none⟩)]] 124) := ⟨_, rfl⟩
 rw [← e7] at s2
 rw [← e7]
 obtain ⟨b7, eb7⟩ : ∃ b, b = h6.next := ⟨_, rfl⟩
 rw [← eb7] at s2
 rw [← eb7]
 clear e7 eb7
 have s3 := (s2).sel 5 [0, 3, 2, 1, 4]
 simp only [oxf] at s3
 obtain ⟨r, s4⟩ := tbA_out (s3.mv 4)
 have ga := (s3.mv 1).get
 have gt := s4.get
 have gr := (s4.mv 1).get
 refine sr (fun LL hLL => ?_)
 simp only [oxk, simprocAttr, ga, gt]
 refine keys_ok tX r _ _ ?_
 simp only [oxk, simprocAttr]
 have s5 := s4.push (.cells false 0 [.map (some r)] 117)
 obtain ⟨h8, e8⟩ : ∃ h8, h8 = h7.push (.cells false 0 [.map (some r)] 117) := ⟨_, rfl⟩
 rw [← e8] at s5
 rw [← e8]
 clear e8
 refine sorted_ok tX s5.get (s5.mv 2).get (s5.mv 3).get (s5.mv 4).get (s5.mv 1).get ok hM _ (fun hn => ?_) (fun hn => ?_)
 ·simp only [oxk, simprocAttr]
  refine hLL _ _ ?_
  refine sr (fun LL hLL => ?_)
  simp only [oxz, simprocAttr]
  refine delete_nil tX _ _ _ ?_
  refine hLL _ _ ?_
  refine wpC_ret (out_ret ?_)
  simp only [oxz, simprocAttr]
  have e : keysIn g lo hi M = [] := by rw [hn]; unfold keysIn keySort tbK; simp
  rw [e] at hk
  have s6 := (s5).sel 7 [1, 2]
  simp only [oxf] at s6
  exact hk none 0 _ (kp_nil (tbA_in s6))
 ·simp only [oxk, simprocAttr]
  refine hLL _ _ ?_
  have s6 := s5.push (.cells false 1 ((keySort g (tbK M)).flatMap icell) 3)
  obtain ⟨bk, ebk⟩ : ∃ b, b = h8.next := ⟨_, rfl⟩
  obtain ⟨h9, e9⟩ : ∃ h9, h9 = h8.push (.cells false 1 ((keySort g (tbK M)).flatMap icell) 3) := ⟨_, rfl⟩
  rw [← e9, ← ebk] at s6
  rw [← e9, ← ebk]
  clear e9 ebk
  have s7 := (s6).sel 8 [2, 3, 0, 4, 5, 6, 7]
  simp only [oxf] at s7
  have s8 := ((tbA_in s7)).sel 6 [1, 2, 3, 4, 5, 0]
  simp only [oxf] at s8
  have s9 : St h0 h9 (own bk (.cells false 1 ((keySort g (tbK M)).flatMap icell) 3) :: envP b7 b3 (b3 + 1) (b3 + 1 + 1) β lo hi ++ tbA β g M :: F) := s8
  have hks : (keySort g (tbK M)).length = M.length := by rw [(keySort_perm g (tbK M)).length_eq, tbK_len]
  rw [← hks]
  refine sr (fun LL hLL => ?_)
  simp only [oxz, simprocAttr]
  refine delete_ok tX (keySort g (tbK M)) _ s9 (by rw [hks]; exact hM) (.inr rfl) _ (fun C h10 hC1 hC2 s10 => ?_)
  rw [keep_keys] at hC1 hC2
  rw [keep_keys]
  refine hLL _ _ ?_
  refine wpC_ret (out_ret ?_)
  simp only [oxz, simprocAttr]
  have s11 := (s10).sel 6 [0, 5]
  simp only [oxf] at s11
  exact hk _ _ _ (kp_own s11 hC1 hC2)
theorem keys_all (g : Int) (M : Tb) : keysIn g (-9223372036854775808) 9223372036854775807 M = keySort g (tbK M) := by
 unfold keysIn
 rw [List.filter_eq_self]
 intro k _
 have := grp_lt k g
 rw [decide_eq_true (by omega), decide_eq_true (by omega)]; rfl
theorem allRows_ok [X : Ext Tryz.prog] (tX : TbX X) {h0 : AHeap} {F : List Asn} {β : Nat} {g : Int} {M : Tb} (ok : TbOk M) (hM : M.length < 1000000000) (h : AHeap) (s : St h0 h (tbA β g M :: F)) (K : Value → AHeap → Prop)
  (hk : ∀ a c h', St h0 h' (wn rcell 3 63 a c (rowsOf g M) :: tbA β g M :: F) → K (.slice a (rowsOf g M).length c) h') : wpF Tryz.prog (.fn 32) [.pointer (some ⟨β, 0, none⟩)] h K := by
 have hX := tX.out
 refine wpF_fun 7 [.tmp 2] Tryz.func32 rfl rfl rfl (hX.no (f := 32) (by decide)) ?_
 refine sr (fun LL hLL => ?_)
 simp only [oxz, simprocAttr]
 refine hLL _ _ ?_
 refine sr (fun LL hLL => ?_)
 simp only [oxk, simprocAttr]
 refine inK_ok tX _ _ ok hM _ s _ fun a c h1 s1 => ?_
 simp only [oxk, simprocAttr]
 rw [keys_all] at s1
 rw [keys_all]
 have hks : (keySort g (tbK M)).length = M.length := by rw [(keySort_perm g (tbK M)).length_eq, tbK_len]
 refine rows_ok tX a c _ _ (s1.mv 1) kp_rd (by rw [hks]; exact hM) _ fun b d h2 s2 => ?_
 simp only [oxk, simprocAttr]
 refine hLL _ _ ?_
 refine wpC_ret (out_ret ?_)
 simp only [oxz, simprocAttr]
 have e : (rowsOf g M).length = (keySort g (tbK M)).length := by simp [rowsOf, rowK]
 rw [e] at hk
 have s3 := (s2).sel 3 [0, 1]
 simp only [oxf] at s3
 exact hk _ _ _ s3
end Go.Proofs

