/-
  A part of the proof: what functions of the program do on an abstract heap. CONDITIONS: none.
-/
import Derived.Test.YtcnlilnkbhefbaaGreatOxZMb
set_option linter.unusedSimpArgs false
set_option linter.unusedVariables false
namespace Go.Proofs
open Go Go.Ox
set_option maxRecDepth 100000
set_option maxHeartbeats 4000000
def ptc (o : Option Nat) : List Value := [.pointer (o.map fun b => ⟨b, 0, none⟩)]
theorem ptc.len (o : Option Nat) : (ptc o).length = 1 := rfl
theorem ptc.oc (o : Option Nat) : (ptc o).all Value.oneCell' = true := rfl
def ptrs (T : List (Nat × Tb)) : List (Option Nat) := T.map fun x => some x.1
theorem ptrs_len (T : List (Nat × Tb)) : (ptrs T).length = T.length := by simp [ptrs]
theorem ptrs_at (T : List (Nat × Tb)) (j : Nat) (hj : j < T.length) : (ptrs T)[j]'(by rw [ptrs_len]; exact hj) = some T[j].1 := by simp [ptrs]
theorem ptrs_set (T : List (Nat × Tb)) (j : Nat) (hj : j < T.length) (N : Tb) : ptrs (T.set j (T[j].1, N)) = ptrs T := by
 refine List.ext_getElem (by simp [ptrs]) fun i h1 h2 => ?_
 simp only [ptrs, List.getElem_map, List.getElem_set]
 split
 ·rename_i h; subst h; rfl
 ·rfl
def tabsA (g : Int) (T : List (Nat × Tb)) : Asn := star (T.map fun x => tbA x.1 g x.2)
theorem tabs_pick {h0 h : AHeap} {F : List Asn} {g : Int} {T : List (Nat × Tb)} (s : St h0 h (tabsA g T :: F)) (j : Nat) (hj : j < T.length) : St h0 h (tbA T[j].1 g T[j].2 :: star ((T.map fun x => tbA x.1 g x.2).eraseIdx j) :: F) := by
 have := St.pick (l := T.map fun x => tbA x.1 g x.2) s j (by simpa using hj)
 rwa [List.getElem_map] at this
theorem tabs_unpick {h0 h : AHeap} {F : List Asn} {g : Int} {T : List (Nat × Tb)} (j : Nat) (hj : j < T.length) (b : Nat) (N : Tb) (s : St h0 h (tbA b g N :: star ((T.map fun x => tbA x.1 g x.2).eraseIdx j) :: F)) : St h0 h (tabsA g (T.set j (b, N)) :: F) := by
 have := St.unpick (l := T.map fun x => tbA x.1 g x.2) j (by simpa using hj) s
 unfold tabsA
 rwa [List.map_set]
theorem tabs_nil {h0 h : AHeap} {F : List Asn} {g : Int} (s : St h0 h F) : St h0 h (tabsA g [] :: F) := s.star_nil
theorem tabs_snoc {h0 h : AHeap} {F : List Asn} {g : Int} {T : List (Nat × Tb)} {b : Nat} {N : Tb} (s : St h0 h (tabsA g T :: tbA b g N :: F)) : St h0 h (tabsA g (T ++ [(b, N)]) :: F) := by
 have := St.star_snoc (l := T.map fun x => tbA x.1 g x.2) s
 unfold tabsA
 rwa [List.map_append]
theorem zeros_ptc (n : Nat) : aZeros [.pointer none] n = (List.replicate n (none : Option Nat)).flatMap ptc := by
 induction n with
 | zero => rfl
 | succ n ih => simp only [aZeros, List.replicate_succ, List.flatMap_cons, ih]; rfl
theorem repl_set (T : List (Nat × Tb)) (m : Nat) (b : Nat) (N : Tb) : (ptrs T ++ List.replicate (m + 1) none).set T.length (some b) = ptrs (T ++ [(b, N)]) ++ List.replicate m none := by
 have h := ptrs_len T
 rw [List.set_append_right _ _ (by omega), h, Nat.sub_self, List.replicate_succ, List.set_cons_zero]
 simp [ptrs]
theorem rlaid_ok {h0 : AHeap} {F : List Asn} {n o : Int} {g : Nat} (ho : 1 ≤ o) (hog : o ≤ g) (h64 : g ≤ 64) (hn : o ≤ n) (hn8 : n ≤ 8) (ra : Option Addr) (rc : Nat) (L : List Rw) (hw : ∀ r ∈ L, (Lit.int .i64 r.1).wf = true) (hl : L.length < 17592186044000) (h : AHeap) (r : Rd h0 F rcell 3 ra L) (s : St h0 h F) (K : Value → AHeap → Prop)
  (hk : ∀ (a : Nat) T h', (T.length : Int) = n → TabsOk g (ownr o g) (tlay [] L) T → St h0 h' (wn ptc 1 93 (some ⟨a, 0, none⟩) T.length (ptrs T) :: tabsA g T :: F) → K (.slice (some ⟨a, 0, none⟩) T.length T.length) h') : wpF Tryz.prog (.fn 34) [.int .i64 n, .int .i64 o, .int .i64 g, .slice ra L.length rc] h K := by
 obtain ⟨N, rfl⟩ : ∃ N : Nat, n = (N : Int) := ⟨n.toNat, by omega⟩
 refine wpF_fun 49 [.tmp 8] Tryz.func34 rfl rfl rfl rfl ?_
 refine sr (fun LL hLL => ?_)
 simp only [ptrTo, oxs, simprocAttr]
 refine hLL _ _ ?_
 refine sr (fun LL hLL => ?_)
 simp only [ptrTo, oxs, simprocAttr, msF_of (l := (N : Int)) (c := (N : Int)) (size := 1) (bytes := 8) (zs := [.pointer none]) (e := 93) (by omega) (by omega) (by omega) (by omega), Int.toNat_natCast, zeros_ptc]
 obtain ⟨b, eb⟩ : ∃ b, b = h.next := ⟨_, rfl⟩
 have s1 := s.push (.cells false 1 ((List.replicate N (none : Option Nat)).flatMap ptc) 93)
 rw [← eb] at s1 ⊢
 obtain ⟨h1, e1⟩ : ∃ h1, h1 = h.push (.cells false 1 ((List.replicate N (none : Option Nat)).flatMap ptc) 93) := ⟨_, rfl⟩
 rw [← e1] at s1 ⊢
 refine hLL _ _ ?_
 refine sm (fun T h2 => ∃ (Ts : List (Nat × Tb)) (u8 u10 : Value) (R : List Value), Ts.length = N ∧ (∀ j (hj : j < Ts.length), Ts[j].2 = []) ∧ St h0 h2 (own b (.cells false 1 ((ptrs Ts).flatMap ptc) 93) :: tabsA g Ts :: F) ∧
  T = .int .i64 N :: .int .i64 o :: .int .i64 g :: .slice ra L.length rc :: undef :: undef :: undef :: undef :: u8 :: .slice (some ⟨b, 0, none⟩) N N :: R) ?_ ?_
 ·refine sr (fun LL hLL => ?_)
  simp only [ptrTo, oxs, simprocAttr]
  refine hLL _ _ ?_
  refine fg18 (fun R => ?_)
  have s1' : St h0 h1 (own b (.cells false 1 ((ptrs [] ++ List.replicate N none).flatMap ptc) 93) :: tabsA g [] :: F) := (tabs_nil s1).mv 1
  refine wpC_block ?_
  refine wpC_loop (fun m T h2 => ∃ (k : Nat) (Ts : List (Nat × Tb)) (u8 u10 u11 u12 u13 u14 u15 : Value) (R : List Value), m + k = N ∧ Ts.length = k ∧ (∀ j (hj : j < Ts.length), Ts[j].2 = []) ∧ St h0 h2 (own b (.cells false 1 ((ptrs Ts ++ List.replicate m none).flatMap ptc) 93) :: tabsA g Ts :: F) ∧
   T = .int .i64 N :: .int .i64 o :: .int .i64 g :: .slice ra L.length rc :: undef :: undef :: undef :: undef :: u8 :: .slice (some ⟨b, 0, none⟩) N N :: u10 :: u11 :: u12 :: u13 :: u14 :: u15 :: .int .i64 N :: .int .i64 k :: R) ?_ N _ _ ⟨0, [], _, _, _, _, _, _, _, R, by omega, rfl, fun j hj => by simp at hj, s1', rfl⟩
  rintro m T h2 ⟨k, Ts, u8, u10, u11, u12, u13, u14, u15, R, hmk, hTk, hTe, s2, rfl⟩
  refine sr (fun LL hLL => ?_)
  simp only [ptrTo, oxs, simprocAttr]
  refine hLL _ _ ?_
  refine wpC_seq ?_
  refine wpC_if ?_
  simp only [ptrTo, oxs, simprocAttr]
  refine gC_of (fun hc => ?_) (fun hc => ?_)
  ·refine wpC_skip ?_
   simp only [ptrTo, oxs, simprocAttr]
   refine fg18 (fun R => ?_)
   obtain ⟨m', rfl⟩ : ∃ m', m = m' + 1 := ⟨m - 1, by omega⟩
   refine wpC_seq (wpC_block ?_)
   refine sr (fun LL hLL => ?_)
   simp only [ptrTo, oxs, simprocAttr]
   refine hLL _ _ ?_
   have hk' : k < N := by omega
   refine rg (fun LL hLL => ?_)
   simp only [ptrTo, pend, pend0, Pd.old, pendU, pendU0, Nat.testBit, oxh, simprocAttr]
   refine new_ok tbX (g : Int) _ s2 _ fun β h3 s3 => ?_
   have s4 := s3.mv 1
   have gb := s4.get
   have hlen : (ptrs Ts ++ List.replicate (m' + 1) none).length = N := by rw [List.length_append, ptrs_len, List.length_replicate]; omega
   have hst : splice ((ptrs Ts ++ List.replicate (m' + 1) none).flatMap ptc) (k * 1) [.pointer (some ⟨β, 0, none⟩)] = (ptrs (Ts ++ [(β, [])]) ++ List.replicate m' none).flatMap ptc := by
    have := flat_store ptc.len (ptrs Ts ++ List.replicate (m' + 1) none) k (some β) (by omega)
    rw [← hTk, repl_set Ts m' β []] at this
    rw [← hTk]; exact this
   have hle := flat_le ptc.len (ptrs Ts ++ List.replicate (m' + 1) none) k (by omega)
   simp only [ptrTo, pend, pend0, Pd.old, pendU, pendU0, Nat.testBit, oxh, simprocAttr, ixF hk', gb, hst, eq_true (show k * 1 + 1 ≤ ((ptrs Ts ++ List.replicate (m' + 1) none).flatMap ptc).length by omega)]
   refine hLL _ _ ?_
   simp only [ptrTo, oxs, simprocAttr]
   refine fg18 (fun R => ?_)
   refine rg (fun LL hLL => ?_)
   simp only [ptrTo, oxs, simprocAttr, wsucc (show k < 9223372036854775807 by omega)]
   refine hLL _ _ ?_
   simp only [ptrTo, oxs, simprocAttr]
   have s5 := s4.set (.cells false 1 ((ptrs (Ts ++ [(β, [])]) ++ List.replicate m' none).flatMap ptc) 93)
   have s6 := (s5).sel 3 [2, 1, 0]
   simp only [oxf] at s6
   have s7 := (tabs_snoc s6).mv 1
   refine ⟨m', by omega, k + 1, Ts ++ [(β, [])], _, _, _, _, _, _, _, _, by omega, by simp; omega, fun j hj => ?_, s7, rfl⟩
   rw [List.getElem_append]
   split
   ·exact hTe _ _
   ·simp
  ·have : m = 0 := by omega
   subst this
   refine wpC_exit ?_
   simp only [ptrTo, oxs, simprocAttr]
   refine ⟨Ts, _, u10, _, by omega, hTe, ?_, rfl⟩
   simpa using s2
 rintro T h2 ⟨Ts, u8, u10, R, hTN, hTe, s2, rfl⟩
 clear s1 e1
 obtain ⟨f, hf⟩ : ∃ f, f = ownr o g := ⟨_, rfl⟩
 rw [← hf] at hk
 refine sm (fun T h3 => ∃ (Ts : List (Nat × Tb)) (u8 : Value) (R : List Value), Ts.length = N ∧ (∀ j (hj : j < Ts.length), Ts[j].2 = tlay [] (partOf g f L j)) ∧ St h0 h3 (own b (.cells false 1 ((ptrs Ts).flatMap ptc) 93) :: tabsA g Ts :: F) ∧
  T = .int .i64 N :: .int .i64 o :: .int .i64 g :: .slice ra L.length rc :: undef :: undef :: undef :: undef :: u8 :: .slice (some ⟨b, 0, none⟩) N N :: R) ?_ ?_
 ·refine sr (fun LL hLL => ?_)
  simp only [ptrTo, oxs, simprocAttr]
  refine hLL _ _ ?_
  refine xp10 19 (by repeat (first | exact tput_le _ _ _ _ (.inr (by omega)) | refine tput_le _ _ _ _ (.inl ?_))) (fun R => ?_)
  simp only [ptrTo, oxs, simprocAttr, show List.range 19 = [0, 1, 2, 3, 4, 5, 6, 7, 8, 9, 10, 11, 12, 13, 14, 15, 16, 17, 18] from rfl]
  refine fg29 (fun R => ?_)
  refine wpC_block ?_
  have ht0 : ∀ j (hj : j < Ts.length), Ts[j].2 = tlay [] (partOf g f (L.take 0) j) := fun j hj => by rw [hTe j hj]; rfl
  refine wpC_loop (fun m T h3 => ∃ (k : Nat) (Ts : List (Nat × Tb)) (u8 u10 u11 u12 u13 u14 u15 u16 u17 u18 u19 u20 u21 u22 u23 u24 u25 : Value) (R : List Value), m + k = L.length ∧ Ts.length = N ∧ (∀ j (hj : j < Ts.length), Ts[j].2 = tlay [] (partOf g f (L.take k) j)) ∧ St h0 h3 (own b (.cells false 1 ((ptrs Ts).flatMap ptc) 93) :: tabsA g Ts :: F) ∧
   T = .int .i64 N :: .int .i64 o :: .int .i64 g :: .slice ra L.length rc :: undef :: undef :: undef :: undef :: u8 :: .slice (some ⟨b, 0, none⟩) N N :: u10 :: u11 :: u12 :: u13 :: u14 :: u15 :: u16 :: u17 :: u18 :: u19 :: u20 :: u21 :: u22 :: u23 :: u24 :: u25 :: .slice ra L.length rc :: .int .i64 L.length :: .int .i64 k :: R) ?_ L.length _ _ ⟨0, Ts, _, _, _, _, _, _, _, _, _, _, _, _, _, _, _, _, _, R, by omega, hTN, ht0, s2, rfl⟩
  rintro m T h3 ⟨k, Ts, u8, u10, u11, u12, u13, u14, u15, u16, u17, u18, u19, u20, u21, u22, u23, u24, u25, R, hmk, hTN, hTe, s2, rfl⟩
  refine sr (fun LL hLL => ?_)
  simp only [ptrTo, oxs, simprocAttr]
  refine hLL _ _ ?_
  refine wpC_seq ?_
  refine wpC_if ?_
  simp only [ptrTo, oxs, simprocAttr]
  refine gC_of (fun hc => ?_) (fun hc => ?_)
  ·refine wpC_skip ?_
   simp only [ptrTo, oxs, simprocAttr]
   refine fg29 (fun R => ?_)
   have hk' : k < L.length := by omega
   have hne : L ≠ [] := by rintro rfl; simp at hk'
   obtain ⟨b3, o3, ro3, sz3, C3, T3, rfl, p3, g3, r3, q3⟩ := (r _ s2.drop.drop).resolve_left hne
   obtain ⟨w3, x3⟩ := Rs.row rcell.len r3 q3 k hk'
   obtain ⟨x, ex⟩ : ∃ x, x = L[k] := ⟨_, rfl⟩
   rw [← ex] at w3
   have sp := s2.push (.cells false 0 [.int .i64 0, .int .i64 0, .int .i64 0] 52)
   have gp := sp.get
   have sq := sp.set (.cells false 0 (rcell x) 52)
   obtain ⟨h4, e4⟩ : ∃ h4, h4 = (h3.push (.cells false 0 [.int .i64 0, .int .i64 0, .int .i64 0] 52)).set h3.next (.cells false 0 (rcell x) 52) := ⟨_, rfl⟩
   rw [← e4] at sq
   have gq := sq.get
   unfold rcell at gq e4
   refine wpC_seq (wpC_block ?_)
   refine sr (fun LL hLL => ?_)
   simp only [ptrTo, oxs, simprocAttr, ixF hk', g3, w3, x3, gp, rcell.len, rcell, ← e4]
   refine hLL _ _ ?_
   have hg1 := grp_lt x.1 (g : Int)
   have hg2 := hg1.2.2 (by omega) (by omega)
   have ho1 := ownr_range (p := o) (g := g) (x := grp x.1 g) ho hg1.1 hg2
   obtain ⟨j, ej⟩ : ∃ j : Nat, ownr o g (grp x.1 g) = (j : Int) := ⟨(ownr o g (grp x.1 g)).toNat, by omega⟩
   have hjN : j < N := by omega
   have hjT : j < Ts.length := by omega
   have w4 := row_sub (j := 1) (m := 2) (show ((rcell x).drop 0).take 3 = rcell x from rfl) (by omega)
   rw [show ((rcell x).drop 1).take 2 = [.int .i64 x.2.1, .int .i64 x.2.2] from rfl] at w4
   have gb := (sq.mv 1).get
   have hjp : ((ptrs Ts).flatMap ptc)[j * 1]? = some (.pointer (some ⟨Ts[j].1, 0, none⟩)) := by
    have := (flat_get' ptc.len (ptrs Ts) j (by rw [ptrs_len]; exact hjT) (by omega))
    rw [this, ptrs_at Ts j hjT]; rfl
   refine dw [0, 1, 2, 3, 5, 6, 10, 11, 12, 13, 4, 7, 8, 9, 14] [0, 0, 2, 0, 0, 0, 0, 1024, 0, 4096, 14, 126, 255, 511, 16383] (by decide +kernel) (by decide +kernel) (by decide +kernel) (fun LL hLL => ?_)
   simp only [ptrTo, pend, pend0, Pd.old, pendU, pendU0, Nat.testBit, oxh, simprocAttr, gq]
   refine of_ok (by unfold Out; decide) x.1 g _ _ ?_
   have va : ∀ a b : Int, veq 6 (.agg #[.int .i64 a, .int .i64 b]) (.agg #[.int .i64 a, .int .i64 b]) = true := fun a b => by simp [veq]
   simp only [ptrTo, pend, pend0, Pd.old, pendU, pendU0, Nat.testBit, oxh, simprocAttr, gq, va]
   refine owner_ok ho hog (by omega) hg1.1 hg2 _ _ ?_
   simp only [ptrTo, pend, pend0, Pd.old, pendU, pendU0, Nat.testBit, oxh, simprocAttr, ej, ixF hjN, gb, hjp, gq]
   have s5 := tabs_pick (sq.mv 2) j hjT
   refine put_ok tbX x.1 x.2 _ s5 _ fun h6 s6 => ?_
   have s7 := tabs_unpick j hjT _ _ s6
   have gq6 := (s7.mv 1).get
   have gb6 := (s7.mv 2).get
   unfold rcell at gq6
   simp only [ptrTo, pend, pend0, Pd.old, pendU, pendU0, Nat.testBit, oxh, simprocAttr, gq6, gb6, hjp, va]
   refine hLL _ _ ?_
   simp only [ptrTo, oxs, simprocAttr]
   refine fg29 (fun R => ?_)
   refine rg (fun LL hLL => ?_)
   simp only [ptrTo, oxs, simprocAttr, wsucc (show k < 9223372036854775807 by omega)]
   refine hLL _ _ ?_
   simp only [ptrTo, oxs, simprocAttr]
   have s8 := (s7).sel 3 [2, 0]
   simp only [oxf] at s8
   rw [← ptrs_set Ts j hjT (tpt Ts[j].2 x.1 x.2)] at s8
   refine ⟨m - 1, by omega, k + 1, Ts.set j (Ts[j].1, tpt Ts[j].2 x.1 x.2), _, _, _, _, _, _, _, _, _, _, _, _, _, _, _, _, _, _, by omega, by simp; omega, fun i hi => ?_, s8, rfl⟩
   rw [List.length_set] at hi
   rw [List.take_succ_eq_append_getElem hk', ← ex, partOf_snoc, hf, ej, List.getElem_set]
   by_cases hij : j = i
   ·subst hij
    rw [if_pos rfl, if_pos rfl, tlay_snoc, hTe j hi, hf]
   ·rw [if_neg hij, if_neg (by omega), hTe i hi, hf]
  ·have : k = L.length := by omega
   subst this
   rw [List.take_length] at hTe
   refine wpC_exit ?_
   simp only [ptrTo, oxs, simprocAttr]
   exact ⟨Ts, _, _, hTN, hTe, s2, rfl⟩
 rintro T h3 ⟨Ts, u8, R, hTN, hTe, s3, rfl⟩
 refine sr (fun LL hLL => ?_)
 simp only [ptrTo, oxs, simprocAttr]
 refine hLL _ _ ?_
 refine wpC_ret (out_ret ?_)
 simp only [ptrTo, oxs, simprocAttr]
 have s4 := s3.wn_own (ptrs Ts) rfl
 rw [ptrs_len] at s4
 subst hTN
 subst hf
 exact hk _ Ts _ rfl (tabs_laid hw hTe) s4
end Go.Proofs

namespace Go.Proofs
open Go Go.Ox
set_option maxRecDepth 100000
set_option maxHeartbeats 4000000
theorem clone1_ok {h0 : AHeap} {F : List Asn} (a : Option Addr) (c : Nat) (L : List Int) (hl : L.length < 8000000000000) (h : AHeap) (r : Rs icell 1 h a L) (hn : a = none → L = [] ∧ c = 0) (s : St h0 h F) (K : Value → AHeap → Prop)
  (hk : ∀ b d h', St h0 h' (wn icell 1 3 b d L :: F) → (b = none → L = []) → K (.slice b L.length d) h') : wpF Tryz.prog (.fn 32) [.slice a L.length c] h K := by
 refine wpF_fun 8 [.tmp 2] Tryz.func32 rfl rfl rfl rfl ?_
 refine sr (fun LL hLL => ?_)
 simp only [ptrTo, oxs, simprocAttr]
 refine hLL _ _ ?_
 cases a with
 | none =>
  obtain ⟨rfl, rfl⟩ := hn rfl
  refine wpC_seq (sr fun LL hLL => ?_)
  simp only [ptrTo, oxs, simprocAttr]
  refine hLL _ _ ?_
  refine wpC_if ?_
  simp only [ptrTo, oxs, simprocAttr]
  refine sr (fun LL hLL => ?_)
  simp only [ptrTo, oxs, simprocAttr]
  refine hLL _ _ ?_
  refine wpC_ret (out_ret ?_)
  simp only [ptrTo, oxs, simprocAttr]
  exact hk _ _ _ s.wn_nil fun _ => rfl
 | some x =>
  have hf : Go.Ox.fst h 1 L.length (some x) = some (L.flatMap icell) := r.fst (fun h => by cases h)
  refine wpC_seq (sr fun LL hLL => ?_)
  simp only [ptrTo, oxs, simprocAttr]
  refine hLL _ _ ?_
  refine wpC_if ?_
  simp only [ptrTo, oxs, simprocAttr]
  refine wpC_skip ?_
  simp only [ptrTo, oxs, simprocAttr]
  refine fg3 (fun R => ?_)
  have s1 := s.push (.cells false 1 [] 3)
  have s2 : St h0 _ (wn icell 1 3 (some ⟨h.next, 0, none⟩) 0 [] :: F) := s1.wn_own [] rfl
  have hf1 : Go.Ox.fst (h.push (.cells false 1 [] 3)) 1 L.length (some x) = some (L.flatMap icell) := (r.fr ((Fr.refl h []).to_push _)).fst (fun h => by cases h)
  obtain ⟨aE, cE, h7, y1, y2⟩ := s2.app (bytes := 8) (d := c) (M := L) icell.len icell.oc hf1 (by simp; omega) (by simp; omega)
  simp only [List.length_nil, List.nil_append] at y1 y2
  refine sr (fun LL hLL => ?_)
  simp only [ptrTo, oxs, simprocAttr, show aZeros [.int .i64 0] 0 = [] from rfl, y1]
  refine hLL _ _ ?_
  refine wpC_ret (out_ret ?_)
  simp only [ptrTo, oxs, simprocAttr]
  refine hk _ _ _ y2 fun hb => ?_
  subst hb
  obtain ⟨B, w⟩ := y2.wnB
  rcases w with ⟨h, _⟩ | ⟨b, h, _⟩
  ·exact h
  ·cases h
theorem zeros_sv (n : Nat) : aZeros [.slice none 0 0] n = (List.replicate n (⟨none, 0, 0⟩ : Sv)).flatMap Sv.cells := zeros_flat (f := Sv.cells) (⟨none, 0, 0⟩ : Sv) n
theorem none_wns {α : Type} {f : α → List Value} {k : Nat} {e : TypeId} {h0 h : AHeap} {F : List Asn} (s : St h0 h F) : ∀ n : Nat, St h0 h (star (wns f k e (List.replicate n (⟨none, 0, 0⟩ : Sv)) (List.replicate n [])) :: F)
 | 0 => s.star_nil
 | n + 1 => by
  have s1 := (none_wns (f := f) (k := k) (e := e) s n).wn_nil (f := f) (k := k) (e := e)
  have s2 : St h0 h (star ([] ++ [wn f k e none 0 ([] : List α)]) :: star (wns f k e (List.replicate n (⟨none, 0, 0⟩ : Sv)) (List.replicate n [])) :: F) := (St.star_nil s1).star_snoc
  have s3 := s2.star_app
  simp only [List.nil_append, List.cons_append] at s3
  have ew : wns f k e (List.replicate (n + 1) (⟨none, 0, 0⟩ : Sv)) (List.replicate (n + 1) ([] : List α)) = wn f k e none 0 ([] : List α) :: wns f k e (List.replicate n (⟨none, 0, 0⟩ : Sv)) (List.replicate n []) := by
   simp [wns, List.replicate_succ]
  rw [ew]; exact s3
/-- One list of many, set. -/
theorem wns_put {α : Type} {f : α → List Value} {k : Nat} {e : TypeId} {h0 h : AHeap} {F : List Asn} {S : List Sv} {LI : List (List α)} (i : Nat) (hS : S.length = LI.length) (hi : i < LI.length) (t : Sv) (L : List α) (s : St h0 h (wn f k e t.a t.cap L :: star (wns f k e S LI) :: F)) : St h0 h (star (wns f k e (S.set i t) (LI.set i L)) :: F) := by
 have hw : i < (wns f k e S LI).length := by rw [wns_len hS]; exact hi
 have s1 := (s.mv 1).pick i hw
 have s2 := s1.drop
 rw [wns_set]
 exact ((s2.mv 1).unpick i hw)
end Go.Proofs

namespace Go.Proofs
open Go Go.Ox
set_option maxRecDepth 100000
set_option maxHeartbeats 4000000
theorem set_same {α : Type} {A B : List α} {k : Nat} (hl : A.length = B.length) (hk : k < B.length) (h : ∀ j (h1 : j < A.length) (h2 : j < B.length), j < k → A[j] = B[j]) (j : Nat) (h1 : j < (A.set k B[k]).length) (h2 : j < B.length) (hj : j < k + 1) : (A.set k B[k])[j] = B[j] := by
 rw [List.getElem_set]
 split
 ·rename_i e; subst e; rfl
 ·exact h j (by omega) h2 (by omega)
theorem lens_set {α : Type} {S : List Sv} {LI : List (List α)} (h : S.map Sv.len = LI.map List.length) (k : Nat) (t : Sv) (L : List α) (ht : t.len = L.length) : (S.set k t).map Sv.len = (LI.set k L).map List.length := by
 rw [List.map_set, List.map_set, h, ht]
theorem clone2_ok {h0 : AHeap} {F : List Asn} (a : Option Addr) (c : Nat) (LI : List (List Int)) (hl : LI.length < 8000000000000) (hl1 : ∀ x ∈ LI, x.length < 8000000000000) (h : AHeap) (r : ∀ h', St h0 h' F → RsN icell 1 h' a LI) (s : St h0 h F) (K : Value → AHeap → Prop)
  (hk : ∀ b d h', St h0 h' (nest icell 1 3 25 b d LI :: F) → K (.slice b LI.length d) h') : wpF Tryz.prog (.fn 33) [.slice a LI.length c] h K := by
 refine wpF_fun 23 [.tmp 2] Tryz.func33 rfl rfl rfl rfl ?_
 refine sr (fun LL hLL => ?_)
 simp only [ptrTo, oxs, simprocAttr]
 refine hLL _ _ ?_
 refine sr (fun LL hLL => ?_)
 simp only [ptrTo, oxs, simprocAttr, msF_of (l := (LI.length : Int)) (c := (LI.length : Int)) (size := 1) (bytes := 24) (zs := [.slice none 0 0]) (e := 25) (by omega) (by omega) (by omega) (by omega), Int.toNat_natCast, zeros_sv]
 obtain ⟨b, eb⟩ : ∃ b, b = h.next := ⟨_, rfl⟩
 have s1 := none_wns (f := icell) (k := 1) (e := 3) (s.push (.cells false 1 ((List.replicate LI.length (⟨none, 0, 0⟩ : Sv)).flatMap Sv.cells) 25)) LI.length
 rw [← eb] at s1 ⊢
 obtain ⟨h1, e1⟩ : ∃ h1, h1 = h.push (.cells false 1 ((List.replicate LI.length (⟨none, 0, 0⟩ : Sv)).flatMap Sv.cells) 25) := ⟨_, rfl⟩
 rw [← e1] at s1 ⊢
 refine hLL _ _ ?_
 refine wpC_seq ?_
 refine sr (fun LL hLL => ?_)
 simp only [ptrTo, oxs, simprocAttr]
 refine hLL _ _ ?_
 refine fg11 (fun R => ?_)
 refine wpC_block ?_
 refine wpC_loop (fun m T h' => ∃ (k : Nat) (S : List Sv) (LJ : List (List Int)) (u1 u2 u4 u5 u6 u7 : Value) (R : List Value), m + k = LI.length ∧ LJ.length = LI.length ∧ S.map Sv.len = LJ.map List.length ∧ (∀ j (h1 : j < LJ.length) (h2 : j < LI.length), j < k → LJ[j] = LI[j]) ∧
  St h0 h' (star (wns icell 1 3 S LJ) :: own b (.cells false 1 (S.flatMap Sv.cells) 25) :: F) ∧ T = .slice a LI.length c :: u1 :: u2 :: .slice (some ⟨b, 0, none⟩) LI.length LI.length :: u4 :: u5 :: u6 :: u7 :: .slice a LI.length c :: .int .i64 LI.length :: .int .i64 k :: R) ?_ LI.length _ _ ⟨0, _, _, _, _, _, _, _, _, R, by omega, by simp, by simp, fun j _ _ h => by omega, s1, rfl⟩
 rintro m T h' ⟨k, S, LJ, u1, u2, u4, u5, u6, u7, R, hmk, hJl, hS, hJ, s2, rfl⟩
 have hSl := lens hS
 refine sr (fun LL hLL => ?_)
 simp only [ptrTo, oxs, simprocAttr]
 refine hLL _ _ ?_
 refine wpC_seq ?_
 refine wpC_if ?_
 simp only [ptrTo, oxs, simprocAttr]
 refine gC_of (fun hc => ?_) (fun hc => ?_)
 ·refine wpC_skip ?_
  simp only [ptrTo, oxs, simprocAttr]
  refine fg11 (fun R => ?_)
  have hk' : k < LI.length := by omega
  refine wpC_seq (wpC_block ?_)
  refine sr (fun LL hLL => ?_)
  simp only [ptrTo, oxs, simprocAttr]
  refine hLL _ _ ?_
  obtain ⟨b3, o3, ro3, sz3, C3, T3, ai, ci, rfl, p3, g3, v1, r3, n3⟩ := rsnAt (r _ s2.drop.drop) k hk'
  refine rg (fun LL hLL => ?_)
  simp only [ptrTo, pend, pend0, Pd.old, pendU, pendU0, Nat.testBit, oxh, simprocAttr, ixF hk', g3, v1]
  refine clone1_ok ai ci LI[k] (hl1 _ (List.getElem_mem hk')) _ r3 n3 s2 _ fun b4 d4 h4 s4 _ => ?_
  have s5 := s4.mv 2
  have gb := s5.get
  have hst := flat_store Sv.len1 S k ⟨b4, LI[k].length, d4⟩ (by omega)
  have hst' : splice (S.flatMap Sv.cells) (k * 1) [.slice b4 LI[k].length d4] = (S.set k ⟨b4, LI[k].length, d4⟩).flatMap Sv.cells := hst
  have hle := flat_le Sv.len1 S k (by omega)
  simp only [ptrTo, pend, pend0, Pd.old, pendU, pendU0, Nat.testBit, oxh, simprocAttr, ixF hk', gb, hst', eq_true (show k * 1 + 1 ≤ (S.flatMap Sv.cells).length by omega)]
  refine hLL _ _ ?_
  simp only [ptrTo, oxs, simprocAttr]
  refine fg11 (fun R => ?_)
  refine rg (fun LL hLL => ?_)
  simp only [ptrTo, oxs, simprocAttr, wsucc (show k < 9223372036854775807 by omega)]
  refine hLL _ _ ?_
  simp only [ptrTo, oxs, simprocAttr]
  have s6 := (s5.set (.cells false 1 ((S.set k ⟨b4, LI[k].length, d4⟩).flatMap Sv.cells) 25))
  have s7 := (s6).sel 3 [1, 2, 0]
  simp only [oxf] at s7
  have s8 := wns_put k hSl (by omega) ⟨b4, LI[k].length, d4⟩ LI[k] s7
  exact ⟨m - 1, by omega, k + 1, S.set k ⟨b4, LI[k].length, d4⟩, LJ.set k LI[k], _, _, _, _, _, _, _, by omega, by simp; omega, lens_set hS k _ _ rfl, fun j h1 h2 hj => set_same hJl hk' hJ j h1 h2 hj, s8, rfl⟩
 ·have hkl : k = LI.length := by omega
  subst hkl
  have : LJ = LI := List.ext_getElem hJl fun j h1 h2 => hJ j h1 h2 h2
  subst this
  refine wpC_exit ?_
  simp only [ptrTo, oxs, simprocAttr]
  refine fg11 (fun R => ?_)
  refine sr (fun LL hLL => ?_)
  simp only [ptrTo, oxs, simprocAttr]
  refine hLL _ _ ?_
  refine wpC_ret (out_ret ?_)
  simp only [ptrTo, oxs, simprocAttr]
  have s3 := (s2.mv 1).wn_own (f := Sv.cells) S rfl
  rw [hSl] at s3
  exact hk _ _ _ (St.nest_in hS s3)
end Go.Proofs

namespace Go.Proofs
open Go Go.Ox
set_option maxRecDepth 100000
set_option maxHeartbeats 8000000
/-- An operator that keeps state. -/
def stf (x : OpX) : Bool := decide (x.kind = 5) || decide (x.kind = 6)
/-- A move, its operator, and where that one's tables stand. -/
abbrev MvX := Nat × Sv × Mv
def mvc (x : MvX) : List Value := x.2.2.cells ++ x.2.1.cells
theorem mvc.len (x : MvX) : (mvc x).length = 5 := rfl
theorem mvc.oc (x : MvX) : (mvc x).all Value.oneCell' = true := rfl
def movesOf (j : Nat) (Q : List MvX) : List Mv := (Q.filter fun x => decide (x.1 = j)).map fun x => x.2.2
/-- What is known of one operator while it goes on. -/
def OpOk (g : Int) (p : Int) (M : Tb) (T : List (Nat × Tb)) (P : List Mv) : Prop := p ≤ T.length ∧ T.length ≤ 8 ∧ ∃ f, TabsOk g f M T ∧ PlanOk g T.length f P (ownr p g)
/-- All moves of an operator, and of the first ones. -/
def opMv (g : Int) (L : List OpX) (O P : List Int) (j : Nat) : List (Nat × Mv) := match L[j]? with
 | some x => if stf x = true then (planL (O[j]?.getD 0) (P[j]?.getD 0) g g.toNat).map fun m => (j, m) else []
 | none => []
def allMv (g : Int) (L : List OpX) (O P : List Int) : Nat → List (Nat × Mv)
 | 0 => []
 | k + 1 => allMv g L O P k ++ opMv g L O P k
/-- .. and of all. -/
structure RunJ (g : Int) (L : List OpX) (O P : List Int) (RR : List (List Rw)) (k : Nat) (S : List Sv) (TT : List (List (Nat × Tb))) (Q : List MvX) : Prop where
 len : TT.length = L.length
 slen : S.map Sv.len = (TT.map ptrs).map List.length
 at' : ∀ x ∈ Q, x.1 < k ∧ S[x.1]? = some x.2.1
 ok : ∀ j (h1 : j < TT.length) (h2 : j < L.length) (h3 : j < P.length), j < k → stf L[j] = true → OpOk g P[j] (tlay [] (RR[j]?.getD [])) TT[j] (movesOf j Q)
 no : ∀ j (h1 : j < TT.length) (h2 : j < L.length), (k ≤ j ∨ stf L[j] = false) → TT[j] = [] ∧ movesOf j Q = []
 few : Q.length ≤ 15 * k
 chg : Q ≠ [] ↔ ∃ j, ∃ (h2 : j < L.length) (h3 : j < P.length) (h4 : j < O.length), j < k ∧ stf L[j] = true ∧ O[j] ≠ P[j]
 all : (Q.map fun x => (x.1, x.2.2)) = allMv g L O P k
/-- A rescaling, as it lies. -/
def runA (rb tb : Nat) (g id : Int) (P : List Int) (LI : List (List Int)) (S : List Sv) (TT : List (List (Nat × Tb))) (pa : Option Addr) (pc : Nat) (la : Option Addr) (lc : Nat) (mv : Value) : List Asn :=
 [own rb (.cells false 0 [.int .i64 id, .slice pa P.length pc, .slice la LI.length lc, .slice (some ⟨tb, 0, none⟩) S.length S.length, mv] 65), wn icell 1 3 pa pc P, nest icell 1 3 25 la lc LI, own tb (.cells false 1 (S.flatMap Sv.cells) 70), star (wns ptc 1 93 S (TT.map ptrs)), star (TT.map (tabsA g))]
theorem movesOf_app (j : Nat) (Q R : List MvX) : movesOf j (Q ++ R) = movesOf j Q ++ movesOf j R := by simp [movesOf]
def tagged (k : Nat) (t : Sv) (P : List Mv) : List MvX := P.map fun m => (k, t, m)
theorem movesOf_tag (j k : Nat) (t : Sv) : ∀ P : List Mv, movesOf j (tagged k t P) = if k = j then P else []
 | [] => by simp [movesOf, tagged]
 | m :: P => by
  have ih := movesOf_tag j k t P
  unfold movesOf tagged at *
  rw [List.map_cons, List.filter_cons]
  by_cases h : k = j
  ·simp only [h, decide_true, if_true, List.map_cons] at ih ⊢
   rw [ih]
  ·simp only [h, decide_false, if_false, Bool.false_eq_true] at ih ⊢
   exact ih
theorem RunJ.skip {g : Int} {L : List OpX} {O P : List Int} {RR : List (List Rw)} {k : Nat} {S : List Sv} {TT : List (List (Nat × Tb))} {Q : List MvX} (r : RunJ g L O P RR k S TT Q) (hk : k < L.length) (hst : stf L[k] = false) : RunJ g L O P RR (k + 1) S TT Q where
 len := r.len
 slen := r.slen
 at' := fun x hx => ⟨by have := (r.at' x hx).1; omega, (r.at' x hx).2⟩
 ok := fun j h1 h2 h3 hj hs => r.ok j h1 h2 h3 (by
  by_cases e : j = k
  ·subst e; rw [hst] at hs; cases hs
  ·omega) hs
 no := fun j h1 h2 h => r.no j h1 h2 (h.imp (fun h => by omega) id)
 few := by have := r.few; omega
 chg := by
  rw [r.chg]
  refine ⟨fun ⟨j, h2, h3, h4, hj, hs, hne⟩ => ⟨j, h2, h3, h4, by omega, hs, hne⟩, fun ⟨j, h2, h3, h4, hj, hs, hne⟩ => ⟨j, h2, h3, h4, ?_, hs, hne⟩⟩
  by_cases e : j = k
  ·subst e; rw [hst] at hs; cases hs
  ·omega
 all := by
  have h1 : opMv g L O P k = [] := by simp [opMv, List.getElem?_eq_getElem hk, hst]
  rw [allMv, h1, List.append_nil]; exact r.all
theorem RunJ.next {g : Int} {L : List OpX} {O P : List Int} {RR : List (List Rw)} {k : Nat} {S : List Sv} {TT : List (List (Nat × Tb))} {Q : List MvX} (r : RunJ g L O P RR k S TT Q) (hk : k < L.length) (hO : k < O.length) (hP : k < P.length) (hst : stf L[k] = true)
  (a : Nat) {T : List (Nat × Tb)} {PP : List Mv} (hT : (T.length : Int) = max O[k] P[k]) (ht : TabsOk g (ownr O[k] g) (tlay [] (RR[k]?.getD [])) T) (hp : PlanP O[k] P[k] g PP) (h8 : O[k] ≤ 8 ∧ P[k] ≤ 8) :
  RunJ g L O P RR (k + 1) (S.set k ⟨some ⟨a, 0, none⟩, T.length, T.length⟩) (TT.set k T) (Q ++ tagged k ⟨some ⟨a, 0, none⟩, T.length, T.length⟩ PP) where
 len := by rw [List.length_set]; exact r.len
 slen := by
  rw [List.map_set (f := ptrs)]
  exact lens_set r.slen k _ _ (ptrs_len T).symm
 at' := fun x hx => by
  rcases List.mem_append.1 hx with hx | hx
  ·obtain ⟨h1, h2⟩ := r.at' x hx
   exact ⟨by omega, by rw [List.getElem?_set_ne (by omega)]; exact h2⟩
  ·obtain ⟨m, _, rfl⟩ := List.mem_map.1 hx
   have hl : S.length = L.length := by have := congrArg List.length r.slen; have := r.len; simp at *; omega
   exact ⟨by simp, by simp only; rw [List.getElem?_set_self (by omega)]⟩
 ok := fun j h1 h2 h3 hj hs => by
  rw [movesOf_app, movesOf_tag]
  by_cases e : k = j
  ·subst e
   rw [if_pos rfl, (r.no k (by rw [List.length_set] at h1; exact h1) h2 (.inl (Nat.le_refl _))).2, List.nil_append]
   simp only [List.getElem_set_self]
   exact ⟨by omega, by omega, _, ht, by rw [hT]; exact hp.ok⟩
  ·rw [if_neg e, List.append_nil]
   simp only [List.getElem_set_ne e]
   exact r.ok j (by rw [List.length_set] at h1; exact h1) h2 h3 (by omega) hs
 no := fun j h1 h2 h => by
  have e : k ≠ j := by
   rintro rfl
   rcases h with h | h
   ·omega
   ·rw [hst] at h; cases h
  rw [movesOf_app, movesOf_tag, if_neg e, List.append_nil]
  simp only [List.getElem_set_ne e]
  exact r.no j (by rw [List.length_set] at h1; exact h1) h2 (h.imp (fun h => by omega) id)
 few := by
  have := r.few
  have := hp.few
  simp only [tagged, List.length_append, List.length_map]; omega
 chg := by
  have hne : tagged k ⟨some ⟨a, 0, none⟩, T.length, T.length⟩ PP = [] ↔ O[k] = P[k] := by
   rw [← hp.none]; simp [tagged]
  refine ⟨fun h => ?_, fun ⟨j, h2, h3, h4, hj, hs, hx⟩ h => ?_⟩
  ·by_cases hq : Q = []
   ·subst hq
    rw [List.nil_append, ne_eq, hne] at h
    exact ⟨k, hk, hP, hO, by omega, hst, h⟩
   ·obtain ⟨j, h2, h3, h4, hj, hs, hx⟩ := r.chg.1 hq
    exact ⟨j, h2, h3, h4, by omega, hs, hx⟩
  ·obtain ⟨q1, q2⟩ := List.append_eq_nil_iff.1 h
   by_cases e : j = k
   ·subst e; exact hx (hne.1 q2)
   ·exact r.chg.2 ⟨j, h2, h3, h4, by omega, hs, hx⟩ q1
 all := by
  have h1 : opMv g L O P k = PP.map fun m => (k, m) := by simp only [opMv, List.getElem?_eq_getElem hk, List.getElem?_eq_getElem hO, List.getElem?_eq_getElem hP, Option.getD_some]; rw [if_pos hst, ← hp.eq]
  rw [allMv, h1, List.map_append, r.all]
  congr 1
  simp [tagged]
theorem RunJ.zero (g : Int) (L : List OpX) (O P : List Int) (RR : List (List Rw)) : RunJ g L O P RR 0 (List.replicate L.length ⟨none, 0, 0⟩) (List.replicate L.length []) [] where
 len := by simp
 slen := by simp [ptrs]
 at' := fun x hx => by cases hx
 ok := fun j h1 h2 h3 hj => by omega
 no := fun j h1 h2 _ => ⟨by simp, rfl⟩
 few := by simp
 chg := ⟨fun h => absurd rfl h, fun ⟨j, _, _, _, hj, _⟩ => by omega⟩
 all := rfl
theorem none_tabs {h0 h : AHeap} {F : List Asn} {g : Int} (s : St h0 h F) : ∀ n : Nat, St h0 h (star ((List.replicate n []).map (tabsA g)) :: F)
 | 0 => s.star_nil
 | n + 1 => by
  have s1 := tabs_nil (g := g) (none_tabs (g := g) s n)
  have s2 : St h0 h (star ([] ++ [tabsA g []]) :: star ((List.replicate n []).map (tabsA g)) :: F) := (St.star_nil s1).star_snoc
  have s3 := s2.star_app
  simp only [List.nil_append, List.cons_append] at s3
  rw [List.replicate_succ, List.map_cons]; exact s3
/-- What can be read of a manifest, as long as some pieces are held. -/
structure MfD (h0 : AHeap) (F : List Asn) (m : MfX) : Prop where
 p : Rd h0 F icell 1 m.pa m.P
 l : RdN h0 F icell 1 m.la m.LI
 r : RdN h0 F rcell 3 m.ra m.RR
theorem rdnRs {α : Type} {f : α → List Value} {k : Nat} {h0 h : AHeap} {F : List Asn} {a : Option Addr} {LI : List (List α)} (r : RdN h0 F f k a LI) (s : St h0 h F) : RsN f k h a LI := by
 obtain ⟨S, h1, h2, h3⟩ := r
 exact ⟨S, h1, h2 h s, fun i hi hj => ⟨(h3 i hi hj).1 h s, (h3 i hi hj).2⟩⟩
theorem rdnAt {α : Type} {f : α → List Value} {k : Nat} {h0 : AHeap} {F : List Asn} {a : Option Addr} {LI : List (List α)} (r : RdN h0 F f k a LI) (i : Nat) (hi : i < LI.length) : ∃ ai ci, (∀ h, St h0 h F → ∃ b o ro sz C T, a = some ⟨b, o, none⟩ ∧ h.get b = some (.cells ro sz C T) ∧ C[o + i * 1]? = some (.slice ai LI[i].length ci)) ∧ Rd h0 F f k ai LI[i] ∧ (ai = none → LI[i] = [] ∧ ci = 0) := by
 obtain ⟨S, hS, r1, r2⟩ := r
 have hl : S.length = LI.length := by simpa using congrArg List.length hS
 have hi' : i < S.length := by omega
 have hne : S ≠ [] := by rintro rfl; simp at hi'
 have e : S[i].len = LI[i].length := lens_at hS i hi' hi
 refine ⟨S[i].a, S[i].cap, fun h s => ?_, (r2 i hi' hi).1, (r2 i hi' hi).2⟩
 obtain ⟨b, o, ro, sz, C, T, rfl, p, g, q, w⟩ := (r1 h s).resolve_left hne
 have v : C[o + i * 1]? = some (.slice S[i].a S[i].len S[i].cap) := Rs.cell Sv.len1 q w i hi' 0 (by omega)
 rw [e] at v
 exact ⟨b, o, ro, sz, C, T, rfl, g, v⟩
theorem star_put {h0 h : AHeap} {F : List Asn} {A : Asn} {l : List Asn} (i : Nat) (hi : i < l.length) (s : St h0 h (A :: star l :: F)) : St h0 h (star (l.set i A) :: F) := by
 have s2 := ((s.mv 1).pick i hi).drop
 exact ((s2.mv 1).unpick i hi)
theorem rdCell {h0 h : AHeap} {F : List Asn} {a : Option Addr} {L : List Int} (r : Rd h0 F icell 1 a L) (s : St h0 h F) (i : Nat) (hi : i < L.length) : ∃ b o, a = some ⟨b, o, none⟩ ∧ ∀ h, St h0 h F → ∃ ro sz C T, h.get b = some (.cells ro sz C T) ∧ C[o + i * 1]? = some (.int .i64 L[i]) := by
 have hne : L ≠ [] := by rintro rfl; simp at hi
 obtain ⟨b, o, ro, sz, C, T, rfl, p, g, q, w⟩ := (r h s).resolve_left hne
 refine ⟨b, o, rfl, fun h s => ?_⟩
 obtain ⟨b', o', ro, sz, C, T, e, p, g, q, w⟩ := (r h s).resolve_left hne
 cases e
 exact ⟨ro, sz, C, T, g, Rs.cell icell.len q w i hi 0 (by omega)⟩
theorem new_run {h0 : AHeap} {F : List Asn} {g : Nat} (hg : 1 ≤ g) (h64 : g ≤ 64) (a : Option Addr) (c : Nat) (L : List OpX) (hn : L.length ≤ 12) (m : MfX) (pa2 : Option Addr) (pc2 : Nat) (P2 : List Int) (h : AHeap)
  (sp : SpR h0 a L) (mr : MfD h0 F m) (mb : MfB m) (rp : Rd h0 F icell 1 pa2 P2) (np : pa2 = none → P2 = [] ∧ pc2 = 0) (hp1 : m.P.length = L.length) (hp2 : P2.length = L.length)
  (hO : ∀ x ∈ m.P, 1 ≤ x ∧ x ≤ 8 ∧ x ≤ (g : Int)) (hP : ∀ x ∈ P2, 1 ≤ x ∧ x ≤ 8 ∧ x ≤ (g : Int)) (hs : MfS m) (hw : ∀ l ∈ m.RR, ∀ r ∈ l, (Lit.int .i64 r.1).wf = true) (s : St h0 h F) (K : Value → AHeap → Prop)
  (hk : ∀ rb tb S TT Q pa pc la lc ma mc h', RunJ g L m.P P2 m.RR L.length S TT Q → St h0 h' (runA rb tb g m.id P2 m.LI S TT pa pc la lc (.slice ma Q.length mc) ++ wn mvc 5 77 ma mc Q :: F) → K (.pointer (some ⟨rb, 0, none⟩)) h') :
  wpF Tryz.prog (.fn 10) [.agg #[.int .i64 g, .slice a L.length c], .agg m.cells.toArray, .slice pa2 P2.length pc2] h K := by
 obtain ⟨id, pa, O, pc, la, LI, lc, ra, RR, rc, ea, ES, ec⟩ := m
 obtain ⟨bp, bl, br, be, bl1, br1, be1⟩ := mb
 obtain ⟨hsn, hsl, hsr⟩ := hs
 simp only at *
 unfold MfX.cells
 refine wpF_fun 111 [.tmp 6] Tryz.func10 rfl rfl rfl rfl ?_
 obtain ⟨bs, ebs⟩ : ∃ b, b = h.next := ⟨_, rfl⟩
 obtain ⟨bm, ebm⟩ : ∃ b, b = bs + 1 := ⟨_, rfl⟩
 have s1 := (s.push (spB g a L.length c)).push (.cells false 0 [.int .i64 id, .slice pa O.length pc, .slice la LI.length lc, .slice ra RR.length rc, .slice ea ES.length ec] 30)
 simp only [AHeap.next_push, ← ebs, ← ebm] at s1
 obtain ⟨h1, e1⟩ : ∃ h1, h1 = (h.push (spB g a L.length c)).push (.cells false 0 [.int .i64 id, .slice pa O.length pc, .slice la LI.length lc, .slice ra RR.length rc, .slice ea ES.length ec] 30) := ⟨_, rfl⟩
 rw [← e1] at s1
 refine sr (fun LL hLL => ?_)
 simp only [ptrTo, oxs, simprocAttr, AHeap.next_push, ← ebs, ← ebm, ← e1]
 refine hLL _ _ ?_
 have gm := s1.get
 have gs := (s1.mv 1).get
 have sv : ∀ (a : Option Addr) (m n : Nat), veq 6 (.slice a m n) (.slice a m n) = true := by intro a m n; simp [veq]
 have s2 := s1.push (.cells false 1 ((List.replicate L.length (⟨none, 0, 0⟩ : Sv)).flatMap Sv.cells) 70)
 obtain ⟨tb, etb⟩ : ∃ b, b = h1.next := ⟨_, rfl⟩
 obtain ⟨h2, e2⟩ : ∃ h2, h2 = h1.push (.cells false 1 ((List.replicate L.length (⟨none, 0, 0⟩ : Sv)).flatMap Sv.cells) 70) := ⟨_, rfl⟩
 rw [← e2, ← etb] at s2
 have gm2 := (s2.mv 1).get
 have gs2 := (s2.mv 2).get
 refine sd [0, 1, 2, 4, 5, 7, 8, 9, 10, 3, 6, 11, 12, 13] [0, 1, 0, 0, 16, 0, 128, 384, 896, 4, 60, 2047, 4095, 8191] (by decide +kernel) (by decide +kernel) (by decide +kernel) (fun LL hLL => ?_)
 simp only [ptrTo, pend, pend0, Pd.old, pendU, pendU0, Nat.testBit, oxh, simprocAttr, gm, gs, sv, msF_of (l := (L.length : Int)) (c := (L.length : Int)) (size := 1) (bytes := 24) (zs := [.slice none 0 0]) (e := 70) (by omega) (by omega) (by omega) (by omega), Int.toNat_natCast, zeros_sv, ← e2, ← etb, gm2, gs2]
 refine clone1_ok pa2 pc2 P2 (by omega) _ (rp _ s2.drop.drop.drop) np s2 _ fun qa qc h3 s3 _ => ?_
 have gm3 := (s3.mv 2).get
 have gs3 := (s3.mv 3).get
 simp only [ptrTo, pend, pend0, Pd.old, pendU, pendU0, Nat.testBit, oxh, simprocAttr, gm3, gs3, sv]
 refine clone2_ok la lc LI (by omega) (fun x hx => by have := bl1 x hx; have := hsl x hx; omega) _ (fun h' s' => rdnRs mr.l s'.drop.drop.drop.drop) s3 _ fun ka kc h4 s4 => ?_
 have gm4 := (s4.mv 3).get
 have gs4 := (s4.mv 4).get
 have gt4 := (s4.mv 2).get
 have s5 := s4.push (.cells false 0 [.int .i64 id, .slice qa P2.length qc, .slice ka LI.length kc, .slice (some ⟨tb, 0, none⟩) L.length L.length, .slice none 0 0] 65)
 obtain ⟨rb, erb⟩ : ∃ b, b = h4.next := ⟨_, rfl⟩
 obtain ⟨h5, e5⟩ : ∃ h5, h5 = h4.push (.cells false 0 [.int .i64 id, .slice qa P2.length qc, .slice ka LI.length kc, .slice (some ⟨tb, 0, none⟩) L.length L.length, .slice none 0 0] 65) := ⟨_, rfl⟩
 rw [← e5, ← erb] at s5
 have gm5 := (s5.mv 4).get
 have gs5 := (s5.mv 5).get
 simp only [ptrTo, pend, pend0, Pd.old, pendU, pendU0, Nat.testBit, oxh, simprocAttr, gm4, gs4, gt4, sv, ← erb, ← e5, gm5, gs5]
 refine hLL _ _ ?_
 refine wpC_seq ?_
 refine sr (fun LL hLL => ?_)
 simp only [ptrTo, oxs, simprocAttr, gs5]
 refine hLL _ _ ?_
 refine fg31 (fun R => ?_)
 have s6 : St h0 h5 (own rb (.cells false 0 [.int .i64 id, .slice qa P2.length qc, .slice ka LI.length kc, .slice (some ⟨tb, 0, none⟩) L.length L.length, .slice none ([] : List MvX).length 0] 65) :: wn icell 1 3 qa qc P2 :: nest icell 1 3 25 ka kc LI :: own tb (.cells false 1 ((List.replicate L.length (⟨none, 0, 0⟩ : Sv)).flatMap Sv.cells) 70) :: star (wns ptc 1 93 (List.replicate L.length (⟨none, 0, 0⟩ : Sv)) ((List.replicate L.length []).map ptrs)) :: star ((List.replicate L.length []).map (tabsA g)) :: wn mvc 5 77 none 0 [] :: own bm (.cells false 0 [.int .i64 id, .slice pa O.length pc, .slice la LI.length lc, .slice ra RR.length rc, .slice ea ES.length ec] 30) :: own bs (spB g a L.length c) :: F) := by
  have t1 := (s5).sel 4 [0, 2, 1, 3]
  simp only [oxf] at t1
  have t2 := none_wns (f := ptc) (k := 1) (e := 93) (none_tabs (g := g) (t1.wn_nil (f := mvc) (k := 5) (e := 77)) L.length) L.length
  rw [List.map_replicate (f := ptrs)]
  exact t2.sel 7 [3, 4, 5, 6, 0, 1, 2]
 refine wpC_block ?_
 refine wpC_loop (fun m T h' => ∃ (k : Nat) (S : List Sv) (TT : List (List (Nat × Tb))) (Q : List MvX) (ma : Option Addr) (mc : Nat) (u0 u1 u5 u6 u8 u9 u10 u11 u12 u13 u14 u15 u16 u17 u18 u19 u20 u21 u22 u23 u24 u25 u26 u27 : Value) (R : List Value), m + k = L.length ∧ RunJ g L O P2 RR k S TT Q ∧
  St h0 h' (own rb (.cells false 0 [.int .i64 id, .slice qa P2.length qc, .slice ka LI.length kc, .slice (some ⟨tb, 0, none⟩) L.length L.length, .slice ma Q.length mc] 65) :: wn icell 1 3 qa qc P2 :: nest icell 1 3 25 ka kc LI :: own tb (.cells false 1 ((S).flatMap Sv.cells) 70) :: star (wns ptc 1 93 (S) ((TT).map ptrs)) :: star ((TT).map (tabsA g)) :: wn mvc 5 77 ma mc (Q) :: own bm (.cells false 0 [.int .i64 id, .slice pa O.length pc, .slice la LI.length lc, .slice ra RR.length rc, .slice ea ES.length ec] 30) :: own bs (spB g a L.length c) :: F) ∧ T = u0 :: u1 :: .slice pa2 P2.length pc2 :: .pointer (some ⟨bs, 0, none⟩) :: .pointer (some ⟨bm, 0, none⟩) :: u5 :: u6 :: .pointer (some ⟨rb, 0, none⟩) :: u8 :: u9 :: u10 :: u11 :: u12 :: u13 :: u14 :: u15 :: u16 :: u17 :: u18 :: u19 :: u20 :: u21 :: u22 :: u23 :: u24 :: u25 :: u26 :: u27 :: .slice a L.length c :: .int .i64 L.length :: .int .i64 k :: R) ?_ L.length _ _ ⟨0, _, _, [], none, 0, _, _, _, _, _, _, _, _, _, _, _, _, _, _, _, _, _, _, _, _, _, _, _, _, R, by omega, RunJ.zero g L O P2 RR, s6, rfl⟩
 clear s6 s5 s4 s3 s2 s1 gm gs gm2 gs2 gm3 gs3 gm4 gs4 gt4 gm5 gs5 e1 e2 e5
 rintro m T h' ⟨k, S, TT, Q, ma, mc, u0, u1, u5, u6, u8, u9, u10, u11, u12, u13, u14, u15, u16, u17, u18, u19, u20, u21, u22, u23, u24, u25, u26, u27, R, hmk, hJ, s1, rfl⟩
 have hSl : S.length = L.length := by have := congrArg List.length hJ.slen; have := hJ.len; simp at *; omega
 refine sr (fun LL hLL => ?_)
 simp only [ptrTo, oxs, simprocAttr]
 refine hLL _ _ ?_
 refine wpC_seq ?_
 refine wpC_if ?_
 simp only [ptrTo, oxs, simprocAttr]
 refine gC_of (fun hc => ?_) (fun hc => ?_)
 ·refine wpC_skip ?_
  simp only [ptrTo, oxs, simprocAttr]
  refine fg31 (fun R => ?_)
  have hk' : k < L.length := by omega
  obtain ⟨b3, o3, ro3, sz3, C3, T3, rfl, p3, g3, w0, w1, w2, x2, w8, x8⟩ := (sp.fr s1.base).at k hk'
  obtain ⟨x, ex⟩ : ∃ x, x = L[k] := ⟨_, rfl⟩
  rw [← ex] at w0 w8
  have sp1 := s1.push (.cells false 0 [.int .i64 0, .slice none 0 0, .int .i64 0, .int .i64 0, .int .i64 0, .int .i64 0, .int .i64 0, .int .i64 0] 69)
  have gp := sp1.get
  have s2 := sp1.set (.cells false 0 x.cells 69)
  obtain ⟨h2, e2⟩ : ∃ h2, h2 = (h'.push (.cells false 0 [.int .i64 0, .slice none 0 0, .int .i64 0, .int .i64 0, .int .i64 0, .int .i64 0, .int .i64 0, .int .i64 0] 69)).set h'.next (.cells false 0 x.cells 69) := ⟨_, rfl⟩
  rw [← e2] at s2
  have g2 := s2.get
  unfold OpX.cells at g2 e2
  refine wpC_seq (wpC_block ?_)
  refine sr (fun LL hLL => ?_)
  simp only [ptrTo, oxs, simprocAttr, ixF hk', g3, w8, x8, OpX.len, gp, OpX.cells, ← e2]
  refine hLL _ _ ?_
  by_cases hst : stf x = true
  case neg =>
   have hst' : stf x = false := by simpa using hst
   have k5 : ¬ x.kind = 5 := fun e => by simp [stf, e] at hst
   have k6 : ¬ x.kind = 6 := fun e => by simp [stf, e] at hst
   refine wpC_seq (sr fun LL hLL => ?_)
   simp only [ptrTo, oxs, simprocAttr, g2, eq_false k5, eq_false k6, not_false_eq_true]
   refine hLL _ _ ?_
   refine wpC_if ?_
   simp only [ptrTo, oxs, simprocAttr]
   refine wpC_exit ?_
   simp only [ptrTo, oxs, simprocAttr]
   refine fg31 (fun R => ?_)
   refine rg (fun LL hLL => ?_)
   simp only [ptrTo, oxs, simprocAttr, wsucc (show k < 9223372036854775807 by omega)]
   refine hLL _ _ ?_
   simp only [ptrTo, oxs, simprocAttr]
   exact ⟨m - 1, by omega, k + 1, S, TT, Q, ma, mc, _, _, _, _, _, _, _, _, _, _, _, _, _, _, _, _, _, _, _, _, _, _, _, _, _, by omega, hJ.skip hk' (by rw [← ex]; exact hst'), s2.drop, rfl⟩
  have hIF : ∀ A B : Prop, A → B → A := fun _ _ a _ => a
  refine sm (fun T h'' => h'' = h2 ∧ ∃ (u0 u1 u5 u6 u9 u10 u11 u12 u13 u14 u15 u16 u17 u18 u19 u20 u21 u22 u23 u24 u25 u26 u27 : Value) (R : List Value), T = u0 :: u1 :: .slice pa2 P2.length pc2 :: .pointer (some ⟨bs, 0, none⟩) :: .pointer (some ⟨bm, 0, none⟩) :: u5 :: u6 :: .pointer (some ⟨rb, 0, none⟩) :: .int .i64 k :: u9 :: u10 :: u11 :: u12 :: u13 :: u14 :: u15 :: u16 :: u17 :: u18 :: u19 :: u20 :: u21 :: u22 :: u23 :: u24 :: u25 :: u26 :: u27 :: .slice (some ⟨b3, o3, none⟩) L.length c :: .int .i64 L.length :: .int .i64 k :: R) ?_ ?_
  ·by_cases k5 : x.kind = 5
   ·refine sr (fun LL hLL => ?_)
    simp only [ptrTo, oxs, simprocAttr, g2, eq_true k5, not_true_eq_false]
    refine hLL _ _ ?_
    refine wpC_if ?_
    simp only [ptrTo, oxs, simprocAttr]
    refine wpC_skip ?_
    simp only [ptrTo, oxs, simprocAttr]
    exact ⟨_, _, _, _, _, _, _, _, _, _, _, _, _, _, _, _, _, _, _, _, _, _, _, _, rfl⟩
   ·have k6 : x.kind = 6 := by simpa [stf, k5] using hst
    refine sr (fun LL hLL => ?_)
    simp only [ptrTo, oxs, simprocAttr, g2, eq_false k5, eq_true k6, not_true_eq_false, not_false_eq_true]
    refine hLL _ _ ?_
    refine wpC_if ?_
    simp only [ptrTo, oxs, simprocAttr]
    refine wpC_skip ?_
    simp only [ptrTo, oxs, simprocAttr]
    exact ⟨_, _, _, _, _, _, _, _, _, _, _, _, _, _, _, _, _, _, _, _, _, _, _, _, rfl⟩
  rintro T h'' ⟨rfl, u0, u1, u5, u6, u9, u10, u11, u12, u13, u14, u15, u16, u17, u18, u19, u20, u21, u22, u23, u24, u25, u26, u27, R, rfl⟩
  have s3 := s2.drop
  have gm := (s3.mv 7).get
  have gs := (s3.mv 8).get
  have sF := s3.drop.drop.drop.drop.drop.drop.drop.drop.drop
  refine sr (fun LL hLL => ?_)
  simp only [ptrTo, oxs, simprocAttr]
  refine hLL _ _ ?_
  obtain ⟨rw', erw⟩ : ∃ l, l = RR[k]?.getD [] := ⟨_, rfl⟩
  refine sm (fun T h3 => h3 = h'' ∧ ∃ (ga : Option Addr) (gc : Nat) (u0 u1 u5 u6 u9 u11 u12 u13 u14 u15 u16 u17 u18 u19 u20 u21 u22 u23 u24 u25 u26 u27 : Value) (R : List Value), Rd h0 F rcell 3 ga rw' ∧ T = u0 :: u1 :: .slice pa2 P2.length pc2 :: .pointer (some ⟨bs, 0, none⟩) :: .pointer (some ⟨bm, 0, none⟩) :: u5 :: u6 :: .pointer (some ⟨rb, 0, none⟩) :: .int .i64 k :: u9 :: .slice ga rw'.length gc :: u11 :: u12 :: u13 :: u14 :: u15 :: u16 :: u17 :: u18 :: u19 :: u20 :: u21 :: u22 :: u23 :: u24 :: u25 :: u26 :: u27 :: .slice (some ⟨b3, o3, none⟩) L.length c :: .int .i64 L.length :: .int .i64 k :: R) ?_ ?_
  ·by_cases hr : k < RR.length
   ·refine sr (fun LL hLL => ?_)
    simp only [ptrTo, oxs, simprocAttr, gm, eq_true (show (k : Int) < (RR.length : Int) by omega)]
    refine hLL _ _ ?_
    refine wpC_if ?_
    simp only [ptrTo, oxs, simprocAttr]
    have e1 : rw' = RR[k] := by rw [erw, List.getElem?_eq_getElem hr]; rfl
    obtain ⟨ai, ci, r4, r5, n5⟩ := rdnAt mr.r k hr
    obtain ⟨b5, o5, ro5, sz5, C5, T5, ea5, g5, v5⟩ := r4 _ sF
    simp only at ea5
    subst ea5
    refine rg (fun LL hLL => ?_)
    simp only [ptrTo, oxs, simprocAttr, gm, ixF hr, g5, v5]
    refine hLL _ _ ?_
    simp only [ptrTo, oxs, simprocAttr]
    rw [e1]
    exact ⟨ai, ci, _, _, _, _, _, _, _, _, _, _, _, _, _, _, _, _, _, _, _, _, _, _, _, r5, rfl⟩
   ·refine sr (fun LL hLL => ?_)
    simp only [ptrTo, oxs, simprocAttr, gm, eq_false (show ¬ (k : Int) < (RR.length : Int) by omega)]
    refine hLL _ _ ?_
    refine wpC_if ?_
    simp only [ptrTo, oxs, simprocAttr]
    have e1 : rw' = [] := by rw [erw, List.getElem?_eq_none (by omega)]; rfl
    refine wpC_skip ?_
    simp only [ptrTo, oxs, simprocAttr]
    rw [e1]
    exact ⟨none, 0, _, _, _, _, _, _, _, _, _, _, _, _, _, _, _, _, _, _, _, _, _, _, _, fun _ _ => .inl rfl, rfl⟩
  rintro T h3 ⟨rfl, ga, gc, u0, u1, u5, u6, u9, u11, u12, u13, u14, u15, u16, u17, u18, u19, u20, u21, u22, u23, u24, u25, u26, u27, R, hrd, rfl⟩
  have hk1 : k < O.length := by omega
  have hk2 : k < P2.length := by omega
  obtain ⟨c1, d1, ea1, f1⟩ := rdCell mr.p sF k hk1
  obtain ⟨c2, d2, ea2, f2⟩ := rdCell rp sF k hk2
  simp only at ea1
  subst ea1 ea2
  obtain ⟨r1, z1, C1, T1, j1, v1⟩ := f1 _ sF
  obtain ⟨r2, z2, C2, T2, j2, v2⟩ := f2 _ sF
  have hok := hO O[k] (List.getElem_mem hk1)
  have hpk := hP P2[k] (List.getElem_mem hk2)
  have hrl : rw'.length < 17592186044000 := by
   rw [erw]
   by_cases hr : k < RR.length
   ·rw [List.getElem?_eq_getElem hr]; exact br1 _ (List.getElem_mem hr)
   ·rw [List.getElem?_eq_none (by omega)]; simp
  have hrw : ∀ r ∈ rw', (Lit.int .i64 r.1).wf = true := fun r hr => by
   rw [erw] at hr
   by_cases hr' : k < RR.length
   ·rw [List.getElem?_eq_getElem hr'] at hr; exact hw _ (List.getElem_mem hr') r hr
   ·rw [List.getElem?_eq_none (by omega)] at hr; cases hr
  have hmx : (if O[k] < P2[k] then P2[k] else O[k]) = max O[k] P2[k] := by split <;> omega
  refine su [some 53, some 54, some 55, some 56, some 57, some 58, some 59, some 60, some 61, some 62, some 63, some 64, some 65, some 66, some 67, some 68, some 69, some 70, some 71, some 11] 20 [0, 1, 0, 7, 15, 0, 0, 96, 224, 511, 0, 1024, 0, 7168, 15360, 0, 32768, 0, 262143, 524287] (by rfl) (by rfl) (by decide +kernel) (by decide +kernel) (by decide +kernel) (fun LL hLL => ?_)
  simp only [ptrTo, pend, pend0, Pd.old, pendU, pendU0, Nat.testBit, oxh, simprocAttr, gm, gs, ixF (show k < (O.length) by omega), ixF (show k < P2.length by omega), j1, v1, j2, v2, sv, hmx]
  refine rlaid_ok hok.1 hok.2.2 h64 (by omega) (by omega) ga gc rw' hrw hrl _ (fun h' s' => hrd h' s'.drop.drop.drop.drop.drop.drop.drop.drop.drop) s3 _ fun a9 T9 h4 hT9 ht9 s4 => ?_
  have sF4 := s4.drop.drop.drop.drop.drop.drop.drop.drop.drop.drop.drop
  have gm4 := (s4.mv 9).get
  have gs4 := (s4.mv 10).get
  obtain ⟨r3, z3, C3', T3', j3, v3⟩ := f1 _ sF4
  obtain ⟨r4, z4, C4, T4, j4, v4⟩ := f2 _ sF4
  simp only [ptrTo, pend, pend0, Pd.old, pendU, pendU0, Nat.testBit, oxh, simprocAttr, gm4, gs4, ixF (show k < O.length by omega), ixF (show k < P2.length by omega), j3, v3, j4, v4, sv]
  refine hLL _ _ ?_
  refine fg31 (fun R => ?_)
  have gr4 := (s4.mv 2).get
  have gt4 := (s4.mv 5).get
  have hst2 : splice (S.flatMap Sv.cells) (k * 1) [.slice (some ⟨a9, 0, none⟩) T9.length T9.length] = (S.set k ⟨some ⟨a9, 0, none⟩, T9.length, T9.length⟩).flatMap Sv.cells := flat_store Sv.len1 S k ⟨some ⟨a9, 0, none⟩, T9.length, T9.length⟩ (by omega)
  have hle := flat_le Sv.len1 S k (by omega)
  refine sr (fun LL hLL => ?_)
  simp only [ptrTo, oxs, simprocAttr, gr4, gt4, ixF hk', hst2, eq_true (show k * 1 + 1 ≤ (S.flatMap Sv.cells).length by omega)]
  refine hLL _ _ ?_
  obtain ⟨sv9, esv⟩ : ∃ t, t = (⟨some ⟨a9, 0, none⟩, T9.length, T9.length⟩ : Sv) := ⟨_, rfl⟩
  have s5 := (s4.mv 5).set (.cells false 1 ((S.set k sv9).flatMap Sv.cells) 70)
  rw [← esv]
  obtain ⟨h5, e5⟩ : ∃ h5, h5 = h4.set tb (.cells false 1 ((S.set k sv9).flatMap Sv.cells) 70) := ⟨_, rfl⟩
  rw [← e5] at s5 ⊢
  have s6 := (s5).sel 8 [1, 6, 2, 7, 0, 3, 4, 5]
  simp only [oxf] at s6
  have hTTl : k < TT.length := by rw [hJ.len]; exact hk'
  have s7 := wns_put (S := S) (LI := TT.map ptrs) k (by rw [hSl, List.length_map, hJ.len]) (by simpa using hTTl) sv9 (ptrs T9) (by rw [esv]; exact s6)
  have s7b := (s7).sel 3 [1, 2, 0]
  simp only [oxf] at s7b
  have s8 := star_put (l := TT.map (tabsA (g : Int))) k (by simpa using hTTl) s7b
  rw [← List.map_set (f := ptrs)] at s8
  rw [← List.map_set (f := tabsA (g : Int))] at s8
  have hJn := fun PP (hp : PlanP O[k] P2[k] g PP) h8 => hJ.next hk' hk1 hk2 (by rw [← ex]; exact hst) a9 hT9 (by rw [← erw]; exact ht9) hp h8
  rw [← esv] at hJn
  refine fg31 (fun R => ?_)
  have sF8 := s8.drop.drop.drop.drop.drop.drop.drop.drop.drop
  have gm8 := (s8.mv 7).get
  have gs8 := (s8.mv 8).get
  obtain ⟨r5, z5, C5, T5, j5, v5⟩ := f1 _ sF8
  obtain ⟨r6, z6, C6, T6, j6, v6⟩ := f2 _ sF8
  refine sd [0, 1, 2, 3, 4, 5, 6, 7, 8, 9, 10, 13, 11, 12] [0, 1, 0, 7, 15, 0, 0, 96, 224, 0, 512, 0, 2047, 4095] (by decide +kernel) (by decide +kernel) (by decide +kernel) (fun LL hLL => ?_)
  simp only [ptrTo, pend, pend0, Pd.old, pendU, pendU0, Nat.testBit, oxh, simprocAttr, gm8, gs8, ixF (show k < O.length by omega), ixF (show k < P2.length by omega), j5, v5, j6, v6, sv]
  refine plan_ok hok.1 hok.2.2 hpk.1 hpk.2.2 h64 hok.2.1 hpk.2.1 _ s8 _ fun a10 c10 PP h6 hPP s9 => ?_
  have sF9 := s9.drop.drop.drop.drop.drop.drop.drop.drop.drop.drop
  have gm9 := (s9.mv 8).get
  have gs9 := (s9.mv 9).get
  obtain ⟨r7, z7, C7, T7, j7, v7⟩ := f1 _ sF9
  obtain ⟨r8, z8, C8, T8, j8, v8⟩ := f2 _ sF9
  simp only [ptrTo, pend, pend0, Pd.old, pendU, pendU0, Nat.testBit, oxh, simprocAttr, gm9, gs9, ixF (show k < O.length by omega), ixF (show k < P2.length by omega), j7, v7, j8, v8, sv]
  refine hLL _ _ ?_
  have hJ2 := hJn PP hPP ⟨hok.2.1, hpk.2.1⟩
  have hPl : PP.length ≤ 15 := by have := hPP.few; omega
  have tl0 : tagged k sv9 (PP.take 0) = [] := rfl
  have s10 : St h0 h6 (wn Mv.cells 4 75 a10 c10 PP :: own rb (.cells false 0 [.int .i64 id, .slice qa P2.length qc, .slice ka LI.length kc, .slice (some ⟨tb, 0, none⟩) L.length L.length, .slice ma (Q ++ tagged k sv9 (PP.take 0)).length mc] 65) :: wn icell 1 3 qa qc P2 :: nest icell 1 3 25 ka kc LI :: own tb (.cells false 1 ((S.set k sv9).flatMap Sv.cells) 70) :: star (wns ptc 1 93 (S.set k sv9) ((TT.set k T9).map ptrs)) :: star ((TT.set k T9).map (tabsA g)) :: wn mvc 5 77 ma mc (Q ++ tagged k sv9 (PP.take 0)) :: own bm (.cells false 0 [.int .i64 id, .slice (some ⟨c1, d1, none⟩) O.length pc, .slice la LI.length lc, .slice ra RR.length rc, .slice ea ES.length ec] 30) :: own bs (spB g (some ⟨b3, o3, none⟩) L.length c) :: F) := by
   rw [tl0, List.append_nil]
   exact s9.sel 8 [0, 4, 5, 6, 3, 2, 1, 7]
  refine wpC_block ?_
  refine wpC_loop (fun m T h'' => ∃ (j : Nat) (ma : Option Addr) (mc : Nat) (u0 u1 u5 u6 u9 u10 u12 u13 u14 u15 u16 u17 u18 u19 u20 u21 u22 u23 u24 u25 u26 u27 : Value) (R : List Value), m + j = PP.length ∧ St h0 h'' (wn Mv.cells 4 75 a10 c10 PP :: own rb (.cells false 0 [.int .i64 id, .slice qa P2.length qc, .slice ka LI.length kc, .slice (some ⟨tb, 0, none⟩) L.length L.length, .slice ma (Q ++ tagged k sv9 (PP.take j)).length mc] 65) :: wn icell 1 3 qa qc P2 :: nest icell 1 3 25 ka kc LI :: own tb (.cells false 1 ((S.set k sv9).flatMap Sv.cells) 70) :: star (wns ptc 1 93 (S.set k sv9) ((TT.set k T9).map ptrs)) :: star ((TT.set k T9).map (tabsA g)) :: wn mvc 5 77 ma mc (Q ++ tagged k sv9 (PP.take j)) :: own bm (.cells false 0 [.int .i64 id, .slice (some ⟨c1, d1, none⟩) O.length pc, .slice la LI.length lc, .slice ra RR.length rc, .slice ea ES.length ec] 30) :: own bs (spB g (some ⟨b3, o3, none⟩) L.length c) :: F) ∧ T = u0 :: u1 :: .slice (some ⟨c2, d2, none⟩) P2.length pc2 :: .pointer (some ⟨bs, 0, none⟩) :: .pointer (some ⟨bm, 0, none⟩) :: u5 :: u6 :: .pointer (some ⟨rb, 0, none⟩) :: .int .i64 k :: u9 :: u10 :: .slice (some ⟨a9, 0, none⟩) T9.length T9.length :: u12 :: u13 :: u14 :: u15 :: u16 :: u17 :: u18 :: u19 :: u20 :: u21 :: u22 :: u23 :: u24 :: u25 :: u26 :: u27 :: .slice (some ⟨b3, o3, none⟩) L.length c :: .int .i64 L.length :: .int .i64 k :: R ∧ tget R 59 = .slice a10 PP.length c10 ∧ tget R 60 = .int .i64 PP.length ∧ tget R 61 = .int .i64 j) ?_ PP.length _ _ ⟨0, ma, mc, _, _, _, _, _, _, _, _, _, _, _, _, _, _, _, _, _, _, _, _, _, _, _, by omega, s10, rfl, by simp [tget_tput], by simp [tget_tput], by simp [tget_tput]⟩
  clear s10
  rintro m2 T h7 ⟨j, ma, mc, u0, u1, u5, u6, u9, u10, u12, u13, u14, u15, u16, u17, u18, u19, u20, u21, u22, u23, u24, u25, u26, u27, R, hmj, s10, rfl, q1, q2, q3⟩
  refine sr (fun LL hLL => ?_)
  simp only [ptrTo, oxs, simprocAttr, q1, q2, q3]
  refine hLL _ _ ?_
  refine wpC_seq ?_
  refine wpC_if ?_
  simp only [ptrTo, oxs, simprocAttr]
  refine gC_of (fun hc2 => ?_) (fun hc2 => ?_)
  ·refine wpC_skip ?_
   simp only [ptrTo, oxs, simprocAttr]
   have hj : j < PP.length := by omega
   have hne : PP ≠ [] := by rintro rfl; simp at hj
   obtain ⟨b7, o7, ro7, sz7, C7, T7, e7, p7, g7, r7, q7⟩ := (s10.rs Mv.len).resolve_left hne
   subst e7
   obtain ⟨w7, x7⟩ := Rs.row Mv.len r7 q7 j hj
   obtain ⟨y, ey⟩ : ∃ y, y = PP[j] := ⟨_, rfl⟩
   rw [← ey] at w7
   have s11 := s10.push (.cells false 0 [.int .i64 0, .int .i64 0, .int .i64 0, .int .i64 0] 75)
   have g11 := s11.get
   have s12 := s11.set (.cells false 0 y.cells 75)
   obtain ⟨h8, e8⟩ : ∃ h8, h8 = (h7.push (.cells false 0 [.int .i64 0, .int .i64 0, .int .i64 0, .int .i64 0] 75)).set h7.next (.cells false 0 y.cells 75) := ⟨_, rfl⟩
   rw [← e8] at s12
   have g12 := s12.get
   unfold Mv.cells at g12 e8
   refine wpC_seq (wpC_block ?_)
   refine sr (fun LL hLL => ?_)
   simp only [ptrTo, oxs, simprocAttr, q1, q2, q3, ixF hj, g7, w7, x7, Mv.len, g11, Mv.cells, ← e8]
   refine hLL _ _ ?_
   have gr := (s12.mv 2).get
   obtain ⟨xx, exx⟩ : ∃ x : MvX, x = (k, sv9, y) := ⟨_, rfl⟩
   have exc : mvc xx = [.int .i64 y.fr, .int .i64 y.to, .int .i64 y.lo, .int .i64 y.hi, .slice (some ⟨a9, 0, none⟩) T9.length T9.length] := by rw [exx, esv]; rfl
   have hQl := hJ2.few
   have hQl2 : (Q ++ tagged k sv9 (PP.take j)).length ≤ 200 := by
    have h1 : (tagged k sv9 (PP.take j)).length ≤ (tagged k sv9 PP).length := by simp [tagged]; omega
    rw [List.length_append] at hQl ⊢
    omega
   have s13 := s12.push (.cells false 5 (mvc xx) 77)
   obtain ⟨h9, e9⟩ : ∃ h9, h9 = h8.push (.cells false 5 (mvc xx) 77) := ⟨_, rfl⟩
   rw [← e9] at s13
   have gr9 := (s13.mv 3).get
   have gx9 := (s13.mv 1).get
   unfold Mv.cells at gx9
   obtain ⟨aE, cE, h10, y1, y2⟩ := (s12.mv 8).app1 (bytes := 56) xx mvc.len mvc.oc (by omega) (by omega)
   rw [← e9] at y1
   rw [exc] at e9
   have s14 := (y2.mv 3).set (.cells false 0 [.int .i64 id, .slice qa P2.length qc, .slice ka LI.length kc, .slice (some ⟨tb, 0, none⟩) L.length L.length, .slice aE ((Q ++ tagged k sv9 (PP.take j)).length + 1) cE] 65)
   have gr10 := (y2.mv 3).get
   have zz : aZeros [.int .i64 0, .int .i64 0, .int .i64 0, .int .i64 0, .slice none 0 0] 1 = [.int .i64 0, .int .i64 0, .int .i64 0, .int .i64 0, .slice none 0 0] := rfl
   have vg : ∀ a b c d : Int, veq 6 (.agg #[.int .i64 a, .int .i64 b, .int .i64 c, .int .i64 d]) (.agg #[.int .i64 a, .int .i64 b, .int .i64 c, .int .i64 d]) = true := fun a b c d => by simp [veq]
   refine du [some 96, some 97, some 98, some 99, some 100, some 101, some 102, some 103, some 104, some 105, some 106, some 107, none] 13 [0, 0, 2, 6, 14, 0, 0, 96, 224, 510, 1023, 2047, 4095] (by rfl) (by rfl) (by decide +kernel) (by decide +kernel) (by decide +kernel) (fun LL hLL => ?_)
   simp only [ptrTo, pend, pend0, Pd.old, pendU, pendU0, Nat.testBit, oxs, simprocAttr, gr, g12, zz, ← e9, gr9, gx9, vg, sv, y1, gr10]
   refine hLL _ _ ?_
   simp only [ptrTo, oxs, simprocAttr]
   refine rg (fun LL hLL => ?_)
   simp only [ptrTo, oxs, simprocAttr, q1, q2, q3, wsucc (show j < 9223372036854775807 by omega)]
   refine hLL _ _ ?_
   simp only [ptrTo, oxs, simprocAttr]
   have etk : Q ++ tagged k sv9 (PP.take (j + 1)) = Q ++ tagged k sv9 (PP.take j) ++ [xx] := by
    rw [List.take_succ_eq_append_getElem hj, ← ey, exx]; simp [tagged]
   rw [show (Q ++ tagged k sv9 (PP.take j)).length + 1 = (Q ++ tagged k sv9 (PP.take (j + 1))).length by rw [etk, List.length_append (bs := [xx])]; rfl] at s14 ⊢
   rw [← etk] at s14
   exact ⟨m2 - 1, by omega, j + 1, aE, cE, _, _, _, _, _, _, _, _, _, _, _, _, _, _, _, _, _, _, _, _, _, _, _, by omega, s14.sel 11 [3, 0, 4, 5, 6, 7, 8, 1, 9, 10], rfl, by simp [tget_tput, q1], by simp [tget_tput, q2], by simp [tget_tput]⟩
  ·have hjl : j = PP.length := by omega
   subst hjl
   rw [List.take_length] at s10
   refine wpC_exit ?_
   simp only [ptrTo, oxs, simprocAttr]
   refine fg31 (fun R => ?_)
   refine rg (fun LL hLL => ?_)
   simp only [ptrTo, oxs, simprocAttr, wsucc (show k < 9223372036854775807 by omega)]
   refine hLL _ _ ?_
   simp only [ptrTo, oxs, simprocAttr]
   exact ⟨m - 1, by omega, k + 1, S.set k sv9, TT.set k T9, Q ++ tagged k sv9 PP, ma, mc, _, _, _, _, _, _, _, _, _, _, _, _, _, _, _, _, _, _, _, _, _, _, _, _, _, by omega, hJ2, s10.drop, rfl⟩
 ·have hkl : k = L.length := by omega
  subst hkl
  refine wpC_exit ?_
  simp only [ptrTo, oxs, simprocAttr]
  refine fg31 (fun R => ?_)
  refine sr (fun LL hLL => ?_)
  simp only [ptrTo, oxs, simprocAttr]
  refine hLL _ _ ?_
  refine wpC_ret (out_ret ?_)
  simp only [ptrTo, oxs, simprocAttr]
  rw [← hSl] at s1
  exact hk rb tb S TT Q qa qc ka kc ma mc _ hJ (s1.sel 9 [0, 1, 2, 3, 4, 5, 6])
end Go.Proofs

namespace Go.Proofs
open Go Go.Ox
set_option maxRecDepth 100000
set_option maxHeartbeats 8000000
theorem ptcCell {h0 h : AHeap} {F : List Asn} {a : Option Addr} {c : Nat} {T : List (Nat × Tb)} (s : St h0 h (wn ptc 1 93 a c (ptrs T) :: F)) (i : Nat) (hi : i < T.length) : ∃ b, a = some ⟨b, 0, none⟩ ∧ ∀ (F : List Asn) h, St h0 h (wn ptc 1 93 a c (ptrs T) :: F) → ∃ C E, h.get b = some (.cells false 1 C E) ∧ C[i * 1]? = some (.pointer (some ⟨T[i].1, 0, none⟩)) := by
 have hne : ptrs T ≠ [] := fun e => by have := ptrs_len T; rw [e] at this; simp at this; omega
 obtain ⟨b, rfl, _, _⟩ := s.wn_out (.inl hne)
 refine ⟨b, rfl, fun F h s => ?_⟩
 obtain ⟨b', e, _, s1⟩ := s.wn_out (.inl hne)
 cases e
 refine ⟨_, _, s1.get, ?_⟩
 rw [flat_get' ptc.len (ptrs T) i (by rw [ptrs_len]; exact hi) (by omega), ptrs_at T i hi]; rfl
theorem do_ok {h0 : AHeap} {F : List Asn} {g : Nat} {T : List (Nat × Tb)} {m : Mv} {A B : Nat × Tb} {fr to : Nat} (ef : m.fr = (fr : Int)) (et : m.to = (to : Int)) (hf : fr < T.length) (ht : to < T.length) (hne : fr ≠ to) (eA : A = T[fr]) (eB : B = T[to]) (okA : TbOk A.2) (hA : A.2.length < 1000000)
  (a : Option Addr) (c : Nat) (h : AHeap) (s : St h0 h (wn ptc 1 93 a c (ptrs T) :: tabsA g T :: F)) (K : Value → AHeap → Prop) (hk : ∀ h', St h0 h' (wn ptc 1 93 a c (ptrs T) :: tabsA g (mvT g T m A B) :: F) → K (.tuple #[]) h') :
  wpF Tryz.prog (.fn 52) [.agg #[.int .i64 m.fr, .int .i64 m.to, .int .i64 m.lo, .int .i64 m.hi, .slice a T.length c]] h K := by
 refine wpF_fun 24 [] Tryz.func52 rfl rfl rfl rfl ?_
 have s1 := s.push (.cells false 0 [.int .i64 m.fr, .int .i64 m.to, .int .i64 m.lo, .int .i64 m.hi, .slice a T.length c] 77)
 obtain ⟨h1, e1⟩ : ∃ h1, h1 = h.push (.cells false 0 [.int .i64 m.fr, .int .i64 m.to, .int .i64 m.lo, .int .i64 m.hi, .slice a T.length c] 77) := ⟨_, rfl⟩
 obtain ⟨bx, ebx⟩ : ∃ b, b = h.next := ⟨_, rfl⟩
 rw [← e1, ← ebx] at s1
 refine sr (fun LL hLL => ?_)
 simp only [ptrTo, oxs, simprocAttr, ← e1, ← ebx]
 refine hLL _ _ ?_
 have gx := s1.get
 have sv : ∀ (a : Option Addr) (m n : Nat), veq 6 (.slice a m n) (.slice a m n) = true := by intro a m n; simp [veq]
 obtain ⟨b, rfl, fp⟩ := ptcCell (s1.mv 1) fr hf
 obtain ⟨b', eb', tp⟩ := ptcCell (s1.mv 1) to ht
 cases eb'
 obtain ⟨C1, E1, g1, v1⟩ := fp _ _ (s1.mv 1)
 obtain ⟨C2, E2, g2, v2⟩ := tp _ _ (s1.mv 1)
 rw [g1] at g2
 cases g2
 rw [← eA] at v1
 rw [← eB] at v2
 refine du [some 2, some 3, some 4, some 5, some 6, some 7, some 8, some 9, some 10, some 11, some 12, some 13, some 14, some 15, some 16, some 17, some 18, some 19, some 20, some 21, some 22, some 23] 22 [0, 1, 0, 4, 12, 31, 63, 0, 128, 0, 512, 1536, 3968, 8064, 0, 16384, 49152, 0, 131072, 393216, 1048448, 2097151] (by rfl) (by rfl) (by decide +kernel) (by decide +kernel) (by decide +kernel) (fun LL hLL => ?_)
 simp only [ptrTo, pend, pend0, Pd.old, pendU, pendU0, Nat.testBit, oxh, simprocAttr, gx, ef, et, ixF hf, ixF ht, g1, v1, v2, sv]
 have s2 := tabs_pick (s1.mv 2) fr hf
 rw [← eA] at s2
 refine cut_ok tbX m.lo m.hi okA (by omega) _ s2 _ fun ar cr h2 s3 => ?_
 have s3b := (s3).sel 3 [1, 2, 0]
 simp only [oxf] at s3b
 obtain ⟨L, eL⟩ : ∃ L, L = keysIn g m.lo m.hi A.2 := ⟨_, rfl⟩
 rw [← eL] at s3b ⊢
 have s4 := tabs_unpick fr hf _ _ s3b
 have gx4 := (s4.mv 2).get
 obtain ⟨C3, E3, g3, v3⟩ := fp _ _ (s4.mv 3)
 obtain ⟨C4, E4, g4, v4⟩ := tp _ _ (s4.mv 3)
 rw [g3] at g4
 cases g4
 rw [← eA] at v3
 rw [← eB] at v4
 have hLl : L.length ≤ A.2.length := by rw [eL]; exact keysIn_len g m.lo m.hi A.2
 have hrl : L.length = (rowK A.2 L).length := by simp [rowK]
 obtain ⟨T1, eT1⟩ : ∃ T1, T1 = T.set fr (A.1, tcut A.2 L) := ⟨_, rfl⟩
 rw [← eT1] at s4
 have ht1 : to < T1.length := by rw [eT1, List.length_set]; exact ht
 have eB1 : T1[to] = B := by subst eT1; rw [List.getElem_set_ne hne]; exact eB.symm
 have s5 := tabs_pick s4 to ht1
 rw [eB1] at s5
 simp only [ptrTo, pend, pend0, Pd.old, pendU, pendU0, Nat.testBit, oxh, simprocAttr, gx4, g3, v3, v4, ef, et, ixF hf, ixF ht, sv]
 rw [hrl]
 refine lay_ok tbX ar cr (rowK A.2 L) _ s5 (fun h s => (s.mv 1).rs rcell.len) (by omega) _ fun h3 s6 => ?_
 have s7 := tabs_unpick to ht1 _ _ s6
 have gx7 := (s7.mv 2).get
 obtain ⟨C5, E5, g5, v5⟩ := fp _ _ (s7.mv 3)
 obtain ⟨C6, E6, g6, v6⟩ := tp _ _ (s7.mv 3)
 rw [g5] at g6
 cases g6
 rw [← eA] at v5
 rw [← eB] at v6
 simp only [ptrTo, pend, pend0, Pd.old, pendU, pendU0, Nat.testBit, oxh, simprocAttr, gx7, g5, v5, v6, ef, et, ixF hf, ixF ht, sv]
 refine hLL _ _ ?_
 refine out_normal ?_
 simp only [ptrTo, oxs, simprocAttr]
 have s8 := (s7).sel 4 [3, 0]
 simp only [oxf] at s8
 have em : mvT g T m A B = T1.set to (B.1, tlay B.2 (rowK A.2 L)) := by
  unfold mvT; rw [ef, et, Int.toNat_natCast, Int.toNat_natCast, eT1, eL]
 rw [← em] at s8
 exact hk _ s8
end Go.Proofs

namespace Go.Proofs
open Go Go.Ox
set_option maxRecDepth 100000
set_option maxHeartbeats 4000000
structure RunK (g : Int) (L : List OpX) (P : List Int) (RR : List (List Rw)) (S : List Sv) (TT : List (List (Nat × Tb))) (Q : List MvX) : Prop where
 len : TT.length = L.length
 slen : S.map Sv.len = (TT.map ptrs).map List.length
 at' : ∀ x ∈ Q, x.1 < L.length ∧ S[x.1]? = some x.2.1
 ok : ∀ j (h1 : j < TT.length) (h2 : j < L.length) (h3 : j < P.length), stf L[j] = true → OpOk g P[j] (tlay [] (RR[j]?.getD [])) TT[j] (movesOf j Q)
 no : ∀ j (h1 : j < TT.length) (h2 : j < L.length), stf L[j] = false → TT[j] = [] ∧ movesOf j Q = []
theorem RunJ.toK {g : Int} {L : List OpX} {O P : List Int} {RR : List (List Rw)} {S : List Sv} {TT : List (List (Nat × Tb))} {Q : List MvX} (r : RunJ g L O P RR L.length S TT Q) : RunK g L P RR S TT Q :=
 ⟨r.len, r.slen, r.at', fun j h1 h2 h3 h => r.ok j h1 h2 h3 h2 h, fun j h1 h2 h => r.no j h1 h2 (.inr h)⟩
theorem tlay_few (M : Tb) : ∀ l : List Rw, (tlay M l).length ≤ M.length + l.length := fun l => by
 induction l generalizing M with
 | nil => simp [tlay]
 | cons r l ih =>
  have h1 := ih (tpt M r.1 r.2)
  have h2 := tpt_len M r.1 r.2
  have e : tlay M (r :: l) = tlay (tpt M r.1 r.2) l := rfl
  rw [e]; simp; omega
theorem mvT_ptrs (g : Int) (T : List (Nat × Tb)) (m : Mv) (A B : Nat × Tb) (hA : ∃ h : m.fr.toNat < T.length, A = T[m.fr.toNat]) (hB : ∃ h : m.to.toNat < T.length, B = T[m.to.toNat]) : ptrs (mvT g T m A B) = ptrs T := by
 obtain ⟨a1, rfl⟩ := hA
 obtain ⟨b1, rfl⟩ := hB
 refine List.ext_getElem (by simp [ptrs, mvT]) fun i h1 h2 => ?_
 simp only [ptrs, mvT, List.getElem_map, List.getElem_set]
 split
 ·rename_i h; subst h; rfl
 ·split
  ·rename_i h; subst h; rfl
  ·rfl
/-- What the next move finds. -/
structure HeadOk (g : Int) (L : List OpX) (P : List Int) (RR : List (List Rw)) (S : List Sv) (TT : List (List (Nat × Tb))) (x : MvX) (Q : List MvX) : Prop where
 j1 : x.1 < TT.length
 j2 : x.1 < S.length
 sv : S[x.1] = x.2.1
 sl : x.2.1.len = TT[x.1].length
 go : ∃ (fr to : Nat) (A B : Nat × Tb) (hf : fr < TT[x.1].length) (ht : to < TT[x.1].length), x.2.2.fr = (fr : Int) ∧ x.2.2.to = (to : Int) ∧ fr ≠ to ∧ A = TT[x.1][fr] ∧ B = TT[x.1][to] ∧ TbOk A.2 ∧ A.2.length ≤ 2000 ∧
  ptrs (mvT g TT[x.1] x.2.2 A B) = ptrs TT[x.1] ∧ RunK g L P RR S (TT.set x.1 (mvT g TT[x.1] x.2.2 A B)) Q
theorem RunK.head {g : Int} {L : List OpX} {P : List Int} {RR : List (List Rw)} {S : List Sv} {TT : List (List (Nat × Tb))} {x : MvX} {Q : List MvX} (r : RunK g L P RR S TT (x :: Q)) (hP : P.length = L.length) (hR : ∀ l ∈ RR, l.length ≤ 2000) (hw : ∀ l ∈ RR, ∀ r ∈ l, (Lit.int .i64 r.1).wf = true) : HeadOk g L P RR S TT x Q := by
 obtain ⟨hx1, hx2⟩ := r.at' x (by simp)
 have j1 : x.1 < TT.length := by rw [r.len]; exact hx1
 have hSl : S.length = TT.length := by simpa using congrArg List.length r.slen
 have j2 : x.1 < S.length := by omega
 have sv : S[x.1] = x.2.1 := by rw [List.getElem?_eq_getElem j2] at hx2; exact Option.some.inj hx2
 have sl : x.2.1.len = TT[x.1].length := by
  have := lens_at r.slen x.1 j2 (by simpa using j1)
  rw [sv] at this
  simpa [ptrs] using this
 have hm : movesOf x.1 (x :: Q) = x.2.2 :: movesOf x.1 Q := by simp [movesOf]
 have hst : stf L[x.1] = true := by
  cases h : stf L[x.1] with
  | true => rfl
  | false => have := (r.no x.1 j1 hx1 h).2; rw [hm] at this; cases this
 obtain ⟨hp, hp8, f, t, k⟩ := r.ok x.1 j1 hx1 (by omega) hst
 rw [hm] at k
 obtain ⟨k1, k2⟩ := k.cons_inv
 have hfr : x.2.2.fr.toNat < TT[x.1].length := by have := k1.h6; omega
 have hto : x.2.2.to.toNat < TT[x.1].length := by have := k1.h7; omega
 have hrows : (RR[x.1]?.getD []).length ≤ 2000 ∧ ∀ r ∈ RR[x.1]?.getD [], (Lit.int .i64 r.1).wf = true := by
  by_cases h : x.1 < RR.length
  ·rw [List.getElem?_eq_getElem h]; exact ⟨hR _ (List.getElem_mem h), hw _ (List.getElem_mem h)⟩
  ·rw [List.getElem?_eq_none (by omega)]; simp
 have okM : TbOk (tlay [] (RR[x.1]?.getD [])) := TbOk.nil.lay hrows.2
 have hlen := t.len okM _ hfr
 have hlay := tlay_few [] (RR[x.1]?.getD [])
 have hptr := mvT_ptrs g TT[x.1] x.2.2 TT[x.1][x.2.2.fr.toNat] TT[x.1][x.2.2.to.toNat] ⟨hfr, rfl⟩ ⟨hto, rfl⟩
 have hmvl : (mvT g TT[x.1] x.2.2 TT[x.1][x.2.2.fr.toNat] TT[x.1][x.2.2.to.toNat]).length = TT[x.1].length := by simp [mvT]
 refine ⟨j1, j2, sv, sl, x.2.2.fr.toNat, x.2.2.to.toNat, TT[x.1][x.2.2.fr.toNat], TT[x.1][x.2.2.to.toNat], hfr, hto, by have := k1.h6; omega, by have := k1.h7; omega, fun e => k1.h5 (by have := k1.h6; have := k1.h7; omega), rfl, rfl, (t _ hfr).1, by simp at hlay; omega, hptr, ?_⟩
 refine ⟨by rw [List.length_set]; exact r.len, ?_, fun y hy => r.at' y (by simp [hy]), fun j h1 h2 h3 hs => ?_, fun j h1 h2 hs => ?_⟩
 ·rw [r.slen]
  refine List.ext_getElem (by simp) fun i h1 h2 => ?_
  simp only [List.getElem_map, List.getElem_set]
  split
  ·rename_i h; subst h; rw [hptr]
  ·rfl
 ·by_cases e : x.1 = j
  ·subst e
   simp only [List.getElem_set_self]
   exact ⟨by omega, by omega, _, t.move k1 (by omega) ⟨hfr, rfl⟩ ⟨hto, rfl⟩, by rw [hmvl]; exact k2⟩
  ·simp only [List.getElem_set_ne e]
   have := r.ok j (by rw [List.length_set] at h1; exact h1) h2 h3 hs
   have em : movesOf j (x :: Q) = movesOf j Q := by simp [movesOf, e]
   rwa [em] at this
 ·have e : x.1 ≠ j := by rintro rfl; rw [hst] at hs; cases hs
  simp only [List.getElem_set_ne e]
  have := r.no j (by rw [List.length_set] at h1; exact h1) h2 hs
  have em : movesOf j (x :: Q) = movesOf j Q := by simp [movesOf, e]
  rwa [em] at this
/-- The moves that are left. -/
def mvV (ma : Option Addr) (mc : Nat) (Q : List MvX) (k : Nat) : Value := .slice (ma.map fun a => ⟨a.block, a.off + k * 5, a.spot⟩) (Q.length - k) (mc - k)
theorem mvV_zero (ma : Option Addr) (mc : Nat) (Q : List MvX) : mvV ma mc Q 0 = .slice ma Q.length mc := by cases ma <;> simp [mvV]
theorem run_pick {h0 h : AHeap} {F : List Asn} {g : Int} {S : List Sv} {TT : List (List (Nat × Tb))} (hS : S.length = TT.length) (s : St h0 h (star (wns ptc 1 93 S (TT.map ptrs)) :: star (TT.map (tabsA g)) :: F)) (j : Nat) (h1 : j < TT.length) (h2 : j < S.length) :
  St h0 h (wn ptc 1 93 S[j].a S[j].cap (ptrs TT[j]) :: tabsA g TT[j] :: star ((wns ptc 1 93 S (TT.map ptrs)).eraseIdx j) :: star ((TT.map (tabsA g)).eraseIdx j) :: F) := by
 have hw : j < (wns ptc 1 93 S (TT.map ptrs)).length := by rw [wns_len (by simpa using hS)]; simpa using h1
 have s1 := s.pick j hw
 rw [wns_at j h2 (by simpa using h1) hw, List.getElem_map] at s1
 have s2 := (s1.mv 2).pick j (by simpa using h1)
 rw [List.getElem_map] at s2
 have s3 := (s2).sel 4 [2, 0, 3, 1]
 simp only [oxf] at s3
 exact s3
theorem run_unpick {h0 h : AHeap} {F : List Asn} {g : Int} {S : List Sv} {TT : List (List (Nat × Tb))} (hS : S.length = TT.length) (j : Nat) (h1 : j < TT.length) (h2 : j < S.length) (T : List (Nat × Tb)) (hT : ptrs T = ptrs TT[j])
  (s : St h0 h (wn ptc 1 93 S[j].a S[j].cap (ptrs TT[j]) :: tabsA g T :: star ((wns ptc 1 93 S (TT.map ptrs)).eraseIdx j) :: star ((TT.map (tabsA g)).eraseIdx j) :: F)) : St h0 h (star (wns ptc 1 93 S ((TT.set j T).map ptrs)) :: star ((TT.set j T).map (tabsA g)) :: F) := by
 have hw : j < (wns ptc 1 93 S (TT.map ptrs)).length := by rw [wns_len (by simpa using hS)]; simpa using h1
 have s1 := (s).sel 4 [0, 2, 1, 3]
 simp only [oxf] at s1
 have s2 := s1.unpick j hw
 have e1 : (wns ptc 1 93 S (TT.map ptrs)).set j (wn ptc 1 93 S[j].a S[j].cap (ptrs TT[j])) = wns ptc 1 93 S ((TT.set j T).map ptrs) := by
  have e2 : wn ptc 1 93 S[j].a S[j].cap (ptrs TT[j]) = (wns ptc 1 93 S (TT.map ptrs))[j] := by rw [wns_at j h2 (by simpa using h1) hw, List.getElem_map]
  rw [e2, List.set_getElem_self, List.map_set, hT]
  congr 1
  refine (List.ext_getElem (by simp) fun i a b => ?_)
  simp only [List.getElem_set, List.getElem_map]
  split
  ·rename_i h; subst h; rfl
  ·rfl
 rw [e1] at s2
 have s3 := (s2.sel 3 [1, 2, 0]).unpick j (by simpa using h1)
 rw [← List.map_set] at s3
 exact s3.mv 1
end Go.Proofs

namespace Go.Proofs
open Go Go.Ox
set_option maxRecDepth 100000
set_option maxHeartbeats 8000000
abbrev runS (rb tb : Nat) (g id : Int) (P : List Int) (LI : List (List Int)) (S : List Sv) (TT : List (List (Nat × Tb))) (pa : Option Addr) (pc : Nat) (la : Option Addr) (lc : Nat) (ma : Option Addr) (mc : Nat) (Q : List MvX) (k : Nat) (F : List Asn) : List Asn :=
 own rb (.cells false 0 [.int .i64 id, .slice pa P.length pc, .slice la LI.length lc, .slice (some ⟨tb, 0, none⟩) S.length S.length, mvV ma mc Q k] 65) :: wn icell 1 3 pa pc P :: nest icell 1 3 25 la lc LI :: own tb (.cells false 1 (S.flatMap Sv.cells) 70) :: star (wns ptc 1 93 S (TT.map ptrs)) :: star (TT.map (tabsA g)) :: wn mvc 5 77 ma mc Q :: F
section
variable {h0 : AHeap} {F : List Asn} {rb tb : Nat} {g : Nat} {id : Int} {P : List Int} {LI : List (List Int)} {S : List Sv} {TT : List (List (Nat × Tb))} {pa : Option Addr} {pc : Nat} {la : Option Addr} {lc : Nat} {ma : Option Addr} {mc : Nat} {Q : List MvX} {k : Nat}
theorem left_ok (h : AHeap) (s : St h0 h (runS rb tb g id P LI S TT pa pc la lc ma mc Q k F)) (K : Value → AHeap → Prop) (hk : K (.int .i64 ((Q.length - k : Nat) : Int)) h) : wpF Tryz.prog (.fn 17) [.pointer (some ⟨rb, 0, none⟩)] h K := by
 have gr := s.get
 unfold mvV at gr
 refine wpF_fun 8 [.tmp 2] Tryz.func17 rfl rfl rfl rfl ?_
 refine sr (fun LL hLL => ?_)
 simp only [ptrTo, oxs, simprocAttr]
 refine hLL _ _ ?_
 refine sr (fun LL hLL => ?_)
 simp only [ptrTo, oxs, simprocAttr, gr]
 refine hLL _ _ ?_
 refine wpC_ret (out_ret ?_)
 simp only [ptrTo, oxs, simprocAttr]
 exact hk
theorem step_no (h : AHeap) (s : St h0 h (runS rb tb g id P LI S TT pa pc la lc ma mc Q k F)) (hd : Q.length ≤ k) (K : Value → AHeap → Prop) (hk : K (.bool false) h) : wpF Tryz.prog (.fn 19) [.pointer (some ⟨rb, 0, none⟩)] h K := by
 have gr := s.get
 unfold mvV at gr
 rw [show Q.length - k = 0 by omega] at gr
 refine wpF_fun 24 [.tmp 2] Tryz.func19 rfl rfl rfl rfl ?_
 refine sr (fun LL hLL => ?_)
 simp only [ptrTo, oxs, simprocAttr]
 refine hLL _ _ ?_
 refine wpC_seq (sr fun LL hLL => ?_)
 simp only [ptrTo, oxs, simprocAttr, gr]
 refine hLL _ _ ?_
 refine wpC_if ?_
 simp only [ptrTo, oxs, simprocAttr]
 refine sr (fun LL hLL => ?_)
 simp only [ptrTo, oxs, simprocAttr]
 refine hLL _ _ ?_
 refine wpC_ret (out_ret ?_)
 simp only [ptrTo, oxs, simprocAttr]
 exact hk
theorem step_ok {L : List OpX} {RR : List (List Rw)} (hP : P.length = L.length) (hR : ∀ l ∈ RR, l.length ≤ 2000) (hw : ∀ l ∈ RR, ∀ r ∈ l, (Lit.int .i64 r.1).wf = true) (r : RunK g L P RR S TT (Q.drop k)) (hkl : k < Q.length) (hQ : Q.length ≤ 200) (h : AHeap) (s : St h0 h (runS rb tb g id P LI S TT pa pc la lc ma mc Q k F)) (K : Value → AHeap → Prop)
  (hk : ∀ TT' h', RunK g L P RR S TT' (Q.drop (k + 1)) → St h0 h' (runS rb tb g id P LI S TT' pa pc la lc ma mc Q (k + 1) F) → K (.bool true) h') : wpF Tryz.prog (.fn 19) [.pointer (some ⟨rb, 0, none⟩)] h K := by
 rw [List.drop_eq_getElem_cons hkl] at r
 obtain ⟨x, ex⟩ : ∃ x, x = Q[k] := ⟨_, rfl⟩
 rw [← ex] at r
 obtain ⟨j1, j2, sv, sl, fr, to, A, B, hf, ht, ef, et, hne, eA, eB, okA, hA, hpt, rK⟩ := r.head hP hR hw
 have hneQ : Q ≠ [] := by rintro rfl; simp at hkl
 have hSl : S.length = TT.length := by simpa using congrArg List.length r.slen
 obtain ⟨mb, ema, hmc, s1⟩ := (s.mv 6).wn_out (.inl hneQ)
 subst ema
 have gmb := s1.get
 have gr := (s1.mv 1).get
 unfold mvV at gr
 simp only [Option.map_some, Nat.zero_add] at gr
 have hrow := flat_row mvc.len Q k hkl
 rw [← ex] at hrow
 have hle := flat_le mvc.len Q k hkl
 refine wpF_fun 24 [.tmp 2] Tryz.func19 rfl rfl rfl rfl ?_
 refine sr (fun LL hLL => ?_)
 simp only [ptrTo, oxs, simprocAttr]
 refine hLL _ _ ?_
 refine wpC_seq (sr fun LL hLL => ?_)
 simp only [ptrTo, oxs, simprocAttr, gr, eq_false (show ¬ ((Q.length - k : Nat) : Int) = 0 by omega)]
 refine hLL _ _ ?_
 refine wpC_if ?_
 simp only [ptrTo, oxs, simprocAttr]
 refine wpC_skip ?_
 simp only [ptrTo, oxs, simprocAttr]
 refine fg3 (fun R => ?_)
 have exc : mvc x = [.int .i64 x.2.2.fr, .int .i64 x.2.2.to, .int .i64 x.2.2.lo, .int .i64 x.2.2.hi, .slice S[x.1].a TT[x.1].length S[x.1].cap] := by rw [sv, ← sl]; rfl
 rw [exc] at hrow
 have i0 : (0 ≤ (0 : Int)) = True ∧ ((0 : Int) < ((Q.length - k : Nat) : Int)) = True ∧ (0 : Int).toNat = 0 := ⟨by simp, eq_true (by omega), rfl⟩
 refine sr (fun LL hLL => ?_)
 simp only [ptrTo, pend, pend0, Pd.old, pendU, pendU0, Nat.testBit, oxh, simprocAttr, gr, gmb, i0, Nat.zero_mul, Nat.add_zero, hrow, eq_true (show k * 5 + 5 ≤ (Q.flatMap mvc).length by omega)]
 have t1 := (s1).sel 7 [5, 6, 0, 1, 2, 3, 4]
 simp only [oxf] at t1
 have s2 := run_pick hSl t1 x.1 j1 j2
 refine do_ok ef et hf ht hne eA eB okA (by omega) _ _ _ s2 _ fun h3 s3 => ?_
 have s4 := run_unpick hSl x.1 j1 j2 _ hpt s3
 obtain ⟨T', eT'⟩ : ∃ T', T' = mvT g TT[x.1] x.2.2 A B := ⟨_, rfl⟩
 rw [← eT'] at s4 rK
 have gr4 := (s4.mv 3).get
 have gmb4 := (s4.mv 2).get
 unfold mvV at gr4
 simp only [Option.map_some, Nat.zero_add] at gr4
 simp only [ptrTo, pend, pend0, Pd.old, pendU, pendU0, Nat.testBit, oxh, simprocAttr]
 refine hLL _ _ ?_
 refine fg3 (fun R => ?_)
 have hcap : Q.length - k ≤ capN (mc - k) := by
  have hb : (1180591620717411303424 : Nat) = big := rfl
  unfold capN
  rcases hmc with e | e <;> split <;> omega
 have hsl : aSlice Tryz.prog h3 63 (.slice (some ⟨mb, k * 5, none⟩) (Q.length - k) (mc - k)) (some (.int .i64 1)) none none = some (.slice (some ⟨mb, k * 5 + 1 * 5, none⟩) (Q.length - k - 1) (mc - k - 1)) :=
  sl_from (i := 1) (P := Tryz.prog) Tryz.underlying63 (by rfl) (by rfl) (by omega) hcap gmb4 (.inl rfl)
 have hmv : (Value.slice (some ⟨mb, k * 5 + 1 * 5, none⟩) (Q.length - k - 1) (mc - k - 1)) = mvV (some ⟨mb, 0, none⟩) mc Q (k + 1) := by
  unfold mvV
  simp only [Option.map_some, Nat.zero_add, Nat.add_mul]
  rfl
 have s5 := (s4.mv 3).set (.cells false 0 [.int .i64 id, .slice pa P.length pc, .slice la LI.length lc, .slice (some ⟨tb, 0, none⟩) S.length S.length, mvV (some ⟨mb, 0, none⟩) mc Q (k + 1)] 65)
 refine sr (fun LL hLL => ?_)
 simp only [ptrTo, oxs, simprocAttr, gr4, hsl]
 refine hLL _ _ ?_
 rw [show (Value.slice (some ⟨mb, k * 5 + 5, none⟩) (Q.length - k - 1) (mc - k - 1)) = mvV (some ⟨mb, 0, none⟩) mc Q (k + 1) from hmv]
 refine sr (fun LL hLL => ?_)
 simp only [ptrTo, oxs, simprocAttr]
 refine hLL _ _ ?_
 refine wpC_ret (out_ret ?_)
 simp only [ptrTo, oxs, simprocAttr]
 have s6 := (s5).sel 7 [3, 0, 4, 5, 6, 1, 2]
 simp only [oxf] at s6
 have s7 := s6.wn_in hmc
 exact hk _ _ rK (s7.sel 7 [1, 2, 3, 4, 5, 6, 0])
end
end Go.Proofs

