/-
  A part of the proof: what functions of the program do on an abstract heap. CONDITIONS: none.
-/
import Derived.Test.YtcnlilnkbhefbaaGreatOxZMe
import Derived.Test.YtcnlilnkbhefbaaGreatOxZMd
set_option linter.unusedSimpArgs false
set_option linter.unusedVariables false
namespace Go.Proofs
open Go Go.Ox
set_option maxRecDepth 100000
set_option maxHeartbeats 4000000
theorem markInts_ok {h0 : AHeap} {F : List Asn} (x : Int) (h : AHeap) (s : St h0 h F) (K : Value → AHeap → Prop) (hk : ∀ (v : Int) h', St h0 h' F → K (.int .i64 v) h') : wpF Tryz.prog (.fn 45) [.int .i64 x] h K := by
 refine wpF_fun 6 [.tmp 2] Tryz.func45 rfl rfl rfl rfl ?_
 refine sr (fun LL hLL => ?_)
 simp only [ptrTo, oxs, simprocAttr]
 refine hLL _ _ ?_
 refine sr (fun LL hLL => ?_)
 simp only [ptrTo, oxs, simprocAttr]
 refine hLL _ _ ?_
 refine wpC_ret (out_ret ?_)
 simp only [ptrTo, oxs, simprocAttr]
 exact hk _ _ s
theorem markRows_ok {h0 : AHeap} {F : List Asn} (x : Int) (h : AHeap) (s : St h0 h F) (K : Value → AHeap → Prop) (hk : ∀ (v : Rw) h', St h0 h' F → K (.agg (rcell v).toArray) h') : wpF Tryz.prog (.fn 72) [.int .i64 x] h K := by
 refine wpF_fun 7 [.cell 2 52] Tryz.func72 rfl rfl rfl rfl ?_
 have s1 := s.push (.cells false 0 [.int .i64 0, .int .i64 0, .int .i64 0] 52)
 have g1 := s1.get
 have s2 := s1.set (.cells false 0 [.int .i64 (IntKind.i64.wrap (77 + x)), .int .i64 5, .int .i64 3] 52)
 refine sr (fun LL hLL => ?_)
 simp only [ptrTo, oxs, simprocAttr]
 refine hLL _ _ ?_
 refine sr (fun LL hLL => ?_)
 simp only [ptrTo, oxs, simprocAttr, g1]
 refine hLL _ _ ?_
 refine wpC_ret (out_ret ?_)
 simp only [ptrTo, oxs, simprocAttr]
 simp only [s2.get]
 exact hk (IntKind.i64.wrap (77 + x), (5, 3)) _ s2.drop
theorem markRecs_ok {h0 : AHeap} {F : List Asn} (x : Int) (h : AHeap) (s : St h0 h F) (K : Value → AHeap → Prop) (hk : ∀ (v : Rc2) h', St h0 h' F → K (.agg (r2cell v).toArray) h') : wpF Tryz.prog (.fn 86) [.int .i64 x] h K := by
 refine wpF_fun 6 [.cell 2 130] Tryz.func86 rfl rfl rfl rfl ?_
 have s1 := s.push (.cells false 0 [.int .i64 0, .int .i64 0] 130)
 have g1 := s1.get
 have s2 := s1.set (.cells false 0 [.int .i64 (IntKind.i64.wrap (70 + x)), .int .i64 (-9)] 130)
 refine sr (fun LL hLL => ?_)
 simp only [ptrTo, oxs, simprocAttr]
 refine hLL _ _ ?_
 refine sr (fun LL hLL => ?_)
 simp only [ptrTo, oxs, simprocAttr, g1]
 refine hLL _ _ ?_
 refine wpC_ret (out_ret ?_)
 simp only [ptrTo, oxs, simprocAttr]
 simp only [s2.get]
 exact hk (IntKind.i64.wrap (70 + x), -9) _ s2.drop
/-- One of many lists, to write on. -/
theorem nest_pick {α : Type} {f : α → List Value} {k : Nat} {e E : TypeId} {h0 h : AHeap} {F : List Asn} {a : Option Addr} {c : Nat} {LL : List (List α)} (hf : ∀ x, (f x).length = k) (s : St h0 h (nest f k e E a c LL :: F)) (i : Nat) (hi : i < LL.length) :
  ∃ v1 v2 b o ro sz C T, a = some ⟨b, o, none⟩ ∧ h.get b = some (.cells ro sz C T) ∧ C[o + i * 1]? = some (.slice v1 LL[i].length v2) ∧ ∃ G, St h0 h (wn f k e v1 v2 LL[i] :: G) ∧ ∀ M, M.length = LL[i].length → ∀ h', St h0 h' (wn f k e v1 v2 M :: G) → St h0 h' (nest f k e E a c (LL.set i M) :: F) := by
 obtain ⟨S, hS, s1⟩ := s.nest_out
 have hl : S.length = LL.length := lens hS
 have hi' : i < S.length := by omega
 obtain ⟨b, o, ro, sz, C, T, e1, p, g, q, w⟩ := (s1.rs Sv.len1).resolve_left (by rintro rfl; simp at hi')
 have v : C[o + i * 1]? = some (.slice S[i].a S[i].len S[i].cap) := Rs.cell Sv.len1 q w i hi' 0 (by omega)
 rw [lens_at hS i hi' hi] at v
 have hw : i < (wns f k e S LL).length := by rw [wns_len hl]; exact hi
 have s2 := (s1.mv 1).pick i hw
 rw [wns_at i hi' hi hw] at s2
 refine ⟨S[i].a, S[i].cap, b, o, ro, sz, C, T, e1, g, v, _, s2, fun M hM h' s3 => ?_⟩
 have s4 := s3.unpick i hw
 have e2 : (wns f k e S LL).set i (wn f k e S[i].a S[i].cap M) = wns f k e S (LL.set i M) := by
  have := wns_set (f := f) (k := k) (e := e) (s := S[i]) (L := M) S LL i
  rw [List.set_getElem_self] at this
  exact this.symm
 rw [e2] at s4
 refine St.nest_in ?_ (s4.mv 1)
 rw [hS]
 refine List.ext_getElem (by simp) fun j h1 h2 => ?_
 rw [List.getElem_map, List.getElem_map, List.getElem_set]
 split
 ·rename_i h; subst h; rw [hM]
 ·rfl
theorem spoilInts_ok {h0 : AHeap} {F : List Asn} (L : List Int) (a : Option Addr) (c : Nat) (h : AHeap) (s : St h0 h (wn icell 1 3 a c L :: F)) (hl : L.length < 1000000) (K : Value → AHeap → Prop) (hk : ∀ (L' : List Int) h', L'.length = L.length → St h0 h' (wn icell 1 3 a c L' :: F) → K (.tuple #[]) h') :
  wpF Tryz.prog (.fn 13) [.slice a L.length c] h K := by
 refine wpF_fun 15 [] Tryz.func13 rfl rfl rfl rfl ?_
 refine sr (fun LL hLL => ?_)
 simp only [ptrTo, oxs, simprocAttr]
 refine hLL _ _ ?_
 refine fg3 (fun R => ?_)
 refine wpC_block ?_
 refine wpC_loop (fun m T h' => ∃ (i : Nat) (L' : List Int) (u1 : Value) (R : List Value), m + i = L.length ∧ L'.length = L.length ∧ St h0 h' (wn icell 1 3 a c L' :: F) ∧ T = .slice a L.length c :: u1 :: .int .i64 i :: R) ?_ L.length _ _ ⟨0, L, _, R, by omega, rfl, s, rfl⟩
 rintro m T h' ⟨i, L', u1, R, hmi, hL', s1, rfl⟩
 refine wpC_seq (sr fun LL hLL => ?_)
 simp only [ptrTo, oxs, simprocAttr]
 refine hLL _ _ ?_
 refine wpC_if ?_
 simp only [ptrTo, oxs, simprocAttr]
 refine gC_of (fun hc => ?_) (fun hc => ?_)
 ·refine wpC_skip ?_
  simp only [ptrTo, oxs, simprocAttr]
  refine fg3 (fun R => ?_)
  have hi : i < L.length := by omega
  have hi' : i < L'.length := by omega
  obtain ⟨b, rfl, hcc, s2⟩ := s1.wn_out (.inl (by rintro rfl; simp at hi'))
  have hle := flat_le icell.len L' i hi'
  refine wpC_seq (wpC_block ?_)
  refine rg (fun LL hLL => ?_)
  simp only [ptrTo, pend, pend0, Pd.old, pendU, pendU0, Nat.testBit, oxh, simprocAttr]
  refine markInts_ok _ _ s2 _ fun v h2 s3 => ?_
  have gb := s3.get
  have hput : splice (L'.flatMap icell) (i * 1) (icell v) = (L'.set i v).flatMap icell := flat_store icell.len L' i v (by omega)
  simp only [icell] at hput
  simp only [ptrTo, pend, pend0, Pd.old, pendU, pendU0, Nat.testBit, oxh, simprocAttr, icell, ixF hi, gb, hput, eq_true (show i * 1 + 1 ≤ (L'.flatMap icell).length by omega)]
  refine hLL _ _ ?_
  simp only [ptrTo, oxs, simprocAttr]
  refine fg3 (fun R => ?_)
  refine rg (fun LL hLL => ?_)
  simp only [ptrTo, oxs, simprocAttr, wsucc (show i < 9223372036854775807 by omega)]
  refine hLL _ _ ?_
  simp only [ptrTo, oxs, simprocAttr]
  have s4 := (s3.set (.cells false 1 ((L'.set i v).flatMap icell) 3)).wn_in (f := icell) (c := c) (L := L'.set i v) (by rw [List.length_set]; exact hcc)
  exact ⟨m - 1, by omega, i + 1, L'.set i v, _, _, by omega, by rw [List.length_set]; exact hL', s4, rfl⟩
 ·have hil : i = L.length := by omega
  refine wpC_exit ?_
  simp only [ptrTo, oxs, simprocAttr]
  refine out_normal ?_
  simp only [ptrTo, oxs, simprocAttr]
  exact hk L' _ hL' s1
theorem spoilRows_ok {h0 : AHeap} {F : List Asn} (L : List Rw) (a : Option Addr) (c : Nat) (h : AHeap) (s : St h0 h (wn rcell 3 52 a c L :: F)) (hl : L.length < 1000000) (K : Value → AHeap → Prop) (hk : ∀ (L' : List Rw) h', L'.length = L.length → St h0 h' (wn rcell 3 52 a c L' :: F) → K (.tuple #[]) h') :
  wpF Tryz.prog (.fn 43) [.slice a L.length c] h K := by
 refine wpF_fun 15 [] Tryz.func43 rfl rfl rfl rfl ?_
 refine sr (fun LL hLL => ?_)
 simp only [ptrTo, oxs, simprocAttr]
 refine hLL _ _ ?_
 refine fg3 (fun R => ?_)
 refine wpC_block ?_
 refine wpC_loop (fun m T h' => ∃ (i : Nat) (L' : List Rw) (u1 : Value) (R : List Value), m + i = L.length ∧ L'.length = L.length ∧ St h0 h' (wn rcell 3 52 a c L' :: F) ∧ T = .slice a L.length c :: u1 :: .int .i64 i :: R) ?_ L.length _ _ ⟨0, L, _, R, by omega, rfl, s, rfl⟩
 rintro m T h' ⟨i, L', u1, R, hmi, hL', s1, rfl⟩
 refine wpC_seq (sr fun LL hLL => ?_)
 simp only [ptrTo, oxs, simprocAttr]
 refine hLL _ _ ?_
 refine wpC_if ?_
 simp only [ptrTo, oxs, simprocAttr]
 refine gC_of (fun hc => ?_) (fun hc => ?_)
 ·refine wpC_skip ?_
  simp only [ptrTo, oxs, simprocAttr]
  refine fg3 (fun R => ?_)
  have hi : i < L.length := by omega
  have hi' : i < L'.length := by omega
  obtain ⟨b, rfl, hcc, s2⟩ := s1.wn_out (.inl (by rintro rfl; simp at hi'))
  have hle := flat_le rcell.len L' i hi'
  refine wpC_seq (wpC_block ?_)
  refine rg (fun LL hLL => ?_)
  simp only [ptrTo, pend, pend0, Pd.old, pendU, pendU0, Nat.testBit, oxh, simprocAttr]
  refine markRows_ok _ _ s2 _ fun v h2 s3 => ?_
  have gb := s3.get
  have hput : splice (L'.flatMap rcell) (i * 3) (rcell v) = (L'.set i v).flatMap rcell := flat_store rcell.len L' i v (by omega)
  simp only [rcell] at hput
  simp only [ptrTo, pend, pend0, Pd.old, pendU, pendU0, Nat.testBit, oxh, simprocAttr, rcell, ixF hi, gb, hput, eq_true (show i * 3 + 3 ≤ (L'.flatMap rcell).length by omega)]
  refine hLL _ _ ?_
  simp only [ptrTo, oxs, simprocAttr]
  refine fg3 (fun R => ?_)
  refine rg (fun LL hLL => ?_)
  simp only [ptrTo, oxs, simprocAttr, wsucc (show i < 9223372036854775807 by omega)]
  refine hLL _ _ ?_
  simp only [ptrTo, oxs, simprocAttr]
  have s4 := (s3.set (.cells false 3 ((L'.set i v).flatMap rcell) 52)).wn_in (f := rcell) (c := c) (L := L'.set i v) (by rw [List.length_set]; exact hcc)
  exact ⟨m - 1, by omega, i + 1, L'.set i v, _, _, by omega, by rw [List.length_set]; exact hL', s4, rfl⟩
 ·have hil : i = L.length := by omega
  refine wpC_exit ?_
  simp only [ptrTo, oxs, simprocAttr]
  refine out_normal ?_
  simp only [ptrTo, oxs, simprocAttr]
  exact hk L' _ hL' s1
theorem spoilRecs_ok {h0 : AHeap} {F : List Asn} (L : List Rc2) (a : Option Addr) (c : Nat) (h : AHeap) (s : St h0 h (wn r2cell 2 130 a c L :: F)) (hl : L.length < 1000000) (K : Value → AHeap → Prop) (hk : ∀ (L' : List Rc2) h', L'.length = L.length → St h0 h' (wn r2cell 2 130 a c L' :: F) → K (.tuple #[]) h') :
  wpF Tryz.prog (.fn 73) [.slice a L.length c] h K := by
 refine wpF_fun 15 [] Tryz.func73 rfl rfl rfl rfl ?_
 refine sr (fun LL hLL => ?_)
 simp only [ptrTo, oxs, simprocAttr]
 refine hLL _ _ ?_
 refine fg3 (fun R => ?_)
 refine wpC_block ?_
 refine wpC_loop (fun m T h' => ∃ (i : Nat) (L' : List Rc2) (u1 : Value) (R : List Value), m + i = L.length ∧ L'.length = L.length ∧ St h0 h' (wn r2cell 2 130 a c L' :: F) ∧ T = .slice a L.length c :: u1 :: .int .i64 i :: R) ?_ L.length _ _ ⟨0, L, _, R, by omega, rfl, s, rfl⟩
 rintro m T h' ⟨i, L', u1, R, hmi, hL', s1, rfl⟩
 refine wpC_seq (sr fun LL hLL => ?_)
 simp only [ptrTo, oxs, simprocAttr]
 refine hLL _ _ ?_
 refine wpC_if ?_
 simp only [ptrTo, oxs, simprocAttr]
 refine gC_of (fun hc => ?_) (fun hc => ?_)
 ·refine wpC_skip ?_
  simp only [ptrTo, oxs, simprocAttr]
  refine fg3 (fun R => ?_)
  have hi : i < L.length := by omega
  have hi' : i < L'.length := by omega
  obtain ⟨b, rfl, hcc, s2⟩ := s1.wn_out (.inl (by rintro rfl; simp at hi'))
  have hle := flat_le r2cell.len L' i hi'
  refine wpC_seq (wpC_block ?_)
  refine rg (fun LL hLL => ?_)
  simp only [ptrTo, pend, pend0, Pd.old, pendU, pendU0, Nat.testBit, oxh, simprocAttr]
  refine markRecs_ok _ _ s2 _ fun v h2 s3 => ?_
  have gb := s3.get
  have hput : splice (L'.flatMap r2cell) (i * 2) (r2cell v) = (L'.set i v).flatMap r2cell := flat_store r2cell.len L' i v (by omega)
  simp only [r2cell] at hput
  simp only [ptrTo, pend, pend0, Pd.old, pendU, pendU0, Nat.testBit, oxh, simprocAttr, r2cell, ixF hi, gb, hput, eq_true (show i * 2 + 2 ≤ (L'.flatMap r2cell).length by omega)]
  refine hLL _ _ ?_
  simp only [ptrTo, oxs, simprocAttr]
  refine fg3 (fun R => ?_)
  refine rg (fun LL hLL => ?_)
  simp only [ptrTo, oxs, simprocAttr, wsucc (show i < 9223372036854775807 by omega)]
  refine hLL _ _ ?_
  simp only [ptrTo, oxs, simprocAttr]
  have s4 := (s3.set (.cells false 2 ((L'.set i v).flatMap r2cell) 130)).wn_in (f := r2cell) (c := c) (L := L'.set i v) (by rw [List.length_set]; exact hcc)
  exact ⟨m - 1, by omega, i + 1, L'.set i v, _, _, by omega, by rw [List.length_set]; exact hL', s4, rfl⟩
 ·have hil : i = L.length := by omega
  refine wpC_exit ?_
  simp only [ptrTo, oxs, simprocAttr]
  refine out_normal ?_
  simp only [ptrTo, oxs, simprocAttr]
  exact hk L' _ hL' s1
theorem spoilRecLists_ok {h0 : AHeap} {F : List Asn} (L : List (List Rc2)) (a : Option Addr) (c : Nat) (h : AHeap) (s : St h0 h (nest r2cell 2 130 110 a c L :: F)) (hl : L.length < 1000000) (hl1 : ∀ x ∈ L, x.length < 1000000) (K : Value → AHeap → Prop) (hk : ∀ (L' : List (List Rc2)) h', L'.length = L.length → St h0 h' (nest r2cell 2 130 110 a c L' :: F) → K (.tuple #[]) h') :
  wpF Tryz.prog (.fn 44) [.slice a L.length c] h K := by
 refine wpF_fun 14 [] Tryz.func44 rfl rfl rfl rfl ?_
 refine sr (fun LL hLL => ?_)
 simp only [ptrTo, oxs, simprocAttr]
 refine hLL _ _ ?_
 refine fg3 (fun R => ?_)
 refine wpC_block ?_
 refine wpC_loop (fun m T h' => ∃ (i : Nat) (L' : List (List Rc2)) (u1 : Value) (R : List Value), m + i = L.length ∧ L'.length = L.length ∧ (∀ x ∈ L', x.length < 1000000) ∧ St h0 h' (nest r2cell 2 130 110 a c L' :: F) ∧ T = .slice a L.length c :: u1 :: .int .i64 i :: R) ?_ L.length _ _ ⟨0, L, _, R, by omega, rfl, hl1, s, rfl⟩
 rintro m T h' ⟨i, L', u1, R, hmi, hL', hL1, s1, rfl⟩
 refine wpC_seq (sr fun LL hLL => ?_)
 simp only [ptrTo, oxs, simprocAttr]
 refine hLL _ _ ?_
 refine wpC_if ?_
 simp only [ptrTo, oxs, simprocAttr]
 refine gC_of (fun hc => ?_) (fun hc => ?_)
 ·refine wpC_skip ?_
  simp only [ptrTo, oxs, simprocAttr]
  refine fg3 (fun R => ?_)
  have hi : i < L.length := by omega
  have hi' : i < L'.length := by omega
  obtain ⟨v1, v2, bq, oq, roq, szq, Cq, Tq, eq, gq, vq, G, s2, back⟩ := nest_pick r2cell.len s1 i hi'
  refine wpC_seq (wpC_block ?_)
  subst eq
  refine rg (fun LL hLL => ?_)
  simp only [ptrTo, pend, pend0, Pd.old, pendU, pendU0, Nat.testBit, oxh, simprocAttr, ixF hi, gq, vq]
  refine spoilRecs_ok L'[i] v1 v2 _ s2 (hL1 _ (List.getElem_mem hi')) _ fun M h2 hM s3 => ?_
  simp only [ptrTo, pend, pend0, Pd.old, pendU, pendU0, Nat.testBit, oxh, simprocAttr]
  refine hLL _ _ ?_
  simp only [ptrTo, oxs, simprocAttr]
  refine fg3 (fun R => ?_)
  refine rg (fun LL hLL => ?_)
  simp only [ptrTo, oxs, simprocAttr, wsucc (show i < 9223372036854775807 by omega)]
  refine hLL _ _ ?_
  simp only [ptrTo, oxs, simprocAttr]
  refine ⟨m - 1, by omega, i + 1, L'.set i M, _, _, by omega, by rw [List.length_set]; exact hL', fun x hx => ?_, back M hM _ s3, rfl⟩
  rcases List.mem_or_eq_of_mem_set hx with hx | rfl
  ·exact hL1 x hx
  ·rw [hM]; exact hL1 _ (List.getElem_mem hi')
 ·refine wpC_exit ?_
  simp only [ptrTo, oxs, simprocAttr]
  refine out_normal ?_
  simp only [ptrTo, oxs, simprocAttr]
  exact hk L' _ hL' s1
end Go.Proofs

namespace Go.Proofs
open Go Go.Ox
set_option maxRecDepth 100000
set_option maxHeartbeats 4000000
theorem OpX.oc (x : OpX) : x.cells.all Value.oneCell' = true := rfl
theorem copySpec_ok {h0 : AHeap} {F : List Asn} (g : Int) (a : Option Addr) (c : Nat) (L : List OpX) (sp : SpR h0 a L) (hn : L.length ≤ 12) (hi20 : ∀ x ∈ L, x.inn.length ≤ 20) (h : AHeap) (s : St h0 h F) (K : Value → AHeap → Prop) (hk : ∀ b n d h', St h0 h' F → K (.agg #[.int .i64 g, .slice b n d]) h') :
  wpF Tryz.prog (.fn 36) [.agg #[.int .i64 g, .slice a L.length c]] h K := by
 refine wpF_fun 32 [.cell 2 24] Tryz.func36 rfl rfl rfl rfl ?_
 obtain ⟨b1, eb1⟩ : ∃ b, b = h.next := ⟨_, rfl⟩
 obtain ⟨b2, eb2⟩ : ∃ b, b = b1 + 1 := ⟨_, rfl⟩
 have s1 := (s.push (spB g a L.length c)).push (.cells false 0 [.int .i64 0, .slice none 0 0] 24)
 simp only [AHeap.next_push, ← eb1, ← eb2] at s1
 obtain ⟨h1, e1⟩ : ∃ h1, h1 = (h.push (spB g a L.length c)).push (.cells false 0 [.int .i64 0, .slice none 0 0] 24) := ⟨_, rfl⟩
 rw [← e1] at s1
 refine sr (fun LL hLL => ?_)
 simp only [ptrTo, oxs, simprocAttr, AHeap.next_push, ← eb1, ← eb2, ← e1]
 refine hLL _ _ ?_
 have g1 := (s1.mv 1).get
 obtain ⟨b3, eb3⟩ : ∃ b, b = h1.next := ⟨_, rfl⟩
 have s2 := s1.push (.cells false 0 [.int .i64 0, .slice none 0 0] 24)
 rw [← eb3] at s2
 have g2 := s2.get
 have s3 := s2.set (.cells false 0 [.int .i64 g, .slice none 0 0] 24)
 obtain ⟨h3, e3⟩ : ∃ h3, h3 = (h1.push (.cells false 0 [.int .i64 0, .slice none 0 0] 24)).set b3 (.cells false 0 [.int .i64 g, .slice none 0 0] 24) := ⟨_, rfl⟩
 rw [← e3] at s3
 refine sr (fun LL hLL => ?_)
 simp only [ptrTo, oxs, simprocAttr, g1, ← eb3, g2, ← e3]
 refine hLL _ _ ?_
 have s4 := s3.wn_nil (f := OpX.cells) (k := 8) (e := 69)
 refine sm (fun T h' => ∃ (N : List OpX) (b : Option Addr) (d : Nat) (u0 : Value) (R : List Value), St h0 h' (wn OpX.cells 8 69 b d N :: own b3 (.cells false 0 [.int .i64 g, .slice b N.length d] 24) :: own b2 (.cells false 0 [.int .i64 0, .slice none 0 0] 24) :: own b1 (spB g a L.length c) :: F) ∧ T = u0 :: .pointer (some ⟨b1, 0, none⟩) :: .pointer (some ⟨b2, 0, none⟩) :: .pointer (some ⟨b3, 0, none⟩) :: R) ?_ ?_
 ·refine sr (fun LL hLL => ?_)
  simp only [ptrTo, oxs, simprocAttr]
  refine hLL _ _ ?_
  refine fg5 (fun R => ?_)
  refine wpC_block ?_
  refine wpC_loop (fun m T h' => ∃ (i : Nat) (N : List OpX) (b : Option Addr) (d : Nat) (u0 : Value) (R : List Value), m + i = L.length ∧ N.length = i ∧ St h0 h' (wn OpX.cells 8 69 b d N :: own b3 (.cells false 0 [.int .i64 g, .slice b N.length d] 24) :: own b2 (.cells false 0 [.int .i64 0, .slice none 0 0] 24) :: own b1 (spB g a L.length c) :: F) ∧ T = u0 :: .pointer (some ⟨b1, 0, none⟩) :: .pointer (some ⟨b2, 0, none⟩) :: .pointer (some ⟨b3, 0, none⟩) :: .int .i64 i :: R) ?_ L.length _ _ ⟨0, [], none, 0, _, R, by omega, rfl, s4, rfl⟩
  rintro m T h' ⟨i, N, b, d, u0, R, hmi, hN, s5, rfl⟩
  have g1 := (s5.mv 3).get
  refine wpC_seq (sr fun LL hLL => ?_)
  simp only [ptrTo, oxs, simprocAttr, g1]
  refine hLL _ _ ?_
  refine wpC_if ?_
  simp only [ptrTo, oxs, simprocAttr]
  refine gC_of (fun hc => ?_) (fun hc => ?_)
  ·refine wpC_skip ?_
   simp only [ptrTo, oxs, simprocAttr]
   refine fg5 (fun R => ?_)
   have hi : i < L.length := by omega
   obtain ⟨q1, o1, ro1, sz1, C1, T1, ea, p1, gq, w0, w1, w2, x2, w8, x8⟩ := (sp.fr s5.base).at i hi
   obtain ⟨x, ex⟩ : ∃ x, x = L[i] := ⟨_, rfl⟩
   rw [← ex] at w8
   have hx20 : x.inn.length ≤ 20 := hi20 x (by rw [ex]; exact List.getElem_mem hi)
   have hxr : Rs icell 1 h0 x.a x.inn := (sp.ins x (by rw [ex]; exact List.getElem_mem hi)).1
   rw [ea] at g1
   obtain ⟨bo, ebo⟩ : ∃ b, b = h'.next := ⟨_, rfl⟩
   have s6 := s5.push (.cells false 0 [.int .i64 0, .slice none 0 0, .int .i64 0, .int .i64 0, .int .i64 0, .int .i64 0, .int .i64 0, .int .i64 0] 69)
   rw [← ebo] at s6
   have g6 := s6.get
   have s7 := s6.set (.cells false 0 x.cells 69)
   obtain ⟨h7, e7⟩ : ∃ h7, h7 = (h'.push (.cells false 0 [.int .i64 0, .slice none 0 0, .int .i64 0, .int .i64 0, .int .i64 0, .int .i64 0, .int .i64 0, .int .i64 0] 69)).set bo (.cells false 0 x.cells 69) := ⟨_, rfl⟩
   rw [← e7] at s7
   have hxc : x.cells = [.int .i64 x.kind, .slice x.a x.inn.length x.cap, .int .i64 x.f1, .int .i64 x.f2, .int .i64 x.f3, .int .i64 x.parts, .int .i64 x.rate, .int .i64 x.cost] := rfl
   rw [hxc] at w8 e7
   have g7 := s7.get
   rw [hxc] at g7
   refine wpC_seq (wpC_block ?_)
   refine sr (fun LL hLL => ?_)
   simp only [ptrTo, oxs, simprocAttr, g1, ixF hi, gq, w8, x8, ← ebo, g6, ← e7, List.length_cons, List.length_nil]
   refine hLL _ _ ?_
   refine xp5 1 (by repeat (first | exact tput_le _ _ _ _ (.inr (by omega)) | refine tput_le _ _ _ _ (.inl ?_))) (fun R => ?_)
   simp only [ptrTo, oxs, simprocAttr, show List.range 1 = [0] from rfl]
   refine fg6 (fun R => ?_)
   refine sr (fun LL hLL => ?_)
   simp only [ptrTo, pend, pend0, Pd.old, pendU, pendU0, Nat.testBit, oxh, simprocAttr, g7]
   refine copyInts_ok x.inn x.a x.cap _ (Rd.of_base hxr) (by omega) s7 _ fun y d2 h8 s8 => ?_
   have g8 := (s8.mv 1).get
   rw [hxc] at g8
   have s9 := (s8.mv 1).set (.cells false 0 (OpX.cells ⟨x.kind, x.inn, y, d2, x.f1, x.f2, x.f3, x.parts, x.rate, x.cost⟩) 69)
   obtain ⟨x', ex'⟩ : ∃ x', x' = (⟨x.kind, x.inn, y, d2, x.f1, x.f2, x.f3, x.parts, x.rate, x.cost⟩ : OpX) := ⟨_, rfl⟩
   rw [← ex'] at s9
   have hxc' : x'.cells = [.int .i64 x.kind, .slice y x.inn.length d2, .int .i64 x.f1, .int .i64 x.f2, .int .i64 x.f3, .int .i64 x.parts, .int .i64 x.rate, .int .i64 x.cost] := by rw [ex']; rfl
   obtain ⟨h9, e9⟩ : ∃ h9, h9 = h8.set bo (.cells false 0 x'.cells 69) := ⟨_, rfl⟩
   rw [← e9] at s9
   rw [hxc'] at e9
   simp only [ptrTo, pend, pend0, Pd.old, pendU, pendU0, Nat.testBit, oxh, simprocAttr, g7, g8, ← e9]
   refine hLL _ _ ?_
   refine fg6 (fun R => ?_)
   have g9 := s9.get
   rw [hxc'] at g9
   have g3 := (s9.mv 3).get
   have zz : aZeros [.int .i64 0, .slice none 0 0, .int .i64 0, .int .i64 0, .int .i64 0, .int .i64 0, .int .i64 0, .int .i64 0] 1 = [.int .i64 0, .slice none 0 0, .int .i64 0, .int .i64 0, .int .i64 0, .int .i64 0, .int .i64 0, .int .i64 0] := rfl
   obtain ⟨aE, cE, h10, y1, y2⟩ := (s9.mv 2).app1 (bytes := 80) x' OpX.len OpX.oc (by omega) (by omega)
   have y1' := y1
   rw [hxc'] at y1'
   have g10 := (y2.mv 3).get
   refine rg (fun LL hLL => ?_)
   simp only [ptrTo, oxs, simprocAttr, g9, g3, zz]
   rw [y1']
   simp only [ptrTo, oxs, simprocAttr, g10]
   refine hLL _ _ ?_
   simp only [ptrTo, oxs, simprocAttr]
   refine fg5 (fun R => ?_)
   refine rg (fun LL hLL => ?_)
   simp only [ptrTo, oxs, simprocAttr, wsucc (show i < 9223372036854775807 by omega)]
   refine hLL _ _ ?_
   simp only [ptrTo, oxs, simprocAttr]
   rw [show N.length + 1 = (N ++ [x']).length by simp]
   have s11 := (y2.mv 3).set (.cells false 0 [.int .i64 g, .slice aE (N ++ [x']).length cE] 24)
   have s12 := (s11).sel 6 [1, 0, 4, 5]
   simp only [oxf] at s12
   exact ⟨m - 1, by omega, i + 1, N ++ [x'], aE, cE, _, _, by omega, by simp; omega, s12, rfl⟩
  ·refine wpC_exit ?_
   simp only [ptrTo, oxs, simprocAttr]
   exact ⟨N, b, d, _, _, s5, rfl⟩
 rintro T h' ⟨N, b, d, u0, R, s5, rfl⟩
 have g3 := (s5.mv 1).get
 have g2 := (s5.mv 2).get
 have s6 := (s5.mv 2).set (.cells false 0 [.int .i64 g, .slice b N.length d] 24)
 have g6 := s6.get
 refine sr (fun LL hLL => ?_)
 simp only [ptrTo, oxs, simprocAttr, g3, g2]
 refine hLL _ _ ?_
 refine wpC_ret (out_ret ?_)
 simp only [ptrTo, oxs, simprocAttr]
 simp only [g6]
 have s7 := (s6).sel 4 []
 simp only [oxf] at s7
 exact hk _ _ _ _ s7
theorem copyMan_ok {h0 : AHeap} {F : List Asn} (id : Int) (pa : Option Addr) (P : List Int) (pc : Nat) (la : Option Addr) (LI : List (List Int)) (lc : Nat) (ra : Option Addr) (RR : List (List Rw)) (rc : Nat) (ea : Option Addr) (EE : List (List Rc2)) (ec : Nat) (h : AHeap)
  (rp : Rd h0 F icell 1 pa P) (rl : RdN h0 F icell 1 la LI) (rr : RdN h0 F rcell 3 ra RR) (re : RdN h0 F r2cell 2 ea EE) (b1 : P.length ≤ 2000) (b2 : LI.length ≤ 2000) (b3 : RR.length ≤ 2000) (b4 : EE.length ≤ 2000) (b5 : ∀ x ∈ LI, x.length ≤ 2000) (b6 : ∀ x ∈ RR, x.length ≤ 2000) (b7 : ∀ x ∈ EE, x.length ≤ 2000)
  (s : St h0 h F) (K : Value → AHeap → Prop) (hk : ∀ qa qc ka kc ga gc xa xc h', St h0 h' (wn icell 1 3 qa qc P :: nest icell 1 3 25 ka kc LI :: nest rcell 3 52 48 ga gc RR :: nest r2cell 2 130 110 xa xc EE :: F) → K (.agg #[.int .i64 id, .slice qa P.length qc, .slice ka LI.length kc, .slice ga RR.length gc, .slice xa EE.length xc]) h') :
  wpF Tryz.prog (.fn 8) [.agg #[.int .i64 id, .slice pa P.length pc, .slice la LI.length lc, .slice ra RR.length rc, .slice ea EE.length ec]] h K := by
 have sv : ∀ (a : Option Addr) (m n : Nat), veq 6 (.slice a m n) (.slice a m n) = true := by intro a m n; simp [veq]
 refine wpF_fun 18 [.cell 2 30] Tryz.func8 rfl rfl rfl rfl ?_
 obtain ⟨bm, ebm⟩ : ∃ b, b = h.next := ⟨_, rfl⟩
 obtain ⟨bn, ebn⟩ : ∃ b, b = bm + 1 := ⟨_, rfl⟩
 have s1 := (s.push (.cells false 0 [.int .i64 id, .slice pa P.length pc, .slice la LI.length lc, .slice ra RR.length rc, .slice ea EE.length ec] 30)).push (.cells false 0 [.int .i64 0, .slice none 0 0, .slice none 0 0, .slice none 0 0, .slice none 0 0] 30)
 simp only [AHeap.next_push, ← ebm, ← ebn] at s1
 obtain ⟨h1, e1⟩ : ∃ h1, h1 = (h.push (.cells false 0 [.int .i64 id, .slice pa P.length pc, .slice la LI.length lc, .slice ra RR.length rc, .slice ea EE.length ec] 30)).push (.cells false 0 [.int .i64 0, .slice none 0 0, .slice none 0 0, .slice none 0 0, .slice none 0 0] 30) := ⟨_, rfl⟩
 rw [← e1] at s1
 refine sr (fun LL hLL => ?_)
 simp only [ptrTo, oxs, simprocAttr, AHeap.next_push, ← ebm, ← ebn, ← e1]
 refine hLL _ _ ?_
 have g1 := (s1.mv 1).get
 refine sd [0, 1, 2, 3, 5, 6, 8, 9, 11, 12, 4, 7, 10, 13, 14, 15] [0, 1, 0, 4, 0, 32, 0, 256, 0, 2048, 12, 124, 1020, 8188, 16383, 32767] (by decide +kernel) (by decide +kernel) (by decide +kernel) (fun LL hLL => ?_)
 simp only [ptrTo, pend, pend0, Pd.old, pendU, pendU0, Nat.testBit, oxh, simprocAttr, g1, sv]
 refine copyInts_ok P pa pc _ rp.up.up (by omega) s1 _ fun qa qc h2 s2 => ?_
 have g2 := (s2.mv 2).get
 simp only [ptrTo, pend, pend0, Pd.old, pendU, pendU0, Nat.testBit, oxh, simprocAttr, g1, g2, sv]
 refine copyIntLists_ok LI la lc _ rl.up.up.up (by omega) (fun x hx => by have := b5 x hx; omega) s2 _ fun ka kc h3 s3 => ?_
 have g3 := (s3.mv 3).get
 simp only [ptrTo, pend, pend0, Pd.old, pendU, pendU0, Nat.testBit, oxh, simprocAttr, g1, g2, g3, sv]
 refine copyRowLists_ok RR ra rc _ rr.up.up.up.up (by omega) (fun x hx => by have := b6 x hx; omega) s3 _ fun ga gc h4 s4 => ?_
 have g4 := (s4.mv 4).get
 simp only [ptrTo, pend, pend0, Pd.old, pendU, pendU0, Nat.testBit, oxh, simprocAttr, g1, g2, g3, g4, sv]
 refine copyRecLists_ok EE ea ec _ re.up.up.up.up.up (by omega) (fun x hx => by have := b7 x hx; omega) s4 _ fun xa xc h5 s5 => ?_
 have g5 := (s5.mv 5).get
 have gn := (s5.mv 4).get
 simp only [ptrTo, pend, pend0, Pd.old, pendU, pendU0, Nat.testBit, oxh, simprocAttr, g1, g2, g3, g4, g5, gn, sv]
 refine hLL _ _ ?_
 refine wpC_ret (out_ret ?_)
 simp only [ptrTo, oxs, simprocAttr]
 have s6 := (s5.mv 4).set (.cells false 0 [.int .i64 id, .slice qa P.length qc, .slice ka LI.length kc, .slice ga RR.length gc, .slice xa EE.length xc] 30)
 simp only [s6.get]
 have s7 := (s6).sel 6 [4, 3, 2, 1]
 simp only [oxf] at s7
 exact hk _ _ _ _ _ _ _ _ _ s7
theorem spoilMan_ok {h0 : AHeap} {F : List Asn} (id : Int) (pa : Option Addr) (P : List Int) (pc : Nat) (la : Option Addr) (LI : List (List Int)) (lc : Nat) (ra : Option Addr) (RR : List (List Rw)) (rc : Nat) (ea : Option Addr) (EE : List (List Rc2)) (ec : Nat) (h : AHeap)
  (b1 : P.length ≤ 2000) (b2 : LI.length ≤ 2000) (b3 : RR.length ≤ 2000) (b4 : EE.length ≤ 2000) (b5 : ∀ x ∈ LI, x.length ≤ 2000) (b6 : ∀ x ∈ RR, x.length ≤ 2000) (b7 : ∀ x ∈ EE, x.length ≤ 2000)
  (s : St h0 h (wn icell 1 3 pa pc P :: nest icell 1 3 25 la lc LI :: nest rcell 3 52 48 ra rc RR :: nest r2cell 2 130 110 ea ec EE :: F)) (K : Value → AHeap → Prop) (hk : ∀ h', St h0 h' F → K (.tuple #[]) h') :
  wpF Tryz.prog (.fn 12) [.agg #[.int .i64 id, .slice pa P.length pc, .slice la LI.length lc, .slice ra RR.length rc, .slice ea EE.length ec]] h K := by
 refine wpF_fun 36 [] Tryz.func12 rfl rfl rfl rfl ?_
 obtain ⟨bm, ebm⟩ : ∃ b, b = h.next := ⟨_, rfl⟩
 have s1 := s.push (.cells false 0 [.int .i64 id, .slice pa P.length pc, .slice la LI.length lc, .slice ra RR.length rc, .slice ea EE.length ec] 30)
 rw [← ebm] at s1
 obtain ⟨h1, e1⟩ : ∃ h1, h1 = h.push (.cells false 0 [.int .i64 id, .slice pa P.length pc, .slice la LI.length lc, .slice ra RR.length rc, .slice ea EE.length ec] 30) := ⟨_, rfl⟩
 rw [← e1] at s1
 refine sr (fun LL hLL => ?_)
 simp only [ptrTo, oxs, simprocAttr, ← ebm, ← e1]
 refine hLL _ _ ?_
 have g1 := s1.get
 refine sr (fun LL hLL => ?_)
 simp only [ptrTo, pend, pend0, Pd.old, pendU, pendU0, Nat.testBit, oxh, simprocAttr, g1]
 refine spoilInts_ok P pa pc _ (s1.mv 1) (by omega) _ fun P' h2 hP' s2 => ?_
 have s3 := s2.drop
 clear s1 s2 g1
 simp only [ptrTo, pend, pend0, Pd.old, pendU, pendU0, Nat.testBit, oxh, simprocAttr]
 refine hLL _ _ ?_
 refine sm (fun T h' => ∃ (u0 : Value) (R : List Value), St h0 h' (own bm (.cells false 0 [.int .i64 id, .slice pa P.length pc, .slice la LI.length lc, .slice ra RR.length rc, .slice ea EE.length ec] 30) :: nest rcell 3 52 48 ra rc RR :: nest r2cell 2 130 110 ea ec EE :: F) ∧ T = u0 :: .pointer (some ⟨bm, 0, none⟩) :: R) ?_ ?_
 ·refine sr (fun LL hLL => ?_)
  simp only [ptrTo, oxs, simprocAttr]
  refine hLL _ _ ?_
  refine fg3 (fun R => ?_)
  refine wpC_block ?_
  refine wpC_loop (fun m T h' => ∃ (i : Nat) (L' : List (List Int)) (u0 : Value) (R : List Value), m + i = LI.length ∧ L'.length = LI.length ∧ (∀ x ∈ L', x.length < 1000000) ∧ St h0 h' (own bm (.cells false 0 [.int .i64 id, .slice pa P.length pc, .slice la LI.length lc, .slice ra RR.length rc, .slice ea EE.length ec] 30) :: nest icell 1 3 25 la lc L' :: nest rcell 3 52 48 ra rc RR :: nest r2cell 2 130 110 ea ec EE :: F) ∧ T = u0 :: .pointer (some ⟨bm, 0, none⟩) :: .int .i64 i :: R) ?_ LI.length _ _ ⟨0, LI, _, R, by omega, rfl, fun x hx => by have := b5 x hx; omega, s3, rfl⟩
  rintro m T h' ⟨i, L', u0, R, hmi, hL', hL1, s4, rfl⟩
  have g4 := s4.get
  refine wpC_seq (sr fun LL hLL => ?_)
  simp only [ptrTo, oxs, simprocAttr, g4]
  refine hLL _ _ ?_
  refine wpC_if ?_
  simp only [ptrTo, oxs, simprocAttr]
  refine gC_of (fun hc => ?_) (fun hc => ?_)
  ·refine wpC_skip ?_
   simp only [ptrTo, oxs, simprocAttr]
   refine fg3 (fun R => ?_)
   have hi : i < LI.length := by omega
   have hi' : i < L'.length := by omega
   obtain ⟨v1, v2, bq, oq, roq, szq, Cq, Tq, eq, gq, vq, G, s5, back⟩ := nest_pick icell.len (s4.mv 1) i hi'
   rw [eq] at g4
   refine wpC_seq (wpC_block ?_)
   refine rg (fun LL hLL => ?_)
   simp only [ptrTo, pend, pend0, Pd.old, pendU, pendU0, Nat.testBit, oxh, simprocAttr, g4, ixF hi, gq, vq]
   refine spoilInts_ok L'[i] v1 v2 _ s5 (hL1 _ (List.getElem_mem hi')) _ fun N h6 hN s6 => ?_
   simp only [ptrTo, pend, pend0, Pd.old, pendU, pendU0, Nat.testBit, oxh, simprocAttr]
   refine hLL _ _ ?_
   simp only [ptrTo, oxs, simprocAttr]
   refine fg3 (fun R => ?_)
   refine rg (fun LL hLL => ?_)
   simp only [ptrTo, oxs, simprocAttr, wsucc (show i < 9223372036854775807 by omega)]
   refine hLL _ _ ?_
   simp only [ptrTo, oxs, simprocAttr]
   refine ⟨m - 1, by omega, i + 1, L'.set i N, _, _, by omega, by rw [List.length_set]; exact hL', fun x hx => ?_, (back N hN _ s6).mv 1, rfl⟩
   rcases List.mem_or_eq_of_mem_set hx with hx | rfl
   ·exact hL1 x hx
   ·rw [hN]; exact hL1 _ (List.getElem_mem hi')
  ·refine wpC_exit ?_
   simp only [ptrTo, oxs, simprocAttr]
   exact ⟨_, _, (s4.mv 1).drop, rfl⟩
 rintro T h' ⟨u0, R, s4, rfl⟩
 refine sm (fun T h' => ∃ (u0 : Value) (R : List Value), St h0 h' (own bm (.cells false 0 [.int .i64 id, .slice pa P.length pc, .slice la LI.length lc, .slice ra RR.length rc, .slice ea EE.length ec] 30) :: nest r2cell 2 130 110 ea ec EE :: F) ∧ T = u0 :: .pointer (some ⟨bm, 0, none⟩) :: R) ?_ ?_
 ·refine sr (fun LL hLL => ?_)
  simp only [ptrTo, oxs, simprocAttr]
  refine hLL _ _ ?_
  refine xp2 2 (by repeat (first | exact tput_le _ _ _ _ (.inr (by omega)) | refine tput_le _ _ _ _ (.inl ?_))) (fun R => ?_)
  simp only [ptrTo, oxs, simprocAttr, show List.range 2 = [0, 1] from rfl]
  refine fg4 (fun R => ?_)
  refine wpC_block ?_
  refine wpC_loop (fun m T h' => ∃ (i : Nat) (L' : List (List Rw)) (u0 u2 : Value) (R : List Value), m + i = RR.length ∧ L'.length = RR.length ∧ (∀ x ∈ L', x.length < 1000000) ∧ St h0 h' (own bm (.cells false 0 [.int .i64 id, .slice pa P.length pc, .slice la LI.length lc, .slice ra RR.length rc, .slice ea EE.length ec] 30) :: nest rcell 3 52 48 ra rc L' :: nest r2cell 2 130 110 ea ec EE :: F) ∧ T = u0 :: .pointer (some ⟨bm, 0, none⟩) :: u2 :: .int .i64 i :: R) ?_ RR.length _ _ ⟨0, RR, _, _, R, by omega, rfl, fun x hx => by have := b6 x hx; omega, s4, rfl⟩
  rintro m T h' ⟨i, L', u0, u2, R, hmi, hL', hL1, s4, rfl⟩
  have g4 := s4.get
  refine wpC_seq (sr fun LL hLL => ?_)
  simp only [ptrTo, oxs, simprocAttr, g4]
  refine hLL _ _ ?_
  refine wpC_if ?_
  simp only [ptrTo, oxs, simprocAttr]
  refine gC_of (fun hc => ?_) (fun hc => ?_)
  ·refine wpC_skip ?_
   simp only [ptrTo, oxs, simprocAttr]
   refine fg4 (fun R => ?_)
   have hi : i < RR.length := by omega
   have hi' : i < L'.length := by omega
   obtain ⟨v1, v2, bq, oq, roq, szq, Cq, Tq, eq, gq, vq, G, s5, back⟩ := nest_pick rcell.len (s4.mv 1) i hi'
   rw [eq] at g4
   refine wpC_seq (wpC_block ?_)
   refine rg (fun LL hLL => ?_)
   simp only [ptrTo, pend, pend0, Pd.old, pendU, pendU0, Nat.testBit, oxh, simprocAttr, g4, ixF hi, gq, vq]
   refine spoilRows_ok L'[i] v1 v2 _ s5 (hL1 _ (List.getElem_mem hi')) _ fun N h6 hN s6 => ?_
   simp only [ptrTo, pend, pend0, Pd.old, pendU, pendU0, Nat.testBit, oxh, simprocAttr]
   refine hLL _ _ ?_
   simp only [ptrTo, oxs, simprocAttr]
   refine fg4 (fun R => ?_)
   refine rg (fun LL hLL => ?_)
   simp only [ptrTo, oxs, simprocAttr, wsucc (show i < 9223372036854775807 by omega)]
   refine hLL _ _ ?_
   simp only [ptrTo, oxs, simprocAttr]
   refine ⟨m - 1, by omega, i + 1, L'.set i N, _, _, _, by omega, by rw [List.length_set]; exact hL', fun x hx => ?_, (back N hN _ s6).mv 1, rfl⟩
   rcases List.mem_or_eq_of_mem_set hx with hx | rfl
   ·exact hL1 x hx
   ·rw [hN]; exact hL1 _ (List.getElem_mem hi')
  ·refine wpC_exit ?_
   simp only [ptrTo, oxs, simprocAttr]
   exact ⟨_, _, (s4.mv 1).drop, rfl⟩
 rintro T h' ⟨u0, R, s4, rfl⟩
 have g4 := s4.get
 refine rg (fun LL hLL => ?_)
 simp only [ptrTo, pend, pend0, Pd.old, pendU, pendU0, Nat.testBit, oxh, simprocAttr, g4]
 refine spoilRecLists_ok EE ea ec _ (s4.mv 1) (by omega) (fun x hx => by have := b7 x hx; omega) _ fun E' h6 hE' s6 => ?_
 simp only [ptrTo, pend, pend0, Pd.old, pendU, pendU0, Nat.testBit, oxh, simprocAttr]
 refine hLL _ _ ?_
 refine out_normal ?_
 simp only [ptrTo, oxs, simprocAttr]
 exact hk _ s6.drop.drop
theorem sameRowLists_ok (L M : List (List Rw)) (a b : Option Addr) (c d : Nat) (h : AHeap) (K : Value → AHeap → Prop) (ra : RsN rcell 3 h a L) (rb : RsN rcell 3 h b M) (hl : L.length < 17592186045000) (hl1 : ∀ x ∈ L, x.length < 17592186044000) (hk : K (.bool (decide (L = M))) h) :
  wpF Tryz.prog (.fn 50) [.slice a L.length c, .slice b M.length d] h K := by
 refine wpF_fun 27 [.tmp 4] Tryz.func50 rfl rfl rfl rfl ?_
 refine sr (fun LL hLL => ?_)
 simp only [ptrTo, oxs, simprocAttr]
 refine hLL _ _ ?_
 by_cases hlen : L.length = M.length
 ·refine wpC_seq (sr fun LL hLL => ?_)
  simp only [ptrTo, oxs, simprocAttr, eq_false (show ¬ ((L.length : Int) ≠ (M.length : Int)) by omega)]
  refine hLL _ _ ?_
  refine wpC_if ?_
  simp only [ptrTo, oxs, simprocAttr]
  refine wpC_skip ?_
  simp only [ptrTo, oxs, simprocAttr]
  refine wpC_seq ?_
  refine sr (fun LL hLL => ?_)
  simp only [ptrTo, oxs, simprocAttr]
  refine hLL _ _ ?_
  refine fg6 (fun R => ?_)
  refine wpC_block ?_
  refine wpC_loop (fun k T h' => ∃ (i : Nat) (u2 u3 u4 : Value) (R : List Value), h' = h ∧ k + i = L.length ∧ L.take i = M.take i ∧ T = .slice a L.length c :: .slice b M.length d :: u2 :: u3 :: u4 :: .int .i64 i :: R) ?_ L.length _ _ ⟨0, _, _, _, R, rfl, by omega, by simp, rfl⟩
  rintro k T h' ⟨i, u2, u3, u4, R, rfl, hki, he, rfl⟩
  refine wpC_seq (sr fun LL hLL => ?_)
  simp only [ptrTo, oxs, simprocAttr]
  refine hLL _ _ ?_
  refine wpC_if ?_
  simp only [ptrTo, oxs, simprocAttr]
  refine gC_of (fun hc => ?_) (fun hc => ?_)
  ·refine wpC_skip ?_
   simp only [ptrTo, oxs, simprocAttr]
   have hi : i < L.length := by omega
   have hi' : i < M.length := by omega
   obtain ⟨b1, o1, ro1, sz1, C1, T1, a1, c1, rfl, p1, g1, v1, r1, n1⟩ := rsnAt ra i hi
   obtain ⟨b2, o2, ro2, sz2, C2, T2, a2, c2, rfl, p2, g2, v2, r2, n2⟩ := rsnAt rb i hi'
   refine wpC_seq (wpC_block ?_)
   refine su [some 17, some 18, some 19, some 20, some 21, some 22, some 23, some 24, some 25, some 26] 10 [0, 0, 3, 7, 0, 0, 48, 112, 255, 511] (by rfl) (by rfl) (by decide +kernel) (by decide +kernel) (by decide +kernel) (fun LL hLL => ?_)
   simp only [ptrTo, pend, pend0, Pd.old, pendU, pendU0, Nat.testBit, oxh, simprocAttr, ixF hi, ixF hi', g1, g2, v1, v2]
   refine sameRows_ok (by unfold Out; decide) L[i] M[i] a1 a2 c1 c2 h' _ r1 r2 (hl1 _ (List.getElem_mem hi)) ?_
   by_cases hx : L[i] = M[i]
   ·simp only [ptrTo, pend, pend0, Pd.old, pendU, pendU0, Nat.testBit, oxh, simprocAttr, ixF hi, ixF hi', g1, g2, v1, v2, decide_eq_true hx, Bool.not_true]
    refine hLL _ _ ?_
    refine wpC_if ?_
    simp only [ptrTo, oxs, simprocAttr]
    refine wpC_skip ?_
    simp only [ptrTo, oxs, simprocAttr]
    refine fg6 (fun R => ?_)
    refine rg (fun LL hLL => ?_)
    simp only [ptrTo, oxs, simprocAttr, wsucc (show i < 9223372036854775807 by omega)]
    refine hLL _ _ ?_
    simp only [ptrTo, oxs, simprocAttr]
    exact ⟨k - 1, by omega, i + 1, _, _, _, _, by omega, by rw [List.take_succ_eq_append_getElem hi, List.take_succ_eq_append_getElem hi', he, hx], rfl⟩
   ·simp only [ptrTo, pend, pend0, Pd.old, pendU, pendU0, Nat.testBit, oxh, simprocAttr, ixF hi, ixF hi', g1, g2, v1, v2, decide_eq_false hx, Bool.not_false]
    refine hLL _ _ ?_
    refine wpC_if ?_
    simp only [ptrTo, oxs, simprocAttr]
    refine sr (fun LL hLL => ?_)
    simp only [ptrTo, oxs, simprocAttr]
    refine hLL _ _ ?_
    refine wpC_ret (out_ret ?_)
    simp only [ptrTo, oxs, simprocAttr]
    rw [decide_eq_false (fun e => hx (by subst e; rfl))] at hk
    exact hk
  ·have hil : i = L.length := by omega
   subst hil
   refine wpC_exit ?_
   simp only [ptrTo, oxs, simprocAttr]
   refine fg6 (fun R => ?_)
   refine sr (fun LL hLL => ?_)
   simp only [ptrTo, oxs, simprocAttr]
   refine hLL _ _ ?_
   refine wpC_ret (out_ret ?_)
   simp only [ptrTo, oxs, simprocAttr]
   rw [List.take_length, List.take_of_length_le (by omega)] at he
   rw [decide_eq_true he] at hk
   exact hk
 ·refine wpC_seq (sr fun LL hLL => ?_)
  simp only [ptrTo, oxs, simprocAttr, eq_true (show ((L.length : Int) ≠ (M.length : Int)) by omega)]
  refine hLL _ _ ?_
  refine wpC_if ?_
  simp only [ptrTo, oxs, simprocAttr]
  refine sr (fun LL hLL => ?_)
  simp only [ptrTo, oxs, simprocAttr]
  refine hLL _ _ ?_
  refine wpC_ret (out_ret ?_)
  simp only [ptrTo, oxs, simprocAttr]
  rw [decide_eq_false (fun e => hlen (by rw [e]))] at hk
  exact hk
theorem sameRecLists_nil (a b : Option Addr) (c d : Nat) (h : AHeap) (K : Value → AHeap → Prop) (hk : K (.bool true) h) : wpF Tryz.prog (.fn 51) [.slice a 0 c, .slice b 0 d] h K := by
 refine wpF_fun 27 [.tmp 4] Tryz.func51 rfl rfl rfl rfl ?_
 refine sr (fun LL hLL => ?_)
 simp only [ptrTo, oxs, simprocAttr]
 refine hLL _ _ ?_
 refine wpC_seq (sr fun LL hLL => ?_)
 simp only [ptrTo, oxs, simprocAttr, ne_eq, not_true_eq_false]
 refine hLL _ _ ?_
 refine wpC_if ?_
 simp only [ptrTo, oxs, simprocAttr]
 refine wpC_skip ?_
 simp only [ptrTo, oxs, simprocAttr]
 refine wpC_seq ?_
 refine sr (fun LL hLL => ?_)
 simp only [ptrTo, oxs, simprocAttr]
 refine hLL _ _ ?_
 refine fg6 (fun R => ?_)
 refine wpC_block ?_
 refine wpC_loop (fun m T h' => h' = h ∧ ∃ (u2 u3 u4 : Value) (R : List Value), T = .slice a 0 c :: .slice b 0 d :: u2 :: u3 :: u4 :: .int .i64 0 :: R) ?_ 0 _ _ ⟨rfl, _, _, _, R, rfl⟩
 rintro m T h' ⟨rfl, u2, u3, u4, R, rfl⟩
 refine wpC_seq (sr fun LL hLL => ?_)
 simp only [ptrTo, oxs, simprocAttr]
 refine hLL _ _ ?_
 refine wpC_if ?_
 simp only [ptrTo, oxs, simprocAttr]
 refine wpC_exit ?_
 simp only [ptrTo, oxs, simprocAttr]
 refine sr (fun LL hLL => ?_)
 simp only [ptrTo, oxs, simprocAttr]
 refine hLL _ _ ?_
 refine wpC_ret (out_ret ?_)
 simp only [ptrTo, oxs, simprocAttr]
 exact hk
theorem sameMan_ok {h0 : AHeap} {F : List Asn} (id : Int) (pa : Option Addr) (P : List Int) (pc : Nat) (la : Option Addr) (LI : List (List Int)) (lc : Nat) (ra : Option Addr) (RR : List (List Rw)) (rc : Nat) (ea : Option Addr) (ec : Nat) (pa2 : Option Addr) (pc2 : Nat) (la2 : Option Addr) (lc2 : Nat) (ra2 : Option Addr) (rc2 : Nat) (ea2 : Option Addr) (ec2 : Nat) (h : AHeap)
  (rp : Rd h0 F icell 1 pa P) (rl : ∀ h, St h0 h F → RsN icell 1 h la LI) (rr : ∀ h, St h0 h F → RsN rcell 3 h ra RR) (rp2 : Rd h0 F icell 1 pa2 P) (rl2 : ∀ h, St h0 h F → RsN icell 1 h la2 LI) (rr2 : ∀ h, St h0 h F → RsN rcell 3 h ra2 RR) (b1 : P.length ≤ 2000) (b2 : LI.length ≤ 2000) (b3 : RR.length ≤ 2000) (b5 : ∀ x ∈ LI, x.length ≤ 2000) (b6 : ∀ x ∈ RR, x.length ≤ 2000)
  (s : St h0 h F) (K : Value → AHeap → Prop) (hk : ∀ h', St h0 h' F → K (.bool true) h') :
  wpF Tryz.prog (.fn 16) [.agg #[.int .i64 id, .slice pa P.length pc, .slice la LI.length lc, .slice ra RR.length rc, .slice ea 0 ec], .agg #[.int .i64 id, .slice pa2 P.length pc2, .slice la2 LI.length lc2, .slice ra2 RR.length rc2, .slice ea2 0 ec2]] h K := by
 refine wpF_fun 38 [.tmp 4] Tryz.func16 rfl rfl rfl rfl ?_
 obtain ⟨bm, ebm⟩ : ∃ b, b = h.next := ⟨_, rfl⟩
 obtain ⟨bn, ebn⟩ : ∃ b, b = bm + 1 := ⟨_, rfl⟩
 have s1 := (s.push (.cells false 0 [.int .i64 id, .slice pa P.length pc, .slice la LI.length lc, .slice ra RR.length rc, .slice ea 0 ec] 30)).push (.cells false 0 [.int .i64 id, .slice pa2 P.length pc2, .slice la2 LI.length lc2, .slice ra2 RR.length rc2, .slice ea2 0 ec2] 30)
 simp only [AHeap.next_push, ← ebm, ← ebn] at s1
 obtain ⟨h1, e1⟩ : ∃ h1, h1 = (h.push (.cells false 0 [.int .i64 id, .slice pa P.length pc, .slice la LI.length lc, .slice ra RR.length rc, .slice ea 0 ec] 30)).push (.cells false 0 [.int .i64 id, .slice pa2 P.length pc2, .slice la2 LI.length lc2, .slice ra2 RR.length rc2, .slice ea2 0 ec2] 30) := ⟨_, rfl⟩
 rw [← e1] at s1
 refine sr (fun LL hLL => ?_)
 simp only [ptrTo, oxs, simprocAttr, AHeap.next_push, ← ebm, ← ebn, ← e1]
 refine hLL _ _ ?_
 have g2 := s1.get
 have g1 := (s1.mv 1).get
 have s0 := s1.drop.drop
 refine sr (fun LL hLL => ?_)
 simp only [ptrTo, pend, pend0, Pd.old, pendU, pendU0, Nat.testBit, oxh, simprocAttr, g1, g2]
 refine sameInts_ok P P pa pa2 pc pc2 _ _ (rp _ s0) (rp2 _ s0) (by omega) ?_
 simp only [ptrTo, pend, pend0, Pd.old, pendU, pendU0, Nat.testBit, oxh, simprocAttr, g1, g2, decide_true]
 refine sameIntLists_ok LI LI la la2 lc lc2 _ _ (rl _ s0) (rl2 _ s0) (by omega) (fun x hx => by have := b5 x hx; omega) ?_
 simp only [ptrTo, pend, pend0, Pd.old, pendU, pendU0, Nat.testBit, oxh, simprocAttr, g1, g2, decide_true]
 refine sameRowLists_ok RR RR ra ra2 rc rc2 _ _ (rr _ s0) (rr2 _ s0) (by omega) (fun x hx => by have := b6 x hx; omega) ?_
 simp only [ptrTo, pend, pend0, Pd.old, pendU, pendU0, Nat.testBit, oxh, simprocAttr, g1, g2, decide_true]
 refine sameRecLists_nil ea ea2 ec ec2 _ _ ?_
 simp only [ptrTo, pend, pend0, Pd.old, pendU, pendU0, Nat.testBit, oxh, simprocAttr]
 refine hLL _ _ ?_
 refine wpC_ret (out_ret ?_)
 simp only [ptrTo, oxs, simprocAttr]
 exact hk _ s0
end Go.Proofs

namespace Go.Proofs
open Go Go.Ox
set_option maxRecDepth 100000
set_option maxHeartbeats 4000000
def rtabsA (g : Int) (T : List (Nat × Tb)) : Asn := star (T.map fun x => rtA x.1 g x.2)
theorem rtabs_pick {h0 h : AHeap} {F : List Asn} {g : Int} {T : List (Nat × Tb)} (s : St h0 h (rtabsA g T :: F)) (j : Nat) (hj : j < T.length) : St h0 h (rtA T[j].1 g T[j].2 :: star ((T.map fun x => rtA x.1 g x.2).eraseIdx j) :: F) := by
 have := St.pick (l := T.map fun x => rtA x.1 g x.2) s j (by simpa using hj)
 rwa [List.getElem_map] at this
theorem rtabs_unpick {h0 h : AHeap} {F : List Asn} {g : Int} {T : List (Nat × Tb)} (j : Nat) (hj : j < T.length) (b : Nat) (N : Tb) (s : St h0 h (rtA b g N :: star ((T.map fun x => rtA x.1 g x.2).eraseIdx j) :: F)) : St h0 h (rtabsA g (T.set j (b, N)) :: F) := by
 have := St.unpick (l := T.map fun x => rtA x.1 g x.2) j (by simpa using hj) s
 unfold rtabsA
 rwa [List.map_set]
theorem rtabs_nil {h0 h : AHeap} {F : List Asn} {g : Int} (s : St h0 h F) : St h0 h (rtabsA g [] :: F) := s.star_nil
theorem rtabs_snoc {h0 h : AHeap} {F : List Asn} {g : Int} {T : List (Nat × Tb)} {b : Nat} {N : Tb} (s : St h0 h (rtabsA g T :: rtA b g N :: F)) : St h0 h (rtabsA g (T ++ [(b, N)]) :: F) := by
 have := St.star_snoc (l := T.map fun x => rtA x.1 g x.2) s
 unfold rtabsA
 rwa [List.map_append]
/-- A move, and its operator: five cells. -/
def rmvc (x : MvX) : List Value := .int .i64 x.1 :: x.2.2.cells
theorem rmvc.len (x : MvX) : (rmvc x).length = 5 := rfl
theorem rmvc.oc (x : MvX) : (rmvc x).all Value.oneCell' = true := rfl
theorem ptrs_snoc (T : List (Nat × Tb)) (b : Nat) (N : Tb) : ptrs (T ++ [(b, N)]) = ptrs T ++ [some b] := by simp [ptrs]
theorem states_ok {h0 : AHeap} {F : List Asn} (x : OpX) (h : AHeap) (s : St h0 h F) (K : Value → AHeap → Prop) (hk : ∀ h', St h0 h' F → K (.bool (stf x)) h') : wpF Tryz.prog (.fn 37) [.agg x.cells.toArray] h K := by
 have hxc : x.cells = [.int .i64 x.kind, .slice x.a x.inn.length x.cap, .int .i64 x.f1, .int .i64 x.f2, .int .i64 x.f3, .int .i64 x.parts, .int .i64 x.rate, .int .i64 x.cost] := rfl
 have s1 := s.push (.cells false 0 x.cells 69)
 obtain ⟨h1, e1⟩ : ∃ h1, h1 = h.push (.cells false 0 x.cells 69) := ⟨_, rfl⟩
 obtain ⟨b, eb⟩ : ∃ b, b = h.next := ⟨_, rfl⟩
 rw [← e1, ← eb] at s1
 have g1 := s1.get
 rw [hxc] at g1 e1 ⊢
 refine wpF_fun 11 [.tmp 2] Tryz.func37 rfl rfl rfl rfl ?_
 refine sr (fun LL hLL => ?_)
 simp only [ptrTo, oxs, simprocAttr, ← e1, ← eb]
 refine hLL _ _ ?_
 by_cases k5 : x.kind = 5
 ·refine sr (fun LL hLL => ?_)
  simp only [ptrTo, oxs, simprocAttr, g1, eq_true k5]
  refine hLL _ _ ?_
  refine wpC_ret (out_ret ?_)
  simp only [ptrTo, oxs, simprocAttr]
  have := hk _ s1.drop
  rwa [show stf x = true by simp [stf, k5]] at this
 ·by_cases k6 : x.kind = 6
  ·refine sr (fun LL hLL => ?_)
   simp only [ptrTo, oxs, simprocAttr, g1, eq_false k5, eq_true k6]
   refine hLL _ _ ?_
   refine wpC_ret (out_ret ?_)
   simp only [ptrTo, oxs, simprocAttr]
   have := hk _ s1.drop
   rwa [show stf x = true by simp [stf, k6]] at this
  ·refine sr (fun LL hLL => ?_)
   simp only [ptrTo, oxs, simprocAttr, g1, eq_false k5, eq_false k6]
   refine hLL _ _ ?_
   refine wpC_ret (out_ret ?_)
   simp only [ptrTo, oxs, simprocAttr]
   have := hk _ s1.drop
   rwa [show stf x = false by simp [stf, k5, k6]] at this
end Go.Proofs

namespace Go.Proofs
open Go Go.Ox
set_option maxRecDepth 100000
set_option maxHeartbeats 8000000
theorem take_snoc {α : Type} (TT : List α) (k : Nat) (hk : k < TT.length) : TT.take (k + 1) = TT.take k ++ [TT[k]] := List.take_succ_eq_append_getElem hk
theorem wns_more {h0 h : AHeap} {G : List Asn} {S3 : List Sv} {LL : List (List (Option Nat))} {q : Option Addr} {qc : Nat} {T : List (Nat × Tb)} (hS : S3.map Sv.len = LL.map List.length) (s : St h0 h (wn ptc 1 85 q qc (ptrs T) :: star (wns ptc 1 85 S3 LL) :: G)) : St h0 h (star (wns ptc 1 85 (S3 ++ [(⟨q, T.length, qc⟩ : Sv)]) (LL ++ [ptrs T])) :: G) ∧ (S3 ++ [(⟨q, T.length, qc⟩ : Sv)]).map Sv.len = (LL ++ [ptrs T]).map List.length := by
 have s1 := (s.mv 1).star_snoc
 refine ⟨?_, ?_⟩
 ·rw [wns_snoc (lens hS)]; exact s1
 ·rw [List.map_append, List.map_append, hS]; simp [ptrs_len]
theorem rts_more {h0 h : AHeap} {G : List Asn} {g : Int} {l : List (List (Nat × Tb))} {T : List (Nat × Tb)} (s : St h0 h (rtabsA g T :: star (l.map (rtabsA g)) :: G)) : St h0 h (star ((l ++ [T]).map (rtabsA g)) :: G) := by
 rw [List.map_append]
 exact (s.mv 1).star_snoc
theorem refNew_ok {h0 : AHeap} {F : List Asn} {g : Nat} (hg : 1 ≤ g) (h64 : g ≤ 64) (a : Option Addr) (c : Nat) (L : List OpX) (hL1 : 1 ≤ L.length) (hn : L.length ≤ 12) (hi20 : ∀ x ∈ L, x.inn.length ≤ 20) (id : Int) (pa : Option Addr) (O : List Int) (pc : Nat) (la : Option Addr) (LI : List (List Int)) (lc : Nat) (ra : Option Addr) (RR : List (List Rw)) (rc : Nat) (ea : Option Addr) (EE : List (List Rc2)) (ec : Nat) (ya : Option Addr) (yc : Nat) (P : List Int) (h : AHeap)
  (sp : SpR h0 a L) (rO : Rd h0 F icell 1 pa O) (rl : RdN h0 F icell 1 la LI) (rr : RdN h0 F rcell 3 ra RR) (re : RdN h0 F r2cell 2 ea EE) (rP : Rd h0 F icell 1 ya P) (hOl : O.length = L.length) (hPl : P.length = L.length)
  (hO : ∀ x ∈ O, 1 ≤ x ∧ x ≤ 8 ∧ x ≤ (g : Int)) (hP : ∀ x ∈ P, 1 ≤ x ∧ x ≤ 8 ∧ x ≤ (g : Int)) (b2 : LI.length ≤ 2000) (b3 : RR.length ≤ 2000) (b4 : EE.length ≤ 2000) (b5 : ∀ x ∈ LI, x.length ≤ 2000) (b6 : ∀ x ∈ RR, x.length ≤ 2000) (b7 : ∀ x ∈ EE, x.length ≤ 2000) (hw : ∀ l ∈ RR, ∀ r ∈ l, (Lit.int .i64 r.1).wf = true) (s : St h0 h F) (K : Value → AHeap → Prop)
  (hK : ∀ br sb sn sd qa qc ka kc ga gc xa xc wa wc S3 S TT Q ta tc ma mc h', RunJ g L O P RR L.length S TT Q → S3.map Sv.len = (TT.map ptrs).map List.length → St h0 h' (own br (.cells false 0 [.int .i64 g, .slice sb sn sd, .int .i64 id, .slice qa O.length qc, .slice ka LI.length kc, .slice ga RR.length gc, .slice xa EE.length xc, .slice wa P.length wc, .slice ta S3.length tc, .slice ma Q.length mc] 82) :: wn Sv.cells 1 83 ta tc S3 :: star (wns ptc 1 85 S3 (TT.map ptrs)) :: star (TT.map (rtabsA g)) :: wn rmvc 5 90 ma mc Q :: wn icell 1 3 wa wc P :: wn icell 1 3 qa qc O :: nest icell 1 3 25 ka kc LI :: nest rcell 3 52 48 ga gc RR :: nest r2cell 2 130 110 xa xc EE :: F) → K (.pointer (some ⟨br, 0, none⟩)) h') :
  wpF Tryz.prog (.fn 11) [.agg #[.int .i64 g, .slice a L.length c], .agg #[.int .i64 id, .slice pa O.length pc, .slice la LI.length lc, .slice ra RR.length rc, .slice ea EE.length ec], .slice ya P.length yc] h K := by
 have sv : ∀ (a : Option Addr) (m n : Nat), veq 6 (.slice a m n) (.slice a m n) = true := by intro a m n; simp [veq]
 obtain ⟨bO, oO, rfl, gO0⟩ := rdCell rO s 0 (by omega)
 obtain ⟨bP, oP, rfl, gP0⟩ := rdCell rP s 0 (by omega)
 clear gO0 gP0
 refine wpF_fun 155 [.tmp 6] Tryz.func11 rfl rfl rfl rfl ?_
 obtain ⟨bs, ebs⟩ : ∃ b, b = h.next := ⟨_, rfl⟩
 obtain ⟨bm, ebm⟩ : ∃ b, b = bs + 1 := ⟨_, rfl⟩
 have s1 := (s.push (spB g a L.length c)).push (.cells false 0 [.int .i64 id, .slice (some ⟨bO, oO, none⟩) O.length pc, .slice la LI.length lc, .slice ra RR.length rc, .slice ea EE.length ec] 30)
 simp only [AHeap.next_push, ← ebs, ← ebm] at s1
 obtain ⟨h1, e1⟩ : ∃ h1, h1 = (h.push (spB g a L.length c)).push (.cells false 0 [.int .i64 id, .slice (some ⟨bO, oO, none⟩) O.length pc, .slice la LI.length lc, .slice ra RR.length rc, .slice ea EE.length ec] 30) := ⟨_, rfl⟩
 rw [← e1] at s1
 refine sr (fun LL hLL => ?_)
 simp only [ptrTo, oxs, simprocAttr, AHeap.next_push, ← ebs, ← ebm, ← e1]
 refine hLL _ _ ?_
 have gm := s1.get
 have gs := (s1.mv 1).get
 refine sd [0, 2, 4, 1, 3, 5, 6, 7, 8] [0, 0, 0, 1, 7, 31, 63, 127, 255] (by decide +kernel) (by decide +kernel) (by decide +kernel) (fun LL hLL => ?_)
 simp only [ptrTo, pend, pend0, Pd.old, pendU, pendU0, Nat.testBit, oxh, simprocAttr, gm, gs, sv]
 refine copySpec_ok g a c L sp hn hi20 _ s1 _ fun sb sn sd h2 s2 => ?_
 have gm2 := s2.get
 have gs2 := (s2.mv 1).get
 simp only [ptrTo, pend, pend0, Pd.old, pendU, pendU0, Nat.testBit, oxh, simprocAttr, gm, gs, gm2, gs2, sv]
 refine copyMan_ok id _ O pc la LI lc ra RR rc ea EE ec _ rO.up.up rl.up.up rr.up.up re.up.up (by omega) b2 b3 b4 b5 b6 b7 s2 _ fun qa qc ka kc ga gc xa xc h3 s3 => ?_
 have gm3 := (s3.mv 4).get
 have gs3 := (s3.mv 5).get
 simp only [ptrTo, pend, pend0, Pd.old, pendU, pendU0, Nat.testBit, oxh, simprocAttr, gm, gs, gm2, gs2, gm3, gs3, sv]
 refine copyInts_ok P _ yc _ rP.up.up.up.up.up.up (by omega) s3 _ fun wa wc h4 s4 => ?_
 have gm4 := (s4.mv 5).get
 have gs4 := (s4.mv 6).get
 obtain ⟨br, ebr⟩ : ∃ b, b = h4.next := ⟨_, rfl⟩
 have s5 := s4.push (.cells false 0 [.int .i64 g, .slice sb sn sd, .int .i64 id, .slice qa O.length qc, .slice ka LI.length kc, .slice ga RR.length gc, .slice xa EE.length xc, .slice wa P.length wc, .slice none 0 0, .slice none 0 0] 82)
 rw [← ebr] at s5
 obtain ⟨h5, e5⟩ : ∃ h5, h5 = h4.push (.cells false 0 [.int .i64 g, .slice sb sn sd, .int .i64 id, .slice qa O.length qc, .slice ka LI.length kc, .slice ga RR.length gc, .slice xa EE.length xc, .slice wa P.length wc, .slice none 0 0, .slice none 0 0] 82) := ⟨_, rfl⟩
 rw [← e5] at s5
 simp only [ptrTo, pend, pend0, Pd.old, pendU, pendU0, Nat.testBit, oxh, simprocAttr, gm, gs, gm2, gs2, gm3, gs3, gm4, gs4, sv, ← ebr, ← e5]
 refine hLL _ _ ?_
 clear gm gs gm2 gs2 gm3 gs3 gm4 gs4 s1 s2 s3 s4
 obtain ⟨F7, eF7⟩ : ∃ F7, F7 = own bm (.cells false 0 [.int .i64 id, .slice (some ⟨bO, oO, none⟩) O.length pc, .slice la LI.length lc, .slice ra RR.length rc, .slice ea EE.length ec] 30) :: own bs (spB g a L.length c) :: wn icell 1 3 wa wc P :: wn icell 1 3 qa qc O :: nest icell 1 3 25 ka kc LI :: nest rcell 3 52 48 ga gc RR :: nest r2cell 2 130 110 xa xc EE :: F := ⟨_, rfl⟩
 have toF : ∀ h', St h0 h' F7 → St h0 h' F := fun h' s => by subst eF7; exact s.drop.drop.drop.drop.drop.drop.drop
 have getm : ∀ h', St h0 h' F7 → h'.get bm = some (.cells false 0 [.int .i64 id, .slice (some ⟨bO, oO, none⟩) O.length pc, .slice la LI.length lc, .slice ra RR.length rc, .slice ea EE.length ec] 30) := fun h' s => by subst eF7; exact s.get
 have gets : ∀ h', St h0 h' F7 → h'.get bs = some (spB g a L.length c) := fun h' s => by subst eF7; exact (s.mv 1).get
 have s6 : St h0 h5 (own br (.cells false 0 [.int .i64 g, .slice sb sn sd, .int .i64 id, .slice qa O.length qc, .slice ka LI.length kc, .slice ga RR.length gc, .slice xa EE.length xc, .slice wa P.length wc, .slice none 0 0, .slice none 0 0] 82) :: F7) := by
  subst eF7
  exact s5.sel 8 [0, 6, 7, 1, 2, 3, 4, 5]
 have fin := fun h' (s : St h0 h' F7) => (by subst eF7; exact s.drop.drop : St h0 h' (wn icell 1 3 wa wc P :: wn icell 1 3 qa qc O :: nest icell 1 3 25 ka kc LI :: nest rcell 3 52 48 ga gc RR :: nest r2cell 2 130 110 xa xc EE :: F))
 have s7 : St h0 h5 (own br (.cells false 0 [.int .i64 g, .slice sb sn sd, .int .i64 id, .slice qa O.length qc, .slice ka LI.length kc, .slice ga RR.length gc, .slice xa EE.length xc, .slice wa P.length wc, .slice none ([] : List Sv).length 0, .slice none ([] : List MvX).length 0] 82) :: wn Sv.cells 1 83 none 0 [] :: star (wns ptc 1 85 [] ((([] : List (List (Nat × Tb))).take 0).map ptrs)) :: star ((([] : List (List (Nat × Tb))).take 0).map (rtabsA g)) :: wn rmvc 5 90 none 0 [] :: F7) :=
  ((s6.wn_nil (f := rmvc) (k := 5) (e := 90)).star_nil.star_nil.wn_nil (f := Sv.cells) (k := 1) (e := 83)).sel 5 [4, 0, 1, 2, 3]
 clear s5 s6
 refine sm (fun T h' => ∃ (S3 S : List Sv) (TT : List (List (Nat × Tb))) (Q : List MvX) (ta : Option Addr) (tc : Nat) (ma : Option Addr) (mc : Nat) (u0 u1 u3 u4 u5 u6 : Value) (R : List Value), RunJ g L O P RR L.length S TT Q ∧ S3.map Sv.len = ((TT.take L.length).map ptrs).map List.length ∧ St h0 h' (own br (.cells false 0 [.int .i64 g, .slice sb sn sd, .int .i64 id, .slice qa O.length qc, .slice ka LI.length kc, .slice ga RR.length gc, .slice xa EE.length xc, .slice wa P.length wc, .slice ta S3.length tc, .slice ma Q.length mc] 82) :: wn Sv.cells 1 83 ta tc S3 :: star (wns ptc 1 85 S3 ((TT.take L.length).map ptrs)) :: star ((TT.take L.length).map (rtabsA g)) :: wn rmvc 5 90 ma mc Q :: F7) ∧ T = u0 :: u1 :: .slice (some ⟨bP, oP, none⟩) P.length yc :: u3 :: u4 :: u5 :: u6 :: .pointer (some ⟨br, 0, none⟩) :: R) ?_ ?_
 ·refine sr (fun LL hLL => ?_)
  simp only [ptrTo, oxs, simprocAttr]
  refine hLL _ _ ?_
  refine fg9 (fun R => ?_)
  refine wpC_block ?_
  refine wpC_loop (fun m T h' => ∃ (k : Nat) (S3 S : List Sv) (TT : List (List (Nat × Tb))) (Q : List MvX) (ta : Option Addr) (tc : Nat) (ma : Option Addr) (mc : Nat) (u0 u1 u5 u6 : Value) (R : List Value), m + k = L.length ∧ RunJ g L O P RR k S TT Q ∧ S3.map Sv.len = ((TT.take k).map ptrs).map List.length ∧ St h0 h' (own br (.cells false 0 [.int .i64 g, .slice sb sn sd, .int .i64 id, .slice qa O.length qc, .slice ka LI.length kc, .slice ga RR.length gc, .slice xa EE.length xc, .slice wa P.length wc, .slice ta S3.length tc, .slice ma Q.length mc] 82) :: wn Sv.cells 1 83 ta tc S3 :: star (wns ptc 1 85 S3 ((TT.take k).map ptrs)) :: star ((TT.take k).map (rtabsA g)) :: wn rmvc 5 90 ma mc Q :: F7) ∧ T = u0 :: u1 :: .slice (some ⟨bP, oP, none⟩) P.length yc :: .pointer (some ⟨bs, 0, none⟩) :: .pointer (some ⟨bm, 0, none⟩) :: u5 :: u6 :: .pointer (some ⟨br, 0, none⟩) :: .int .i64 k :: R) ?_ L.length _ _ ⟨0, [], _, _, [], none, 0, none, 0, _, _, _, _, R, by omega, RunJ.zero g L O P RR, rfl, s7, rfl⟩
  clear s7
  rintro m T h' ⟨k, S3, S, TT, Q, ta, tc, ma, mc, u0, u1, u5, u6, R, hmk, hJ, hS3, s8, rfl⟩
  have F7s := s8.drop.drop.drop.drop.drop
  have gs := gets _ F7s
  refine wpC_seq (sr fun LL hLL => ?_)
  simp only [ptrTo, oxs, simprocAttr, gs]
  refine hLL _ _ ?_
  refine wpC_if ?_
  simp only [ptrTo, oxs, simprocAttr]
  refine gC_of (fun hc => ?_) (fun hc => ?_)
  ·refine wpC_skip ?_
   simp only [ptrTo, oxs, simprocAttr]
   refine fg9 (fun R => ?_)
   have hk' : k < L.length := by omega
   have hkT : k < TT.length := by rw [hJ.len]; exact hk'
   have hkO : k < O.length := by omega
   have hkP : k < P.length := by omega
   have hOk := hO _ (List.getElem_mem hkO)
   have hPk := hP _ (List.getElem_mem hkP)
   have hfQ := hJ.few
   have hTk := (hJ.no k hkT hk' (.inl (Nat.le_refl _))).1
   have hLL : ((TT.take (k + 1)).map ptrs) = ((TT.take k).map ptrs) ++ [ptrs TT[k]] := by rw [take_snoc TT k hkT, List.map_append]; rfl
   have zz : aZeros [.slice none 0 0] 1 = [.slice none 0 0] := rfl
   have zp : aZeros [.pointer none] 1 = [.pointer none] := rfl
   have hS3l : S3.length = k := by have := congrArg List.length hS3; simp at this; omega
   obtain ⟨q1, o1, ro1, sz1, C1, T1, ea1, p1, gq, w0, w1, w2, x2, w8, x8⟩ := (sp.fr (toF _ F7s).base).at k hk'
   have atS : ∀ h', St h0 h' F → ∃ ro sz C T, h'.get q1 = some (.cells ro sz C T) ∧ (C.drop (o1 + k * 8)).take 8 = L[k].cells ∧ o1 + k * 8 + 8 ≤ C.length := fun h' s => by
    obtain ⟨q2, o2, ro2, sz2, C2, T2, ea2, _, g2, _, _, _, _, w82, x82⟩ := (sp.fr s.base).at k hk'
    rw [ea1] at ea2
    cases ea2
    exact ⟨ro2, sz2, C2, T2, g2, w82, x82⟩
   clear gq w0 w1 w2 x2 w8 x8 p1 gs
   have gets' : ∀ h', St h0 h' F7 → h'.get bs = some (.cells false 0 [.int .i64 g, .slice (some ⟨q1, o1, none⟩) L.length c] 24) := fun h' s => by rw [gets h' s, ea1]
   have hxc : L[k].cells = [.int .i64 L[k].kind, .slice L[k].a L[k].inn.length L[k].cap, .int .i64 L[k].f1, .int .i64 L[k].f2, .int .i64 L[k].f3, .int .i64 L[k].parts, .int .i64 L[k].rate, .int .i64 L[k].cost] := rfl
   have va : (L[k].cells.all fun x => veq 5 x x) = true := by rw [hxc]; simp [veq]
   refine wpC_seq (wpC_block ?_)
   refine sr (fun LL hLL => ?_)
   simp only [ptrTo, oxs, simprocAttr]
   refine hLL _ _ ?_
   refine xp9 1 (by repeat (first | exact tput_le _ _ _ _ (.inr (by omega)) | refine tput_le _ _ _ _ (.inl ?_))) (fun R => ?_)
   simp only [ptrTo, oxs, simprocAttr, show List.range 1 = [0] from rfl]
   refine fg10 (fun R => ?_)
   cases hst : stf L[k] with
   | false =>
    refine sm (fun T h' => St h0 h' (own br (.cells false 0 [.int .i64 g, .slice sb sn sd, .int .i64 id, .slice qa O.length qc, .slice ka LI.length kc, .slice ga RR.length gc, .slice xa EE.length xc, .slice wa P.length wc, .slice ta S3.length tc, .slice ma Q.length mc] 82) :: wn Sv.cells 1 83 ta tc S3 :: star (wns ptc 1 85 S3 ((TT.take k).map ptrs)) :: star ((TT.take k).map (rtabsA g)) :: wn rmvc 5 90 ma mc Q :: F7) ∧ ∃ (u0 u1 u5 u6 : Value) (R : List Value), T = u0 :: u1 :: .slice (some ⟨bP, oP, none⟩) P.length yc :: .pointer (some ⟨bs, 0, none⟩) :: .pointer (some ⟨bm, 0, none⟩) :: u5 :: u6 :: .pointer (some ⟨br, 0, none⟩) :: .int .i64 k :: .slice none 0 0 :: R) ?_ ?_
    ·refine sr (fun LL hLL => ?_)
     simp only [ptrTo, oxs, simprocAttr]
     refine hLL _ _ ?_
     refine xp10 1 (by repeat (first | exact tput_le _ _ _ _ (.inr (by omega)) | refine tput_le _ _ _ _ (.inl ?_))) (fun R => ?_)
     simp only [ptrTo, oxs, simprocAttr, show List.range 1 = [0] from rfl]
     refine fg11 (fun R => ?_)
     refine wpC_block ?_
     refine wpC_loop (fun m T h' => St h0 h' (own br (.cells false 0 [.int .i64 g, .slice sb sn sd, .int .i64 id, .slice qa O.length qc, .slice ka LI.length kc, .slice ga RR.length gc, .slice xa EE.length xc, .slice wa P.length wc, .slice ta S3.length tc, .slice ma Q.length mc] 82) :: wn Sv.cells 1 83 ta tc S3 :: star (wns ptc 1 85 S3 ((TT.take k).map ptrs)) :: star ((TT.take k).map (rtabsA g)) :: wn rmvc 5 90 ma mc Q :: F7) ∧ ∃ (u0 u1 u5 u6 : Value) (R : List Value), T = u0 :: u1 :: .slice (some ⟨bP, oP, none⟩) P.length yc :: .pointer (some ⟨bs, 0, none⟩) :: .pointer (some ⟨bm, 0, none⟩) :: u5 :: u6 :: .pointer (some ⟨br, 0, none⟩) :: .int .i64 k :: .slice none 0 0 :: .int .i64 0 :: R) ?_ 0 _ _ ⟨s8, _, _, _, _, _, rfl⟩
     rintro m T h' ⟨s9, u0, u1, u5, u6, R, rfl⟩
     have F9 := s9.drop.drop.drop.drop.drop
     have gs := gets' _ F9
     obtain ⟨ro2, sz2, C2, T2, gq, w8, x8⟩ := atS _ (toF _ F9)
     refine wpC_seq ?_
     refine su [some 31, some 32, some 33, some 34, some 35, some 36, some 37, some 38, some 39, some 40, some 41, some 42, some 43, some 44, some 45, some 46, some 47, some 48, some 49, some 50] 20 [0, 1, 0, 7, 15, 31, 63, 127, 127, 383, 127, 1919, 3967, 127, 127, 24703, 57471, 130943, 262143, 524287] (by rfl) (by rfl) (by decide +kernel) (by decide +kernel) (by decide +kernel) (fun LL hLL => ?_)
     simp only [ptrTo, pend, pend0, Pd.old, pendU, pendU0, Nat.testBit, oxh, simprocAttr, gs, ixF hk', gq, w8, x8, sv, va, OpX.len]
     refine states_ok L[k] _ s9 _ fun h10 s10 => ?_
     rw [hst]
     have F10 := s10.drop.drop.drop.drop.drop
     have gs2 := gets' _ F10
     obtain ⟨ro3, sz3, C3, T3, gq3, w83, x83⟩ := atS _ (toF _ F10)
     simp only [ptrTo, pend, pend0, Pd.old, pendU, pendU0, Nat.testBit, oxh, simprocAttr, gs, gs2, ixF hk', gq, gq3, w8, x8, w83, x83, sv, va, OpX.len]
     refine hLL _ _ ?_
     refine wpC_if ?_
     simp only [ptrTo, oxs, simprocAttr]
     refine wpC_exit ?_
     simp only [ptrTo, oxs, simprocAttr]
     exact ⟨s10, _, _, _, _, _, rfl⟩
    rintro T h' ⟨s9, u0, u1, u5, u6, R, rfl⟩
    have gb := s9.get
    obtain ⟨aE, cE, h10, y1, y2⟩ := (s9.mv 1).app1 (bytes := 24) (⟨none, 0, 0⟩ : Sv) Sv.len1 Sv.oc (by omega) (by omega)
    have y1' := y1
    simp only [Sv.cells] at y1'
    have g10 := (y2.mv 1).get
    refine sr (fun LL hLL => ?_)
    simp only [ptrTo, oxs, simprocAttr, gb, zz]
    rw [y1']
    simp only [ptrTo, oxs, simprocAttr, g10]
    rw [show S3.length + 1 = (S3 ++ [(⟨none, 0, 0⟩ : Sv)]).length by simp]
    have s11 := (y2.mv 1).set (.cells false 0 [.int .i64 g, .slice sb sn sd, .int .i64 id, .slice qa O.length qc, .slice ka LI.length kc, .slice ga RR.length gc, .slice xa EE.length xc, .slice wa P.length wc, .slice aE (S3 ++ [(⟨none, 0, 0⟩ : Sv)]).length cE, .slice ma Q.length mc] 82)
    obtain ⟨h11, e11⟩ : ∃ h11, h11 = h10.set br (.cells false 0 [.int .i64 g, .slice sb sn sd, .int .i64 id, .slice qa O.length qc, .slice ka LI.length kc, .slice ga RR.length gc, .slice xa EE.length xc, .slice wa P.length wc, .slice aE (S3 ++ [(⟨none, 0, 0⟩ : Sv)]).length cE, .slice ma Q.length mc] 82) := ⟨_, rfl⟩
    rw [← e11] at s11 ⊢
    refine hLL _ _ ?_
    refine fg10 (fun R => ?_)
    have F9 := s11.drop.drop.drop.drop.drop
    have gs := gets' _ F9
    obtain ⟨ro2, sz2, C2, T2, gq, w8, x8⟩ := atS _ (toF _ F9)
    refine wpC_seq (sr fun LL hLL => ?_)
    simp only [ptrTo, pend, pend0, Pd.old, pendU, pendU0, Nat.testBit, oxh, simprocAttr, gs, ixF hk', gq, w8, x8, OpX.len]
    refine states_ok L[k] _ s11 _ fun h12 s12 => ?_
    rw [hst]
    simp only [ptrTo, pend, pend0, Pd.old, pendU, pendU0, Nat.testBit, oxh, simprocAttr]
    refine hLL _ _ ?_
    refine wpC_if ?_
    simp only [ptrTo, oxs, simprocAttr]
    refine wpC_exit ?_
    simp only [ptrTo, oxs, simprocAttr]
    refine fg9 (fun R => ?_)
    refine rg (fun LL hLL => ?_)
    simp only [ptrTo, oxs, simprocAttr, wsucc (show k < 9223372036854775807 by omega)]
    refine hLL _ _ ?_
    simp only [ptrTo, oxs, simprocAttr]
    have hTs : TT.take (k + 1) = TT.take k ++ [[]] := by rw [take_snoc TT k hkT, hTk]
    have s13 : St h0 h12 (wn ptc 1 85 none 0 (ptrs []) :: _) := s12.wn_nil (f := ptc) (k := 1) (e := 85)
    have s14 := (s13).sel 6 [0, 3, 1, 2, 4, 5]
    simp only [oxf] at s14
    obtain ⟨s15, hS4⟩ := wns_more hS3 s14
    have s16 := rtabs_nil (g := (g : Int)) s15
    have s17 := (s16).sel 6 [0, 4, 1, 2, 3, 5]
    simp only [oxf] at s17
    have s18 := rts_more s17
    have s19 := (s18).sel 5 [2, 3, 1, 0, 4]
    simp only [oxf] at s19
    rw [show ((TT.take k).map ptrs) ++ [ptrs []] = (TT.take (k + 1)).map ptrs by rw [hTs, List.map_append]; rfl] at s19 hS4
    rw [← hTs] at s19
    exact ⟨m - 1, by omega, k + 1, S3 ++ [(⟨none, 0, 0⟩ : Sv)], S, TT, Q, aE, cE, ma, mc, _, _, _, _, _, by omega, hJ.skip hk' hst, hS4, s19, rfl⟩
   | true =>
    obtain ⟨q5, o5, e5, gO⟩ := rdCell rO (toF _ F7s) k hkO
    cases e5
    obtain ⟨q6, o6, e6, gP⟩ := rdCell rP (toF _ F7s) k hkP
    cases e6
    obtain ⟨mx, emx⟩ : ∃ mx : Nat, (mx : Int) = max O[k] P[k] := ⟨(max O[k] P[k]).toNat, by omega⟩
    have hmx8 : mx ≤ 8 := by omega
    have hmx : (if P[k] > O[k] then P[k] else O[k]) = (mx : Int) := by split <;> omega
    refine sm (fun T h' => ∃ (Ts : List (Nat × Tb)) (pa : Option Addr) (pc : Nat), Ts.length = mx ∧ (∀ i (hi : i < Ts.length), Ts[i].2 = []) ∧ St h0 h' (wn ptc 1 85 pa pc (ptrs Ts) :: rtabsA g Ts :: own br (.cells false 0 [.int .i64 g, .slice sb sn sd, .int .i64 id, .slice qa O.length qc, .slice ka LI.length kc, .slice ga RR.length gc, .slice xa EE.length xc, .slice wa P.length wc, .slice ta S3.length tc, .slice ma Q.length mc] 82) :: wn Sv.cells 1 83 ta tc S3 :: star (wns ptc 1 85 S3 ((TT.take k).map ptrs)) :: star ((TT.take k).map (rtabsA g)) :: wn rmvc 5 90 ma mc Q :: F7) ∧ ∃ (u0 u1 u5 u6 : Value) (R : List Value), T = u0 :: u1 :: .slice (some ⟨bP, oP, none⟩) P.length yc :: .pointer (some ⟨bs, 0, none⟩) :: .pointer (some ⟨bm, 0, none⟩) :: u5 :: u6 :: .pointer (some ⟨br, 0, none⟩) :: .int .i64 k :: .slice pa Ts.length pc :: R) ?_ ?_
    ·refine sr (fun LL hLL => ?_)
     simp only [ptrTo, oxs, simprocAttr]
     refine hLL _ _ ?_
     refine xp10 1 (by repeat (first | exact tput_le _ _ _ _ (.inr (by omega)) | refine tput_le _ _ _ _ (.inl ?_))) (fun R => ?_)
     simp only [ptrTo, oxs, simprocAttr, show List.range 1 = [0] from rfl]
     refine fg11 (fun R => ?_)
     refine wpC_block ?_
     have s9 : St h0 _ (wn ptc 1 85 none 0 (ptrs []) :: rtabsA g [] :: _) := (rtabs_nil (g := (g : Int)) s8).wn_nil (f := ptc) (k := 1) (e := 85)
     refine wpC_loop (fun m T h' => ∃ (Ts : List (Nat × Tb)) (pa : Option Addr) (pc : Nat), m + Ts.length = mx ∧ (∀ i (hi : i < Ts.length), Ts[i].2 = []) ∧ St h0 h' (wn ptc 1 85 pa pc (ptrs Ts) :: rtabsA g Ts :: own br (.cells false 0 [.int .i64 g, .slice sb sn sd, .int .i64 id, .slice qa O.length qc, .slice ka LI.length kc, .slice ga RR.length gc, .slice xa EE.length xc, .slice wa P.length wc, .slice ta S3.length tc, .slice ma Q.length mc] 82) :: wn Sv.cells 1 83 ta tc S3 :: star (wns ptc 1 85 S3 ((TT.take k).map ptrs)) :: star ((TT.take k).map (rtabsA g)) :: wn rmvc 5 90 ma mc Q :: F7) ∧ ∃ (u0 u1 u5 u6 : Value) (R : List Value), T = u0 :: u1 :: .slice (some ⟨bP, oP, none⟩) P.length yc :: .pointer (some ⟨bs, 0, none⟩) :: .pointer (some ⟨bm, 0, none⟩) :: u5 :: u6 :: .pointer (some ⟨br, 0, none⟩) :: .int .i64 k :: .slice pa Ts.length pc :: .int .i64 Ts.length :: R) ?_ mx _ _ ⟨[], none, 0, by simp, fun i hi => by simp at hi, s9, _, _, _, _, _, rfl⟩
     clear s8 s9 F7s
     rintro m T h' ⟨Ts, pa, pc, hmT, hTe, s9, u0, u1, u5, u6, R, rfl⟩
     have F9 := s9.drop.drop.drop.drop.drop.drop.drop
     have gs := gets' _ F9
     have gm := getm _ F9
     obtain ⟨ro2, sz2, C2, T2, gq, w8, x8⟩ := atS _ (toF _ F9)
     refine wpC_seq ?_
     refine su [some 31, some 32, some 33, some 34, some 35, some 36, some 37, some 38, some 39, some 40, some 41, some 42, some 43, some 44, some 45, some 46, some 47, some 48, some 49, some 50] 20 [0, 1, 0, 7, 15, 31, 63, 127, 127, 383, 127, 1919, 3967, 127, 127, 24703, 57471, 130943, 262143, 524287] (by rfl) (by rfl) (by decide +kernel) (by decide +kernel) (by decide +kernel) (fun LL hLL => ?_)
     simp only [ptrTo, pend, pend0, Pd.old, pendU, pendU0, Nat.testBit, oxh, simprocAttr, gs, ixF hk', gq, w8, x8, sv, va, OpX.len]
     refine states_ok L[k] _ s9 _ fun h10 s10 => ?_
     rw [hst]
     have F10 := s10.drop.drop.drop.drop.drop.drop.drop
     have gs2 := gets' _ F10
     have gm2 := getm _ F10
     obtain ⟨ro3, sz3, C3, T3, gq3, w83, x83⟩ := atS _ (toF _ F10)
     obtain ⟨ro4, sz4, C4, T4, gO4, vO4⟩ := gO _ (toF _ F10)
     obtain ⟨ro5, sz5, C5, T5, gP5, vP5⟩ := gP _ (toF _ F10)
     simp only [ptrTo, pend, pend0, Pd.old, pendU, pendU0, Nat.testBit, oxh, simprocAttr, gs, gs2, gm2, ixF hk', ixF hkO, ixF hkP, gq, gq3, w8, x8, w83, x83, sv, va, OpX.len, gO4, vO4, gP5, vP5, hmx]
     refine hLL _ _ ?_
     refine wpC_if ?_
     simp only [ptrTo, oxs, simprocAttr]
     refine gC_of (fun hc => ?_) (fun hc => ?_)
     ·refine wpC_skip ?_
      simp only [ptrTo, oxs, simprocAttr]
      refine fg11 (fun R => ?_)
      refine wpC_seq (wpC_block ?_)
      refine rg (fun LL hLL => ?_)
      simp only [ptrTo, pend, pend0, Pd.old, pendU, pendU0, Nat.testBit, oxh, simprocAttr, gs2]
      refine rnew_ok _ s10 _ fun β h11 s11 => ?_
      have hpl := ptrs_len Ts
      obtain ⟨aE, cE, h12, y1, y2⟩ := (s11.mv 1).app1 (bytes := 8) (some β) ptc.len ptc.oc (by omega) (by omega)
      have y1' := y1
      rw [hpl] at y1'
      simp only [ptc, Option.map_some] at y1'
      simp only [ptrTo, pend, pend0, Pd.old, pendU, pendU0, Nat.testBit, oxh, simprocAttr, zp]
      rw [y1']
      simp only [ptrTo, pend, pend0, Pd.old, pendU, pendU0, Nat.testBit, oxh, simprocAttr]
      refine hLL _ _ ?_
      simp only [ptrTo, oxs, simprocAttr]
      refine fg11 (fun R => ?_)
      refine rg (fun LL hLL => ?_)
      simp only [ptrTo, oxs, simprocAttr, wsucc (show Ts.length < 9223372036854775807 by omega)]
      refine hLL _ _ ?_
      simp only [ptrTo, oxs, simprocAttr]
      have s13 := (y2).sel 3 [2, 1, 0]
      simp only [oxf] at s13
      have s14 := (rtabs_snoc s13).mv 1
      rw [← ptrs_snoc Ts β []] at s14
      rw [show Ts.length + 1 = (Ts ++ [(β, ([] : Tb))]).length by simp]
      refine ⟨m - 1, by omega, Ts ++ [(β, [])], aE, cE, by simp; omega, fun i hi => ?_, s14, _, _, _, _, _, rfl⟩
      rw [List.getElem_append]
      split
      ·exact hTe _ _
      ·simp
     ·refine wpC_exit ?_
      simp only [ptrTo, oxs, simprocAttr]
      exact ⟨Ts, pa, pc, by omega, hTe, s10, _, _, _, _, _, rfl⟩
    clear s8 F7s
    rintro T h' ⟨Ts, pl, pcl, hTsl, hTe, s9, u0, u1, u5, u6, R, rfl⟩
    have gb := (s9.mv 2).get
    obtain ⟨aE, cE, h10, y1, y2⟩ := (s9.mv 3).app1 (bytes := 24) (⟨pl, Ts.length, pcl⟩ : Sv) Sv.len1 Sv.oc (by omega) (by omega)
    have y1' := y1
    simp only [Sv.cells] at y1'
    have g10 := (y2.mv 3).get
    refine sr (fun LL hLL => ?_)
    simp only [ptrTo, oxs, simprocAttr, gb, zz]
    rw [y1']
    simp only [ptrTo, oxs, simprocAttr, g10]
    rw [show S3.length + 1 = (S3 ++ [(⟨pl, Ts.length, pcl⟩ : Sv)]).length by simp]
    have s11 := (y2.mv 3).set (.cells false 0 [.int .i64 g, .slice sb sn sd, .int .i64 id, .slice qa O.length qc, .slice ka LI.length kc, .slice ga RR.length gc, .slice xa EE.length xc, .slice wa P.length wc, .slice aE (S3 ++ [(⟨pl, Ts.length, pcl⟩ : Sv)]).length cE, .slice ma Q.length mc] 82)
    obtain ⟨h11, e11⟩ : ∃ h11, h11 = h10.set br (.cells false 0 [.int .i64 g, .slice sb sn sd, .int .i64 id, .slice qa O.length qc, .slice ka LI.length kc, .slice ga RR.length gc, .slice xa EE.length xc, .slice wa P.length wc, .slice aE (S3 ++ [(⟨pl, Ts.length, pcl⟩ : Sv)]).length cE, .slice ma Q.length mc] 82) := ⟨_, rfl⟩
    rw [← e11] at s11 ⊢
    refine hLL _ _ ?_
    refine fg10 (fun R => ?_)
    have s12 := (s11).sel 7 [2, 4, 0, 1, 3, 5, 6]
    simp only [oxf] at s12
    obtain ⟨s13, hS4⟩ := wns_more hS3 s12
    obtain ⟨S4, eS4⟩ : ∃ S4, S4 = S3 ++ [(⟨pl, Ts.length, pcl⟩ : Sv)] := ⟨_, rfl⟩
    have hS4k : k < S4.length := by rw [eS4]; simp; omega
    have hS4v : S4[k] = ⟨pl, Ts.length, pcl⟩ := by subst eS4; rw [List.getElem_append_right (by omega)]; simp [hS3l]
    rw [← eS4] at s13 hS4
    have hLk : k < (List.map ptrs (List.take k TT) ++ [ptrs Ts]).length := by simp; omega
    have hLv : (List.map ptrs (List.take k TT) ++ [ptrs Ts])[k] = ptrs Ts := by rw [List.getElem_append_right (by simp; omega)]; simp
    have rdPt : ∀ G h', St h0 h' (star (wns ptc 1 85 S4 (List.map ptrs (List.take k TT) ++ [ptrs Ts])) :: G) → Rs ptc 1 h' pl (ptrs Ts) := fun G h' s => by
     have := (s.wns_rs ptc.len k hS4k hLk).1
     rw [hLv] at this
     rw [hS4v] at this
     exact this
    have s14 := (s13).sel 6 [3, 1, 2, 0, 4, 5]
    simp only [oxf] at s14
    clear s9 s11 s12 s13 y2 g10 gb
    have F9 := s14.drop.drop.drop.drop.drop.drop
    have gs := gets' _ F9
    obtain ⟨ro2, sz2, C2, T2, gq, w8, x8⟩ := atS _ (toF _ F9)
    refine wpC_seq (sr fun LL hLL => ?_)
    simp only [ptrTo, pend, pend0, Pd.old, pendU, pendU0, Nat.testBit, oxh, simprocAttr, gs, ixF hk', gq, w8, x8, OpX.len]
    refine states_ok L[k] _ s14 _ fun h12 s15 => ?_
    rw [hst]
    simp only [ptrTo, pend, pend0, Pd.old, pendU, pendU0, Nat.testBit, oxh, simprocAttr]
    refine hLL _ _ ?_
    refine wpC_if ?_
    simp only [ptrTo, oxs, simprocAttr]
    refine wpC_skip ?_
    simp only [ptrTo, oxs, simprocAttr]
    refine fg10 (fun R => ?_)
    obtain ⟨GX, eGX⟩ : ∃ GX, GX = own br (.cells false 0 [.int .i64 g, .slice sb sn sd, .int .i64 id, .slice qa O.length qc, .slice ka LI.length kc, .slice ga RR.length gc, .slice xa EE.length xc, .slice wa P.length wc, .slice aE S4.length cE, .slice ma Q.length mc] 82) :: wn Sv.cells 1 83 aE cE S4 :: star (wns ptc 1 85 S4 (List.map ptrs (List.take k TT) ++ [ptrs Ts])) :: star (List.map (rtabsA g) (List.take k TT)) :: wn rmvc 5 90 ma mc Q :: F7 := ⟨_, rfl⟩
    have toX : ∀ h', St h0 h' GX → St h0 h' F7 := fun h' s => by subst eGX; exact s.drop.drop.drop.drop.drop
    have rdX : ∀ h', St h0 h' GX → Rs ptc 1 h' pl (ptrs Ts) := fun h' s => by subst eGX; exact rdPt _ _ (s.mv 2)
    rw [← eGX] at s15
    clear F9 gs gq w8 x8 s14 rdPt
    have hpne0 : ptrs Ts ≠ [] := by intro e; have := ptrs_len Ts; rw [e] at this; simp at this; omega
    obtain ⟨b7, o7, ro7, sz7, C7, T7, e70, p7, g7, r7, q7⟩ := (rdX _ s15.drop).resolve_left hpne0
    clear p7 g7 r7 q7
    subst e70
    obtain ⟨f, ef⟩ : ∃ f, f = ownr O[k] g := ⟨_, rfl⟩
    obtain ⟨RK, eRK⟩ : ∃ RK, RK = RR[k]?.getD [] := ⟨_, rfl⟩
    have hRw : ∀ r ∈ RK, (Lit.int .i64 r.1).wf = true := by rw [eRK]; exact getD_wf hw k
    have hRl : RK.length ≤ 2000 := by rw [eRK]; exact getD_len b6 k
    have zr : aZeros [.int .i64 0, .int .i64 0, .int .i64 0] 1 = [.int .i64 0, .int .i64 0, .int .i64 0] := rfl
    have vc : ∀ x y : Int, veq 6 (.agg #[.int .i64 x, .int .i64 y]) (.agg #[.int .i64 x, .int .i64 y]) = true := fun x y => by simp [veq]
    have vr : ∀ x y z : Int, veq 6 (.agg #[.int .i64 x, .int .i64 y, .int .i64 z]) (.agg #[.int .i64 x, .int .i64 y, .int .i64 z]) = true := fun x y z => by simp [veq]
    refine sm (fun T h' => ∃ (Ts' : List (Nat × Tb)), Ts'.length = mx ∧ ptrs Ts' = ptrs Ts ∧ (∀ j (hj : j < Ts'.length), Ts'[j].2 = tlay [] (partOf g f RK j)) ∧ St h0 h' (rtabsA g Ts' :: GX) ∧ ∃ (u0 u1 u5 u6 : Value) (R : List Value), T = u0 :: u1 :: .slice (some ⟨bP, oP, none⟩) P.length yc :: .pointer (some ⟨bs, 0, none⟩) :: .pointer (some ⟨bm, 0, none⟩) :: u5 :: u6 :: .pointer (some ⟨br, 0, none⟩) :: .int .i64 k :: .slice (some ⟨b7, o7, none⟩) Ts.length pcl :: R) ?_ ?_
    ·refine sr (fun LL hLL => ?_)
     simp only [ptrTo, oxs, simprocAttr]
     refine hLL _ _ ?_
     refine xp10 2 (by repeat (first | exact tput_le _ _ _ _ (.inr (by omega)) | refine tput_le _ _ _ _ (.inl ?_))) (fun R => ?_)
     simp only [ptrTo, oxs, simprocAttr, show List.range 2 = [0, 1] from rfl]
     refine fg12 (fun R => ?_)
     refine wpC_block ?_
     refine wpC_loop (fun m T h' => ∃ (i : Nat) (Ts' : List (Nat × Tb)), m + i = RK.length ∧ Ts'.length = mx ∧ ptrs Ts' = ptrs Ts ∧ (∀ j (hj : j < Ts'.length), Ts'[j].2 = tlay [] (partOf g f (RK.take i) j)) ∧ St h0 h' (rtabsA g Ts' :: GX) ∧ ∃ (u0 u1 u5 u6 u10 : Value) (R : List Value), T = u0 :: u1 :: .slice (some ⟨bP, oP, none⟩) P.length yc :: .pointer (some ⟨bs, 0, none⟩) :: .pointer (some ⟨bm, 0, none⟩) :: u5 :: u6 :: .pointer (some ⟨br, 0, none⟩) :: .int .i64 k :: .slice (some ⟨b7, o7, none⟩) Ts.length pcl :: u10 :: .int .i64 i :: R) ?_ RK.length _ _ ⟨0, Ts, by omega, hTsl, rfl, fun j hj => by rw [hTe j hj]; rfl, s15, _, _, _, _, _, _, rfl⟩
     clear s15
     rintro m T h' ⟨i, Ts', hmi, hTl, hTp, hTt, s16, u0, u1, u5, u6, u10, R, rfl⟩
     have F9 := toX _ s16.drop
     have gm := getm _ F9
     by_cases hkR : k < RR.length
     ·have eR : RK = RR[k] := by rw [eRK, List.getElem?_eq_getElem hkR]; rfl
      obtain ⟨ai, ci, rat, rdi, _⟩ := rdnAt rr k hkR
      obtain ⟨bq, oq, roq, szq, Cq, Tq, eq, gq, vq⟩ := rat _ (toF _ F9)
      have gm1 := gm
      rw [eq] at gm1
      rw [← eR] at vq rdi
      refine wpC_seq (sr fun LL hLL => ?_)
      simp only [ptrTo, oxs, simprocAttr, gm1, ixF hkR, gq, vq]
      refine hLL _ _ ?_
      refine wpC_if ?_
      simp only [ptrTo, oxs, simprocAttr]
      refine gC_of (fun hc => ?_) (fun hc => ?_)
      ·refine wpC_skip ?_
       simp only [ptrTo, oxs, simprocAttr]
       refine fg12 (fun R => ?_)
       have hi : i < RK.length := by omega
       have hne : RK ≠ [] := by intro e; rw [e] at hi; simp at hi
       obtain ⟨b3, o3, ro3, sz3, C3, T3, e3, p3, g3, r3, q3⟩ := (rdi _ (toF _ F9)).resolve_left hne
       obtain ⟨w3, x3⟩ := Rs.row rcell.len r3 q3 i hi
       obtain ⟨x, ex⟩ : ∃ x, x = RK[i] := ⟨_, rfl⟩
       rw [← ex] at w3
       rw [e3] at vq
       obtain ⟨bx, ebx⟩ : ∃ b, b = h'.next := ⟨_, rfl⟩
       have sp1 := s16.push (.cells false 0 [.int .i64 0, .int .i64 0, .int .i64 0] 52)
       rw [← ebx] at sp1
       have gp := sp1.get
       have sq := sp1.set (.cells false 0 [.int .i64 x.1, .int .i64 x.2.1, .int .i64 x.2.2] 52)
       obtain ⟨hq, ehq⟩ : ∃ hq, hq = (h'.push (.cells false 0 [.int .i64 0, .int .i64 0, .int .i64 0] 52)).set bx (.cells false 0 [.int .i64 x.1, .int .i64 x.2.1, .int .i64 x.2.2] 52) := ⟨_, rfl⟩
       rw [← ehq] at sq
       refine wpC_seq (wpC_block ?_)
       refine sr (fun LL hLL => ?_)
       simp only [ptrTo, oxs, simprocAttr, gm1, ixF hkR, gq, vq, ixF hi, g3, w3, x3, gp, rcell.len, rcell, ← ebx, ← ehq]
       refine hLL _ _ ?_
       refine xp12 1 (by repeat (first | exact tput_le _ _ _ _ (.inr (by omega)) | refine tput_le _ _ _ _ (.inl ?_))) (fun R => ?_)
       simp only [ptrTo, oxs, simprocAttr, show List.range 1 = [0] from rfl]
       refine fg13 (fun R => ?_)
       have gx := sq.get
       have Fq := toX _ sq.drop.drop
       have gsq := gets' _ Fq
       have gmq := getm _ Fq
       refine sr (fun LL hLL => ?_)
       simp only [ptrTo, pend, pend0, Pd.old, pendU, pendU0, Nat.testBit, oxh, simprocAttr, gx, gsq]
       refine refOf_ok x.1 g _ _ ?_
       simp only [ptrTo, pend, pend0, Pd.old, pendU, pendU0, Nat.testBit, oxh, simprocAttr, gx, gsq]
       refine hLL _ _ ?_
       refine xp13 1 (by repeat (first | exact tput_le _ _ _ _ (.inr (by omega)) | refine tput_le _ _ _ _ (.inl ?_))) (fun R => ?_)
       simp only [ptrTo, oxs, simprocAttr, show List.range 1 = [0] from rfl]
       refine fg14 (fun R => ?_)
       have hg1 := grp_lt x.1 (g : Int)
       have hg2 := hg1.2.2 (by omega) (by omega)
       have hor := ownr_range (p := O[k]) (g := g) (x := grp x.1 g) hOk.1 hg1.1 hg2
       obtain ⟨j, ej⟩ : ∃ j : Nat, ownr O[k] g (grp x.1 g) = (j : Int) := ⟨(ownr O[k] g (grp x.1 g)).toNat, by omega⟩
       have hjT : j < Ts'.length := by omega
       have hjTs : j < Ts.length := by omega
       obtain ⟨ro4, sz4, C4, T4, gO4, vO4⟩ := gO _ (toF _ Fq)
       obtain ⟨bl, ebl⟩ : ∃ b, b = hq.next := ⟨_, rfl⟩
       have sr := sq.push (.cells false 3 (rcell x) 52)
       rw [← ebl] at sr
       obtain ⟨hr, ehr⟩ : ∃ hr, hr = hq.push (.cells false 3 (rcell x) 52) := ⟨_, rfl⟩
       rw [← ehr] at sr
       simp only [rcell] at ehr
       have Fr := toX _ sr.drop.drop.drop
       have gxr := (sr.mv 1).get
       have gsr := gets' _ Fr
       have gmr := getm _ Fr
       obtain ⟨ro5, sz5, C5, T5, gO5, vO5⟩ := gO _ (toF _ Fr)
       have hpne : ptrs Ts' ≠ [] := by rw [hTp]; exact hpne0
       obtain ⟨b8, o8, ro8, sz8, C8, T8, e8, p8, g8, r8, q8⟩ := (by rw [hTp]; exact rdX _ sr.drop.drop.drop : Rs ptc 1 hr (some ⟨b7, o7, none⟩) (ptrs Ts')).resolve_left hpne
       cases e8
       have w8 : C8[o7 + j * 1]? = some (.pointer (some ⟨Ts'[j].1, 0, none⟩)) := by
        have := Rs.cell ptc.len r8 q8 j (by rw [ptrs_len]; exact hjT) 0 (by omega)
        rw [ptrs_at Ts' j hjT] at this
        exact this
       refine dw [0, 1, 2, 3, 4, 5, 6, 7, 8, 12, 13, 9, 10, 11, 14] [0, 0, 0, 4, 0, 28, 60, 0, 128, 0, 4096, 510, 1023, 2047, 16383] (by decide +kernel) (by decide +kernel) (by decide +kernel) (fun LL hLL => ?_)
       simp only [ptrTo, pend, pend0, Pd.old, pendU, pendU0, Nat.testBit, oxh, simprocAttr, gmq, gO4, vO4, ixF hkO, gsq, gx, zr, ← ebl, ← ehr, gmr, gsr, gxr, gO5, vO5, sv, vr]
       refine refOwner_ok hOk.1 hOk.2.2 (by omega) hg1.1 hg2 _ _ ?_
       rw [ej]
       simp only [ptrTo, pend, pend0, Pd.old, pendU, pendU0, Nat.testBit, oxh, simprocAttr, gmq, gO4, vO4, ixF hkO, gsq, gx, zr, ← ebl, ← ehr, gmr, gsr, gxr, gO5, vO5, sv, vr, ixF hjTs, g8, w8]
       have sr1 := sr.wn_own (f := rcell) [x] (by simp)
       have sr2 := rtabs_pick (sr1.mv 2) j hjT
       have okT : TbOk Ts'[j].2 := by rw [hTt j hjT]; exact TbOk.nil.lay fun r hr => hRw r (List.mem_of_mem_take (List.mem_filter.1 hr).1)
       have hTlen : Ts'[j].2.length ≤ 2000 := by
        rw [hTt j hjT]
        have h1 := tlay_few [] (partOf g f (RK.take i) j)
        have h2 : (partOf g f (RK.take i) j).length ≤ (RK.take i).length := List.length_filter_le ..
        rw [List.length_take] at h2
        simp only [List.length_nil] at h1
        omega
       have hxw : ∀ r ∈ [x], (Lit.int .i64 r.1).wf = true := fun r hr => by
        rw [List.mem_singleton] at hr
        rw [hr, ex]; exact hRw _ (List.getElem_mem hi)
       refine rlay_ok okT (some ⟨bl, 0, none⟩) 1 [x] hxw _ sr2 (fun h s => (s.mv 1).rs rcell.len) (by simp; omega) _ fun h20 s20 => ?_
       have s21 := rtabs_unpick j hjT _ _ s20
       have F21 := toX _ s21.drop.drop.drop
       have gx21 := (s21.mv 2).get
       have gs21 := gets' _ F21
       have gm21 := getm _ F21
       obtain ⟨ro9, sz9, C9, T9, gO9, vO9⟩ := gO _ (toF _ F21)
       obtain ⟨b10, o10, ro10, sz10, C10, T10, e10, p10, g10, r10, q10⟩ := (by rw [hTp]; exact rdX _ s21.drop.drop.drop : Rs ptc 1 h20 (some ⟨b7, o7, none⟩) (ptrs Ts')).resolve_left hpne
       cases e10
       have w10 : C10[o7 + j * 1]? = some (.pointer (some ⟨Ts'[j].1, 0, none⟩)) := by
        have := Rs.cell ptc.len r10 q10 j (by rw [ptrs_len]; exact hjT) 0 (by omega)
        rw [ptrs_at Ts' j hjT] at this
        exact this
       simp only [ptrTo, pend, pend0, Pd.old, pendU, pendU0, Nat.testBit, oxh, simprocAttr, gmq, gO4, vO4, ixF hkO, gsq, gx, zr, ← ebl, ← ehr, gmr, gsr, gxr, gO5, vO5, sv, vr, ixF hjTs, g8, w8, gx21, gs21, gm21, gO9, vO9, g10, w10]
       refine hLL _ _ ?_
       simp only [ptrTo, oxs, simprocAttr]
       refine fg12 (fun R => ?_)
       refine rg (fun LL hLL => ?_)
       simp only [ptrTo, oxs, simprocAttr, wsucc (show i < 9223372036854775807 by omega)]
       refine hLL _ _ ?_
       simp only [ptrTo, oxs, simprocAttr]
       have s22 := (s21).sel 3 [0]
       simp only [oxf] at s22
       refine ⟨m - 1, by omega, i + 1, Ts'.set j (Ts'[j].1, tlay Ts'[j].2 [x]), by omega, by simp; omega, by rw [ptrs_set]; exact hTp, fun n hn => ?_, s22, _, _, _, _, _, _, rfl⟩
       rw [List.length_set] at hn
       rw [List.take_succ_eq_append_getElem hi, ← ex, partOf_snoc, ef, ej, List.getElem_set]
       by_cases hjn : j = n
       ·subst hjn
        rw [if_pos rfl, if_pos rfl, tlay_snoc, hTt j hn, ef]; rfl
       ·rw [if_neg hjn, if_neg (by omega), hTt n hn, ef]
      ·refine wpC_exit ?_
       simp only [ptrTo, oxs, simprocAttr]
       have : i = RK.length := by omega
       subst this
       rw [List.take_length] at hTt
       exact ⟨Ts', hTl, hTp, hTt, s16, _, _, _, _, _, rfl⟩
     ·have eR : RK = [] := by rw [eRK, List.getElem?_eq_none (by omega)]; rfl
      refine wpC_seq (sr fun LL hLL => ?_)
      simp only [ptrTo, oxs, simprocAttr, gm, eq_false (show ¬ (k : Int) < (RR.length : Int) by omega)]
      refine hLL _ _ ?_
      refine wpC_if ?_
      simp only [ptrTo, oxs, simprocAttr]
      refine wpC_exit ?_
      simp only [ptrTo, oxs, simprocAttr]
      rw [eR] at hTt
      exact ⟨Ts', hTl, hTp, fun j hj => by rw [eR]; simpa using hTt j hj, s16, _, _, _, _, _, rfl⟩
    clear s15
    rintro T h' ⟨Ts', hTl, hTp, hTt, s16, u0, u1, u5, u6, R, rfl⟩
    have ht9 : TabsOk g (ownr O[k] g) (tlay [] (RR[k]?.getD [])) Ts' := by rw [← ef, ← eRK]; exact tabs_laid hRw hTt
    have F9 := toX _ s16.drop
    have gs := gets' _ F9
    have gm := getm _ F9
    obtain ⟨ro4, sz4, C4, T4, gO4, vO4⟩ := gO _ (toF _ F9)
    obtain ⟨ro5, sz5, C5, T5, gP5, vP5⟩ := gP _ (toF _ F9)
    refine su [some 121, some 122, some 123, some 124, some 125, some 126, some 127, some 128, some 129, some 130, some 131, some 132, some 14] 13 [0, 1, 0, 7, 15, 0, 0, 96, 224, 0, 512, 2047, 4095] (by rfl) (by rfl) (by decide +kernel) (by decide +kernel) (by decide +kernel) (fun LL hLL => ?_)
    simp only [ptrTo, pend, pend0, Pd.old, pendU, pendU0, Nat.testBit, oxh, simprocAttr, gs, gm, gO4, vO4, ixF hkO, gP5, vP5, ixF hkP, sv]
    refine refPlan_ok hOk.1 hOk.2.2 hPk.1 hPk.2.2 (by omega) _ s16 _ fun qp qpc h17 s17 => ?_
    obtain ⟨PL, ePL⟩ : ∃ PL, PL = planL O[k] P[k] g g := ⟨_, rfl⟩
    have hPLl : PL.length ≤ g := by rw [ePL]; exact planL_few g
    rw [← ePL] at s17 ⊢
    have F17 := toX _ s17.drop.drop
    have gs7 := gets' _ F17
    have gm7 := getm _ F17
    obtain ⟨ro6, sz6, C6, T6, gO6, vO6⟩ := gO _ (toF _ F17)
    obtain ⟨ro8, sz8, C8, T8, gP8, vP8⟩ := gP _ (toF _ F17)
    simp only [ptrTo, pend, pend0, Pd.old, pendU, pendU0, Nat.testBit, oxh, simprocAttr, gs, gm, gO4, vO4, ixF hkO, gP5, vP5, ixF hkP, sv, gs7, gm7, gO6, vO6, gP8, vP8]
    refine hLL _ _ ?_
    refine xp10 5 (by repeat (first | exact tput_le _ _ _ _ (.inr (by omega)) | refine tput_le _ _ _ _ (.inl ?_))) (fun R => ?_)
    simp only [ptrTo, oxs, simprocAttr, show List.range 5 = [0, 1, 2, 3, 4] from rfl]
    refine fg15 (fun R => ?_)
    refine sr (fun LL hLL => ?_)
    simp only [ptrTo, oxs, simprocAttr]
    refine hLL _ _ ?_
    refine xp15 1 (by repeat (first | exact tput_le _ _ _ _ (.inr (by omega)) | refine tput_le _ _ _ _ (.inl ?_))) (fun R => ?_)
    simp only [ptrTo, oxs, simprocAttr, show List.range 1 = [0] from rfl]
    refine fg16 (fun R => ?_)
    obtain ⟨sv0, esv0⟩ : ∃ sv0 : Sv, sv0 = ⟨some ⟨0, 0, none⟩, Ts'.length, Ts'.length⟩ := ⟨_, rfl⟩
    subst eGX
    have s18 := (s17).sel 7 [2, 6, 0, 1, 3, 4, 5]
    simp only [oxf] at s18
    clear gs gm gO4 vO4 gP5 vP5 gs7 gm7 gO6 vO6 gP8 vP8 F9 F17 s16 s17 rdX toX
    refine wpC_block ?_
    refine wpC_loop (fun mi T h' => ∃ (i : Nat) (Q' : List MvX) (ma : Option Addr) (mc : Nat), mi + i = PL.length ∧ Q' = Q ++ tagged k sv0 (PL.take i) ∧ St h0 h' (own br (.cells false 0 [.int .i64 g, .slice sb sn sd, .int .i64 id, .slice qa O.length qc, .slice ka LI.length kc, .slice ga RR.length gc, .slice xa EE.length xc, .slice wa P.length wc, .slice aE S4.length cE, .slice ma Q'.length mc] 82) :: wn rmvc 5 90 ma mc Q' :: wn Mv.cells 4 75 qp qpc PL :: rtabsA g Ts' :: wn Sv.cells 1 83 aE cE S4 :: star (wns ptc 1 85 S4 (List.map ptrs (List.take k TT) ++ [ptrs Ts])) :: star (List.map (rtabsA g) (List.take k TT)) :: F7) ∧ ∃ (u0 u1 u5 u6 u9 u10 u11 u12 u13 : Value) (R : List Value), T = u0 :: u1 :: .slice (some ⟨bP, oP, none⟩) P.length yc :: .pointer (some ⟨bs, 0, none⟩) :: .pointer (some ⟨bm, 0, none⟩) :: u5 :: u6 :: .pointer (some ⟨br, 0, none⟩) :: .int .i64 k :: u9 :: u10 :: u11 :: u12 :: u13 :: .slice qp PL.length qpc :: .int .i64 i :: R) ?_ PL.length _ _ ⟨0, Q, ma, mc, by omega, by simp [tagged], s18, _, _, _, _, _, _, _, _, _, _, rfl⟩
    clear s18
    rintro mi T h' ⟨i, Q', ma, mc, hmi, hQ', s19, u0, u1, u5, u6, u9, u10, u11, u12, u13, R, rfl⟩
    have hQl : Q'.length ≤ 300 := by
     have h1 : (tagged k sv0 (PL.take i)).length ≤ PL.length := by simp only [tagged, List.length_map, List.length_take]; omega
     rw [hQ', List.length_append]; omega
    refine wpC_seq (sr fun LL hLL => ?_)
    simp only [ptrTo, oxs, simprocAttr]
    refine hLL _ _ ?_
    refine wpC_if ?_
    simp only [ptrTo, oxs, simprocAttr]
    refine gC_of (fun hc => ?_) (fun hc => ?_)
    ·refine wpC_skip ?_
     simp only [ptrTo, oxs, simprocAttr]
     refine fg16 (fun R => ?_)
     have hi : i < PL.length := by omega
     obtain ⟨bq, oq, roq, szq, Cq, Tq, rfl, pq, gq, rq, qq⟩ := ((s19.mv 2).rs Mv.len).resolve_left (by rintro rfl; simp at hi)
     obtain ⟨wq, xq⟩ := Rs.row Mv.len rq qq i hi
     have gb := s19.get
     have zm : aZeros [.int .i64 0, .int .i64 0, .int .i64 0, .int .i64 0, .int .i64 0] 1 = [.int .i64 0, .int .i64 0, .int .i64 0, .int .i64 0, .int .i64 0] := rfl
     obtain ⟨aF, cF, h20, y1, y2⟩ := (s19.mv 1).app1 (bytes := 40) ((k, sv0, PL[i]) : MvX) rmvc.len rmvc.oc (by omega) (by omega)
     have y1' := y1
     simp only [rmvc, Mv.cells] at y1'
     have g20 := (y2.mv 1).get
     have sp9 := s19.push (.cells false 5 (rmvc ((k, sv0, PL[i]) : MvX)) 90)
     have gb9 := (sp9.mv 1).get
     obtain ⟨bq2, oq2, roq2, szq2, Cq2, Tq2, eq2, pq2, gq2, rq2, qq2⟩ := ((sp9.mv 3).rs Mv.len).resolve_left (by rintro rfl; simp at hi)
     cases eq2
     obtain ⟨wq2, xq2⟩ := Rs.row Mv.len rq2 qq2 i hi
     simp only [rmvc, Mv.cells] at gb9 gq2
     have vm : ∀ x y z w : Int, veq 6 (.agg #[.int .i64 x, .int .i64 y, .int .i64 z, .int .i64 w]) (.agg #[.int .i64 x, .int .i64 y, .int .i64 z, .int .i64 w]) = true := fun x y z w => by simp [veq]
     refine wpC_seq (wpC_block ?_)
     refine du [some 139, some 140, some 141, some 142, some 143, some 144, some 145, some 146, some 147, some 148, some 149, some 150, some 151, some 152, some 153, none] 16 [0, 0, 2, 6, 14, 0, 0, 0, 192, 448, 992, 2016, 4094, 8191, 16383, 32767] (by rfl) (by rfl) (by decide +kernel) (by decide +kernel) (by decide +kernel) (fun LL hLL => ?_)
     simp only [ptrTo, pend, pend0, Pd.old, pendU, pendU0, Nat.testBit, oxs, simprocAttr, gb, ixF hi, gq, wq, xq, Mv.len, Mv.cells, zm, sv, vm, y1', g20, gb9, gq2, wq2, xq2]
     refine hLL _ _ ?_
     simp only [ptrTo, oxs, simprocAttr]
     refine fg16 (fun R => ?_)
     refine rg (fun LL hLL => ?_)
     simp only [ptrTo, oxs, simprocAttr, wsucc (show i < 9223372036854775807 by omega)]
     refine hLL _ _ ?_
     simp only [ptrTo, oxs, simprocAttr]
     have s21 := (y2.mv 1).set (.cells false 0 [.int .i64 g, .slice sb sn sd, .int .i64 id, .slice qa O.length qc, .slice ka LI.length kc, .slice ga RR.length gc, .slice xa EE.length xc, .slice wa P.length wc, .slice aE S4.length cE, .slice aF (Q' ++ [((k, sv0, PL[i]) : MvX)]).length cF] 82)
     rw [show Q'.length + 1 = (Q' ++ [((k, sv0, PL[i]) : MvX)]).length by simp]
     refine ⟨mi - 1, by omega, i + 1, Q' ++ [((k, sv0, PL[i]) : MvX)], aF, cF, by omega, ?_, s21, _, _, _, _, _, _, _, _, _, _, rfl⟩
     rw [hQ', List.take_succ_eq_append_getElem hi]
     unfold tagged
     rw [List.map_append, List.append_assoc]
     rfl
    ·have : i = PL.length := by omega
     subst this
     rw [List.take_length] at hQ'
     refine wpC_exit ?_
     simp only [ptrTo, oxs, simprocAttr]
     refine fg9 (fun R => ?_)
     refine rg (fun LL hLL => ?_)
     simp only [ptrTo, oxs, simprocAttr, wsucc (show k < 9223372036854775807 by omega)]
     refine hLL _ _ ?_
     simp only [ptrTo, oxs, simprocAttr]
     have hT9 : (Ts'.length : Int) = max O[k] P[k] := by omega
     have hJn := hJ.next (PP := PL) hk' hkO hkP hst 0 hT9 ht9 (by rw [ePL]; exact planL_ok hOk.1 hPk.1 hOk.2.2 hPk.2.2) ⟨hOk.2.1, hPk.2.1⟩
     rw [← esv0, ← hQ'] at hJn
     have hTs : (TT.set k Ts').take (k + 1) = TT.take k ++ [Ts'] := by
      rw [take_snoc _ k (by simpa using hkT), List.getElem_set_self]
      congr 1
      refine List.ext_getElem (by simp) fun n h1 h2 => ?_
      rw [List.length_take, List.length_set] at h1
      rw [List.getElem_take, List.getElem_take, List.getElem_set_ne (by omega)]
     have s20 := (s19).sel 7 [3, 6, 0, 4, 5, 1]
     simp only [oxf] at s20
     have s21 := rts_more s20
     have s22 := (s21).sel 5 [1, 2, 3, 0, 4]
     simp only [oxf] at s22
     rw [← hTp, show ((TT.take k).map ptrs) ++ [ptrs Ts'] = ((TT.set k Ts').take (k + 1)).map ptrs by rw [hTs, List.map_append]; rfl] at s22 hS4
     rw [← hTs] at s22
     exact ⟨m - 1, by omega, k + 1, S4, _, _, Q', aE, cE, ma, mc, _, _, _, _, _, by omega, hJn, hS4, s22, rfl⟩
  ·have : k = L.length := by omega
   subst this
   refine wpC_exit ?_
   simp only [ptrTo, oxs, simprocAttr]
   exact ⟨S3, S, TT, Q, ta, tc, ma, mc, _, _, _, _, _, _, _, hJ, hS3, s8, rfl⟩
 rintro T h' ⟨S3, S, TT, Q, ta, tc, ma, mc, u0, u1, u3, u4, u5, u6, R, hJ, hS3, s8, rfl⟩
 refine sr (fun LL hLL => ?_)
 simp only [ptrTo, oxs, simprocAttr]
 refine hLL _ _ ?_
 refine wpC_ret (out_ret ?_)
 simp only [ptrTo, oxs, simprocAttr]
 rw [List.take_of_length_le (by rw [hJ.len]; exact Nat.le_refl _)] at hS3 s8
 subst eF7
 exact hK _ _ _ _ _ _ _ _ _ _ _ _ _ _ _ _ _ _ _ _ _ _ _ hJ hS3 (s8.sel 12 [0, 1, 2, 3, 4, 7, 8, 9, 10, 11])
end Go.Proofs

