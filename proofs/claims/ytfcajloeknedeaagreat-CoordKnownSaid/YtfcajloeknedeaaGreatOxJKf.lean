/-
  A part of the proof: what functions of the program do on an abstract heap. CONDITIONS: none.
-/
import Derived.Test.YtfcajloeknedeaaGreatOxJKe
import Derived.Test.YtfcajloeknedeaaGreatOxGBb
import Derived.Test.YtfcajloeknedeaaGreatOxTm
import Derived.Test.YtfcajloeknedeaaGreatOxGq
set_option linter.unusedSimpArgs false
set_option linter.unusedVariables false
namespace Go.Ox
theorem tlist_get : ∀ {l : List (Int × Cl)}, (tbK l).Nodup → ∀ x ∈ l, tgt l x.1 = x.2
 | [], _, x, hx => by cases hx
 | y :: l, hn, x, hx => by
  rw [tbK_cons, List.nodup_cons] at hn
  obtain ⟨y1, y2⟩ := y
  have e : ∀ k, tgt ((y1, y2) :: l) k = if k = y1 then y2 else tgt l k := fun k => rfl
  rw [e]
  rcases List.mem_cons.1 hx with rfl | hx
  ·rw [if_pos rfl]
  ·have : x.1 ∈ tbK l := List.mem_map.2 ⟨x, hx, rfl⟩
   rw [if_neg (by rintro h; rw [h] at this; exact hn.1 this)]
   exact tlist_get hn.2 x hx
theorem rowK_self {l : List (Int × Cl)} (hn : (tbK l).Nodup) : rowK l (tbK l) = l := by
 unfold rowK tbK
 rw [List.map_map]
 refine (List.map_congr_left fun x hx => ?_).trans (List.map_id l)
 show (x.1, tgt l x.1) = x
 rw [tlist_get hn x hx]
theorem keySort_self {g : Int} {L : List Int} (h : L.Pairwise fun x y => keyLe g x y = true) : keySort g L = L :=
 List.Perm.eq_of_pairwise (fun _ _ _ _ h1 h2 => keyLe_anti g h1 h2) (keySort_sorted g L) h (keySort_perm g L)
theorem rowsOf_self {g : Int} {l : List (Int × Cl)} (hn : (tbK l).Nodup) (h : (tbK l).Pairwise fun x y => keyLe g x y = true) : rowsOf g l = l := by
 unfold rowsOf
 rw [keySort_self h, rowK_self hn]
theorem tpt_new {M : Tb} (ok : TbOk M) {k : Int} {c : Cl} (hc : c ≠ (0, 0)) (hk : tgt M k = (0, 0)) : tpt M k c = M ++ [(k, c)] := by
 have hn : ¬ k ∈ tbK M := fun h => (ok.iff k).1 h hk
 unfold tpt
 rw [if_neg hc]
 exact (tb_miss 0 hn).2.2.2 c
end Go.Ox
namespace Go.Proofs.Cd
open Go Go.Ox
set_option maxRecDepth 100000
set_option maxHeartbeats 4000000
theorem tbX : TbX oxExt := ⟨by unfold Out; decide, rfl, rfl, fun _ _ => rfl⟩
theorem srt_keys {G : Int} {l : List Rwc} (h : SrtL (ltg G) l) : (tbK l).Pairwise fun x y => keyLe G x y = true := by
 unfold tbK
 rw [List.pairwise_map]
 refine h.imp fun {x y} hxy => ?_
 rw [keyLe_iff]
 simp only [ltg, decide_eq_false_iff_not] at hxy
 omega
theorem neNil (x y : Operand) (b : Nat) : aBin Tryz.prog .eql 86 x y (.pointer (some ⟨b, 0, none⟩)) (.pointer none) = some (.bool false) := congrArg id (by rfl)
theorem sorted_ok {h0 : AHeap} {F : List Asn} (G : Int) (l : List Rwc) (hs : SrtL (ltg G) l) (hw : ∀ r ∈ l, (Lit.int .i64 r.1).wf = true) (hl : l.length < 1000000) (a : Option Addr) (c : Nat) (r : Rd h0 F rcell 3 a l) (h : AHeap) (s : St h0 h F) (K : Value → AHeap → Prop) (hk : ∀ h', St h0 h' F → K (.bool true) h') :
  wpF Tryz.prog (.fn 14) [.slice a l.length c, .int .i64 G] h K := by
 refine wpF_fun 51 [.tmp 4] Tryz.func14 rfl rfl rfl rfl ?_
 refine sr (fun LL hLL => ?_)
 simp only [oxz, simprocAttr]
 refine hLL _ _ ?_
 refine sr (fun LL hLL => ?_)
 simp only [oxz, simprocAttr]
 refine Go.Proofs.new_ok tbX G _ s _ fun β h1 s1 => ?_
 refine hLL _ _ ?_
 refine wpC_seq (sr fun LL hLL => ?_)
 simp only [oxz, simprocAttr, neNil]
 refine hLL _ _ ?_
 refine wpC_if ?_
 simp only [oxz, simprocAttr]
 refine wpC_skip ?_
 simp only [oxz, simprocAttr]
 refine wpC_seq ?_
 refine sr (fun LL hLL => ?_)
 simp only [oxz, simprocAttr]
 refine hLL _ _ ?_
 refine wpC_block ?_
 refine wpC_loop (fun m T h' => ∃ (i : Nat) (u2 u3 : Value) (R : List Value), m + i = l.length ∧ TbOk (l.take i) ∧ St h0 h' (tbA β G (l.take i) :: F) ∧ T = .slice a l.length c :: .int .i64 G :: u2 :: u3 :: .bool false :: .pointer (some ⟨β, 0, none⟩) :: .int .i64 i :: R) ?_ l.length _ _ ⟨0, _, _, _, by omega, TbOk.nil, s1, rfl⟩
 clear s1
 rintro m T h' ⟨i, u2, u3, R, hmi, ok, s1, rfl⟩
 refine wpC_seq (sr fun LL hLL => ?_)
 simp only [oxz, simprocAttr]
 refine hLL _ _ ?_
 refine wpC_if ?_
 simp only [oxz, simprocAttr]
 refine gC_of (fun hc => ?_) (fun hc => ?_)
 ·refine wpC_skip ?_
  simp only [oxz, simprocAttr]
  have hi : i < l.length := by omega
  obtain ⟨bq, oq, roq, szq, Cq, Tq, eq, pq, gq, rq, qq⟩ := (r _ s1.drop).resolve_left (by rintro rfl; simp at hi)
  have v0 : Cq[oq + i * 3]? = some (.int .i64 l[i].1) := Rs.cell rcell.len rq qq i hi 0 (by omega)
  obtain ⟨w3, x3⟩ := Rs.row rcell.len rq qq i hi
  have w2 : (Cq.drop (oq + i * 3 + 1)).take 2 = [.int .i64 l[i].2.1, .int .i64 l[i].2.2] := by rw [row_sub (j := 1) (m := 2) w3 (by omega)]; rfl
  have x2 : oq + i * 3 + 1 + 2 ≤ Cq.length := by omega
  have zc : ∀ x y : Operand, aBin Tryz.prog .eql 61 x y (.agg #[.int .i64 l[i].2.1, .int .i64 l[i].2.2]) (.agg #[.int .i64 0, .int .i64 0]) = some (.bool (decide (l[i].2 = (0, 0)))) := fun x y => eqCl x y l[i].2.1 l[i].2.2 0 0
  refine wpC_seq (wpC_block ?_)
  refine wpC_seq ?_
  by_cases hz : l[i].2 = (0, 0)
  ·rw [decide_eq_true hz] at zc
   rw [eq]
   refine sr (fun LL hLL => ?_)
   simp only [oxz, simprocAttr, ixF hi, gq, w2, x2, zc]
   refine hLL _ _ ?_
   refine wpC_if ?_
   simp only [oxz, simprocAttr]
   refine sr (fun LL hLL => ?_)
   simp only [oxz, simprocAttr]
   refine hLL _ _ ?_
   refine wpC_ret (out_ret ?_)
   simp only [oxz, simprocAttr]
   exact hk _ s1.drop
  rw [decide_eq_false hz] at zc
  obtain ⟨e1, e2, et⟩ : ∃ e1 e2, tgt (l.take i) l[i].1 = (e1, e2) := ⟨_, _, rfl⟩
  have nc : ∀ x y : Operand, aBin Tryz.prog .neq 61 x y (.agg #[.int .i64 e1, .int .i64 e2]) (.agg #[.int .i64 0, .int .i64 0]) = some (.bool (!decide ((e1, e2) = ((0, 0) : Cl)))) := fun x y => neCl x y e1 e2 0 0
  rw [eq]
  refine sr (fun LL hLL => ?_)
  simp only [oxk, simprocAttr, ixF hi, gq, w2, x2, zc, v0]
  refine get_ok tbX l[i].1 _ s1 _ fun h2 s2 => ?_
  rw [et]
  by_cases hg : ((e1, e2) : Cl) = (0, 0)
  ·rw [decide_eq_true hg] at nc
   simp only [oxk, simprocAttr, clV, nc]
   refine hLL _ _ ?_
   refine wpC_if ?_
   simp only [oxz, simprocAttr]
   refine wpC_skip ?_
   simp only [oxz, simprocAttr]
   have ht : l.take (i + 1) = l.take i ++ [l[i]] := List.take_succ_eq_append_getElem hi
   have hput : tpt (l.take i) l[i].1 l[i].2 = l.take (i + 1) := by rw [tpt_new ok hz (by rw [et]; exact hg), ht]
   have ok2 : TbOk (l.take (i + 1)) := by rw [← hput]; exact ok.put (hw _ (List.getElem_mem hi)) _
   obtain ⟨bq2, oq2, roq2, szq2, Cq2, Tq2, eq2, pq2, gq2, rq2, qq2⟩ := (r _ s2.drop).resolve_left (by rintro rfl; simp at hi)
   rw [eq] at eq2
   cases eq2
   have v02 : Cq2[oq + i * 3]? = some (.int .i64 l[i].1) := Rs.cell rcell.len rq2 qq2 i hi 0 (by omega)
   obtain ⟨w32, x32⟩ := Rs.row rcell.len rq2 qq2 i hi
   have w22 : (Cq2.drop (oq + i * 3 + 1)).take 2 = [.int .i64 l[i].2.1, .int .i64 l[i].2.2] := by rw [row_sub (j := 1) (m := 2) w32 (by omega)]; rfl
   have x22 : oq + i * 3 + 1 + 2 ≤ Cq2.length := by omega
   have sv2 : ∀ a b, veq 6 (.agg #[.int .i64 a, .int .i64 b]) (.agg #[.int .i64 a, .int .i64 b]) = true := by intros; simp [veq]
   refine du [some 35, some 36, some 37, some 38, some 39, some 40, some 41, some 42, some 43, some 44, some 45, some 46] 12 [0, 0, 0, 6, 14, 30, 0, 0, 192, 448, 960, 2047] (by rfl) (by rfl) (by decide +kernel) (by decide +kernel) (by decide +kernel) (fun LL hLL => ?_)
   simp only [oxk, simprocAttr, ixF hi, gq2, w22, x22, v02, sv2]
   refine put_ok tbX l[i].1 l[i].2 _ s2 _ fun h3 s3 => ?_
   rw [hput] at s3
   simp only [oxk, simprocAttr]
   refine hLL _ _ ?_
   simp only [oxz, simprocAttr]
   refine rg (fun LL hLL => ?_)
   simp only [oxz, simprocAttr, wsucc (show i < 9223372036854775807 by omega)]
   refine hLL _ _ ?_
   simp only [oxz, simprocAttr]
   exact ⟨m - 1, by omega, i + 1, _, _, _, by omega, ok2, s3, rfl⟩
  ·rw [decide_eq_false hg] at nc
   simp only [oxk, simprocAttr, clV, nc]
   refine hLL _ _ ?_
   refine wpC_if ?_
   simp only [oxz, simprocAttr]
   refine sr (fun LL hLL => ?_)
   simp only [oxz, simprocAttr]
   refine hLL _ _ ?_
   refine wpC_ret (out_ret ?_)
   simp only [oxz, simprocAttr]
   exact hk _ s2.drop
 ·have hil : i = l.length := by omega
  subst hil
  rw [List.take_length] at ok s1
  refine wpC_exit ?_
  simp only [oxz, simprocAttr]
  have hrow := rowsOf_self ok.nd (srt_keys hs)
  refine sr (fun LL hLL => ?_)
  simp only [oxk, simprocAttr]
  refine allRows_ok tbX ok (by omega) _ s1 _ fun ar cr h2 s2 => ?_
  rw [hrow] at s2
  rw [hrow]
  simp only [oxk, simprocAttr]
  refine sameRows_ok l ar a cr c _ _ (s2.rs rcell.len) (r _ s2.drop.drop) (by omega) ?_
  simp only [oxk, simprocAttr]
  refine hLL _ _ ?_
  refine wpC_ret (out_ret ?_)
  simp only [oxz, simprocAttr]
  exact hk _ s2.drop.drop
end Go.Proofs.Cd

namespace Go.Proofs.Cd
open Go Go.Ox
set_option maxRecDepth 100000
set_option maxHeartbeats 4000000
def outsF (P : List Int) (C : Nat → AckX) (t op : Nat) : List Rc2 := ((atOp P C t op).map AckX.outs).flatten
def rowsF (P : List Int) (C : Nat → AckX) (t op : Nat) : List Rwc := ((atOp P C t op).map AckX.rows).flatten
theorem outsF_succ (P : List Int) (C : Nat → AckX) (t op : Nat) : outsF P C (t + 1) op = if opOf P t = op then outsF P C t op ++ (C t).outs else outsF P C t op := by
 unfold outsF
 rw [atOp_succ]
 split
 ·rw [List.map_append, List.flatten_append]; simp
 ·rfl
theorem rowsF_succ (P : List Int) (C : Nat → AckX) (t op : Nat) : (rowsF P C (t + 1) op).length = if opOf P t = op then (rowsF P C t op).length + (C t).rows.length else (rowsF P C t op).length := by
 unfold rowsF
 rw [atOp_succ]
 split
 ·rw [List.map_append, List.flatten_append, List.length_append]; simp
 ·rfl
theorem outsF_few {P : List Int} {C : Nat → AckX} {m t op : Nat} (hC : ∀ j, j < m → AckSm (C j)) (ht : t ≤ m) : (outsF P C t op).length ≤ t * 100 := by
 have h1 := flat_few (B := 100) ((atOp P C t op).map AckX.outs) fun l hl => by
  obtain ⟨x, hx, rfl⟩ := List.mem_map.1 hl
  obtain ⟨j, hj, rfl⟩ := atOp_mem hx
  exact (hC j (by omega)).t
 rw [List.length_map] at h1
 have h2 := atOp_len P C t op
 have h3 : (atOp P C t op).length * 100 ≤ t * 100 := Nat.mul_le_mul_right _ h2
 unfold outsF
 omega
theorem rowsF_few {P : List Int} {C : Nat → AckX} {m t op : Nat} (hC : ∀ j, j < m → AckSm (C j)) (ht : t ≤ m) : (rowsF P C t op).length ≤ t * 100 := by
 have h1 := flat_few (B := 100) ((atOp P C t op).map AckX.rows) fun l hl => by
  obtain ⟨x, hx, rfl⟩ := List.mem_map.1 hl
  obtain ⟨j, hj, rfl⟩ := atOp_mem hx
  exact (hC j (by omega)).r
 rw [List.length_map] at h1
 have h2 := atOp_len P C t op
 have h3 : (atOp P C t op).length * 100 ≤ t * 100 := Nat.mul_le_mul_right _ h2
 unfold rowsF
 omega
theorem layR_srt (G : Int) (o : OpX) (X : List AckX) : SrtL (ltg G) (layR G o X) := by
 unfold layR
 split
 ·exact sortB_srt (ltg_ord G) _
 ·exact List.Pairwise.nil
theorem layR_len (G : Int) (o : OpX) (X : List AckX) : (layR G o X).length = if o.kind = 5 ∨ o.kind = 6 then ((X.map AckX.rows).flatten).length else 0 := by
 unfold layR
 split
 ·exact sortB_len (ltg_ord G) _
 ·rfl
theorem layO_len (o : OpX) (X : List AckX) : (layO o X).length = if o.kind = 1 then o.parts.toNat else 0 := by
 unfold layO
 split
 ·exact offsL_len _ _
 ·rfl
theorem layR_mem {G : Int} {o : OpX} {X : List AckX} {r : Rwc} (h : r ∈ layR G o X) : ∃ x ∈ X, r ∈ x.rows := by
 unfold layR at h
 split at h
 ·have h1 := ((sortB_sim (ltg_ord G) (X.map AckX.rows).flatten).mem r).2 h
  obtain ⟨l, hl, hr⟩ := List.mem_flatten.1 h1
  obtain ⟨x, hx, rfl⟩ := List.mem_map.1 hl
  exact ⟨x, hx, hr⟩
 ·cases h
theorem fstC_mem {l : List AckX} {t : Nat} {r : Rwc} (h : r ∈ (fstC l t).2.1) : ∃ x ∈ l, r ∈ x.rows := by
 unfold fstC at h
 split at h
 ·rename_i x hx
  exact ⟨x, List.mem_of_find?_eq_some hx, h⟩
 ·cases h
theorem find_first {l : List AckX} {t i : Nat} (hi : i < l.length) (hn : ∀ (k : Nat) (hk : k < l.length), k < i → l[k].task ≠ (t : Int)) (h : l[i].task = (t : Int)) : l.find? (isT t) = some l[i] := by
 rw [List.find?_eq_some_iff_getElem]
 refine ⟨decide_eq_true h, i, hi, rfl, fun j hj => ?_⟩
 have := hn j (by omega) hj
 simp [isT, this]
theorem find_never {l : List AckX} {t : Nat} (hn : ∀ (k : Nat) (hk : k < l.length), l[k].task ≠ (t : Int)) : l.find? (isT t) = none := by
 rw [List.find?_eq_none]
 intro x hx
 obtain ⟨k, hk, rfl⟩ := List.mem_iff_getElem.1 hx
 have := hn k hk
 simp [isT, this]
end Go.Proofs.Cd

namespace Go.Proofs.Cd
open Go Go.Ox
set_option maxRecDepth 100000
set_option maxHeartbeats 8000000
theorem whole_body (g : Int) (sa : Option Addr) (sc : Nat) (L : List OpX) (pa : Option Addr) (pc : Nat) (P : List Int) (la : Option Addr) (lc : Nat) (l : List AckX) (h : AHeap) (sp : SpR h sa L) (rP : Rs icell 1 h pa P) (nP : pa = none → P = [] ∧ pc = 0) (hP : P.length < 17592186045000)
  (rl : Rs AckX.cells 5 h la l) (hl : l.length < 17592186044000) (rx : ∀ x ∈ l, AckRs h x) (hwf : ∀ x ∈ l, ∀ r ∈ x.rows, (Lit.int .i64 r.1).wf = true) (K : Value → AHeap → Prop) (hk : ∀ h', Fr h h' [] → K (.bool true) h') :
  wpF Tryz.prog (.fn 3) [.agg #[.int .i64 g, .slice sa L.length sc], .slice pa P.length pc, .slice la l.length lc] h K := by
 have s0 := St.init h
 refine wpF_fun 221 [.tmp 6] Tryz.func3 rfl rfl rfl rfl ?_
 have s1 := s0.push (spB g sa L.length sc)
 obtain ⟨h1, e1⟩ : ∃ h1, h1 = h.push (spB g sa L.length sc) := ⟨_, rfl⟩
 obtain ⟨bs, ebs⟩ : ∃ b, b = h.next := ⟨_, rfl⟩
 rw [← e1, ← ebs] at s1
 refine sr (fun LL hLL => ?_)
 simp only [oxz, simprocAttr]
 refine hLL _ _ ?_
 rw [← e1, ← ebs]
 clear e1
 have gs := s1.get
 refine sm (fun T h' => ∃ (u0 u4 u5 : Value) (R : List Value), JbOk g L P ∧ l.length ≤ 60 ∧ St h h' [own bs (spB g sa L.length sc)] ∧ T = u0 :: .slice pa P.length pc :: .slice la l.length lc :: .pointer (some ⟨bs, 0, none⟩) :: u4 :: u5 :: .bool false :: R) ?_ ?_
 ·refine sr (fun LL hLL => ?_)
  simp only [oxk, simprocAttr, gs]
  refine right_ok g sa sc L sp pa pc P (Rd.of_base rP) hP _ s1 _ fun q h2 hq s2 => ?_
  cases q
  ·simp only [oxk, simprocAttr]
   refine hLL _ _ ?_
   refine wpC_if ?_
   simp only [oxz, simprocAttr]
   refine sr (fun LL hLL => ?_)
   simp only [oxz, simprocAttr]
   refine wpF_ext rfl ?_
   refine hLL _ _ ?_
   refine wpC_ret (out_ret ?_)
   simp only [oxz, simprocAttr]
   exact hk _ s2.base
  by_cases h60 : 60 < (l.length : Int)
  ·simp only [oxk, simprocAttr, eq_true h60]
   refine hLL _ _ ?_
   refine wpC_if ?_
   simp only [oxz, simprocAttr]
   refine sr (fun LL hLL => ?_)
   simp only [oxz, simprocAttr]
   refine wpF_ext rfl ?_
   refine hLL _ _ ?_
   refine wpC_ret (out_ret ?_)
   simp only [oxz, simprocAttr]
   exact hk _ s2.base
  simp only [oxk, simprocAttr, eq_false h60]
  refine hLL _ _ ?_
  refine wpC_if ?_
  simp only [oxz, simprocAttr]
  refine wpC_skip ?_
  simp only [oxz, simprocAttr]
  exact ⟨_, _, _, _, hq rfl, by omega, s2, rfl⟩
 clear s1 gs
 rintro T h2 ⟨u0, u4, u5, R, jb, hl60, s1, rfl⟩
 refine sm (fun T h' => ∃ (u0 u4 u5 : Value) (R : List Value), (∀ x ∈ l, AckSm x) ∧ St h h' [own bs (spB g sa L.length sc)] ∧ T = u0 :: .slice pa P.length pc :: .slice la l.length lc :: .pointer (some ⟨bs, 0, none⟩) :: u4 :: u5 :: .bool false :: R) ?_ ?_
 ·refine sr (fun LL hLL => ?_)
  simp only [oxz, simprocAttr]
  refine hLL _ _ ?_
  refine wpC_block ?_
  refine wpC_loop (fun m T h' => ∃ (i : Nat) (u0 u4 u5 : Value) (R : List Value), m + i = l.length ∧ (∀ x ∈ l.take i, AckSm x) ∧ St h h' [own bs (spB g sa L.length sc)] ∧ T = u0 :: .slice pa P.length pc :: .slice la l.length lc :: .pointer (some ⟨bs, 0, none⟩) :: u4 :: u5 :: .bool false :: R ∧ tget R 0 = .int .i64 i) ?_ l.length _ _ ⟨0, _, _, _, _, by omega, by simp, s1, rfl, by simp [tget_tput]⟩
  clear s1
  rintro m T h' ⟨i, u0, u4, u5, R, hmi, hsm, s1, rfl, q0⟩
  refine wpC_seq (sr fun LL hLL => ?_)
  simp only [oxz, simprocAttr, q0]
  refine hLL _ _ ?_
  refine wpC_if ?_
  simp only [oxz, simprocAttr]
  refine gC_of (fun hc => ?_) (fun hc => ?_)
  ·refine wpC_skip ?_
   simp only [oxz, simprocAttr]
   have hi : i < l.length := by omega
   obtain ⟨bq, oq, roq, szq, Cq, Tq, eq, pq, gq, rq, qq⟩ := (rl.fr s1.base).resolve_left (by rintro rfl; simp at hi)
   obtain ⟨wq, xq⟩ := Rs.row AckX.len rq qq i hi
   obtain ⟨x, ex⟩ : ∃ x, x = l[i] := ⟨_, rfl⟩
   rw [← ex] at wq
   unfold AckX.cells at wq
   have zz : aZeros [.int .i64 0, .int .i64 0, .int .i64 0, .int .i64 0, .bool false, .int .i64 0, .int .i64 0, .slice none 0 0, .slice none 0 0, .slice none 0 0] 1 = [.int .i64 0, .int .i64 0, .int .i64 0, .int .i64 0, .bool false, .int .i64 0, .int .i64 0, .slice none 0 0, .slice none 0 0, .slice none 0 0] := rfl
   have s2 := s1.push (.cells false 10 (actC x) 35)
   refine wpC_seq (wpC_block ?_)
   rw [eq]
   refine sr (fun LL hLL => ?_)
   simp only [oxk, simprocAttr, q0, ixF hi, gq, wq, xq, AckX.len, zz]
   refine long1_ok x h'.next _ s2.get _ fun q hq => ?_
   cases q
   ·simp only [oxk, simprocAttr]
    refine hLL _ _ ?_
    refine wpC_if ?_
    simp only [oxz, simprocAttr]
    refine wpC_skip ?_
    simp only [oxz, simprocAttr]
    refine rg (fun LL hLL => ?_)
    simp only [oxz, simprocAttr, q0, wsucc (show i < 9223372036854775807 by omega)]
    refine hLL _ _ ?_
    simp only [oxz, simprocAttr]
    refine ⟨m - 1, by omega, i + 1, _, _, _, _, by omega, fun y hy => ?_, s2.drop, rfl, by simp [tget_tput]⟩
    rw [List.take_succ_eq_append_getElem hi] at hy
    rcases List.mem_append.1 hy with hy | hy
    ·exact hsm y hy
    ·obtain rfl := List.mem_singleton.1 hy
     rw [← ex]; exact hq rfl
   ·simp only [oxk, simprocAttr]
    refine hLL _ _ ?_
    refine wpC_if ?_
    simp only [oxz, simprocAttr]
    refine sr (fun LL hLL => ?_)
    simp only [oxz, simprocAttr]
    refine wpF_ext rfl ?_
    refine hLL _ _ ?_
    refine wpC_ret (out_ret ?_)
    simp only [oxz, simprocAttr]
    exact hk _ s2.base
  ·have hil : i = l.length := by omega
   subst hil
   rw [List.take_length] at hsm
   refine wpC_exit ?_
   simp only [oxz, simprocAttr]
   exact ⟨_, _, _, _, hsm, s1, rfl⟩
 clear s1
 rintro T h3 ⟨u0, u4, u5, R, hsm, s1, rfl⟩
 have hP12 : P.length ≤ 12 := by rw [jb.len]; exact jb.sp.n12
 refine sr (fun LL hLL => ?_)
 simp only [oxk, simprocAttr]
 refine tasks_ok (F := [own bs (spB g sa L.length sc)]) pa pc P (Rd.of_base rP) (by omega) (fun x hx => by have := jb.par x hx; omega) _ s1 _ fun ab ad h4 s4 => ?_
 simp only [oxk, simprocAttr]
 refine hLL _ _ ?_
 obtain ⟨n, en⟩ : ∃ n, n = (tasksL P).length := ⟨_, rfl⟩
 have hn0 : 0 < n := by rw [en]; exact tasks_pos (by have := jb.sp.n1; have := jb.len; omega) fun x hx => (jb.par x hx).1
 have hn96 : n ≤ 96 := by
  have := preT_few P (B := 8) (fun x hx => (jb.par x hx).2.1) P.length
  rw [en]; unfold tasksL; omega
 rw [← en]
 refine sr (fun LL hLL => ?_)
 simp only [oxz, simprocAttr]
 refine newG_ok _ s4 _ fun βa h5 s5 => ?_
 refine hLL _ _ ?_
 refine wpC_seq (sr fun LL hLL => ?_)
 simp only [oxz, simprocAttr, eq_false (show ¬ (n : Int) = 0 by omega)]
 refine hLL _ _ ?_
 refine wpC_if ?_
 simp only [oxz, simprocAttr]
 refine wpC_skip ?_
 simp only [oxz, simprocAttr]
 refine sr (fun LL hLL => ?_)
 simp only [oxk, simprocAttr]
 refine startG_ok 1 n false 0 (by omega) _ s5 _ fun h7 s7 => ?_
 simp only [oxk, simprocAttr]
 refine hLL _ _ ?_
 clear s5 s4
 refine sr (fun LL hLL => ?_)
 simp only [oxk, simprocAttr]
 refine told_ok (F := [wn spc 2 52 ab ad (tasksL P), own bs (spB g sa L.length sc)]) 1 0 false n (by omega) la lc l (Rd.of_base rl) (fun x hx => ⟨Rd.of_base (rx x hx).o, (rx x hx).on, Rd.of_base (rx x hx).r, (rx x hx).rn, Rd.of_base (rx x hx).t, (rx x hx).tn⟩) hsm (by omega) false (TlD.new n) s7 _ fun X h9 qa s10 => ?_
 simp only [oxk, simprocAttr]
 refine hLL _ _ ?_
 have ca : ∀ t, t < n → toldE n (fun _ => none) l t = some (fstC l t) := fun t ht => toldE_new n l t ht
 have gs := (s10.mv 2).get
 have hpt := jb.sp.parts
 have hP8 : ∀ x ∈ P, 1 ≤ x ∧ x ≤ 8 := fun x hx => ⟨(jb.par x hx).1, (jb.par x hx).2.1⟩
 refine sr (fun LL hLL => ?_)
 simp only [oxk, simprocAttr, gs]
 have s11 : St h h9 [coG βa 1 0 false (tasksL P).length [] X, wn spc 2 52 ab ad (tasksL P), own bs (spB g sa L.length sc)] := by rw [← en]; exact s10
 refine manifest_ok (F := [wn spc 2 52 ab ad (tasksL P), own bs (spB g sa L.length sc)]) g sa sc L sp jb.sp.n12 hpt pa pc P (Rd.of_base rP) nP jb.len hP8 βa 1 0 false X qa.sm (fun t ht => (qa.cont (t := t) (by omega) (ca t (by omega))).1) _ s11 _ fun qa1 qc1 a1 a2 a3 h13 s12 => ?_
 have gz := (s12.push (.cells false 0 manZ 48)).get
 have s13 := (s12.push (.cells false 0 manZ 48)).set (manB 1 qa1 P qc1 L.length a1 a2 a3)
 obtain ⟨cm, ecm⟩ : ∃ b, b = h13.next := ⟨_, rfl⟩
 simp only [oxk, simprocAttr, gz]
 refine hLL _ _ ?_
 obtain ⟨h14, e14⟩ : ∃ h14, h14 = (h13.push (.cells false 0 manZ 48)).set h13.next (manB 1 qa1 P qc1 L.length a1 a2 a3) := ⟨_, rfl⟩
 rw [← e14, ← ecm] at s13
 rw [← e14, ← ecm]
 have s14 := (s13).sel 8 [0, 2, 3, 4, 6, 7]
 simp only [oxf] at s14
 clear e14 gz s13 s12 s11 s10 s7 gs
 have gm := s14.get
 have gs := (s14.mv 5).get
 refine wpC_seq (sr fun LL hLL => ?_)
 simp only [oxk, simprocAttr, gm, gs, not_true_eq_false]
 refine hLL _ _ ?_
 refine wpC_if ?_
 simp only [oxz, simprocAttr]
 refine wpC_skip ?_
 simp only [oxz, simprocAttr]
 clear gm gs
 obtain ⟨C, eC⟩ : ∃ C, C = contX X := ⟨_, rfl⟩
 have cc : ∀ t, t < n → (C t).cont = fstC l t := fun t ht => by rw [eC]; exact (qa.cont ht (ca t ht)).2
 have cs : ∀ t, t < n → AckSm (C t) := fun t ht => by
  obtain ⟨x, hx⟩ := (qa.cont ht (ca t ht)).1
  rw [eC]; unfold contX; rw [hx]
  exact qa.sm _ (List.mem_of_find?_eq_some hx)
 rw [← eC] at s14
 obtain ⟨S2, hS2, s15⟩ := (s14.mv 2).nest_out
 have hSl : S2.length = L.length := by rw [lens hS2, manR_len]
 obtain ⟨PB, ePB⟩ : ∃ PB : List Asn, PB = [wn Sv.cells 1 30 (some ⟨a2, 0, none⟩) L.length S2, star (wns rcell 3 63 S2 (manR g L P C)), own cm (manB 1 qa1 P qc1 L.length a1 a2 a3), nest icell 1 3 25 (some ⟨a1, 0, none⟩) L.length (manO L P C), nest r2cell 2 65 31 (some ⟨a3, 0, none⟩) L.length (manT L P C), wn spc 2 52 ab ad (tasksL P), own bs (spB g sa L.length sc)] := ⟨_, rfl⟩
 have s16 : St h h14 PB := by rw [ePB]; exact s15
 clear s15 s14
 refine wpC_seq ?_
 refine sr (fun LL hLL => ?_)
 simp only [oxz, simprocAttr]
 refine hLL _ _ ?_
 refine wpC_block ?_
 refine wpC_loop (fun m T h' => ∃ (op : Nat) (u0 u4 u5 : Value) (R : List Value), m + op = L.length ∧ St h h' PB ∧ T = u0 :: .slice pa P.length pc :: .slice la l.length lc :: .pointer (some ⟨bs, 0, none⟩) :: u4 :: u5 :: .bool false :: R ∧ tget R 1 = .slice ab n ad ∧ tget R 3 = .pointer (some ⟨cm, 0, none⟩) ∧ tget R 5 = .int .i64 op) ?_ L.length _ _ ⟨0, _, _, _, _, by omega, s16, rfl, by simp [tget_tput], by simp [tget_tput], by simp [tget_tput]⟩
 clear s16
 rintro m T h' ⟨op, u0, u4, u5, R, hmo, s1, rfl, q1, q3, q5⟩
 have gs : h'.get bs = some (spB g sa L.length sc) := by rw [ePB] at s1; exact (s1.mv 6).get
 refine wpC_seq (sr fun LL hLL => ?_)
 simp only [oxz, simprocAttr, q5, gs]
 refine hLL _ _ ?_
 refine wpC_if ?_
 simp only [oxz, simprocAttr]
 refine gC_of (fun hc => ?_) (fun hc => ?_)
 ·refine wpC_skip ?_
  simp only [oxz, simprocAttr]
  have hop : op < L.length := by omega
  refine wpC_seq (wpC_block ?_)
  refine sr (fun LL hLL => ?_)
  simp only [oxz, simprocAttr]
  refine hLL _ _ ?_
  refine sr (fun LL hLL => ?_)
  simp only [oxz, simprocAttr]
  refine hLL _ _ ?_
  refine sm (fun T h2 => ∃ (b : Option Addr) (d : Nat) (u0 u4 u5 : Value) (R : List Value), St h h2 (wn r2cell 2 65 b d (outsF P C n op) :: PB) ∧ T = u0 :: .slice pa P.length pc :: .slice la l.length lc :: .pointer (some ⟨bs, 0, none⟩) :: u4 :: u5 :: .bool false :: R ∧ tget R 1 = .slice ab n ad ∧ tget R 3 = .pointer (some ⟨cm, 0, none⟩) ∧ tget R 5 = .int .i64 op ∧ tget R 6 = .slice b (outsF P C n op).length d ∧ tget R 7 = .int .i64 (rowsF P C n op).length) ?_ ?_
  ·refine sr (fun LL hLL => ?_)
   simp only [oxz, simprocAttr]
   refine hLL _ _ ?_
   refine wpC_block ?_
   refine wpC_loop (fun m T h2 => ∃ (t : Nat) (b : Option Addr) (d : Nat) (u0 u4 u5 : Value) (R : List Value), m + t = n ∧ St h h2 (wn r2cell 2 65 b d (outsF P C t op) :: PB) ∧ T = u0 :: .slice pa P.length pc :: .slice la l.length lc :: .pointer (some ⟨bs, 0, none⟩) :: u4 :: u5 :: .bool false :: R ∧ tget R 1 = .slice ab n ad ∧ tget R 3 = .pointer (some ⟨cm, 0, none⟩) ∧ tget R 5 = .int .i64 op ∧ tget R 6 = .slice b (outsF P C t op).length d ∧ tget R 7 = .int .i64 (rowsF P C t op).length ∧ tget R 8 = .int .i64 t) ?_ n _ _ ⟨0, none, 0, _, _, _, _, by omega, s1.wn_nil, rfl, by simp [tget_tput, q1], by simp [tget_tput, q3], by simp [tget_tput, q5], (by simp [tget_tput]; rfl), (by simp [tget_tput]; rfl), by simp [tget_tput]⟩
   clear s1 q1 q3 q5 gs
   rintro m T h2 ⟨t, b, d, u0, u4, u5, R, hmt, s1, rfl, q1, q3, q5, q6, q7, q8⟩
   refine wpC_seq (sr fun LL hLL => ?_)
   simp only [oxz, simprocAttr, q1, q8]
   refine hLL _ _ ?_
   refine wpC_if ?_
   simp only [oxz, simprocAttr]
   refine gC_of (fun hc2 => ?_) (fun hc2 => ?_)
   ·refine wpC_skip ?_
    simp only [oxz, simprocAttr]
    have ht : t < n := by omega
    have hou := cont_outs (x := C t) (y := C t) rfl
    have hfo := outsF_few (P := P) (op := op) (t := t) (m := n) cs (by omega)
    have hfr := rowsF_few (P := P) (op := op) (t := t) (m := n) cs (by omega)
    refine sm (fun T h2 => ∃ (b : Option Addr) (d : Nat) (u0 u4 u5 : Value) (R : List Value), St h h2 (wn r2cell 2 65 b d (outsF P C (t + 1) op) :: PB) ∧ T = u0 :: .slice pa P.length pc :: .slice la l.length lc :: .pointer (some ⟨bs, 0, none⟩) :: u4 :: u5 :: .bool false :: R ∧ tget R 1 = .slice ab n ad ∧ tget R 3 = .pointer (some ⟨cm, 0, none⟩) ∧ tget R 5 = .int .i64 op ∧ tget R 6 = .slice b (outsF P C (t + 1) op).length d ∧ tget R 7 = .int .i64 (rowsF P C (t + 1) op).length ∧ tget R 8 = .int .i64 t) ?_ ?_
    ·refine wpC_block ?_
     refine sr (fun LL hLL => ?_)
     simp only [oxz, simprocAttr]
     refine hLL _ _ ?_
     refine wpC_block ?_
     refine wpC_loop (fun m T h3 => h3 = h2 ∧ ∃ (i : Nat) (u0 u4 u5 : Value) (R : List Value), m + i = l.length ∧ (∀ (k : Nat) (hk : k < l.length), k < i → l[k].task ≠ (t : Int)) ∧ T = u0 :: .slice pa P.length pc :: .slice la l.length lc :: .pointer (some ⟨bs, 0, none⟩) :: u4 :: u5 :: .bool false :: R ∧ tget R 1 = .slice ab n ad ∧ tget R 3 = .pointer (some ⟨cm, 0, none⟩) ∧ tget R 5 = .int .i64 op ∧ tget R 6 = .slice b (outsF P C t op).length d ∧ tget R 7 = .int .i64 (rowsF P C t op).length ∧ tget R 8 = .int .i64 t ∧ tget R 9 = .int .i64 i) ?_ l.length _ _ ⟨rfl, 0, _, _, _, _, by omega, fun k hk h => by omega, rfl, by simp [tget_tput, q1], by simp [tget_tput, q3], by simp [tget_tput, q5], by simp [tget_tput, q6], by simp [tget_tput, q7], by simp [tget_tput, q8], by simp [tget_tput]⟩
     clear q1 q3 q5 q6 q7 q8
     rintro m T h3 ⟨rfl, i, u0, u4, u5, R, hmi, hn, rfl, q1, q3, q5, q6, q7, q8, q9⟩
     by_cases hi : i < l.length
     ·have htT : t < (tasksL P).length := by omega
      obtain ⟨bt, ot, rot, szt, Ct, Tt, et, pt, gt, rt, qt⟩ : ∃ b o ro sz C e, ab = some ⟨b, o, none⟩ ∧ b < h3.next ∧ h3.get b = some (.cells ro sz C e) ∧ (C.drop o).take ((tasksL P).length * 2) = (tasksL P).flatMap spc ∧ o + (tasksL P).length * 2 ≤ C.length := by
       have s2 := s1
       rw [ePB] at s2
       exact ((s2.mv 6).rs spc.len).resolve_left (by intro e; rw [e] at htT; simp at htT)
      have vt : Ct[ot + t * 2]? = some (.int .i64 (tasksL P)[t].1) := Rs.cell spc.len rt qt t htT 0 (by omega)
      have eop : (tasksL P)[t].1 = opOf P t := by unfold opOf; rw [List.getElem?_eq_getElem htT]; rfl
      rw [eop] at vt
      rw [et] at q1
      by_cases ho : opOf P t = op
      ·refine wpC_seq (sr fun LL hLL => ?_)
       simp only [oxz, simprocAttr, q1, q5, q8, q9, ixF ht, gt, vt, eq_true (show (i : Int) < (l.length : Int) by omega), eq_true (show ((opOf P t : Nat) : Int) = (op : Int) by omega)]
       refine hLL _ _ ?_
       refine wpC_if ?_
       simp only [oxz, simprocAttr]
       refine wpC_skip ?_
       simp only [oxz, simprocAttr]
       obtain ⟨bq, oq, roq, szq, Cq, Tq, eq, pq, gq0, rq, qq⟩ := rl.resolve_left (by rintro rfl; simp at hi)
       have gq := s1.base.at gq0 pq (by simp)
       have v1 : Cq[oq + i * 5 + 1]? = some (.int .i64 l[i].task) := by rw [Nat.add_assoc]; exact Rs.cell AckX.len rq qq i hi 1 (by omega)
       have v3 : Cq[oq + i * 5 + 3]? = some (.slice l[i].ra l[i].rows.length l[i].rc) := by rw [Nat.add_assoc]; exact Rs.cell AckX.len rq qq i hi 3 (by omega)
       have v4 : Cq[oq + i * 5 + 4]? = some (.slice l[i].ta l[i].outs.length l[i].tc) := by rw [Nat.add_assoc]; exact Rs.cell AckX.len rq qq i hi 4 (by omega)
       have ax := rx _ (List.getElem_mem hi)
       have sx := hsm _ (List.getElem_mem hi)
       by_cases htask : l[i].task = (t : Int)
       ·have hfind := find_first hi hn htask
        have hct : (C t).cont = l[i].cont := by rw [cc t ht]; unfold fstC; rw [hfind]
        have eo := outsF_succ P C t op
        have er := rowsF_succ P C t op
        rw [if_pos ho, cont_outs hct] at eo
        rw [if_pos ho, cont_rows hct] at er
        have hfst : Go.Ox.fst h3 2 l[i].outs.length l[i].ta = some (l[i].outs.flatMap r2cell) := (ax.t.fr s1.base).fst fun ha => (ax.tn ha).1
        have hs1 := sx.t
        have hs2 := sx.r
        obtain ⟨aE, cE, h5, y1, y2⟩ := s1.app (bytes := 16) (d := l[i].tc) (M := l[i].outs) r2cell.len r2cell.oc hfst (by omega) (by omega)
        rw [← eo] at y1 y2
        have hw : IntKind.i64.wrap (((rowsF P C t op).length : Int) + (l[i].rows.length : Int)) = ((rowsF P C (t + 1) op).length : Int) := by rw [wrap_i64 (by omega) (by omega)]; omega
        have gq5 := y2.base.at gq0 pq (by simp)
        refine wpC_seq (wpC_block ?_)
        rw [eq]
        refine sr (fun LL hLL => ?_)
        simp only [oxz, simprocAttr, q8, q9, ixF hi, gq, v1, eq_true htask]
        refine hLL _ _ ?_
        refine wpC_if ?_
        simp only [oxz, simprocAttr]
        refine sr (fun LL hLL => ?_)
        simp only [oxz, simprocAttr, q6, q9, ixF hi, gq, v4, y1]
        refine hLL _ _ ?_
        refine sr (fun LL hLL => ?_)
        simp only [oxz, simprocAttr, q7, q9, ixF hi, gq5, v3, hw]
        refine hLL _ _ ?_
        refine wpC_exit ?_
        simp only [oxz, simprocAttr]
        exact ⟨aE, cE, _, _, _, _, y2, rfl, by simp [tget_tput, q1, et], by simp [tget_tput, q3], by simp [tget_tput, q5], by simp [tget_tput], by simp [tget_tput], by simp [tget_tput, q8]⟩
       ·refine wpC_seq (wpC_block ?_)
        rw [eq]
        refine sr (fun LL hLL => ?_)
        simp only [oxz, simprocAttr, q8, q9, ixF hi, gq, v1, eq_false htask]
        refine hLL _ _ ?_
        refine wpC_if ?_
        simp only [oxz, simprocAttr]
        refine wpC_skip ?_
        simp only [oxz, simprocAttr]
        refine rg (fun LL hLL => ?_)
        simp only [oxz, simprocAttr, q9, wsucc (show i < 9223372036854775807 by omega)]
        refine hLL _ _ ?_
        simp only [oxz, simprocAttr]
        refine ⟨m - 1, by omega, i + 1, _, _, _, _, by omega, fun k hk hki => ?_, rfl, by simp [tget_tput, q1, et], by simp [tget_tput, q3], by simp [tget_tput, q5], by simp [tget_tput, q6], by simp [tget_tput, q7], by simp [tget_tput, q8], by simp [tget_tput]⟩
        by_cases e : k = i
        ·subst e; exact htask
        ·exact hn k hk (by omega)
      ·have eo := outsF_succ P C t op
       have er := rowsF_succ P C t op
       rw [if_neg ho] at eo er
       refine wpC_seq (sr fun LL hLL => ?_)
       simp only [oxz, simprocAttr, q1, q5, q8, q9, ixF ht, gt, vt, eq_true (show (i : Int) < (l.length : Int) by omega), eq_false (show ¬ ((opOf P t : Nat) : Int) = (op : Int) by omega)]
       refine hLL _ _ ?_
       refine wpC_if ?_
       simp only [oxz, simprocAttr]
       refine wpC_exit ?_
       simp only [oxz, simprocAttr]
       rw [eo, er]
       exact ⟨b, d, _, _, _, _, s1, rfl, by simp [tget_tput, q1, et], by simp [tget_tput, q3], by simp [tget_tput, q5], by simp [tget_tput, q6], by simp [tget_tput, q7], by simp [tget_tput, q8]⟩
     ·have hfind := find_never (l := l) (t := t) fun k hk => hn k hk (by omega)
      have hct : (C t).cont = emC := by rw [cc t ht]; unfold fstC; rw [hfind]
      have eo : outsF P C (t + 1) op = outsF P C t op := by
       rw [outsF_succ, show (C t).outs = [] from congrArg (fun c => c.2.2) hct, List.append_nil]; split <;> rfl
      have er : (rowsF P C (t + 1) op).length = (rowsF P C t op).length := by
       rw [rowsF_succ, show (C t).rows = [] from congrArg (fun c => c.2.1) hct]; split <;> rfl
      refine wpC_seq (sr fun LL hLL => ?_)
      simp only [oxz, simprocAttr, q9, eq_false (show ¬ (i : Int) < (l.length : Int) by omega)]
      refine hLL _ _ ?_
      refine wpC_if ?_
      simp only [oxz, simprocAttr]
      refine wpC_exit ?_
      simp only [oxz, simprocAttr]
      rw [eo, er]
      exact ⟨b, d, _, _, _, _, s1, rfl, by simp [tget_tput, q1], by simp [tget_tput, q3], by simp [tget_tput, q5], by simp [tget_tput, q6], by simp [tget_tput, q7], by simp [tget_tput, q8]⟩
    ·clear s1 q1 q3 q5 q6 q7 q8
     rintro T h4 ⟨b, d, u0, u4, u5, R, s1, rfl, q1, q3, q5, q6, q7, q8⟩
     refine rg (fun LL hLL => ?_)
     simp only [oxz, simprocAttr, q8, wsucc (show t < 9223372036854775807 by omega)]
     refine hLL _ _ ?_
     simp only [oxz, simprocAttr]
     exact ⟨m - 1, by omega, t + 1, b, d, _, _, _, _, by omega, s1, rfl, by simp [tget_tput, q1], by simp [tget_tput, q3], by simp [tget_tput, q5], by simp [tget_tput, q6], by simp [tget_tput, q7], by simp [tget_tput]⟩
   ·have htn : t = n := by omega
    subst htn
    refine wpC_exit ?_
    simp only [oxz, simprocAttr]
    exact ⟨b, d, _, _, _, _, s1, rfl, by simp [tget_tput, q1], by simp [tget_tput, q3], by simp [tget_tput, q5], by simp [tget_tput, q6], by simp [tget_tput, q7]⟩
  clear s1 q1 q3 q5 gs
  rintro T h2 ⟨b, d, u0, u4, u5, R, s1, rfl, q1, q3, q5, q6, q7⟩
  obtain ⟨bo, oo, roo, szo, Co, To, eo, po, go0, ro, qo⟩ := sp.rs.resolve_left (by rintro e; rw [e] at hop; simp at hop)
  have w0 : Co[oo + op * 8]? = some (.int .i64 L[op].kind) := Rs.cell OpX.len ro qo op hop 0 (by omega)
  have w5 : Co[oo + op * 8 + 5]? = some (.int .i64 L[op].parts) := by rw [Nat.add_assoc]; exact Rs.cell OpX.len ro qo op hop 5 (by omega)
  have go := s1.base.at go0 po (by simp)
  have gs : h2.get bs = some (spB g sa L.length sc) := by rw [ePB] at s1; exact (s1.mv 7).get
  obtain ⟨kd, ekd⟩ : ∃ kd, kd = L[op].kind := ⟨_, rfl⟩
  obtain ⟨OT, eOT⟩ : ∃ OT, OT = layT L[op] (atOp P C n op) := ⟨_, rfl⟩
  obtain ⟨RW, eRW⟩ : ∃ RW, RW = layR g L[op] (atOp P C n op) := ⟨_, rfl⟩
  obtain ⟨OO, eOO⟩ : ∃ OO, OO = layO L[op] (atOp P C n op) := ⟨_, rfl⟩
  have lT : kd ≠ 8 → OT = [] := fun hk8 => by rw [eOT]; unfold layT; rw [if_neg (by rw [← ekd]; exact hk8)]
  have lT8 : kd = 8 → OT = outsF P C n op := fun hk8 => by rw [eOT]; unfold layT; rw [if_pos (by rw [← ekd]; exact hk8)]; rfl
  have lR : RW.length = if kd = 5 ∨ kd = 6 then (rowsF P C n op).length else 0 := by rw [eRW, layR_len, ← ekd]; rfl
  have lO : OO.length = if kd = 1 then L[op].parts.toNat else 0 := by rw [eOO, layO_len, ← ekd]
  have hOTl : OT.length ≤ n * 100 := by
   by_cases k8 : kd = 8
   ·rw [lT8 k8]; exact outsF_few cs (by omega)
   ·rw [lT k8]; simp
  rw [← ekd] at w0
  rw [eo] at gs
  refine sr (fun LL hLL => ?_)
  simp only [oxz, simprocAttr, q5, gs, ixF hop, go, w0]
  refine hLL _ _ ?_
  refine sm (fun T h3 => h3 = h2 ∧ ∃ (b2 : Option Addr) (d2 : Nat) (u0 u4 u5 : Value) (R : List Value), Rs r2cell 2 h2 b2 OT ∧ T = u0 :: .slice pa P.length pc :: .slice la l.length lc :: .pointer (some ⟨bs, 0, none⟩) :: u4 :: u5 :: .bool false :: R ∧ tget R 1 = .slice ab n ad ∧ tget R 3 = .pointer (some ⟨cm, 0, none⟩) ∧ tget R 5 = .int .i64 op ∧ tget R 6 = .slice b2 OT.length d2 ∧ tget R 7 = .int .i64 (rowsF P C n op).length ∧ tget R 10 = .int .i64 kd) ?_ ?_
  ·by_cases k8 : kd = 8
   ·refine sr (fun LL hLL => ?_)
    simp only [oxz, simprocAttr, k8, not_true_eq_false]
    refine hLL _ _ ?_
    refine wpC_if ?_
    simp only [oxz, simprocAttr]
    refine wpC_skip ?_
    simp only [oxz, simprocAttr]
    exact ⟨b, d, _, _, _, _, by rw [lT8 k8]; exact s1.rs r2cell.len, rfl, by simp [tget_tput, q1], by simp [tget_tput, q3], by simp [tget_tput, q5], by simp [tget_tput, q6, lT8 k8], by simp [tget_tput, q7], by simp [tget_tput, k8]⟩
   ·refine sr (fun LL hLL => ?_)
    simp only [oxz, simprocAttr, eq_true k8, not_false_eq_true]
    refine hLL _ _ ?_
    refine wpC_if ?_
    simp only [oxz, simprocAttr]
    refine rg (fun LL hLL => ?_)
    simp only [oxz, simprocAttr]
    refine hLL _ _ ?_
    simp only [oxz, simprocAttr]
    exact ⟨none, 0, _, _, _, _, by rw [lT k8]; exact .inl rfl, rfl, by simp [tget_tput, q1], by simp [tget_tput, q3], by simp [tget_tput, q5], (by simp [tget_tput, lT k8]), by simp [tget_tput, q7], by simp [tget_tput]⟩
  clear q1 q3 q5 q6 q7 lT lT8
  rintro T h3 ⟨rfl, b2, d2, u0, u4, u5, R, rO, rfl, q1, q3, q5, q6, q7, q10⟩
  refine sm (fun T h3' => h3' = h3 ∧ ∃ (u0 u4 u5 : Value) (R : List Value), T = u0 :: .slice pa P.length pc :: .slice la l.length lc :: .pointer (some ⟨bs, 0, none⟩) :: u4 :: u5 :: .bool false :: R ∧ tget R 1 = .slice ab n ad ∧ tget R 3 = .pointer (some ⟨cm, 0, none⟩) ∧ tget R 5 = .int .i64 op ∧ tget R 6 = .slice b2 OT.length d2 ∧ tget R 7 = .int .i64 RW.length ∧ tget R 10 = .int .i64 kd) ?_ ?_
  ·by_cases k5 : kd = 5
   ·rw [if_pos (.inl k5)] at lR
    refine sr (fun LL hLL => ?_)
    simp only [oxz, simprocAttr, q10, k5, not_true_eq_false]
    refine hLL _ _ ?_
    refine wpC_if ?_
    simp only [oxz, simprocAttr]
    refine wpC_skip ?_
    simp only [oxz, simprocAttr]
    exact ⟨_, _, _, _, rfl, by simp [tget_tput, q1], by simp [tget_tput, q3], by simp [tget_tput, q5], by simp [tget_tput, q6], by simp [tget_tput, q7, lR], by simp [tget_tput, q10, k5]⟩
   by_cases k6 : kd = 6
   ·rw [if_pos (.inr k6)] at lR
    refine sr (fun LL hLL => ?_)
    simp only [oxz, simprocAttr, q10, k6, not_true_eq_false, not_false_eq_true]
    refine hLL _ _ ?_
    refine wpC_if ?_
    simp only [oxz, simprocAttr]
    refine wpC_skip ?_
    simp only [oxz, simprocAttr]
    exact ⟨_, _, _, _, rfl, by simp [tget_tput, q1], by simp [tget_tput, q3], by simp [tget_tput, q5], by simp [tget_tput, q6], by simp [tget_tput, q7, lR], by simp [tget_tput, q10, k6]⟩
   ·rw [if_neg (by rintro (h | h) <;> contradiction)] at lR
    refine sr (fun LL hLL => ?_)
    simp only [oxz, simprocAttr, q10, eq_true k5, eq_true k6, not_false_eq_true]
    refine hLL _ _ ?_
    refine wpC_if ?_
    simp only [oxz, simprocAttr]
    refine rg (fun LL hLL => ?_)
    simp only [oxz, simprocAttr]
    refine hLL _ _ ?_
    simp only [oxz, simprocAttr]
    exact ⟨_, _, _, _, rfl, by simp [tget_tput, q1], by simp [tget_tput, q3], by simp [tget_tput, q5], by simp [tget_tput, q6], by simp [tget_tput, lR], by simp [tget_tput, q10]⟩
  clear q1 q3 q5 q6 q7 q10
  rintro T h4 ⟨rfl, u0, u4, u5, R, rfl, q1, q3, q5, q6, q7, q10⟩
  have s2 := s1
  rw [ePB] at s2
  have gm := (s2.mv 3).get
  obtain ⟨bT, oT, roT, szT, CT, TT, aT, cT, eT, pT, gT, vT, rT, nT⟩ := rsnAt ((s2.mv 5).rsn r2cell.len) op (by rw [manT_len]; exact hop)
  rw [manT_at L P C op hop, ← en, ← eOT] at vT rT
  obtain ⟨bO, oO, roO, szO, CO, TO, aO, cO, eO, pO, gO, vO, rOO, nO⟩ := rsnAt ((s2.mv 4).rsn icell.len) op (by rw [manO_len]; exact hop)
  rw [manO_at L P C op hop, ← en, ← eOO] at vO
  have hS : op < S2.length := by omega
  have hM : op < (manR g L P C).length := by rw [manR_len]; exact hop
  obtain ⟨bR, oR, roR, szR, CR, TR, eR, pR, gR, rR, wR⟩ := ((s2.mv 1).rs Sv.len1).resolve_left (by intro e; rw [e] at hS; simp at hS)
  have vR : CR[oR + op * 1]? = some (.slice S2[op].a S2[op].len S2[op].cap) := Rs.cell Sv.len1 rR wR op hS 0 (by omega)
  rw [lens_at hS2 op hS hM, manR_at g L P C op hop, ← en, ← eRW] at vR
  have rdR : Rd h (wn r2cell 2 65 b d (outsF P C n op) :: PB) rcell 3 S2[op].a RW := fun h s => by
   rw [ePB] at s
   have := ((s.mv 2).wns_rs rcell.len op hS hM).1
   rw [manR_at g L P C op hop, ← en, ← eRW] at this
   exact this
  cases eT
  cases eO
  cases eR
  rw [Nat.zero_add] at vT vO vR
  have hL12 := jb.sp.n12
  have hRW : RW.length < 1000000 := by
   have := rowsF_few (P := P) (op := op) (t := n) (m := n) cs (by omega)
   rw [lR]; split <;> omega
  have hsr : SrtL (ltg g) RW := by rw [eRW]; exact layR_srt _ _ _
  have hwr : ∀ r ∈ RW, (Lit.int .i64 r.1).wf = true := fun r hr => by
   rw [eRW] at hr
   obtain ⟨x, hx, hr⟩ := layR_mem hr
   obtain ⟨j, hj, rfl⟩ := atOp_mem hx
   rw [show (C j).rows = (fstC l j).2.1 from congrArg (fun c => c.2.1) (cc j hj)] at hr
   obtain ⟨x, hx, hr⟩ := fstC_mem hr
   exact hwf x hx r hr
  refine sm (fun T h3' => h3' = h4 ∧ ∃ (u0 u4 u5 : Value) (R : List Value), T = u0 :: .slice pa P.length pc :: .slice la l.length lc :: .pointer (some ⟨bs, 0, none⟩) :: u4 :: u5 :: .bool false :: R ∧ tget R 1 = .slice ab n ad ∧ tget R 3 = .pointer (some ⟨cm, 0, none⟩) ∧ tget R 5 = .int .i64 op) ?_ ?_
  ·by_cases k1 : kd = 1
   ·rw [if_pos k1] at lO
    have hp := hpt _ (List.getElem_mem hop) (by rw [← ekd]; exact k1)
    have hOO : ((OO.length : Nat) : Int) = L[op].parts := by omega
    refine su [some 161, some 162, some 163, some 164, some 165, some 166, some 167, some 168, some 169, some 170, some 171, some 172, some 173, some 174, some 175, some 176, some 177, some 178, some 179, some 180, some 181, some 182, some 183, some 184, some 185, some 186, some 187, some 188, some 189, some 190, some 191, some 192, some 193, some 194, some 195, some 196, some 197, some 198, some 199, some 200, some 201, some 202, some 203, some 204, some 205, some 206, some 207, some 208, some 209, some 210] 50 [0, 1, 0, 7, 15, 0, 63, 127, 255, 511, 1023, 511, 4095, 8191, 16383, 511, 65535, 131071, 262143, 524287, 1048575, 2097151, 4194303, 8388607, 4194303, 33554431, 67108863, 134217727, 4194303, 272629759, 4194303, 1883242495, 4030726143, 8325693439, 17179869183, 34359738367, 68719476735, 137438953471, 274877906943, 549755813887, 1099511627775, 2199023255551, 4398046511103, 2199023255551, 17592186044415, 35184372088831, 70368744177663, 140737488355327, 281474976710655, 562949953421311] (by rfl) (by rfl) (by decide +kernel) (by decide +kernel) (by decide +kernel) (fun LL hLL => ?_)
    simp only [oxk, simprocAttr, gm, q3, q5, q6, q7, q10, ixF hop, gT, vT, not_true_eq_false]
    refine sameRecs_ok OT aT b2 cT d2 _ _ rT rO (by omega) ?_
    simp only [oxk, simprocAttr, gm, gs, go, w5, q3, q5, q6, q7, q10, ixF hop, gR, vR, gO, vO, k1, hOO, not_true_eq_false, not_false_eq_true]
    refine hLL _ _ ?_
    refine wpC_if ?_
    simp only [oxz, simprocAttr]
    refine wpC_skip ?_
    simp only [oxz, simprocAttr]
    exact ⟨_, _, _, _, rfl, by simp [tget_tput, q1], by simp [tget_tput, q3], by simp [tget_tput, q5]⟩
   ·rw [if_neg k1] at lO
    have hOO : ((OO.length : Nat) : Int) = 0 := by omega
    refine su [some 161, some 162, some 163, some 164, some 165, some 166, some 167, some 168, some 169, some 170, some 171, some 172, some 173, some 174, some 175, some 176, some 177, some 178, some 179, some 180, some 181, some 182, some 183, some 184, some 185, some 186, some 187, some 188, some 189, some 190, some 191, some 192, some 193, some 194, some 195, some 196, some 197, some 198, some 199, some 200, some 201, some 202, some 203, some 204, some 205, some 206, some 207, some 208, some 209, some 210] 50 [0, 1, 0, 7, 15, 0, 63, 127, 255, 511, 1023, 511, 4095, 8191, 16383, 511, 65535, 131071, 262143, 524287, 1048575, 2097151, 4194303, 8388607, 4194303, 33554431, 67108863, 134217727, 4194303, 272629759, 4194303, 1883242495, 4030726143, 8325693439, 17179869183, 34359738367, 68719476735, 137438953471, 274877906943, 549755813887, 1099511627775, 2199023255551, 4398046511103, 2199023255551, 17592186044415, 35184372088831, 70368744177663, 140737488355327, 281474976710655, 562949953421311] (by rfl) (by rfl) (by decide +kernel) (by decide +kernel) (by decide +kernel) (fun LL hLL => ?_)
    simp only [oxk, simprocAttr, gm, q3, q5, q6, q7, q10, ixF hop, gT, vT, not_true_eq_false]
    refine sameRecs_ok OT aT b2 cT d2 _ _ rT rO (by omega) ?_
    simp only [oxk, simprocAttr, gm, gs, q3, q5, q6, q7, q10, ixF hop, gR, vR, gO, vO, eq_false k1, hOO, not_true_eq_false, not_false_eq_true]
    refine hLL _ _ ?_
    refine wpC_if ?_
    simp only [oxz, simprocAttr]
    refine wpC_skip ?_
    simp only [oxz, simprocAttr]
    exact ⟨_, _, _, _, rfl, by simp [tget_tput, q1], by simp [tget_tput, q3], by simp [tget_tput, q5]⟩
  clear q1 q3 q5 q6 q7 q10
  rintro T h4' ⟨rfl, u0, u4, u5, R, rfl, q1, q3, q5⟩
  refine su [some 211, some 212, some 213, some 214, some 215, some 216, some 217, some 218, some 219] 9 [0, 1, 0, 7, 15, 0, 32, 127, 255] (by rfl) (by rfl) (by decide +kernel) (by decide +kernel) (by decide +kernel) (fun LL hLL => ?_)
  simp only [oxk, simprocAttr, gm, gs, q3, q5, ixF hop, gR, vR]
  refine sorted_ok g RW hsr hwr hRW _ _ rdR _ s1 _ fun h6 s6 => ?_
  simp only [oxk, simprocAttr]
  refine hLL _ _ ?_
  refine wpC_if ?_
  simp only [oxz, simprocAttr]
  refine wpC_skip ?_
  simp only [oxz, simprocAttr]
  refine rg (fun LL hLL => ?_)
  simp only [oxz, simprocAttr, q5, wsucc (show op < 9223372036854775807 by omega)]
  refine hLL _ _ ?_
  simp only [oxz, simprocAttr]
  exact ⟨m - 1, by omega, op + 1, _, _, _, _, by omega, s6.drop, rfl, by simp [tget_tput, q1], by simp [tget_tput, q3], by simp [tget_tput]⟩
 ·have hil : op = L.length := by omega
  subst hil
  refine wpC_exit ?_
  simp only [oxz, simprocAttr]
  refine sr (fun LL hLL => ?_)
  simp only [oxz, simprocAttr]
  refine wpF_ext rfl ?_
  refine hLL _ _ ?_
  refine wpC_ret (out_ret ?_)
  simp only [oxz, simprocAttr]
  exact hk _ s1.base
end Go.Proofs.Cd

namespace Go.Proofs.Cd
open Go Go.Ox
set_option maxRecDepth 100000
set_option maxHeartbeats 4000000
theorem cv_ui (n : Int) : aConv Tryz.prog 157 3 (.int .u64 n) = some (.int .i64 (IntKind.i64.wrap n)) := congrArg id (by rfl)
theorem refOf_ok (k g : Int) (h : AHeap) (K : Value → AHeap → Prop) (hk : K (.int .i64 (grp k g)) h) : wpF Tryz.prog (.fn 96) [.int .i64 k, .int .i64 g] h K := by
 refine wpF_fun 33 [.tmp 4] Tryz.func96 rfl rfl rfl rfl ?_
 refine sr (fun LL hLL => ?_)
 simp only [oxz, simprocAttr]
 refine hLL _ _ ?_
 by_cases h1 : g < 1
 ·refine wpC_seq (sr fun LL hLL => ?_)
  simp only [oxz, simprocAttr, eq_true h1]
  refine hLL _ _ ?_
  refine wpC_if ?_
  simp only [oxz, simprocAttr]
  refine sr (fun LL hLL => ?_)
  simp only [oxz, simprocAttr]
  refine hLL _ _ ?_
  refine wpC_ret (out_ret ?_)
  simp only [oxz, simprocAttr]
  have e : grp k g = 0 := by unfold grp; rw [if_pos (.inl h1)]
  rw [e] at hk
  exact hk
 by_cases h2 : 64 < g
 ·refine wpC_seq (sr fun LL hLL => ?_)
  simp only [oxz, simprocAttr, eq_false h1, eq_true h2]
  refine hLL _ _ ?_
  refine wpC_if ?_
  simp only [oxz, simprocAttr]
  refine sr (fun LL hLL => ?_)
  simp only [oxz, simprocAttr]
  refine hLL _ _ ?_
  refine wpC_ret (out_ret ?_)
  simp only [oxz, simprocAttr]
  have e : grp k g = 0 := by unfold grp; rw [if_pos (.inr h2)]
  rw [e] at hk
  exact hk
 refine wpC_seq (sr fun LL hLL => ?_)
 simp only [oxz, simprocAttr, eq_false h1, eq_false h2]
 refine hLL _ _ ?_
 refine wpC_if ?_
 simp only [oxz, simprocAttr]
 refine wpC_skip ?_
 simp only [oxz, simprocAttr]
 refine sr (fun LL hLL => ?_)
 simp only [oxz, simprocAttr]
 refine hLL _ _ ?_
 refine sr (fun LL hLL => ?_)
 simp only [oxz, simprocAttr, cv_iu]
 refine hLL _ _ ?_
 refine wpC_seq ?_
 refine sr (fun LL hLL => ?_)
 simp only [oxz, simprocAttr]
 refine hLL _ _ ?_
 refine fg8 (fun R => ?_)
 refine wpC_block ?_
 have hg : IntKind.u64.wrap g = g := by rw [wrap_u64E]; omega
 have hg' : IntKind.u32.wrap g = g := by rw [wrap_u32E]; omega
 obtain ⟨U0, hU0⟩ : ∃ U0 : Nat, IntKind.u64.wrap k = (U0 : Int) := ⟨(IntKind.u64.wrap k).toNat, by have := wrap_u64E k; omega⟩
 have hU1 : U0 < 18446744073709551616 := by have := wrap_u64E k; omega
 rw [hU0]
 refine wpC_loop (fun m T h' => ∃ (n H U : Nat) (u2 u3 u4 : Value) (R : List Value), h' = h ∧ m + n = 8 ∧ H < 4294967296 ∧ U < 18446744073709551616 ∧ fnv m H U = fnv 8 2166136261 (IntKind.u64.wrap k) ∧ T = .int .i64 k :: .int .i64 g :: u2 :: u3 :: u4 :: .int .u64 H :: .int .u64 U :: .int .i64 n :: R) ?_ 8 _ _ ⟨0, 2166136261, U0, _, _, _, R, rfl, by omega, by omega, hU1, by rw [hU0]; rfl, rfl⟩
 rintro m T h' ⟨n, H, U, u2, u3, u4, R, rfl, hm, hH, hU, hf, rfl⟩
 refine wpC_seq (sr fun LL hLL => ?_)
 simp only [oxz, simprocAttr]
 refine hLL _ _ ?_
 refine wpC_if ?_
 simp only [oxz, simprocAttr]
 refine gC_of (fun hc => ?_) (fun hc => ?_)
 ·refine wpC_skip ?_
  simp only [oxz, simprocAttr]
  refine fg8 (fun R => ?_)
  obtain ⟨m', rfl⟩ : ∃ m', m = m' + 1 := ⟨m - 1, by omega⟩
  obtain ⟨e1, e2⟩ := fnvH_mod H U hH hU
  obtain ⟨H', eH', hH'⟩ := fnvH_nat H U
  have hU' : (U : Int).fdiv 256 = ((U / 256 : Nat) : Int) := by rw [Int.fdiv_eq_ediv_of_nonneg _ (by omega)]; omega
  have hfn : fnv (m' + 1) H U = fnv m' H' ((U / 256 : Nat) : Int) := by rw [← eH', ← hU', fnv]
  refine wpC_seq (wpC_block ?_)
  refine sr (fun LL hLL => ?_)
  simp only [oxz, simprocAttr, aInt_xor, e1, eH']
  refine hLL _ _ ?_
  refine rg (fun LL hLL => ?_)
  simp only [oxz, simprocAttr, e2, hU']
  refine hLL _ _ ?_
  simp only [oxz, simprocAttr]
  refine fg8 (fun R => ?_)
  refine rg (fun LL hLL => ?_)
  simp only [oxz, simprocAttr, wsucc (show n < 9223372036854775807 by omega)]
  refine hLL _ _ ?_
  simp only [oxz, simprocAttr]
  exact ⟨m', by omega, n + 1, H', U / 256, _, _, _, _, by omega, by omega, by omega, by rw [← hfn]; exact hf, rfl⟩
 ·refine wpC_exit ?_
  simp only [oxz, simprocAttr]
  refine fg8 (fun R => ?_)
  obtain rfl : m = 0 := by omega
  have h3 : fnv 0 (H : Int) U = H := rfl
  rw [h3] at hf
  have e : grp k g = IntKind.i64.wrap ((H : Int).tmod g) := by unfold grp; rw [if_neg (by omega), hf, hg']
  refine sr (fun LL hLL => ?_)
  simp only [oxz, simprocAttr, cv_iu, hg, cv_ui, if_neg (show ¬ g = 0 by omega)]
  refine hLL _ _ ?_
  refine wpC_ret (out_ret ?_)
  simp only [oxz, simprocAttr]
  rw [e] at hk
  exact hk
theorem copyInts_ok {h0 : AHeap} {F : List Asn} (L : List Int) (a : Option Addr) (c : Nat) (h : AHeap) (r : Rd h0 F icell 1 a L) (hl : L.length < 1000000) (s : St h0 h F) (K : Value → AHeap → Prop) (hk : ∀ b d h', St h0 h' (wn icell 1 3 b d L :: F) → K (.slice b L.length d) h') :
  wpF Tryz.prog (.fn 35) [.slice a L.length c] h K := by
 have zz : aZeros [.int .i64 0] 1 = [.int .i64 0] := rfl
 refine wpF_fun 19 [.tmp 2] Tryz.func35 rfl rfl rfl rfl ?_
 refine sr (fun LL hLL => ?_)
 simp only [oxz, simprocAttr]
 refine hLL _ _ ?_
 refine sr (fun LL hLL => ?_)
 simp only [oxz, simprocAttr]
 refine hLL _ _ ?_
 refine sm (fun T h' => ∃ (b : Option Addr) (d : Nat) (u0 u1 u2 : Value) (R : List Value), St h0 h' (wn icell 1 3 b d L :: F) ∧ T = u0 :: u1 :: u2 :: .slice b L.length d :: R) ?_ ?_
 ·refine sr (fun LL hLL => ?_)
  simp only [oxz, simprocAttr]
  refine hLL _ _ ?_
  refine fg5 (fun R => ?_)
  have s0 := s.wn_nil (f := icell) (k := 1) (e := 3)
  refine wpC_block ?_
  refine wpC_loop (fun m T h' => ∃ (i : Nat) (b : Option Addr) (d : Nat) (u1 u2 : Value) (R : List Value), m + i = L.length ∧ St h0 h' (wn icell 1 3 b d (L.take i) :: F) ∧ T = .slice a L.length c :: u1 :: u2 :: .slice b (L.take i).length d :: .int .i64 i :: R) ?_ L.length _ _ ⟨0, none, 0, _, _, R, by omega, s0, rfl⟩
  rintro m T h' ⟨i, b, d, u1, u2, R, hmi, s1, rfl⟩
  refine wpC_seq (sr fun LL hLL => ?_)
  simp only [oxz, simprocAttr]
  refine hLL _ _ ?_
  refine wpC_if ?_
  simp only [oxz, simprocAttr]
  refine gC_of (fun hc => ?_) (fun hc => ?_)
  ·refine wpC_skip ?_
   simp only [oxz, simprocAttr]
   refine fg5 (fun R => ?_)
   have hi : i < L.length := by omega
   have ht : L.take (i + 1) = L.take i ++ [L[i]] := List.take_succ_eq_append_getElem hi
   have hli : (L.take i).length = i := by rw [List.length_take]; omega
   obtain ⟨bq, oq, roq, szq, Cq, Tq, eq, pq, gq, rq, qq⟩ := (r _ s1.drop).resolve_left (by rintro rfl; simp at hi)
   subst eq
   have wq : Cq[oq + i * 1]? = some (.int .i64 L[i]) := Rs.cell icell.len rq qq i hi 0 (by omega)
   obtain ⟨aE, cE, h6, y1, y2⟩ := s1.app1 (bytes := 8) L[i] icell.len icell.oc (by omega) (by omega)
   have y1' := y1
   simp only [icell] at y1'
   refine wpC_seq (wpC_block ?_)
   refine rg (fun LL hLL => ?_)
   simp only [oxz, simprocAttr, ixF hi, gq, wq, zz]
   rw [y1']
   simp only [oxz, simprocAttr]
   refine hLL _ _ ?_
   simp only [oxz, simprocAttr]
   refine fg5 (fun R => ?_)
   refine rg (fun LL hLL => ?_)
   simp only [oxz, simprocAttr, wsucc (show i < 9223372036854775807 by omega)]
   refine hLL _ _ ?_
   simp only [oxz, simprocAttr]
   rw [show (L.take i).length + 1 = (L.take (i + 1)).length by rw [hli, List.length_take]; omega]
   rw [← ht] at y2
   exact ⟨m - 1, by omega, i + 1, aE, cE, _, _, _, by omega, y2, rfl⟩
  ·have hil : i = L.length := by omega
   subst hil
   rw [List.take_length] at s1
   refine wpC_exit ?_
   simp only [oxz, simprocAttr, List.take_length]
   exact ⟨b, d, _, _, _, _, s1, rfl⟩
 rintro T h' ⟨b, d, u0, u1, u2, R, s1, rfl⟩
 refine sr (fun LL hLL => ?_)
 simp only [oxz, simprocAttr]
 refine hLL _ _ ?_
 refine wpC_ret (out_ret ?_)
 simp only [oxz, simprocAttr]
 exact hk _ _ _ s1
theorem copyRows_ok {h0 : AHeap} {F : List Asn} (L : List Rwc) (a : Option Addr) (c : Nat) (h : AHeap) (r : Rd h0 F rcell 3 a L) (hl : L.length < 1000000) (s : St h0 h F) (K : Value → AHeap → Prop) (hk : ∀ b d h', St h0 h' (wn rcell 3 63 b d L :: F) → K (.slice b L.length d) h') :
  wpF Tryz.prog (.fn 36) [.slice a L.length c] h K := by
 have zz : aZeros [.int .i64 0, .int .i64 0, .int .i64 0] 1 = [.int .i64 0, .int .i64 0, .int .i64 0] := rfl
 refine wpF_fun 19 [.tmp 2] Tryz.func36 rfl rfl rfl rfl ?_
 refine sr (fun LL hLL => ?_)
 simp only [oxz, simprocAttr]
 refine hLL _ _ ?_
 refine sr (fun LL hLL => ?_)
 simp only [oxz, simprocAttr]
 refine hLL _ _ ?_
 refine sm (fun T h' => ∃ (b : Option Addr) (d : Nat) (u0 u1 u2 : Value) (R : List Value), St h0 h' (wn rcell 3 63 b d L :: F) ∧ T = u0 :: u1 :: u2 :: .slice b L.length d :: R) ?_ ?_
 ·refine sr (fun LL hLL => ?_)
  simp only [oxz, simprocAttr]
  refine hLL _ _ ?_
  refine fg5 (fun R => ?_)
  have s0 := s.wn_nil (f := rcell) (k := 3) (e := 63)
  refine wpC_block ?_
  refine wpC_loop (fun m T h' => ∃ (i : Nat) (b : Option Addr) (d : Nat) (u1 u2 : Value) (R : List Value), m + i = L.length ∧ St h0 h' (wn rcell 3 63 b d (L.take i) :: F) ∧ T = .slice a L.length c :: u1 :: u2 :: .slice b (L.take i).length d :: .int .i64 i :: R) ?_ L.length _ _ ⟨0, none, 0, _, _, R, by omega, s0, rfl⟩
  rintro m T h' ⟨i, b, d, u1, u2, R, hmi, s1, rfl⟩
  refine wpC_seq (sr fun LL hLL => ?_)
  simp only [oxz, simprocAttr]
  refine hLL _ _ ?_
  refine wpC_if ?_
  simp only [oxz, simprocAttr]
  refine gC_of (fun hc => ?_) (fun hc => ?_)
  ·refine wpC_skip ?_
   simp only [oxz, simprocAttr]
   refine fg5 (fun R => ?_)
   have hi : i < L.length := by omega
   have ht : L.take (i + 1) = L.take i ++ [L[i]] := List.take_succ_eq_append_getElem hi
   have hli : (L.take i).length = i := by rw [List.length_take]; omega
   obtain ⟨bq, oq, roq, szq, Cq, Tq, eq, pq, gq, rq, qq⟩ := (r _ s1.drop).resolve_left (by rintro rfl; simp at hi)
   subst eq
   obtain ⟨wq, xq⟩ := Rs.row rcell.len rq qq i hi
   obtain ⟨aE, cE, h6, y1, y2⟩ := s1.app1 (bytes := 24) L[i] rcell.len rcell.oc (by omega) (by omega)
   have y1' := y1
   simp only [rcell] at y1'
   refine wpC_seq (wpC_block ?_)
   refine rg (fun LL hLL => ?_)
   simp only [oxz, simprocAttr, ixF hi, gq, wq, xq, rcell.len, rcell, zz]
   rw [y1']
   simp only [oxz, simprocAttr]
   refine hLL _ _ ?_
   simp only [oxz, simprocAttr]
   refine fg5 (fun R => ?_)
   refine rg (fun LL hLL => ?_)
   simp only [oxz, simprocAttr, wsucc (show i < 9223372036854775807 by omega)]
   refine hLL _ _ ?_
   simp only [oxz, simprocAttr]
   rw [show (L.take i).length + 1 = (L.take (i + 1)).length by rw [hli, List.length_take]; omega]
   rw [← ht] at y2
   exact ⟨m - 1, by omega, i + 1, aE, cE, _, _, _, by omega, y2, rfl⟩
  ·have hil : i = L.length := by omega
   subst hil
   rw [List.take_length] at s1
   refine wpC_exit ?_
   simp only [oxz, simprocAttr, List.take_length]
   exact ⟨b, d, _, _, _, _, s1, rfl⟩
 rintro T h' ⟨b, d, u0, u1, u2, R, s1, rfl⟩
 refine sr (fun LL hLL => ?_)
 simp only [oxz, simprocAttr]
 refine hLL _ _ ?_
 refine wpC_ret (out_ret ?_)
 simp only [oxz, simprocAttr]
 exact hk _ _ _ s1
theorem copyRecs_ok {h0 : AHeap} {F : List Asn} (L : List Rc2) (a : Option Addr) (c : Nat) (h : AHeap) (r : Rd h0 F r2cell 2 a L) (hl : L.length < 1000000) (s : St h0 h F) (K : Value → AHeap → Prop) (hk : ∀ b d h', St h0 h' (wn r2cell 2 65 b d L :: F) → K (.slice b L.length d) h') :
  wpF Tryz.prog (.fn 37) [.slice a L.length c] h K := by
 have zz : aZeros [.int .i64 0, .int .i64 0] 1 = [.int .i64 0, .int .i64 0] := rfl
 refine wpF_fun 19 [.tmp 2] Tryz.func37 rfl rfl rfl rfl ?_
 refine sr (fun LL hLL => ?_)
 simp only [oxz, simprocAttr]
 refine hLL _ _ ?_
 refine sr (fun LL hLL => ?_)
 simp only [oxz, simprocAttr]
 refine hLL _ _ ?_
 refine sm (fun T h' => ∃ (b : Option Addr) (d : Nat) (u0 u1 u2 : Value) (R : List Value), St h0 h' (wn r2cell 2 65 b d L :: F) ∧ T = u0 :: u1 :: u2 :: .slice b L.length d :: R) ?_ ?_
 ·refine sr (fun LL hLL => ?_)
  simp only [oxz, simprocAttr]
  refine hLL _ _ ?_
  refine fg5 (fun R => ?_)
  have s0 := s.wn_nil (f := r2cell) (k := 2) (e := 65)
  refine wpC_block ?_
  refine wpC_loop (fun m T h' => ∃ (i : Nat) (b : Option Addr) (d : Nat) (u1 u2 : Value) (R : List Value), m + i = L.length ∧ St h0 h' (wn r2cell 2 65 b d (L.take i) :: F) ∧ T = .slice a L.length c :: u1 :: u2 :: .slice b (L.take i).length d :: .int .i64 i :: R) ?_ L.length _ _ ⟨0, none, 0, _, _, R, by omega, s0, rfl⟩
  rintro m T h' ⟨i, b, d, u1, u2, R, hmi, s1, rfl⟩
  refine wpC_seq (sr fun LL hLL => ?_)
  simp only [oxz, simprocAttr]
  refine hLL _ _ ?_
  refine wpC_if ?_
  simp only [oxz, simprocAttr]
  refine gC_of (fun hc => ?_) (fun hc => ?_)
  ·refine wpC_skip ?_
   simp only [oxz, simprocAttr]
   refine fg5 (fun R => ?_)
   have hi : i < L.length := by omega
   have ht : L.take (i + 1) = L.take i ++ [L[i]] := List.take_succ_eq_append_getElem hi
   have hli : (L.take i).length = i := by rw [List.length_take]; omega
   obtain ⟨bq, oq, roq, szq, Cq, Tq, eq, pq, gq, rq, qq⟩ := (r _ s1.drop).resolve_left (by rintro rfl; simp at hi)
   subst eq
   obtain ⟨wq, xq⟩ := Rs.row r2cell.len rq qq i hi
   obtain ⟨aE, cE, h6, y1, y2⟩ := s1.app1 (bytes := 16) L[i] r2cell.len r2cell.oc (by omega) (by omega)
   have y1' := y1
   simp only [r2cell] at y1'
   refine wpC_seq (wpC_block ?_)
   refine rg (fun LL hLL => ?_)
   simp only [oxz, simprocAttr, ixF hi, gq, wq, xq, r2cell.len, r2cell, zz]
   rw [y1']
   simp only [oxz, simprocAttr]
   refine hLL _ _ ?_
   simp only [oxz, simprocAttr]
   refine fg5 (fun R => ?_)
   refine rg (fun LL hLL => ?_)
   simp only [oxz, simprocAttr, wsucc (show i < 9223372036854775807 by omega)]
   refine hLL _ _ ?_
   simp only [oxz, simprocAttr]
   rw [show (L.take i).length + 1 = (L.take (i + 1)).length by rw [hli, List.length_take]; omega]
   rw [← ht] at y2
   exact ⟨m - 1, by omega, i + 1, aE, cE, _, _, _, by omega, y2, rfl⟩
  ·have hil : i = L.length := by omega
   subst hil
   rw [List.take_length] at s1
   refine wpC_exit ?_
   simp only [oxz, simprocAttr, List.take_length]
   exact ⟨b, d, _, _, _, _, s1, rfl⟩
 rintro T h' ⟨b, d, u0, u1, u2, R, s1, rfl⟩
 refine sr (fun LL hLL => ?_)
 simp only [oxz, simprocAttr]
 refine hLL _ _ ?_
 refine wpC_ret (out_ret ?_)
 simp only [oxz, simprocAttr]
 exact hk _ _ _ s1
end Go.Proofs.Cd

namespace Go.Proofs.Cd
open Go Go.Ox
set_option maxRecDepth 100000
set_option maxHeartbeats 4000000
theorem markInts_ok {h0 : AHeap} {F : List Asn} (x : Int) (h : AHeap) (s : St h0 h F) (K : Value → AHeap → Prop) (hk : ∀ (v : Int) h', St h0 h' F → K (.int .i64 v) h') : wpF Tryz.prog (.fn 63) [.int .i64 x] h K := by
 refine wpF_fun 6 [.tmp 2] Tryz.func63 rfl rfl rfl rfl ?_
 refine sr (fun LL hLL => ?_)
 simp only [oxz, simprocAttr]
 refine hLL _ _ ?_
 refine sr (fun LL hLL => ?_)
 simp only [oxz, simprocAttr]
 refine hLL _ _ ?_
 refine wpC_ret (out_ret ?_)
 simp only [oxz, simprocAttr]
 exact hk _ _ s
theorem markRows_ok {h0 : AHeap} {F : List Asn} (x : Int) (h : AHeap) (s : St h0 h F) (K : Value → AHeap → Prop) (hk : ∀ (v : Rwc) h', St h0 h' F → K (.agg (rcell v).toArray) h') : wpF Tryz.prog (.fn 64) [.int .i64 x] h K := by
 refine wpF_fun 7 [.cell 2 63] Tryz.func64 rfl rfl rfl rfl ?_
 have s1 := s.push (.cells false 0 [.int .i64 0, .int .i64 0, .int .i64 0] 63)
 have g1 := s1.get
 have s2 := s1.set (.cells false 0 [.int .i64 (IntKind.i64.wrap (77 + x)), .int .i64 5, .int .i64 3] 63)
 refine sr (fun LL hLL => ?_)
 simp only [oxz, simprocAttr]
 refine hLL _ _ ?_
 refine sr (fun LL hLL => ?_)
 simp only [oxz, simprocAttr, g1]
 refine hLL _ _ ?_
 refine wpC_ret (out_ret ?_)
 simp only [oxz, simprocAttr]
 simp only [s2.get]
 exact hk (IntKind.i64.wrap (77 + x), (5, 3)) _ s2.drop
theorem markRecs_ok {h0 : AHeap} {F : List Asn} (x : Int) (h : AHeap) (s : St h0 h F) (K : Value → AHeap → Prop) (hk : ∀ (v : Rc2) h', St h0 h' F → K (.agg (r2cell v).toArray) h') : wpF Tryz.prog (.fn 65) [.int .i64 x] h K := by
 refine wpF_fun 6 [.cell 2 65] Tryz.func65 rfl rfl rfl rfl ?_
 have s1 := s.push (.cells false 0 [.int .i64 0, .int .i64 0] 65)
 have g1 := s1.get
 have s2 := s1.set (.cells false 0 [.int .i64 (IntKind.i64.wrap (70 + x)), .int .i64 (-9)] 65)
 refine sr (fun LL hLL => ?_)
 simp only [oxz, simprocAttr]
 refine hLL _ _ ?_
 refine sr (fun LL hLL => ?_)
 simp only [oxz, simprocAttr, g1]
 refine hLL _ _ ?_
 refine wpC_ret (out_ret ?_)
 simp only [oxz, simprocAttr]
 simp only [s2.get]
 exact hk (IntKind.i64.wrap (70 + x), -9) _ s2.drop
/-- One of many lists, to write on. -/
theorem nest_pick {α : Type} {f : α → List Value} {k : Nat} {e E : TypeId} {h0 h : AHeap} {F : List Asn} {a : Option Addr} {c : Nat} {LL : List (List α)} (hf : ∀ x, (f x).length = k) (s : St h0 h (nest f k e E a c LL :: F)) (i : Nat) (hi : i < LL.length) :
  ∃ v1 v2 b o ro sz C T, a = some ⟨b, o, none⟩ ∧ h.get b = some (.cells ro sz C T) ∧ C[o + i * 1]? = some (.slice v1 LL[i].length v2) ∧ ∃ G, St h0 h (wn f k e v1 v2 LL[i] :: G) ∧ ∀ M, M.length = LL[i].length → ∀ h', St h0 h' (wn f k e v1 v2 M :: G) → St h0 h' (nest f k e E a c (LL.set i M) :: F) := by
 obtain ⟨S, hS, s1⟩ := s.nest_out
 have hl : S.length = LL.length := lens hS
 have hi' : i < S.length := by omega
 obtain ⟨b, o, ro, sz, C, T, e1, p, g, q, w⟩ := (s1.rs Sv.len1).resolve_left (by rintro rfl; simp at hi')
 have v : C[o + i * 1]? = some (.slice S[i].a S[i].len S[i].cap) := Rs.cell Sv.len1 q w i hi' 0 (by omega)
 rw [lens_at hS i hi' hi] at v
 have hw : i < (wns f k e S LL).length := by rw [wns_len hl]; exact hi
 have s2 := (s1.mv 1).pick i hw
 rw [wns_at i hi' hi hw] at s2
 refine ⟨S[i].a, S[i].cap, b, o, ro, sz, C, T, e1, g, v, _, s2, fun M hM h' s3 => ?_⟩
 have s4 := s3.unpick i hw
 have e2 : (wns f k e S LL).set i (wn f k e S[i].a S[i].cap M) = wns f k e S (LL.set i M) := by
  have := wns_set (f := f) (k := k) (e := e) (s := S[i]) (L := M) S LL i
  rw [List.set_getElem_self] at this
  exact this.symm
 rw [e2] at s4
 refine St.nest_in ?_ (s4.mv 1)
 rw [hS]
 refine List.ext_getElem (by simp) fun j h1 h2 => ?_
 rw [List.getElem_map, List.getElem_map, List.getElem_set]
 split
 ·rename_i h; subst h; rw [hM]
 ·rfl
theorem spoilInts_ok {h0 : AHeap} {F : List Asn} (L : List Int) (a : Option Addr) (c : Nat) (h : AHeap) (s : St h0 h (wn icell 1 3 a c L :: F)) (hl : L.length < 1000000) (K : Value → AHeap → Prop) (hk : ∀ (L' : List Int) h', L'.length = L.length → St h0 h' (wn icell 1 3 a c L' :: F) → K (.tuple #[]) h') :
  wpF Tryz.prog (.fn 39) [.slice a L.length c] h K := by
 refine wpF_fun 15 [] Tryz.func39 rfl rfl rfl rfl ?_
 refine sr (fun LL hLL => ?_)
 simp only [oxz, simprocAttr]
 refine hLL _ _ ?_
 refine fg3 (fun R => ?_)
 refine wpC_block ?_
 refine wpC_loop (fun m T h' => ∃ (i : Nat) (L' : List Int) (u1 : Value) (R : List Value), m + i = L.length ∧ L'.length = L.length ∧ St h0 h' (wn icell 1 3 a c L' :: F) ∧ T = .slice a L.length c :: u1 :: .int .i64 i :: R) ?_ L.length _ _ ⟨0, L, _, R, by omega, rfl, s, rfl⟩
 rintro m T h' ⟨i, L', u1, R, hmi, hL', s1, rfl⟩
 refine wpC_seq (sr fun LL hLL => ?_)
 simp only [oxz, simprocAttr]
 refine hLL _ _ ?_
 refine wpC_if ?_
 simp only [oxz, simprocAttr]
 refine gC_of (fun hc => ?_) (fun hc => ?_)
 ·refine wpC_skip ?_
  simp only [oxz, simprocAttr]
  refine fg3 (fun R => ?_)
  have hi : i < L.length := by omega
  have hi' : i < L'.length := by omega
  obtain ⟨b, rfl, hcc, s2⟩ := s1.wn_out (.inl (by rintro rfl; simp at hi'))
  have hle := flat_le icell.len L' i hi'
  refine wpC_seq (wpC_block ?_)
  refine rg (fun LL hLL => ?_)
  simp only [oxk, simprocAttr]
  refine markInts_ok _ _ s2 _ fun v h2 s3 => ?_
  have gb := s3.get
  have hput : splice (L'.flatMap icell) (i * 1) (icell v) = (L'.set i v).flatMap icell := flat_store icell.len L' i v (by omega)
  simp only [icell] at hput
  simp only [oxk, simprocAttr, icell, ixF hi, gb, hput, eq_true (show i * 1 + 1 ≤ (L'.flatMap icell).length by omega)]
  refine hLL _ _ ?_
  simp only [oxz, simprocAttr]
  refine fg3 (fun R => ?_)
  refine rg (fun LL hLL => ?_)
  simp only [oxz, simprocAttr, wsucc (show i < 9223372036854775807 by omega)]
  refine hLL _ _ ?_
  simp only [oxz, simprocAttr]
  have s4 := (s3.set (.cells false 1 ((L'.set i v).flatMap icell) 3)).wn_in (f := icell) (c := c) (L := L'.set i v) (by rw [List.length_set]; exact hcc)
  exact ⟨m - 1, by omega, i + 1, L'.set i v, _, _, by omega, by rw [List.length_set]; exact hL', s4, rfl⟩
 ·have hil : i = L.length := by omega
  refine wpC_exit ?_
  simp only [oxz, simprocAttr]
  refine out_normal ?_
  simp only [oxz, simprocAttr]
  exact hk L' _ hL' s1
theorem spoilRows_ok {h0 : AHeap} {F : List Asn} (L : List Rwc) (a : Option Addr) (c : Nat) (h : AHeap) (s : St h0 h (wn rcell 3 63 a c L :: F)) (hl : L.length < 1000000) (K : Value → AHeap → Prop) (hk : ∀ (L' : List Rwc) h', L'.length = L.length → St h0 h' (wn rcell 3 63 a c L' :: F) → K (.tuple #[]) h') :
  wpF Tryz.prog (.fn 40) [.slice a L.length c] h K := by
 refine wpF_fun 15 [] Tryz.func40 rfl rfl rfl rfl ?_
 refine sr (fun LL hLL => ?_)
 simp only [oxz, simprocAttr]
 refine hLL _ _ ?_
 refine fg3 (fun R => ?_)
 refine wpC_block ?_
 refine wpC_loop (fun m T h' => ∃ (i : Nat) (L' : List Rwc) (u1 : Value) (R : List Value), m + i = L.length ∧ L'.length = L.length ∧ St h0 h' (wn rcell 3 63 a c L' :: F) ∧ T = .slice a L.length c :: u1 :: .int .i64 i :: R) ?_ L.length _ _ ⟨0, L, _, R, by omega, rfl, s, rfl⟩
 rintro m T h' ⟨i, L', u1, R, hmi, hL', s1, rfl⟩
 refine wpC_seq (sr fun LL hLL => ?_)
 simp only [oxz, simprocAttr]
 refine hLL _ _ ?_
 refine wpC_if ?_
 simp only [oxz, simprocAttr]
 refine gC_of (fun hc => ?_) (fun hc => ?_)
 ·refine wpC_skip ?_
  simp only [oxz, simprocAttr]
  refine fg3 (fun R => ?_)
  have hi : i < L.length := by omega
  have hi' : i < L'.length := by omega
  obtain ⟨b, rfl, hcc, s2⟩ := s1.wn_out (.inl (by rintro rfl; simp at hi'))
  have hle := flat_le rcell.len L' i hi'
  refine wpC_seq (wpC_block ?_)
  refine rg (fun LL hLL => ?_)
  simp only [oxk, simprocAttr]
  refine markRows_ok _ _ s2 _ fun v h2 s3 => ?_
  have gb := s3.get
  have hput : splice (L'.flatMap rcell) (i * 3) (rcell v) = (L'.set i v).flatMap rcell := flat_store rcell.len L' i v (by omega)
  simp only [rcell] at hput
  simp only [oxk, simprocAttr, rcell, ixF hi, gb, hput, eq_true (show i * 3 + 3 ≤ (L'.flatMap rcell).length by omega)]
  refine hLL _ _ ?_
  simp only [oxz, simprocAttr]
  refine fg3 (fun R => ?_)
  refine rg (fun LL hLL => ?_)
  simp only [oxz, simprocAttr, wsucc (show i < 9223372036854775807 by omega)]
  refine hLL _ _ ?_
  simp only [oxz, simprocAttr]
  have s4 := (s3.set (.cells false 3 ((L'.set i v).flatMap rcell) 63)).wn_in (f := rcell) (c := c) (L := L'.set i v) (by rw [List.length_set]; exact hcc)
  exact ⟨m - 1, by omega, i + 1, L'.set i v, _, _, by omega, by rw [List.length_set]; exact hL', s4, rfl⟩
 ·have hil : i = L.length := by omega
  refine wpC_exit ?_
  simp only [oxz, simprocAttr]
  refine out_normal ?_
  simp only [oxz, simprocAttr]
  exact hk L' _ hL' s1
theorem spoilRecs_ok {h0 : AHeap} {F : List Asn} (L : List Rc2) (a : Option Addr) (c : Nat) (h : AHeap) (s : St h0 h (wn r2cell 2 65 a c L :: F)) (hl : L.length < 1000000) (K : Value → AHeap → Prop) (hk : ∀ (L' : List Rc2) h', L'.length = L.length → St h0 h' (wn r2cell 2 65 a c L' :: F) → K (.tuple #[]) h') :
  wpF Tryz.prog (.fn 41) [.slice a L.length c] h K := by
 refine wpF_fun 15 [] Tryz.func41 rfl rfl rfl rfl ?_
 refine sr (fun LL hLL => ?_)
 simp only [oxz, simprocAttr]
 refine hLL _ _ ?_
 refine fg3 (fun R => ?_)
 refine wpC_block ?_
 refine wpC_loop (fun m T h' => ∃ (i : Nat) (L' : List Rc2) (u1 : Value) (R : List Value), m + i = L.length ∧ L'.length = L.length ∧ St h0 h' (wn r2cell 2 65 a c L' :: F) ∧ T = .slice a L.length c :: u1 :: .int .i64 i :: R) ?_ L.length _ _ ⟨0, L, _, R, by omega, rfl, s, rfl⟩
 rintro m T h' ⟨i, L', u1, R, hmi, hL', s1, rfl⟩
 refine wpC_seq (sr fun LL hLL => ?_)
 simp only [oxz, simprocAttr]
 refine hLL _ _ ?_
 refine wpC_if ?_
 simp only [oxz, simprocAttr]
 refine gC_of (fun hc => ?_) (fun hc => ?_)
 ·refine wpC_skip ?_
  simp only [oxz, simprocAttr]
  refine fg3 (fun R => ?_)
  have hi : i < L.length := by omega
  have hi' : i < L'.length := by omega
  obtain ⟨b, rfl, hcc, s2⟩ := s1.wn_out (.inl (by rintro rfl; simp at hi'))
  have hle := flat_le r2cell.len L' i hi'
  refine wpC_seq (wpC_block ?_)
  refine rg (fun LL hLL => ?_)
  simp only [oxk, simprocAttr]
  refine markRecs_ok _ _ s2 _ fun v h2 s3 => ?_
  have gb := s3.get
  have hput : splice (L'.flatMap r2cell) (i * 2) (r2cell v) = (L'.set i v).flatMap r2cell := flat_store r2cell.len L' i v (by omega)
  simp only [r2cell] at hput
  simp only [oxk, simprocAttr, r2cell, ixF hi, gb, hput, eq_true (show i * 2 + 2 ≤ (L'.flatMap r2cell).length by omega)]
  refine hLL _ _ ?_
  simp only [oxz, simprocAttr]
  refine fg3 (fun R => ?_)
  refine rg (fun LL hLL => ?_)
  simp only [oxz, simprocAttr, wsucc (show i < 9223372036854775807 by omega)]
  refine hLL _ _ ?_
  simp only [oxz, simprocAttr]
  have s4 := (s3.set (.cells false 2 ((L'.set i v).flatMap r2cell) 65)).wn_in (f := r2cell) (c := c) (L := L'.set i v) (by rw [List.length_set]; exact hcc)
  exact ⟨m - 1, by omega, i + 1, L'.set i v, _, _, by omega, by rw [List.length_set]; exact hL', s4, rfl⟩
 ·have hil : i = L.length := by omega
  refine wpC_exit ?_
  simp only [oxz, simprocAttr]
  refine out_normal ?_
  simp only [oxz, simprocAttr]
  exact hk L' _ hL' s1
theorem spoilRecLists_ok {h0 : AHeap} {F : List Asn} (L : List (List Rc2)) (a : Option Addr) (c : Nat) (h : AHeap) (s : St h0 h (nest r2cell 2 65 31 a c L :: F)) (hl : L.length < 1000000) (hl1 : ∀ x ∈ L, x.length < 1000000) (K : Value → AHeap → Prop) (hk : ∀ (L' : List (List Rc2)) h', L'.length = L.length → St h0 h' (nest r2cell 2 65 31 a c L' :: F) → K (.tuple #[]) h') :
  wpF Tryz.prog (.fn 71) [.slice a L.length c] h K := by
 refine wpF_fun 14 [] Tryz.func71 rfl rfl rfl rfl ?_
 refine sr (fun LL hLL => ?_)
 simp only [oxz, simprocAttr]
 refine hLL _ _ ?_
 refine fg3 (fun R => ?_)
 refine wpC_block ?_
 refine wpC_loop (fun m T h' => ∃ (i : Nat) (L' : List (List Rc2)) (u1 : Value) (R : List Value), m + i = L.length ∧ L'.length = L.length ∧ (∀ x ∈ L', x.length < 1000000) ∧ St h0 h' (nest r2cell 2 65 31 a c L' :: F) ∧ T = .slice a L.length c :: u1 :: .int .i64 i :: R) ?_ L.length _ _ ⟨0, L, _, R, by omega, rfl, hl1, s, rfl⟩
 rintro m T h' ⟨i, L', u1, R, hmi, hL', hL1, s1, rfl⟩
 refine wpC_seq (sr fun LL hLL => ?_)
 simp only [oxz, simprocAttr]
 refine hLL _ _ ?_
 refine wpC_if ?_
 simp only [oxz, simprocAttr]
 refine gC_of (fun hc => ?_) (fun hc => ?_)
 ·refine wpC_skip ?_
  simp only [oxz, simprocAttr]
  refine fg3 (fun R => ?_)
  have hi : i < L.length := by omega
  have hi' : i < L'.length := by omega
  obtain ⟨v1, v2, bq, oq, roq, szq, Cq, Tq, eq, gq, vq, G, s2, back⟩ := nest_pick r2cell.len s1 i hi'
  refine wpC_seq (wpC_block ?_)
  subst eq
  refine rg (fun LL hLL => ?_)
  simp only [oxk, simprocAttr, ixF hi, gq, vq]
  refine spoilRecs_ok L'[i] v1 v2 _ s2 (hL1 _ (List.getElem_mem hi')) _ fun M h2 hM s3 => ?_
  simp only [oxk, simprocAttr]
  refine hLL _ _ ?_
  simp only [oxz, simprocAttr]
  refine fg3 (fun R => ?_)
  refine rg (fun LL hLL => ?_)
  simp only [oxz, simprocAttr, wsucc (show i < 9223372036854775807 by omega)]
  refine hLL _ _ ?_
  simp only [oxz, simprocAttr]
  refine ⟨m - 1, by omega, i + 1, L'.set i M, _, _, by omega, by rw [List.length_set]; exact hL', fun x hx => ?_, back M hM _ s3, rfl⟩
  rcases List.mem_or_eq_of_mem_set hx with hx | rfl
  ·exact hL1 x hx
  ·rw [hM]; exact hL1 _ (List.getElem_mem hi')
 ·refine wpC_exit ?_
  simp only [oxz, simprocAttr]
  refine out_normal ?_
  simp only [oxz, simprocAttr]
  exact hk L' _ hL' s1
end Go.Proofs.Cd

namespace Go.Proofs.Cd
open Go Go.Ox
set_option maxRecDepth 100000
set_option maxHeartbeats 4000000
theorem spoilMan_ok {h0 : AHeap} {F : List Asn} (id : Int) (pa : Option Addr) (P : List Int) (pc : Nat) (la : Option Addr) (LI : List (List Int)) (lc : Nat) (ra : Option Addr) (RR : List (List Rwc)) (rc : Nat) (ea : Option Addr) (EE : List (List Rc2)) (ec : Nat) (h : AHeap)
  (b1 : P.length < 1000000) (b2 : LI.length < 1000000) (b3 : RR.length < 1000000) (b4 : EE.length < 1000000) (b5 : ∀ x ∈ LI, x.length < 1000000) (b6 : ∀ x ∈ RR, x.length < 1000000) (b7 : ∀ x ∈ EE, x.length < 1000000)
  (s : St h0 h (wn icell 1 3 pa pc P :: nest icell 1 3 25 la lc LI :: nest rcell 3 63 30 ra rc RR :: nest r2cell 2 65 31 ea ec EE :: F)) (K : Value → AHeap → Prop) (hk : ∀ h', St h0 h' F → K (.tuple #[]) h') :
  wpF Tryz.prog (.fn 48) [.agg #[.int .i64 id, .slice pa P.length pc, .slice la LI.length lc, .slice ra RR.length rc, .slice ea EE.length ec]] h K := by
 refine wpF_fun 36 [] Tryz.func48 rfl rfl rfl rfl ?_
 obtain ⟨bm, ebm⟩ : ∃ b, b = h.next := ⟨_, rfl⟩
 have s1 := s.push (.cells false 0 [.int .i64 id, .slice pa P.length pc, .slice la LI.length lc, .slice ra RR.length rc, .slice ea EE.length ec] 48)
 rw [← ebm] at s1
 obtain ⟨h1, e1⟩ : ∃ h1, h1 = h.push (.cells false 0 [.int .i64 id, .slice pa P.length pc, .slice la LI.length lc, .slice ra RR.length rc, .slice ea EE.length ec] 48) := ⟨_, rfl⟩
 rw [← e1] at s1
 refine sr (fun LL hLL => ?_)
 simp only [oxz, simprocAttr, ← ebm, ← e1]
 refine hLL _ _ ?_
 have g1 := s1.get
 refine sr (fun LL hLL => ?_)
 simp only [oxk, simprocAttr, g1]
 refine spoilInts_ok P pa pc _ (s1.mv 1) (by omega) _ fun P' h2 hP' s2 => ?_
 have s3 := s2.drop
 clear s1 s2 g1
 simp only [oxk, simprocAttr]
 refine hLL _ _ ?_
 refine sm (fun T h' => ∃ (u0 : Value) (R : List Value), St h0 h' (own bm (.cells false 0 [.int .i64 id, .slice pa P.length pc, .slice la LI.length lc, .slice ra RR.length rc, .slice ea EE.length ec] 48) :: nest rcell 3 63 30 ra rc RR :: nest r2cell 2 65 31 ea ec EE :: F) ∧ T = u0 :: .pointer (some ⟨bm, 0, none⟩) :: R) ?_ ?_
 ·refine sr (fun LL hLL => ?_)
  simp only [oxz, simprocAttr]
  refine hLL _ _ ?_
  refine fg3 (fun R => ?_)
  refine wpC_block ?_
  refine wpC_loop (fun m T h' => ∃ (i : Nat) (L' : List (List Int)) (u0 : Value) (R : List Value), m + i = LI.length ∧ L'.length = LI.length ∧ (∀ x ∈ L', x.length < 1000000) ∧ St h0 h' (own bm (.cells false 0 [.int .i64 id, .slice pa P.length pc, .slice la LI.length lc, .slice ra RR.length rc, .slice ea EE.length ec] 48) :: nest icell 1 3 25 la lc L' :: nest rcell 3 63 30 ra rc RR :: nest r2cell 2 65 31 ea ec EE :: F) ∧ T = u0 :: .pointer (some ⟨bm, 0, none⟩) :: .int .i64 i :: R) ?_ LI.length _ _ ⟨0, LI, _, R, by omega, rfl, fun x hx => by have := b5 x hx; omega, s3, rfl⟩
  rintro m T h' ⟨i, L', u0, R, hmi, hL', hL1, s4, rfl⟩
  have g4 := s4.get
  refine wpC_seq (sr fun LL hLL => ?_)
  simp only [oxz, simprocAttr, g4]
  refine hLL _ _ ?_
  refine wpC_if ?_
  simp only [oxz, simprocAttr]
  refine gC_of (fun hc => ?_) (fun hc => ?_)
  ·refine wpC_skip ?_
   simp only [oxz, simprocAttr]
   refine fg3 (fun R => ?_)
   have hi : i < LI.length := by omega
   have hi' : i < L'.length := by omega
   obtain ⟨v1, v2, bq, oq, roq, szq, Cq, Tq, eq, gq, vq, G, s5, back⟩ := nest_pick icell.len (s4.mv 1) i hi'
   rw [eq] at g4
   refine wpC_seq (wpC_block ?_)
   refine rg (fun LL hLL => ?_)
   simp only [oxk, simprocAttr, g4, ixF hi, gq, vq]
   refine spoilInts_ok L'[i] v1 v2 _ s5 (hL1 _ (List.getElem_mem hi')) _ fun N h6 hN s6 => ?_
   simp only [oxk, simprocAttr]
   refine hLL _ _ ?_
   simp only [oxz, simprocAttr]
   refine fg3 (fun R => ?_)
   refine rg (fun LL hLL => ?_)
   simp only [oxz, simprocAttr, wsucc (show i < 9223372036854775807 by omega)]
   refine hLL _ _ ?_
   simp only [oxz, simprocAttr]
   refine ⟨m - 1, by omega, i + 1, L'.set i N, _, _, by omega, by rw [List.length_set]; exact hL', fun x hx => ?_, (back N hN _ s6).mv 1, rfl⟩
   rcases List.mem_or_eq_of_mem_set hx with hx | rfl
   ·exact hL1 x hx
   ·rw [hN]; exact hL1 _ (List.getElem_mem hi')
  ·refine wpC_exit ?_
   simp only [oxz, simprocAttr]
   exact ⟨_, _, (s4.mv 1).drop, rfl⟩
 rintro T h' ⟨u0, R, s4, rfl⟩
 refine sm (fun T h' => ∃ (u0 : Value) (R : List Value), St h0 h' (own bm (.cells false 0 [.int .i64 id, .slice pa P.length pc, .slice la LI.length lc, .slice ra RR.length rc, .slice ea EE.length ec] 48) :: nest r2cell 2 65 31 ea ec EE :: F) ∧ T = u0 :: .pointer (some ⟨bm, 0, none⟩) :: R) ?_ ?_
 ·refine sr (fun LL hLL => ?_)
  simp only [oxz, simprocAttr]
  refine hLL _ _ ?_
  refine xp2 2 (by repeat (first | exact tput_le _ _ _ _ (.inr (by omega)) | refine tput_le _ _ _ _ (.inl ?_))) (fun R => ?_)
  simp only [oxz, simprocAttr, show List.range 2 = [0, 1] from rfl]
  refine fg4 (fun R => ?_)
  refine wpC_block ?_
  refine wpC_loop (fun m T h' => ∃ (i : Nat) (L' : List (List Rwc)) (u0 u2 : Value) (R : List Value), m + i = RR.length ∧ L'.length = RR.length ∧ (∀ x ∈ L', x.length < 1000000) ∧ St h0 h' (own bm (.cells false 0 [.int .i64 id, .slice pa P.length pc, .slice la LI.length lc, .slice ra RR.length rc, .slice ea EE.length ec] 48) :: nest rcell 3 63 30 ra rc L' :: nest r2cell 2 65 31 ea ec EE :: F) ∧ T = u0 :: .pointer (some ⟨bm, 0, none⟩) :: u2 :: .int .i64 i :: R) ?_ RR.length _ _ ⟨0, RR, _, _, R, by omega, rfl, fun x hx => by have := b6 x hx; omega, s4, rfl⟩
  rintro m T h' ⟨i, L', u0, u2, R, hmi, hL', hL1, s4, rfl⟩
  have g4 := s4.get
  refine wpC_seq (sr fun LL hLL => ?_)
  simp only [oxz, simprocAttr, g4]
  refine hLL _ _ ?_
  refine wpC_if ?_
  simp only [oxz, simprocAttr]
  refine gC_of (fun hc => ?_) (fun hc => ?_)
  ·refine wpC_skip ?_
   simp only [oxz, simprocAttr]
   refine fg4 (fun R => ?_)
   have hi : i < RR.length := by omega
   have hi' : i < L'.length := by omega
   obtain ⟨v1, v2, bq, oq, roq, szq, Cq, Tq, eq, gq, vq, G, s5, back⟩ := nest_pick rcell.len (s4.mv 1) i hi'
   rw [eq] at g4
   refine wpC_seq (wpC_block ?_)
   refine rg (fun LL hLL => ?_)
   simp only [oxk, simprocAttr, g4, ixF hi, gq, vq]
   refine spoilRows_ok L'[i] v1 v2 _ s5 (hL1 _ (List.getElem_mem hi')) _ fun N h6 hN s6 => ?_
   simp only [oxk, simprocAttr]
   refine hLL _ _ ?_
   simp only [oxz, simprocAttr]
   refine fg4 (fun R => ?_)
   refine rg (fun LL hLL => ?_)
   simp only [oxz, simprocAttr, wsucc (show i < 9223372036854775807 by omega)]
   refine hLL _ _ ?_
   simp only [oxz, simprocAttr]
   refine ⟨m - 1, by omega, i + 1, L'.set i N, _, _, _, by omega, by rw [List.length_set]; exact hL', fun x hx => ?_, (back N hN _ s6).mv 1, rfl⟩
   rcases List.mem_or_eq_of_mem_set hx with hx | rfl
   ·exact hL1 x hx
   ·rw [hN]; exact hL1 _ (List.getElem_mem hi')
  ·refine wpC_exit ?_
   simp only [oxz, simprocAttr]
   exact ⟨_, _, (s4.mv 1).drop, rfl⟩
 rintro T h' ⟨u0, R, s4, rfl⟩
 have g4 := s4.get
 refine rg (fun LL hLL => ?_)
 simp only [oxk, simprocAttr, g4]
 refine spoilRecLists_ok EE ea ec _ (s4.mv 1) (by omega) (fun x hx => by have := b7 x hx; omega) _ fun E' h6 hE' s6 => ?_
 simp only [oxk, simprocAttr]
 refine hLL _ _ ?_
 refine out_normal ?_
 simp only [oxz, simprocAttr]
 exact hk _ s6.drop.drop
end Go.Proofs.Cd

namespace Go.Proofs.Cd
open Go Go.Ox
set_option maxRecDepth 100000
set_option maxHeartbeats 4000000
def refE (LX : List AckX) (t : Nat) : Option Ct := (LX.find? (isT t)).map AckX.cont
/-- What a coordinator waits for and was told; what the reference was told. -/
structure Rl (n : Nat) (W : List Int) (X LX : List AckX) : Prop where
 q : TlD n (refE LX) W X
 key : ∀ x ∈ LX, ∃ t : Nat, x.task = (t : Int) ∧ t < n
 sm : ∀ x ∈ LX, AckSm x
 cnt : W.length + LX.length = n
theorem Rl.new (n : Nat) : Rl n ((List.range n).map fun (j : Nat) => (j : Int)) [] [] where
 q := TlD.new n
 key x hx := by cases hx
 sm x hx := by cases hx
 cnt := by simp
theorem Rl.nw {n : Nat} {W : List Int} {X LX : List AckX} (r : Rl n W X LX) (x : AckX) : x.task ∈ W ↔ 0 ≤ x.task ∧ x.task < n ∧ ∀ y ∈ LX, y.task ≠ x.task := by
 constructor
 ·intro h
  have hp := r.q.pos _ h
  obtain ⟨t, ht⟩ : ∃ t : Nat, x.task = t := ⟨x.task.toNat, by omega⟩
  rw [ht] at h ⊢
  obtain ⟨h1, h2⟩ := (r.q.mem t).1 h
  refine ⟨by omega, by omega, fun y hy e => ?_⟩
  unfold refE at h2
  rw [Option.map_eq_none_iff, List.find?_eq_none] at h2
  exact h2 y hy (decide_eq_true e)
 ·rintro ⟨h1, h2, h3⟩
  obtain ⟨t, ht⟩ : ∃ t : Nat, x.task = t := ⟨x.task.toNat, by omega⟩
  rw [ht] at h2 h3 ⊢
  refine (r.q.mem t).2 ⟨by omega, ?_⟩
  unfold refE
  rw [Option.map_eq_none_iff, List.find?_eq_none]
  intro y hy h
  exact h3 y hy (of_decide_eq_true h)
theorem Rl.hit {n : Nat} {W : List Int} {X LX : List AckX} (r : Rl n W X LX) {x y : AckX} (sx : AckSm x) (hx : x.task ∈ W) (ht : y.task = x.task) (hc : y.cont = x.cont) (oa : Option Addr) (oc : Nat) (ra : Option Addr) (rc : Nat) (ta : Option Addr) (tc : Nat) : Rl n (W.erase x.task) (X ++ [x.mv oa oc ra rc ta tc]) (LX ++ [y]) := by
 have hn := (r.nw x).1 hx
 have hy : AckSm y := by
  have h1 := cont_offs hc
  have h2 := cont_rows hc
  have h3 := cont_outs hc
  exact ⟨by rw [h1]; exact sx.o, by rw [h2]; exact sx.r, by rw [h3]; exact sx.t⟩
 have e : refE (LX ++ [y]) = updE n (refE LX) x := by
  funext t
  unfold updE refE
  rw [List.find?_append]
  cases hf : LX.find? (isT t) with
  | some z => simp
  | none =>
   by_cases e : x.task = (t : Int)
   ·have : [y].find? (isT t) = some y := by rw [List.find?_cons_of_pos]; exact decide_eq_true (ht.trans e)
    rw [this, if_pos ⟨e, by omega, rfl⟩, ← hc]; rfl
   ·have : [y].find? (isT t) = none := by rw [List.find?_cons_of_neg]; rfl; simp [isT, ht, e]
    rw [this, if_neg (fun h => e h.1)]; rfl
 refine ⟨by rw [e]; exact r.q.hit sx hx oa oc ra rc ta tc, fun z hz => ?_, fun z hz => ?_, ?_⟩
 ·rcases List.mem_append.1 hz with hz | hz
  ·exact r.key z hz
  ·obtain rfl := List.mem_singleton.1 hz
   exact ⟨z.task.toNat, by omega, by omega⟩
 ·rcases List.mem_append.1 hz with hz | hz
  ·exact r.sm z hz
  ·obtain rfl := List.mem_singleton.1 hz
   exact hy
 ·have h1 := List.length_erase_of_mem hx
  have h2 : 0 < W.length := List.length_pos_of_mem hx
  have := r.cnt
  rw [List.length_append, List.length_singleton]
  omega
/-- What each task told is the same. -/
theorem Rl.cont {n : Nat} {X LX : List AckX} (r : Rl n [] X LX) {t : Nat} (ht : t < n) : (∃ x, X.find? (fun y => decide (y.task = (t : Int))) = some x) ∧ (∃ x ∈ LX, contX LX t = x) ∧ (contX X t).cont = (contX LX t).cont := by
 cases h : refE LX t with
 | none => exact absurd ((r.q.mem t).2 ⟨ht, h⟩) (by simp)
 | some c =>
  have h1 := r.q.cont ht h
  unfold refE at h
  rw [Option.map_eq_some_iff] at h
  obtain ⟨x, h2, h3⟩ := h
  have e : contX LX t = x := by
   unfold contX
   have : LX.find? (fun y => decide (y.task = (t : Int))) = some x := h2
   rw [this]; rfl
  exact ⟨h1.1, ⟨x, List.mem_of_find?_eq_some h2, e⟩, by rw [h1.2, e, h3]⟩
end Go.Proofs.Cd

