/-
  A part of the proof: what functions of the program do on an abstract heap. CONDITIONS: none.
-/
import Derived.Test.YtfcajloeknedeaaGreatOxJGf
import Derived.Test.YtfcajloeknedeaaGreatOxGBb
import Derived.Test.YtfcajloeknedeaaGreatOxTm
import Derived.Test.YtfcajloeknedeaaGreatOxJGd
import Derived.Test.YtfcajloeknedeaaGreatOxSi
import Derived.Test.YtfcajloeknedeaaGreatOxAr
set_option linter.unusedSimpArgs false
set_option linter.unusedVariables false
namespace Go.Ox
theorem tlist_get : ∀ {l : List (Int × Cl)}, (tbK l).Nodup → ∀ x ∈ l, tgt l x.1 = x.2
  | [], _, x, hx => by cases hx
  | y :: l, hn, x, hx => by
    rw [tbK_cons, List.nodup_cons] at hn
    obtain ⟨y1, y2⟩ := y
    have e : ∀ k, tgt ((y1, y2) :: l) k = if k = y1 then y2 else tgt l k := fun k => rfl
    rw [e]
    rcases List.mem_cons.1 hx with rfl | hx
    · rw [if_pos rfl]
    · have : x.1 ∈ tbK l := List.mem_map.2 ⟨x, hx, rfl⟩
      rw [if_neg (by rintro h; rw [h] at this; exact hn.1 this)]
      exact tlist_get hn.2 x hx
theorem rowK_self {l : List (Int × Cl)} (hn : (tbK l).Nodup) : rowK l (tbK l) = l := by
  unfold rowK tbK
  rw [List.map_map]
  refine (List.map_congr_left fun x hx => ?_).trans (List.map_id l)
  show (x.1, tgt l x.1) = x
  rw [tlist_get hn x hx]
theorem keySort_self {g : Int} {L : List Int} (h : L.Pairwise fun x y => keyLe g x y = true) : keySort g L = L :=
  List.Perm.eq_of_pairwise (fun _ _ _ _ h1 h2 => keyLe_anti g h1 h2) (keySort_sorted g L) h (keySort_perm g L)
theorem rowsOf_self {g : Int} {l : List (Int × Cl)} (hn : (tbK l).Nodup) (h : (tbK l).Pairwise fun x y => keyLe g x y = true) : rowsOf g l = l := by
  unfold rowsOf
  rw [keySort_self h, rowK_self hn]
theorem tpt_new {M : Tb} (ok : TbOk M) {k : Int} {c : Cl} (hc : c ≠ (0, 0)) (hk : tgt M k = (0, 0)) : tpt M k c = M ++ [(k, c)] := by
  have hn : ¬ k ∈ tbK M := fun h => (ok.iff k).1 h hk
  unfold tpt
  rw [if_neg hc]
  exact (tb_miss 0 hn).2.2.2 c
end Go.Ox
namespace Go.Proofs.Cd
open Go Go.Ox
set_option maxRecDepth 100000
set_option maxHeartbeats 4000000
theorem tbX : TbX oxExt := ⟨by unfold Out; decide, rfl, rfl, fun _ _ => rfl⟩
theorem srt_keys {G : Int} {l : List Rwc} (h : SrtL (ltg G) l) : (tbK l).Pairwise fun x y => keyLe G x y = true := by
  unfold tbK
  rw [List.pairwise_map]
  refine h.imp fun {x y} hxy => ?_
  rw [keyLe_iff]
  simp only [ltg, decide_eq_false_iff_not] at hxy
  omega
theorem neNil (x y : Operand) (b : Nat) : aBin Tryz.prog .eql 86 x y (.pointer (some ⟨b, 0, none⟩)) (.pointer none) = some (.bool false) := congrArg id (by rfl)
theorem sorted_ok {h0 : AHeap} {F : List Asn} (G : Int) (l : List Rwc) (hs : SrtL (ltg G) l) (hw : ∀ r ∈ l, (Lit.int .i64 r.1).wf = true) (hl : l.length < 1000000) (a : Option Addr) (c : Nat) (r : Rd h0 F rcell 3 a l) (h : AHeap) (s : St h0 h F) (K : Value → AHeap → Prop) (hk : ∀ h', St h0 h' F → K (.bool true) h') :
    wpF Tryz.prog (.fn 14) [.slice a l.length c, .int .i64 G] h K := by
  refine wpF_fun 51 [.tmp 4] Tryz.func14 rfl rfl rfl rfl ?_
  refine sr (fun LL hLL => ?_)
  simp only [ptrTo, oxq, ↓reduceIte, simprocAttr, gR_some]
  refine hLL _ _ ?_
  refine sr (fun LL hLL => ?_)
  simp only [ptrTo, oxq, ↓reduceIte, simprocAttr, gR_some]
  refine Go.Proofs.new_ok tbX G _ s _ fun β h1 s1 => ?_
  refine hLL _ _ ?_
  refine wpC_seq (sr fun LL hLL => ?_)
  simp only [ptrTo, oxq, ↓reduceIte, simprocAttr, gR_some, neNil]
  refine hLL _ _ ?_
  refine wpC_if ?_
  simp only [ptrTo, oxq, ↓reduceIte, simprocAttr, gR_some]
  refine wpC_skip ?_
  simp only [ptrTo, oxq, ↓reduceIte, simprocAttr, gR_some]
  refine wpC_seq ?_
  refine sr (fun LL hLL => ?_)
  simp only [ptrTo, oxq, ↓reduceIte, simprocAttr, gR_some]
  refine hLL _ _ ?_
  refine wpC_block ?_
  refine wpC_loop (fun m T h' => ∃ (i : Nat) (u2 u3 : Value) (R : List Value), m + i = l.length ∧ TbOk (l.take i) ∧ St h0 h' (tbA β G (l.take i) :: F) ∧ T = .slice a l.length c :: .int .i64 G :: u2 :: u3 :: .bool false :: .pointer (some ⟨β, 0, none⟩) :: .int .i64 i :: R) ?_ l.length _ _ ⟨0, _, _, _, by omega, TbOk.nil, s1, rfl⟩
  clear s1
  rintro m T h' ⟨i, u2, u3, R, hmi, ok, s1, rfl⟩
  refine wpC_seq (sr fun LL hLL => ?_)
  simp only [ptrTo, oxq, ↓reduceIte, simprocAttr, gR_some]
  refine hLL _ _ ?_
  refine wpC_if ?_
  simp only [ptrTo, oxq, ↓reduceIte, simprocAttr, gR_some]
  refine gC_of (fun hc => ?_) (fun hc => ?_)
  · refine wpC_skip ?_
    simp only [ptrTo, oxq, ↓reduceIte, simprocAttr, gR_some]
    have hi : i < l.length := by omega
    obtain ⟨bq, oq, roq, szq, Cq, Tq, eq, pq, gq, rq, qq⟩ := (r _ s1.drop).resolve_left (by rintro rfl; simp at hi)
    have v0 : Cq[oq + i * 3]? = some (.int .i64 l[i].1) := Rs.cell rcell.len rq qq i hi 0 (by omega)
    obtain ⟨w3, x3⟩ := Rs.row rcell.len rq qq i hi
    have w2 : (Cq.drop (oq + i * 3 + 1)).take 2 = [.int .i64 l[i].2.1, .int .i64 l[i].2.2] := by rw [row_sub (j := 1) (m := 2) w3 (by omega)]; rfl
    have x2 : oq + i * 3 + 1 + 2 ≤ Cq.length := by omega
    have zc : ∀ x y : Operand, aBin Tryz.prog .eql 61 x y (.agg #[.int .i64 l[i].2.1, .int .i64 l[i].2.2]) (.agg #[.int .i64 0, .int .i64 0]) = some (.bool (decide (l[i].2 = (0, 0)))) := fun x y => eqCl x y l[i].2.1 l[i].2.2 0 0
    refine wpC_seq (wpC_block ?_)
    refine wpC_seq ?_
    by_cases hz : l[i].2 = (0, 0)
    · rw [decide_eq_true hz] at zc
      rw [eq]
      refine sr (fun LL hLL => ?_)
      simp only [ptrTo, oxq, ↓reduceIte, simprocAttr, gR_some, ixF hi, gq, w2, x2, zc]
      refine hLL _ _ ?_
      refine wpC_if ?_
      simp only [ptrTo, oxq, ↓reduceIte, simprocAttr, gR_some]
      refine sr (fun LL hLL => ?_)
      simp only [ptrTo, oxq, ↓reduceIte, simprocAttr, gR_some]
      refine hLL _ _ ?_
      refine wpC_ret (out_ret ?_)
      simp only [ptrTo, oxq, ↓reduceIte, simprocAttr, gR_some]
      exact hk _ s1.drop
    rw [decide_eq_false hz] at zc
    obtain ⟨e1, e2, et⟩ : ∃ e1 e2, tgt (l.take i) l[i].1 = (e1, e2) := ⟨_, _, rfl⟩
    have nc : ∀ x y : Operand, aBin Tryz.prog .neq 61 x y (.agg #[.int .i64 e1, .int .i64 e2]) (.agg #[.int .i64 0, .int .i64 0]) = some (.bool (!decide ((e1, e2) = ((0, 0) : Cl)))) := fun x y => neCl x y e1 e2 0 0
    rw [eq]
    refine sr (fun LL hLL => ?_)
    simp only [ptrTo, pend, pend0, Pd.old, pendU, pendU0, oxq, Nat.testBit, ↓reduceIte, simprocAttr, gR_held, ixF hi, gq, w2, x2, zc, v0]
    refine get_ok tbX l[i].1 _ s1 _ fun h2 s2 => ?_
    rw [et]
    by_cases hg : ((e1, e2) : Cl) = (0, 0)
    · rw [decide_eq_true hg] at nc
      simp only [ptrTo, pend, pend0, Pd.old, pendU, pendU0, oxq, Nat.testBit, ↓reduceIte, simprocAttr, gR_held, clV, nc]
      refine hLL _ _ ?_
      refine wpC_if ?_
      simp only [ptrTo, oxq, ↓reduceIte, simprocAttr, gR_some]
      refine wpC_skip ?_
      simp only [ptrTo, oxq, ↓reduceIte, simprocAttr, gR_some]
      have ht : l.take (i + 1) = l.take i ++ [l[i]] := List.take_succ_eq_append_getElem hi
      have hput : tpt (l.take i) l[i].1 l[i].2 = l.take (i + 1) := by rw [tpt_new ok hz (by rw [et]; exact hg), ht]
      have ok2 : TbOk (l.take (i + 1)) := by rw [← hput]; exact ok.put (hw _ (List.getElem_mem hi)) _
      obtain ⟨bq2, oq2, roq2, szq2, Cq2, Tq2, eq2, pq2, gq2, rq2, qq2⟩ := (r _ s2.drop).resolve_left (by rintro rfl; simp at hi)
      rw [eq] at eq2
      cases eq2
      have v02 : Cq2[oq + i * 3]? = some (.int .i64 l[i].1) := Rs.cell rcell.len rq2 qq2 i hi 0 (by omega)
      obtain ⟨w32, x32⟩ := Rs.row rcell.len rq2 qq2 i hi
      have w22 : (Cq2.drop (oq + i * 3 + 1)).take 2 = [.int .i64 l[i].2.1, .int .i64 l[i].2.2] := by rw [row_sub (j := 1) (m := 2) w32 (by omega)]; rfl
      have x22 : oq + i * 3 + 1 + 2 ≤ Cq2.length := by omega
      have sv2 : ∀ a b, veq 6 (.agg #[.int .i64 a, .int .i64 b]) (.agg #[.int .i64 a, .int .i64 b]) = true := by intros; simp [veq]
      refine du [some 35, some 36, some 37, some 38, some 39, some 40, some 41, some 42, some 43, some 44, some 45, some 46] 12 [0, 0, 0, 6, 14, 30, 0, 0, 192, 448, 960, 2047] (by rfl) (by rfl) (by decide +kernel) (by decide +kernel) (by decide +kernel) (fun LL hLL => ?_)
      simp only [ptrTo, pend, pend0, Pd.old, pendU, pendU0, oxq, Nat.testBit, ↓reduceIte, simprocAttr, gR_held, ixF hi, gq2, w22, x22, v02, sv2]
      refine put_ok tbX l[i].1 l[i].2 _ s2 _ fun h3 s3 => ?_
      rw [hput] at s3
      simp only [ptrTo, pend, pend0, Pd.old, pendU, pendU0, oxq, Nat.testBit, ↓reduceIte, simprocAttr, gR_held]
      refine hLL _ _ ?_
      simp only [ptrTo, oxq, ↓reduceIte, simprocAttr, gR_some]
      refine rg (fun LL hLL => ?_)
      simp only [ptrTo, oxq, ↓reduceIte, simprocAttr, gR_some, wsucc (show i < 9223372036854775807 by omega)]
      refine hLL _ _ ?_
      simp only [ptrTo, oxq, ↓reduceIte, simprocAttr, gR_some]
      exact ⟨m - 1, by omega, i + 1, _, _, _, by omega, ok2, s3, rfl⟩
    · rw [decide_eq_false hg] at nc
      simp only [ptrTo, pend, pend0, Pd.old, pendU, pendU0, oxq, Nat.testBit, ↓reduceIte, simprocAttr, gR_held, clV, nc]
      refine hLL _ _ ?_
      refine wpC_if ?_
      simp only [ptrTo, oxq, ↓reduceIte, simprocAttr, gR_some]
      refine sr (fun LL hLL => ?_)
      simp only [ptrTo, oxq, ↓reduceIte, simprocAttr, gR_some]
      refine hLL _ _ ?_
      refine wpC_ret (out_ret ?_)
      simp only [ptrTo, oxq, ↓reduceIte, simprocAttr, gR_some]
      exact hk _ s2.drop
  · have hil : i = l.length := by omega
    subst hil
    rw [List.take_length] at ok s1
    refine wpC_exit ?_
    simp only [ptrTo, oxq, ↓reduceIte, simprocAttr, gR_some]
    have hrow := rowsOf_self ok.nd (srt_keys hs)
    refine sr (fun LL hLL => ?_)
    simp only [ptrTo, pend, pend0, Pd.old, pendU, pendU0, oxq, Nat.testBit, ↓reduceIte, simprocAttr, gR_held]
    refine allRows_ok tbX ok (by omega) _ s1 _ fun ar cr h2 s2 => ?_
    rw [hrow] at s2
    rw [hrow]
    simp only [ptrTo, pend, pend0, Pd.old, pendU, pendU0, oxq, Nat.testBit, ↓reduceIte, simprocAttr, gR_held]
    refine sameRows_ok l ar a cr c _ _ (s2.rs rcell.len) (r _ s2.drop.drop) (by omega) ?_
    simp only [ptrTo, pend, pend0, Pd.old, pendU, pendU0, oxq, Nat.testBit, ↓reduceIte, simprocAttr, gR_held]
    refine hLL _ _ ?_
    refine wpC_ret (out_ret ?_)
    simp only [ptrTo, oxq, ↓reduceIte, simprocAttr, gR_some]
    exact hk _ s2.drop.drop
end Go.Proofs.Cd

namespace Go.Proofs.Cd
open Go Go.Ox
set_option maxRecDepth 100000
set_option maxHeartbeats 4000000
def outsF (P : List Int) (C : Nat → AckX) (t op : Nat) : List Rc2 := ((atOp P C t op).map AckX.outs).flatten
def rowsF (P : List Int) (C : Nat → AckX) (t op : Nat) : List Rwc := ((atOp P C t op).map AckX.rows).flatten
theorem outsF_succ (P : List Int) (C : Nat → AckX) (t op : Nat) : outsF P C (t + 1) op = if opOf P t = op then outsF P C t op ++ (C t).outs else outsF P C t op := by
  unfold outsF
  rw [atOp_succ]
  split
  · rw [List.map_append, List.flatten_append]; simp
  · rfl
theorem rowsF_succ (P : List Int) (C : Nat → AckX) (t op : Nat) : (rowsF P C (t + 1) op).length = if opOf P t = op then (rowsF P C t op).length + (C t).rows.length else (rowsF P C t op).length := by
  unfold rowsF
  rw [atOp_succ]
  split
  · rw [List.map_append, List.flatten_append, List.length_append]; simp
  · rfl
theorem outsF_few {P : List Int} {C : Nat → AckX} {m t op : Nat} (hC : ∀ j, j < m → AckSm (C j)) (ht : t ≤ m) : (outsF P C t op).length ≤ t * 100 := by
  have h1 := flat_few (B := 100) ((atOp P C t op).map AckX.outs) fun l hl => by
    obtain ⟨x, hx, rfl⟩ := List.mem_map.1 hl
    obtain ⟨j, hj, rfl⟩ := atOp_mem hx
    exact (hC j (by omega)).t
  rw [List.length_map] at h1
  have h2 := atOp_len P C t op
  have h3 : (atOp P C t op).length * 100 ≤ t * 100 := Nat.mul_le_mul_right _ h2
  unfold outsF
  omega
theorem rowsF_few {P : List Int} {C : Nat → AckX} {m t op : Nat} (hC : ∀ j, j < m → AckSm (C j)) (ht : t ≤ m) : (rowsF P C t op).length ≤ t * 100 := by
  have h1 := flat_few (B := 100) ((atOp P C t op).map AckX.rows) fun l hl => by
    obtain ⟨x, hx, rfl⟩ := List.mem_map.1 hl
    obtain ⟨j, hj, rfl⟩ := atOp_mem hx
    exact (hC j (by omega)).r
  rw [List.length_map] at h1
  have h2 := atOp_len P C t op
  have h3 : (atOp P C t op).length * 100 ≤ t * 100 := Nat.mul_le_mul_right _ h2
  unfold rowsF
  omega
theorem layR_srt (G : Int) (o : OpX) (X : List AckX) : SrtL (ltg G) (layR G o X) := by
  unfold layR
  split
  · exact sortB_srt (ltg_ord G) _
  · exact List.Pairwise.nil
theorem layR_len (G : Int) (o : OpX) (X : List AckX) : (layR G o X).length = if o.kind = 5 ∨ o.kind = 6 then ((X.map AckX.rows).flatten).length else 0 := by
  unfold layR
  split
  · exact sortB_len (ltg_ord G) _
  · rfl
theorem layO_len (o : OpX) (X : List AckX) : (layO o X).length = if o.kind = 1 then o.parts.toNat else 0 := by
  unfold layO
  split
  · exact offsL_len _ _
  · rfl
theorem layR_mem {G : Int} {o : OpX} {X : List AckX} {r : Rwc} (h : r ∈ layR G o X) : ∃ x ∈ X, r ∈ x.rows := by
  unfold layR at h
  split at h
  · have h1 := ((sortB_sim (ltg_ord G) (X.map AckX.rows).flatten).mem r).2 h
    obtain ⟨l, hl, hr⟩ := List.mem_flatten.1 h1
    obtain ⟨x, hx, rfl⟩ := List.mem_map.1 hl
    exact ⟨x, hx, hr⟩
  · cases h
theorem fstC_mem {l : List AckX} {t : Nat} {r : Rwc} (h : r ∈ (fstC l t).2.1) : ∃ x ∈ l, r ∈ x.rows := by
  unfold fstC at h
  split at h
  · rename_i x hx
    exact ⟨x, List.mem_of_find?_eq_some hx, h⟩
  · cases h
theorem find_first {l : List AckX} {t i : Nat} (hi : i < l.length) (hn : ∀ (k : Nat) (hk : k < l.length), k < i → l[k].task ≠ (t : Int)) (h : l[i].task = (t : Int)) : l.find? (isT t) = some l[i] := by
  rw [List.find?_eq_some_iff_getElem]
  refine ⟨decide_eq_true h, i, hi, rfl, fun j hj => ?_⟩
  have := hn j (by omega) hj
  simp [isT, this]
theorem find_never {l : List AckX} {t : Nat} (hn : ∀ (k : Nat) (hk : k < l.length), l[k].task ≠ (t : Int)) : l.find? (isT t) = none := by
  rw [List.find?_eq_none]
  intro x hx
  obtain ⟨k, hk, rfl⟩ := List.mem_iff_getElem.1 hx
  have := hn k hk
  simp [isT, this]
end Go.Proofs.Cd

namespace Go.Proofs.Cd
open Go Go.Ox
set_option maxRecDepth 100000
set_option maxHeartbeats 8000000
theorem whole_body (g : Int) (sa : Option Addr) (sc : Nat) (L : List OpX) (pa : Option Addr) (pc : Nat) (P : List Int) (la : Option Addr) (lc : Nat) (l : List AckX) (h : AHeap) (sp : SpR h sa L) (rP : Rs icell 1 h pa P) (nP : pa = none → P = [] ∧ pc = 0) (hP : P.length < 17592186045000)
    (rl : Rs AckX.cells 5 h la l) (hl : l.length < 17592186044000) (rx : ∀ x ∈ l, AckRs h x) (hwf : ∀ x ∈ l, ∀ r ∈ x.rows, (Lit.int .i64 r.1).wf = true) (K : Value → AHeap → Prop) (hk : ∀ h', Fr h h' [] → K (.bool true) h') :
    wpF Tryz.prog (.fn 3) [.agg #[.int .i64 g, .slice sa L.length sc], .slice pa P.length pc, .slice la l.length lc] h K := by
  have s0 := St.init h
  refine wpF_fun 221 [.tmp 6] Tryz.func3 rfl rfl rfl rfl ?_
  have s1 := s0.push (spB g sa L.length sc)
  obtain ⟨h1, e1⟩ : ∃ h1, h1 = h.push (spB g sa L.length sc) := ⟨_, rfl⟩
  obtain ⟨bs, ebs⟩ : ∃ b, b = h.next := ⟨_, rfl⟩
  rw [← e1, ← ebs] at s1
  refine sr (fun LL hLL => ?_)
  simp only [ptrTo, oxq, ↓reduceIte, simprocAttr, gR_some]
  refine hLL _ _ ?_
  rw [← e1, ← ebs]
  clear e1
  have gs := s1.get
  refine sm (fun T h' => ∃ (u0 u4 u5 : Value) (R : List Value), JbOk g L P ∧ l.length ≤ 60 ∧ St h h' [own bs (spB g sa L.length sc)] ∧ T = u0 :: .slice pa P.length pc :: .slice la l.length lc :: .pointer (some ⟨bs, 0, none⟩) :: u4 :: u5 :: .bool false :: R) ?_ ?_
  · refine sr (fun LL hLL => ?_)
    simp only [ptrTo, pend, pend0, Pd.old, pendU, pendU0, oxq, Nat.testBit, ↓reduceIte, simprocAttr, gR_held, gs]
    refine right_ok g sa sc L sp pa pc P (Rd.of_base rP) hP _ s1 _ fun q h2 hq s2 => ?_
    cases q
    · simp only [ptrTo, pend, pend0, Pd.old, pendU, pendU0, oxq, Nat.testBit, ↓reduceIte, simprocAttr, gR_held]
      refine hLL _ _ ?_
      refine wpC_if ?_
      simp only [ptrTo, oxq, ↓reduceIte, simprocAttr, gR_some]
      refine sr (fun LL hLL => ?_)
      simp only [ptrTo, oxq, ↓reduceIte, simprocAttr, gR_some]
      refine wpF_ext rfl ?_
      refine hLL _ _ ?_
      refine wpC_ret (out_ret ?_)
      simp only [ptrTo, oxq, ↓reduceIte, simprocAttr, gR_some]
      exact hk _ s2.base
    by_cases h60 : 60 < (l.length : Int)
    · simp only [ptrTo, pend, pend0, Pd.old, pendU, pendU0, oxq, Nat.testBit, ↓reduceIte, simprocAttr, gR_held, eq_true h60]
      refine hLL _ _ ?_
      refine wpC_if ?_
      simp only [ptrTo, oxq, ↓reduceIte, simprocAttr, gR_some]
      refine sr (fun LL hLL => ?_)
      simp only [ptrTo, oxq, ↓reduceIte, simprocAttr, gR_some]
      refine wpF_ext rfl ?_
      refine hLL _ _ ?_
      refine wpC_ret (out_ret ?_)
      simp only [ptrTo, oxq, ↓reduceIte, simprocAttr, gR_some]
      exact hk _ s2.base
    simp only [ptrTo, pend, pend0, Pd.old, pendU, pendU0, oxq, Nat.testBit, ↓reduceIte, simprocAttr, gR_held, eq_false h60]
    refine hLL _ _ ?_
    refine wpC_if ?_
    simp only [ptrTo, oxq, ↓reduceIte, simprocAttr, gR_some]
    refine wpC_skip ?_
    simp only [ptrTo, oxq, ↓reduceIte, simprocAttr, gR_some]
    exact ⟨_, _, _, _, hq rfl, by omega, s2, rfl⟩
  clear s1 gs
  rintro T h2 ⟨u0, u4, u5, R, jb, hl60, s1, rfl⟩
  refine sm (fun T h' => ∃ (u0 u4 u5 : Value) (R : List Value), (∀ x ∈ l, AckSm x) ∧ St h h' [own bs (spB g sa L.length sc)] ∧ T = u0 :: .slice pa P.length pc :: .slice la l.length lc :: .pointer (some ⟨bs, 0, none⟩) :: u4 :: u5 :: .bool false :: R) ?_ ?_
  · refine sr (fun LL hLL => ?_)
    simp only [ptrTo, oxq, ↓reduceIte, simprocAttr, gR_some]
    refine hLL _ _ ?_
    refine wpC_block ?_
    refine wpC_loop (fun m T h' => ∃ (i : Nat) (u0 u4 u5 : Value) (R : List Value), m + i = l.length ∧ (∀ x ∈ l.take i, AckSm x) ∧ St h h' [own bs (spB g sa L.length sc)] ∧ T = u0 :: .slice pa P.length pc :: .slice la l.length lc :: .pointer (some ⟨bs, 0, none⟩) :: u4 :: u5 :: .bool false :: R ∧ tget R 0 = .int .i64 i) ?_ l.length _ _ ⟨0, _, _, _, _, by omega, by simp, s1, rfl, by simp [tget_tput]⟩
    clear s1
    rintro m T h' ⟨i, u0, u4, u5, R, hmi, hsm, s1, rfl, q0⟩
    refine wpC_seq (sr fun LL hLL => ?_)
    simp only [ptrTo, oxq, ↓reduceIte, simprocAttr, gR_some, q0]
    refine hLL _ _ ?_
    refine wpC_if ?_
    simp only [ptrTo, oxq, ↓reduceIte, simprocAttr, gR_some]
    refine gC_of (fun hc => ?_) (fun hc => ?_)
    · refine wpC_skip ?_
      simp only [ptrTo, oxq, ↓reduceIte, simprocAttr, gR_some]
      have hi : i < l.length := by omega
      obtain ⟨bq, oq, roq, szq, Cq, Tq, eq, pq, gq, rq, qq⟩ := (rl.fr s1.base).resolve_left (by rintro rfl; simp at hi)
      obtain ⟨wq, xq⟩ := Rs.row AckX.len rq qq i hi
      obtain ⟨x, ex⟩ : ∃ x, x = l[i] := ⟨_, rfl⟩
      rw [← ex] at wq
      unfold AckX.cells at wq
      have zz : aZeros [.int .i64 0, .int .i64 0, .int .i64 0, .int .i64 0, .bool false, .int .i64 0, .int .i64 0, .slice none 0 0, .slice none 0 0, .slice none 0 0] 1 = [.int .i64 0, .int .i64 0, .int .i64 0, .int .i64 0, .bool false, .int .i64 0, .int .i64 0, .slice none 0 0, .slice none 0 0, .slice none 0 0] := rfl
      have s2 := s1.push (.cells false 10 (actC x) 35)
      refine wpC_seq (wpC_block ?_)
      rw [eq]
      refine sr (fun LL hLL => ?_)
      simp only [ptrTo, pend, pend0, Pd.old, pendU, pendU0, oxq, Nat.testBit, ↓reduceIte, simprocAttr, gR_held, q0, ixF hi, gq, wq, xq, AckX.len, zz]
      refine long1_ok x h'.next _ s2.get _ fun q hq => ?_
      cases q
      · simp only [ptrTo, pend, pend0, Pd.old, pendU, pendU0, oxq, Nat.testBit, ↓reduceIte, simprocAttr, gR_held]
        refine hLL _ _ ?_
        refine wpC_if ?_
        simp only [ptrTo, oxq, ↓reduceIte, simprocAttr, gR_some]
        refine wpC_skip ?_
        simp only [ptrTo, oxq, ↓reduceIte, simprocAttr, gR_some]
        refine rg (fun LL hLL => ?_)
        simp only [ptrTo, oxq, ↓reduceIte, simprocAttr, gR_some, q0, wsucc (show i < 9223372036854775807 by omega)]
        refine hLL _ _ ?_
        simp only [ptrTo, oxq, ↓reduceIte, simprocAttr, gR_some]
        refine ⟨m - 1, by omega, i + 1, _, _, _, _, by omega, fun y hy => ?_, s2.drop, rfl, by simp [tget_tput]⟩
        rw [List.take_succ_eq_append_getElem hi] at hy
        rcases List.mem_append.1 hy with hy | hy
        · exact hsm y hy
        · obtain rfl := List.mem_singleton.1 hy
          rw [← ex]; exact hq rfl
      · simp only [ptrTo, pend, pend0, Pd.old, pendU, pendU0, oxq, Nat.testBit, ↓reduceIte, simprocAttr, gR_held]
        refine hLL _ _ ?_
        refine wpC_if ?_
        simp only [ptrTo, oxq, ↓reduceIte, simprocAttr, gR_some]
        refine sr (fun LL hLL => ?_)
        simp only [ptrTo, oxq, ↓reduceIte, simprocAttr, gR_some]
        refine wpF_ext rfl ?_
        refine hLL _ _ ?_
        refine wpC_ret (out_ret ?_)
        simp only [ptrTo, oxq, ↓reduceIte, simprocAttr, gR_some]
        exact hk _ s2.base
    · have hil : i = l.length := by omega
      subst hil
      rw [List.take_length] at hsm
      refine wpC_exit ?_
      simp only [ptrTo, oxq, ↓reduceIte, simprocAttr, gR_some]
      exact ⟨_, _, _, _, hsm, s1, rfl⟩
  clear s1
  rintro T h3 ⟨u0, u4, u5, R, hsm, s1, rfl⟩
  have hP12 : P.length ≤ 12 := by rw [jb.len]; exact jb.sp.n12
  refine sr (fun LL hLL => ?_)
  simp only [ptrTo, pend, pend0, Pd.old, pendU, pendU0, oxq, Nat.testBit, ↓reduceIte, simprocAttr, gR_held]
  refine tasks_ok (F := [own bs (spB g sa L.length sc)]) pa pc P (Rd.of_base rP) (by omega) (fun x hx => by have := jb.par x hx; omega) _ s1 _ fun ab ad h4 s4 => ?_
  simp only [ptrTo, pend, pend0, Pd.old, pendU, pendU0, oxq, Nat.testBit, ↓reduceIte, simprocAttr, gR_held]
  refine hLL _ _ ?_
  obtain ⟨n, en⟩ : ∃ n, n = (tasksL P).length := ⟨_, rfl⟩
  have hn0 : 0 < n := by rw [en]; exact tasks_pos (by have := jb.sp.n1; have := jb.len; omega) fun x hx => (jb.par x hx).1
  have hn96 : n ≤ 96 := by
    have := preT_few P (B := 8) (fun x hx => (jb.par x hx).2.1) P.length
    rw [en]; unfold tasksL; omega
  rw [← en]
  refine sr (fun LL hLL => ?_)
  simp only [ptrTo, oxq, ↓reduceIte, simprocAttr, gR_some]
  refine newG_ok _ s4 _ fun βa h5 s5 => ?_
  refine hLL _ _ ?_
  refine wpC_seq (sr fun LL hLL => ?_)
  simp only [ptrTo, oxq, ↓reduceIte, simprocAttr, gR_some, eq_false (show ¬ (n : Int) = 0 by omega)]
  refine hLL _ _ ?_
  refine wpC_if ?_
  simp only [ptrTo, oxq, ↓reduceIte, simprocAttr, gR_some]
  refine wpC_skip ?_
  simp only [ptrTo, oxq, ↓reduceIte, simprocAttr, gR_some]
  refine sr (fun LL hLL => ?_)
  simp only [ptrTo, pend, pend0, Pd.old, pendU, pendU0, oxq, Nat.testBit, ↓reduceIte, simprocAttr, gR_held]
  refine startG_ok 1 n false 0 (by omega) _ s5 _ fun h7 s7 => ?_
  simp only [ptrTo, pend, pend0, Pd.old, pendU, pendU0, oxq, Nat.testBit, ↓reduceIte, simprocAttr, gR_held]
  refine hLL _ _ ?_
  clear s5 s4
  refine sr (fun LL hLL => ?_)
  simp only [ptrTo, pend, pend0, Pd.old, pendU, pendU0, oxq, Nat.testBit, ↓reduceIte, simprocAttr, gR_held]
  refine told_ok (F := [wn spc 2 52 ab ad (tasksL P), own bs (spB g sa L.length sc)]) 1 0 false n (by omega) la lc l (Rd.of_base rl) (fun x hx => ⟨Rd.of_base (rx x hx).o, (rx x hx).on, Rd.of_base (rx x hx).r, (rx x hx).rn, Rd.of_base (rx x hx).t, (rx x hx).tn⟩) hsm (by omega) false (TlD.new n) s7 _ fun X h9 qa s10 => ?_
  simp only [ptrTo, pend, pend0, Pd.old, pendU, pendU0, oxq, Nat.testBit, ↓reduceIte, simprocAttr, gR_held]
  refine hLL _ _ ?_
  have ca : ∀ t, t < n → toldE n (fun _ => none) l t = some (fstC l t) := fun t ht => toldE_new n l t ht
  have gs := (s10.mv 2).get
  have hpt := jb.sp.parts
  have hP8 : ∀ x ∈ P, 1 ≤ x ∧ x ≤ 8 := fun x hx => ⟨(jb.par x hx).1, (jb.par x hx).2.1⟩
  refine sr (fun LL hLL => ?_)
  simp only [ptrTo, pend, pend0, Pd.old, pendU, pendU0, oxq, Nat.testBit, ↓reduceIte, simprocAttr, gR_held, gs]
  have s11 : St h h9 [coG βa 1 0 false (tasksL P).length [] X, wn spc 2 52 ab ad (tasksL P), own bs (spB g sa L.length sc)] := by rw [← en]; exact s10
  refine manifest_ok (F := [wn spc 2 52 ab ad (tasksL P), own bs (spB g sa L.length sc)]) g sa sc L sp jb.sp.n12 hpt pa pc P (Rd.of_base rP) nP jb.len hP8 βa 1 0 false X qa.sm (fun t ht => (qa.cont (t := t) (by omega) (ca t (by omega))).1) _ s11 _ fun qa1 qc1 a1 a2 a3 h13 s12 => ?_
  have gz := (s12.push (.cells false 0 manZ 48)).get
  have s13 := (s12.push (.cells false 0 manZ 48)).set (manB 1 qa1 P qc1 L.length a1 a2 a3)
  obtain ⟨cm, ecm⟩ : ∃ b, b = h13.next := ⟨_, rfl⟩
  simp only [ptrTo, pend, pend0, Pd.old, pendU, pendU0, oxq, Nat.testBit, ↓reduceIte, simprocAttr, gR_held, gz]
  refine hLL _ _ ?_
  obtain ⟨h14, e14⟩ : ∃ h14, h14 = (h13.push (.cells false 0 manZ 48)).set h13.next (manB 1 qa1 P qc1 L.length a1 a2 a3) := ⟨_, rfl⟩
  rw [← e14, ← ecm] at s13
  rw [← e14, ← ecm]
  have s14 := (s13).sel 8 [0, 2, 3, 4, 6, 7]
  simp only [List.filterMap_cons, List.filterMap_nil, List.getElem?_cons_succ, List.getElem?_cons_zero, List.drop_succ_cons, List.drop_zero, List.cons_append, List.nil_append] at s14
  clear e14 gz s13 s12 s11 s10 s7 gs
  have gm := s14.get
  have gs := (s14.mv 5).get
  refine wpC_seq (sr fun LL hLL => ?_)
  simp only [ptrTo, pend, pend0, Pd.old, pendU, pendU0, oxq, Nat.testBit, ↓reduceIte, simprocAttr, gR_held, gm, gs, not_true_eq_false]
  refine hLL _ _ ?_
  refine wpC_if ?_
  simp only [ptrTo, oxq, ↓reduceIte, simprocAttr, gR_some]
  refine wpC_skip ?_
  simp only [ptrTo, oxq, ↓reduceIte, simprocAttr, gR_some]
  clear gm gs
  obtain ⟨C, eC⟩ : ∃ C, C = contX X := ⟨_, rfl⟩
  have cc : ∀ t, t < n → (C t).cont = fstC l t := fun t ht => by rw [eC]; exact (qa.cont ht (ca t ht)).2
  have cs : ∀ t, t < n → AckSm (C t) := fun t ht => by
    obtain ⟨x, hx⟩ := (qa.cont ht (ca t ht)).1
    rw [eC]; unfold contX; rw [hx]
    exact qa.sm _ (List.mem_of_find?_eq_some hx)
  rw [← eC] at s14
  obtain ⟨S2, hS2, s15⟩ := (s14.mv 2).nest_out
  have hSl : S2.length = L.length := by rw [lens hS2, manR_len]
  obtain ⟨PB, ePB⟩ : ∃ PB : List Asn, PB = [wn Sv.cells 1 30 (some ⟨a2, 0, none⟩) L.length S2, star (wns rcell 3 63 S2 (manR g L P C)), own cm (manB 1 qa1 P qc1 L.length a1 a2 a3), nest icell 1 3 25 (some ⟨a1, 0, none⟩) L.length (manO L P C), nest r2cell 2 65 31 (some ⟨a3, 0, none⟩) L.length (manT L P C), wn spc 2 52 ab ad (tasksL P), own bs (spB g sa L.length sc)] := ⟨_, rfl⟩
  have s16 : St h h14 PB := by rw [ePB]; exact s15
  clear s15 s14
  refine wpC_seq ?_
  refine sr (fun LL hLL => ?_)
  simp only [ptrTo, oxq, ↓reduceIte, simprocAttr, gR_some]
  refine hLL _ _ ?_
  refine wpC_block ?_
  refine wpC_loop (fun m T h' => ∃ (op : Nat) (u0 u4 u5 : Value) (R : List Value), m + op = L.length ∧ St h h' PB ∧ T = u0 :: .slice pa P.length pc :: .slice la l.length lc :: .pointer (some ⟨bs, 0, none⟩) :: u4 :: u5 :: .bool false :: R ∧ tget R 1 = .slice ab n ad ∧ tget R 3 = .pointer (some ⟨cm, 0, none⟩) ∧ tget R 5 = .int .i64 op) ?_ L.length _ _ ⟨0, _, _, _, _, by omega, s16, rfl, by simp [tget_tput], by simp [tget_tput], by simp [tget_tput]⟩
  clear s16
  rintro m T h' ⟨op, u0, u4, u5, R, hmo, s1, rfl, q1, q3, q5⟩
  have gs : h'.get bs = some (spB g sa L.length sc) := by rw [ePB] at s1; exact (s1.mv 6).get
  refine wpC_seq (sr fun LL hLL => ?_)
  simp only [ptrTo, oxq, ↓reduceIte, simprocAttr, gR_some, q5, gs]
  refine hLL _ _ ?_
  refine wpC_if ?_
  simp only [ptrTo, oxq, ↓reduceIte, simprocAttr, gR_some]
  refine gC_of (fun hc => ?_) (fun hc => ?_)
  · refine wpC_skip ?_
    simp only [ptrTo, oxq, ↓reduceIte, simprocAttr, gR_some]
    have hop : op < L.length := by omega
    refine wpC_seq (wpC_block ?_)
    refine sr (fun LL hLL => ?_)
    simp only [ptrTo, oxq, ↓reduceIte, simprocAttr, gR_some]
    refine hLL _ _ ?_
    refine sr (fun LL hLL => ?_)
    simp only [ptrTo, oxq, ↓reduceIte, simprocAttr, gR_some]
    refine hLL _ _ ?_
    refine sm (fun T h2 => ∃ (b : Option Addr) (d : Nat) (u0 u4 u5 : Value) (R : List Value), St h h2 (wn r2cell 2 65 b d (outsF P C n op) :: PB) ∧ T = u0 :: .slice pa P.length pc :: .slice la l.length lc :: .pointer (some ⟨bs, 0, none⟩) :: u4 :: u5 :: .bool false :: R ∧ tget R 1 = .slice ab n ad ∧ tget R 3 = .pointer (some ⟨cm, 0, none⟩) ∧ tget R 5 = .int .i64 op ∧ tget R 6 = .slice b (outsF P C n op).length d ∧ tget R 7 = .int .i64 (rowsF P C n op).length) ?_ ?_
    · refine sr (fun LL hLL => ?_)
      simp only [ptrTo, oxq, ↓reduceIte, simprocAttr, gR_some]
      refine hLL _ _ ?_
      refine wpC_block ?_
      refine wpC_loop (fun m T h2 => ∃ (t : Nat) (b : Option Addr) (d : Nat) (u0 u4 u5 : Value) (R : List Value), m + t = n ∧ St h h2 (wn r2cell 2 65 b d (outsF P C t op) :: PB) ∧ T = u0 :: .slice pa P.length pc :: .slice la l.length lc :: .pointer (some ⟨bs, 0, none⟩) :: u4 :: u5 :: .bool false :: R ∧ tget R 1 = .slice ab n ad ∧ tget R 3 = .pointer (some ⟨cm, 0, none⟩) ∧ tget R 5 = .int .i64 op ∧ tget R 6 = .slice b (outsF P C t op).length d ∧ tget R 7 = .int .i64 (rowsF P C t op).length ∧ tget R 8 = .int .i64 t) ?_ n _ _ ⟨0, none, 0, _, _, _, _, by omega, s1.wn_nil, rfl, by simp [tget_tput, q1], by simp [tget_tput, q3], by simp [tget_tput, q5], (by simp [tget_tput]; rfl), (by simp [tget_tput]; rfl), by simp [tget_tput]⟩
      clear s1 q1 q3 q5 gs
      rintro m T h2 ⟨t, b, d, u0, u4, u5, R, hmt, s1, rfl, q1, q3, q5, q6, q7, q8⟩
      refine wpC_seq (sr fun LL hLL => ?_)
      simp only [ptrTo, oxq, ↓reduceIte, simprocAttr, gR_some, q1, q8]
      refine hLL _ _ ?_
      refine wpC_if ?_
      simp only [ptrTo, oxq, ↓reduceIte, simprocAttr, gR_some]
      refine gC_of (fun hc2 => ?_) (fun hc2 => ?_)
      · refine wpC_skip ?_
        simp only [ptrTo, oxq, ↓reduceIte, simprocAttr, gR_some]
        have ht : t < n := by omega
        have hou := cont_outs (x := C t) (y := C t) rfl
        have hfo := outsF_few (P := P) (op := op) (t := t) (m := n) cs (by omega)
        have hfr := rowsF_few (P := P) (op := op) (t := t) (m := n) cs (by omega)
        refine sm (fun T h2 => ∃ (b : Option Addr) (d : Nat) (u0 u4 u5 : Value) (R : List Value), St h h2 (wn r2cell 2 65 b d (outsF P C (t + 1) op) :: PB) ∧ T = u0 :: .slice pa P.length pc :: .slice la l.length lc :: .pointer (some ⟨bs, 0, none⟩) :: u4 :: u5 :: .bool false :: R ∧ tget R 1 = .slice ab n ad ∧ tget R 3 = .pointer (some ⟨cm, 0, none⟩) ∧ tget R 5 = .int .i64 op ∧ tget R 6 = .slice b (outsF P C (t + 1) op).length d ∧ tget R 7 = .int .i64 (rowsF P C (t + 1) op).length ∧ tget R 8 = .int .i64 t) ?_ ?_
        · refine wpC_block ?_
          refine sr (fun LL hLL => ?_)
          simp only [ptrTo, oxq, ↓reduceIte, simprocAttr, gR_some]
          refine hLL _ _ ?_
          refine wpC_block ?_
          refine wpC_loop (fun m T h3 => h3 = h2 ∧ ∃ (i : Nat) (u0 u4 u5 : Value) (R : List Value), m + i = l.length ∧ (∀ (k : Nat) (hk : k < l.length), k < i → l[k].task ≠ (t : Int)) ∧ T = u0 :: .slice pa P.length pc :: .slice la l.length lc :: .pointer (some ⟨bs, 0, none⟩) :: u4 :: u5 :: .bool false :: R ∧ tget R 1 = .slice ab n ad ∧ tget R 3 = .pointer (some ⟨cm, 0, none⟩) ∧ tget R 5 = .int .i64 op ∧ tget R 6 = .slice b (outsF P C t op).length d ∧ tget R 7 = .int .i64 (rowsF P C t op).length ∧ tget R 8 = .int .i64 t ∧ tget R 9 = .int .i64 i) ?_ l.length _ _ ⟨rfl, 0, _, _, _, _, by omega, fun k hk h => by omega, rfl, by simp [tget_tput, q1], by simp [tget_tput, q3], by simp [tget_tput, q5], by simp [tget_tput, q6], by simp [tget_tput, q7], by simp [tget_tput, q8], by simp [tget_tput]⟩
          clear q1 q3 q5 q6 q7 q8
          rintro m T h3 ⟨rfl, i, u0, u4, u5, R, hmi, hn, rfl, q1, q3, q5, q6, q7, q8, q9⟩
          by_cases hi : i < l.length
          · have htT : t < (tasksL P).length := by omega
            obtain ⟨bt, ot, rot, szt, Ct, Tt, et, pt, gt, rt, qt⟩ : ∃ b o ro sz C e, ab = some ⟨b, o, none⟩ ∧ b < h3.next ∧ h3.get b = some (.cells ro sz C e) ∧ (C.drop o).take ((tasksL P).length * 2) = (tasksL P).flatMap spc ∧ o + (tasksL P).length * 2 ≤ C.length := by
              have s2 := s1
              rw [ePB] at s2
              exact ((s2.mv 6).rs spc.len).resolve_left (by intro e; rw [e] at htT; simp at htT)
            have vt : Ct[ot + t * 2]? = some (.int .i64 (tasksL P)[t].1) := Rs.cell spc.len rt qt t htT 0 (by omega)
            have eop : (tasksL P)[t].1 = opOf P t := by unfold opOf; rw [List.getElem?_eq_getElem htT]; rfl
            rw [eop] at vt
            rw [et] at q1
            by_cases ho : opOf P t = op
            · refine wpC_seq (sr fun LL hLL => ?_)
              simp only [ptrTo, oxq, ↓reduceIte, simprocAttr, gR_some, q1, q5, q8, q9, ixF ht, gt, vt, eq_true (show (i : Int) < (l.length : Int) by omega), eq_true (show ((opOf P t : Nat) : Int) = (op : Int) by omega)]
              refine hLL _ _ ?_
              refine wpC_if ?_
              simp only [ptrTo, oxq, ↓reduceIte, simprocAttr, gR_some]
              refine wpC_skip ?_
              simp only [ptrTo, oxq, ↓reduceIte, simprocAttr, gR_some]
              obtain ⟨bq, oq, roq, szq, Cq, Tq, eq, pq, gq0, rq, qq⟩ := rl.resolve_left (by rintro rfl; simp at hi)
              have gq := s1.base.at gq0 pq (by simp)
              have v1 : Cq[oq + i * 5 + 1]? = some (.int .i64 l[i].task) := by rw [Nat.add_assoc]; exact Rs.cell AckX.len rq qq i hi 1 (by omega)
              have v3 : Cq[oq + i * 5 + 3]? = some (.slice l[i].ra l[i].rows.length l[i].rc) := by rw [Nat.add_assoc]; exact Rs.cell AckX.len rq qq i hi 3 (by omega)
              have v4 : Cq[oq + i * 5 + 4]? = some (.slice l[i].ta l[i].outs.length l[i].tc) := by rw [Nat.add_assoc]; exact Rs.cell AckX.len rq qq i hi 4 (by omega)
              have ax := rx _ (List.getElem_mem hi)
              have sx := hsm _ (List.getElem_mem hi)
              by_cases htask : l[i].task = (t : Int)
              · have hfind := find_first hi hn htask
                have hct : (C t).cont = l[i].cont := by rw [cc t ht]; unfold fstC; rw [hfind]
                have eo := outsF_succ P C t op
                have er := rowsF_succ P C t op
                rw [if_pos ho, cont_outs hct] at eo
                rw [if_pos ho, cont_rows hct] at er
                have hfst : Go.Ox.fst h3 2 l[i].outs.length l[i].ta = some (l[i].outs.flatMap r2cell) := (ax.t.fr s1.base).fst fun ha => (ax.tn ha).1
                have hs1 := sx.t
                have hs2 := sx.r
                obtain ⟨aE, cE, h5, y1, y2⟩ := s1.app (bytes := 16) (d := l[i].tc) (M := l[i].outs) r2cell.len r2cell.oc hfst (by omega) (by omega)
                rw [← eo] at y1 y2
                have hw : IntKind.i64.wrap (((rowsF P C t op).length : Int) + (l[i].rows.length : Int)) = ((rowsF P C (t + 1) op).length : Int) := by rw [wrap_i64 (by omega) (by omega)]; omega
                have gq5 := y2.base.at gq0 pq (by simp)
                refine wpC_seq (wpC_block ?_)
                rw [eq]
                refine sr (fun LL hLL => ?_)
                simp only [ptrTo, oxq, ↓reduceIte, simprocAttr, gR_some, q8, q9, ixF hi, gq, v1, eq_true htask]
                refine hLL _ _ ?_
                refine wpC_if ?_
                simp only [ptrTo, oxq, ↓reduceIte, simprocAttr, gR_some]
                refine sr (fun LL hLL => ?_)
                simp only [ptrTo, oxq, ↓reduceIte, simprocAttr, gR_some, q6, q9, ixF hi, gq, v4, y1]
                refine hLL _ _ ?_
                refine sr (fun LL hLL => ?_)
                simp only [ptrTo, oxq, ↓reduceIte, simprocAttr, gR_some, q7, q9, ixF hi, gq5, v3, hw]
                refine hLL _ _ ?_
                refine wpC_exit ?_
                simp only [ptrTo, oxq, ↓reduceIte, simprocAttr, gR_some]
                exact ⟨aE, cE, _, _, _, _, y2, rfl, by simp [tget_tput, q1, et], by simp [tget_tput, q3], by simp [tget_tput, q5], by simp [tget_tput], by simp [tget_tput], by simp [tget_tput, q8]⟩
              · refine wpC_seq (wpC_block ?_)
                rw [eq]
                refine sr (fun LL hLL => ?_)
                simp only [ptrTo, oxq, ↓reduceIte, simprocAttr, gR_some, q8, q9, ixF hi, gq, v1, eq_false htask]
                refine hLL _ _ ?_
                refine wpC_if ?_
                simp only [ptrTo, oxq, ↓reduceIte, simprocAttr, gR_some]
                refine wpC_skip ?_
                simp only [ptrTo, oxq, ↓reduceIte, simprocAttr, gR_some]
                refine rg (fun LL hLL => ?_)
                simp only [ptrTo, oxq, ↓reduceIte, simprocAttr, gR_some, q9, wsucc (show i < 9223372036854775807 by omega)]
                refine hLL _ _ ?_
                simp only [ptrTo, oxq, ↓reduceIte, simprocAttr, gR_some]
                refine ⟨m - 1, by omega, i + 1, _, _, _, _, by omega, fun k hk hki => ?_, rfl, by simp [tget_tput, q1, et], by simp [tget_tput, q3], by simp [tget_tput, q5], by simp [tget_tput, q6], by simp [tget_tput, q7], by simp [tget_tput, q8], by simp [tget_tput]⟩
                by_cases e : k = i
                · subst e; exact htask
                · exact hn k hk (by omega)
            · have eo := outsF_succ P C t op
              have er := rowsF_succ P C t op
              rw [if_neg ho] at eo er
              refine wpC_seq (sr fun LL hLL => ?_)
              simp only [ptrTo, oxq, ↓reduceIte, simprocAttr, gR_some, q1, q5, q8, q9, ixF ht, gt, vt, eq_true (show (i : Int) < (l.length : Int) by omega), eq_false (show ¬ ((opOf P t : Nat) : Int) = (op : Int) by omega)]
              refine hLL _ _ ?_
              refine wpC_if ?_
              simp only [ptrTo, oxq, ↓reduceIte, simprocAttr, gR_some]
              refine wpC_exit ?_
              simp only [ptrTo, oxq, ↓reduceIte, simprocAttr, gR_some]
              rw [eo, er]
              exact ⟨b, d, _, _, _, _, s1, rfl, by simp [tget_tput, q1, et], by simp [tget_tput, q3], by simp [tget_tput, q5], by simp [tget_tput, q6], by simp [tget_tput, q7], by simp [tget_tput, q8]⟩
          · have hfind := find_never (l := l) (t := t) fun k hk => hn k hk (by omega)
            have hct : (C t).cont = emC := by rw [cc t ht]; unfold fstC; rw [hfind]
            have eo : outsF P C (t + 1) op = outsF P C t op := by
              rw [outsF_succ, show (C t).outs = [] from congrArg (fun c => c.2.2) hct, List.append_nil]; split <;> rfl
            have er : (rowsF P C (t + 1) op).length = (rowsF P C t op).length := by
              rw [rowsF_succ, show (C t).rows = [] from congrArg (fun c => c.2.1) hct]; split <;> rfl
            refine wpC_seq (sr fun LL hLL => ?_)
            simp only [ptrTo, oxq, ↓reduceIte, simprocAttr, gR_some, q9, eq_false (show ¬ (i : Int) < (l.length : Int) by omega)]
            refine hLL _ _ ?_
            refine wpC_if ?_
            simp only [ptrTo, oxq, ↓reduceIte, simprocAttr, gR_some]
            refine wpC_exit ?_
            simp only [ptrTo, oxq, ↓reduceIte, simprocAttr, gR_some]
            rw [eo, er]
            exact ⟨b, d, _, _, _, _, s1, rfl, by simp [tget_tput, q1], by simp [tget_tput, q3], by simp [tget_tput, q5], by simp [tget_tput, q6], by simp [tget_tput, q7], by simp [tget_tput, q8]⟩
        · clear s1 q1 q3 q5 q6 q7 q8
          rintro T h4 ⟨b, d, u0, u4, u5, R, s1, rfl, q1, q3, q5, q6, q7, q8⟩
          refine rg (fun LL hLL => ?_)
          simp only [ptrTo, oxq, ↓reduceIte, simprocAttr, gR_some, q8, wsucc (show t < 9223372036854775807 by omega)]
          refine hLL _ _ ?_
          simp only [ptrTo, oxq, ↓reduceIte, simprocAttr, gR_some]
          exact ⟨m - 1, by omega, t + 1, b, d, _, _, _, _, by omega, s1, rfl, by simp [tget_tput, q1], by simp [tget_tput, q3], by simp [tget_tput, q5], by simp [tget_tput, q6], by simp [tget_tput, q7], by simp [tget_tput]⟩
      · have htn : t = n := by omega
        subst htn
        refine wpC_exit ?_
        simp only [ptrTo, oxq, ↓reduceIte, simprocAttr, gR_some]
        exact ⟨b, d, _, _, _, _, s1, rfl, by simp [tget_tput, q1], by simp [tget_tput, q3], by simp [tget_tput, q5], by simp [tget_tput, q6], by simp [tget_tput, q7]⟩
    clear s1 q1 q3 q5 gs
    rintro T h2 ⟨b, d, u0, u4, u5, R, s1, rfl, q1, q3, q5, q6, q7⟩
    obtain ⟨bo, oo, roo, szo, Co, To, eo, po, go0, ro, qo⟩ := sp.rs.resolve_left (by rintro e; rw [e] at hop; simp at hop)
    have w0 : Co[oo + op * 8]? = some (.int .i64 L[op].kind) := Rs.cell OpX.len ro qo op hop 0 (by omega)
    have w5 : Co[oo + op * 8 + 5]? = some (.int .i64 L[op].parts) := by rw [Nat.add_assoc]; exact Rs.cell OpX.len ro qo op hop 5 (by omega)
    have go := s1.base.at go0 po (by simp)
    have gs : h2.get bs = some (spB g sa L.length sc) := by rw [ePB] at s1; exact (s1.mv 7).get
    obtain ⟨kd, ekd⟩ : ∃ kd, kd = L[op].kind := ⟨_, rfl⟩
    obtain ⟨OT, eOT⟩ : ∃ OT, OT = layT L[op] (atOp P C n op) := ⟨_, rfl⟩
    obtain ⟨RW, eRW⟩ : ∃ RW, RW = layR g L[op] (atOp P C n op) := ⟨_, rfl⟩
    obtain ⟨OO, eOO⟩ : ∃ OO, OO = layO L[op] (atOp P C n op) := ⟨_, rfl⟩
    have lT : kd ≠ 8 → OT = [] := fun hk8 => by rw [eOT]; unfold layT; rw [if_neg (by rw [← ekd]; exact hk8)]
    have lT8 : kd = 8 → OT = outsF P C n op := fun hk8 => by rw [eOT]; unfold layT; rw [if_pos (by rw [← ekd]; exact hk8)]; rfl
    have lR : RW.length = if kd = 5 ∨ kd = 6 then (rowsF P C n op).length else 0 := by rw [eRW, layR_len, ← ekd]; rfl
    have lO : OO.length = if kd = 1 then L[op].parts.toNat else 0 := by rw [eOO, layO_len, ← ekd]
    have hOTl : OT.length ≤ n * 100 := by
      by_cases k8 : kd = 8
      · rw [lT8 k8]; exact outsF_few cs (by omega)
      · rw [lT k8]; simp
    rw [← ekd] at w0
    rw [eo] at gs
    refine sr (fun LL hLL => ?_)
    simp only [ptrTo, oxq, ↓reduceIte, simprocAttr, gR_some, q5, gs, ixF hop, go, w0]
    refine hLL _ _ ?_
    refine sm (fun T h3 => h3 = h2 ∧ ∃ (b2 : Option Addr) (d2 : Nat) (u0 u4 u5 : Value) (R : List Value), Rs r2cell 2 h2 b2 OT ∧ T = u0 :: .slice pa P.length pc :: .slice la l.length lc :: .pointer (some ⟨bs, 0, none⟩) :: u4 :: u5 :: .bool false :: R ∧ tget R 1 = .slice ab n ad ∧ tget R 3 = .pointer (some ⟨cm, 0, none⟩) ∧ tget R 5 = .int .i64 op ∧ tget R 6 = .slice b2 OT.length d2 ∧ tget R 7 = .int .i64 (rowsF P C n op).length ∧ tget R 10 = .int .i64 kd) ?_ ?_
    · by_cases k8 : kd = 8
      · refine sr (fun LL hLL => ?_)
        simp only [ptrTo, oxq, ↓reduceIte, simprocAttr, gR_some, k8, not_true_eq_false]
        refine hLL _ _ ?_
        refine wpC_if ?_
        simp only [ptrTo, oxq, ↓reduceIte, simprocAttr, gR_some]
        refine wpC_skip ?_
        simp only [ptrTo, oxq, ↓reduceIte, simprocAttr, gR_some]
        exact ⟨b, d, _, _, _, _, by rw [lT8 k8]; exact s1.rs r2cell.len, rfl, by simp [tget_tput, q1], by simp [tget_tput, q3], by simp [tget_tput, q5], by simp [tget_tput, q6, lT8 k8], by simp [tget_tput, q7], by simp [tget_tput, k8]⟩
      · refine sr (fun LL hLL => ?_)
        simp only [ptrTo, oxq, ↓reduceIte, simprocAttr, gR_some, eq_true k8, not_false_eq_true]
        refine hLL _ _ ?_
        refine wpC_if ?_
        simp only [ptrTo, oxq, ↓reduceIte, simprocAttr, gR_some]
        refine rg (fun LL hLL => ?_)
        simp only [ptrTo, oxq, ↓reduceIte, simprocAttr, gR_some]
        refine hLL _ _ ?_
        simp only [ptrTo, oxq, ↓reduceIte, simprocAttr, gR_some]
        exact ⟨none, 0, _, _, _, _, by rw [lT k8]; exact .inl rfl, rfl, by simp [tget_tput, q1], by simp [tget_tput, q3], by simp [tget_tput, q5], (by simp [tget_tput, lT k8]), by simp [tget_tput, q7], by simp [tget_tput]⟩
    clear q1 q3 q5 q6 q7 lT lT8
    rintro T h3 ⟨rfl, b2, d2, u0, u4, u5, R, rO, rfl, q1, q3, q5, q6, q7, q10⟩
    refine sm (fun T h3' => h3' = h3 ∧ ∃ (u0 u4 u5 : Value) (R : List Value), T = u0 :: .slice pa P.length pc :: .slice la l.length lc :: .pointer (some ⟨bs, 0, none⟩) :: u4 :: u5 :: .bool false :: R ∧ tget R 1 = .slice ab n ad ∧ tget R 3 = .pointer (some ⟨cm, 0, none⟩) ∧ tget R 5 = .int .i64 op ∧ tget R 6 = .slice b2 OT.length d2 ∧ tget R 7 = .int .i64 RW.length ∧ tget R 10 = .int .i64 kd) ?_ ?_
    · by_cases k5 : kd = 5
      · rw [if_pos (.inl k5)] at lR
        refine sr (fun LL hLL => ?_)
        simp only [ptrTo, oxq, ↓reduceIte, simprocAttr, gR_some, q10, k5, not_true_eq_false]
        refine hLL _ _ ?_
        refine wpC_if ?_
        simp only [ptrTo, oxq, ↓reduceIte, simprocAttr, gR_some]
        refine wpC_skip ?_
        simp only [ptrTo, oxq, ↓reduceIte, simprocAttr, gR_some]
        exact ⟨_, _, _, _, rfl, by simp [tget_tput, q1], by simp [tget_tput, q3], by simp [tget_tput, q5], by simp [tget_tput, q6], by simp [tget_tput, q7, lR], by simp [tget_tput, q10, k5]⟩
      by_cases k6 : kd = 6
      · rw [if_pos (.inr k6)] at lR
        refine sr (fun LL hLL => ?_)
        simp only [ptrTo, oxq, ↓reduceIte, simprocAttr, gR_some, q10, k6, not_true_eq_false, not_false_eq_true]
        refine hLL _ _ ?_
        refine wpC_if ?_
        simp only [ptrTo, oxq, ↓reduceIte, simprocAttr, gR_some]
        refine wpC_skip ?_
        simp only [ptrTo, oxq, ↓reduceIte, simprocAttr, gR_some]
        exact ⟨_, _, _, _, rfl, by simp [tget_tput, q1], by simp [tget_tput, q3], by simp [tget_tput, q5], by simp [tget_tput, q6], by simp [tget_tput, q7, lR], by simp [tget_tput, q10, k6]⟩
      · rw [if_neg (by rintro (h | h) <;> contradiction)] at lR
        refine sr (fun LL hLL => ?_)
        simp only [ptrTo, oxq, ↓reduceIte, simprocAttr, gR_some, q10, eq_true k5, eq_true k6, not_false_eq_true]
        refine hLL _ _ ?_
        refine wpC_if ?_
        simp only [ptrTo, oxq, ↓reduceIte, simprocAttr, gR_some]
        refine rg (fun LL hLL => ?_)
        simp only [ptrTo, oxq, ↓reduceIte, simprocAttr, gR_some]
        refine hLL _ _ ?_
        simp only [ptrTo, oxq, ↓reduceIte, simprocAttr, gR_some]
        exact ⟨_, _, _, _, rfl, by simp [tget_tput, q1], by simp [tget_tput, q3], by simp [tget_tput, q5], by simp [tget_tput, q6], by simp [tget_tput, lR], by simp [tget_tput, q10]⟩
    clear q1 q3 q5 q6 q7 q10
    rintro T h4 ⟨rfl, u0, u4, u5, R, rfl, q1, q3, q5, q6, q7, q10⟩
    have s2 := s1
    rw [ePB] at s2
    have gm := (s2.mv 3).get
    obtain ⟨bT, oT, roT, szT, CT, TT, aT, cT, eT, pT, gT, vT, rT, nT⟩ := rsnAt ((s2.mv 5).rsn r2cell.len) op (by rw [manT_len]; exact hop)
    rw [manT_at L P C op hop, ← en, ← eOT] at vT rT
    obtain ⟨bO, oO, roO, szO, CO, TO, aO, cO, eO, pO, gO, vO, rOO, nO⟩ := rsnAt ((s2.mv 4).rsn icell.len) op (by rw [manO_len]; exact hop)
    rw [manO_at L P C op hop, ← en, ← eOO] at vO
    have hS : op < S2.length := by omega
    have hM : op < (manR g L P C).length := by rw [manR_len]; exact hop
    obtain ⟨bR, oR, roR, szR, CR, TR, eR, pR, gR, rR, wR⟩ := ((s2.mv 1).rs Sv.len1).resolve_left (by intro e; rw [e] at hS; simp at hS)
    have vR : CR[oR + op * 1]? = some (.slice S2[op].a S2[op].len S2[op].cap) := Rs.cell Sv.len1 rR wR op hS 0 (by omega)
    rw [lens_at hS2 op hS hM, manR_at g L P C op hop, ← en, ← eRW] at vR
    have rdR : Rd h (wn r2cell 2 65 b d (outsF P C n op) :: PB) rcell 3 S2[op].a RW := fun h s => by
      rw [ePB] at s
      have := ((s.mv 2).wns_rs rcell.len op hS hM).1
      rw [manR_at g L P C op hop, ← en, ← eRW] at this
      exact this
    cases eT
    cases eO
    cases eR
    rw [Nat.zero_add] at vT vO vR
    have hL12 := jb.sp.n12
    have hRW : RW.length < 1000000 := by
      have := rowsF_few (P := P) (op := op) (t := n) (m := n) cs (by omega)
      rw [lR]; split <;> omega
    have hsr : SrtL (ltg g) RW := by rw [eRW]; exact layR_srt _ _ _
    have hwr : ∀ r ∈ RW, (Lit.int .i64 r.1).wf = true := fun r hr => by
      rw [eRW] at hr
      obtain ⟨x, hx, hr⟩ := layR_mem hr
      obtain ⟨j, hj, rfl⟩ := atOp_mem hx
      rw [show (C j).rows = (fstC l j).2.1 from congrArg (fun c => c.2.1) (cc j hj)] at hr
      obtain ⟨x, hx, hr⟩ := fstC_mem hr
      exact hwf x hx r hr
    refine sm (fun T h3' => h3' = h4 ∧ ∃ (u0 u4 u5 : Value) (R : List Value), T = u0 :: .slice pa P.length pc :: .slice la l.length lc :: .pointer (some ⟨bs, 0, none⟩) :: u4 :: u5 :: .bool false :: R ∧ tget R 1 = .slice ab n ad ∧ tget R 3 = .pointer (some ⟨cm, 0, none⟩) ∧ tget R 5 = .int .i64 op) ?_ ?_
    · by_cases k1 : kd = 1
      · rw [if_pos k1] at lO
        have hp := hpt _ (List.getElem_mem hop) (by rw [← ekd]; exact k1)
        have hOO : ((OO.length : Nat) : Int) = L[op].parts := by omega
        refine su [some 161, some 162, some 163, some 164, some 165, some 166, some 167, some 168, some 169, some 170, some 171, some 172, some 173, some 174, some 175, some 176, some 177, some 178, some 179, some 180, some 181, some 182, some 183, some 184, some 185, some 186, some 187, some 188, some 189, some 190, some 191, some 192, some 193, some 194, some 195, some 196, some 197, some 198, some 199, some 200, some 201, some 202, some 203, some 204, some 205, some 206, some 207, some 208, some 209, some 210] 50 [0, 1, 0, 7, 15, 0, 63, 127, 255, 511, 1023, 511, 4095, 8191, 16383, 511, 65535, 131071, 262143, 524287, 1048575, 2097151, 4194303, 8388607, 4194303, 33554431, 67108863, 134217727, 4194303, 272629759, 4194303, 1883242495, 4030726143, 8325693439, 17179869183, 34359738367, 68719476735, 137438953471, 274877906943, 549755813887, 1099511627775, 2199023255551, 4398046511103, 2199023255551, 17592186044415, 35184372088831, 70368744177663, 140737488355327, 281474976710655, 562949953421311] (by rfl) (by rfl) (by decide +kernel) (by decide +kernel) (by decide +kernel) (fun LL hLL => ?_)
        simp only [ptrTo, pend, pend0, Pd.old, pendU, pendU0, oxq, Nat.testBit, ↓reduceIte, simprocAttr, gR_held, gm, q3, q5, q6, q7, q10, ixF hop, gT, vT, not_true_eq_false]
        refine sameRecs_ok OT aT b2 cT d2 _ _ rT rO (by omega) ?_
        simp only [ptrTo, pend, pend0, Pd.old, pendU, pendU0, oxq, Nat.testBit, ↓reduceIte, simprocAttr, gR_held, gm, gs, go, w5, q3, q5, q6, q7, q10, ixF hop, gR, vR, gO, vO, k1, hOO, not_true_eq_false, not_false_eq_true]
        refine hLL _ _ ?_
        refine wpC_if ?_
        simp only [ptrTo, oxq, ↓reduceIte, simprocAttr, gR_some]
        refine wpC_skip ?_
        simp only [ptrTo, oxq, ↓reduceIte, simprocAttr, gR_some]
        exact ⟨_, _, _, _, rfl, by simp [tget_tput, q1], by simp [tget_tput, q3], by simp [tget_tput, q5]⟩
      · rw [if_neg k1] at lO
        have hOO : ((OO.length : Nat) : Int) = 0 := by omega
        refine su [some 161, some 162, some 163, some 164, some 165, some 166, some 167, some 168, some 169, some 170, some 171, some 172, some 173, some 174, some 175, some 176, some 177, some 178, some 179, some 180, some 181, some 182, some 183, some 184, some 185, some 186, some 187, some 188, some 189, some 190, some 191, some 192, some 193, some 194, some 195, some 196, some 197, some 198, some 199, some 200, some 201, some 202, some 203, some 204, some 205, some 206, some 207, some 208, some 209, some 210] 50 [0, 1, 0, 7, 15, 0, 63, 127, 255, 511, 1023, 511, 4095, 8191, 16383, 511, 65535, 131071, 262143, 524287, 1048575, 2097151, 4194303, 8388607, 4194303, 33554431, 67108863, 134217727, 4194303, 272629759, 4194303, 1883242495, 4030726143, 8325693439, 17179869183, 34359738367, 68719476735, 137438953471, 274877906943, 549755813887, 1099511627775, 2199023255551, 4398046511103, 2199023255551, 17592186044415, 35184372088831, 70368744177663, 140737488355327, 281474976710655, 562949953421311] (by rfl) (by rfl) (by decide +kernel) (by decide +kernel) (by decide +kernel) (fun LL hLL => ?_)
        simp only [ptrTo, pend, pend0, Pd.old, pendU, pendU0, oxq, Nat.testBit, ↓reduceIte, simprocAttr, gR_held, gm, q3, q5, q6, q7, q10, ixF hop, gT, vT, not_true_eq_false]
        refine sameRecs_ok OT aT b2 cT d2 _ _ rT rO (by omega) ?_
        simp only [ptrTo, pend, pend0, Pd.old, pendU, pendU0, oxq, Nat.testBit, ↓reduceIte, simprocAttr, gR_held, gm, gs, q3, q5, q6, q7, q10, ixF hop, gR, vR, gO, vO, eq_false k1, hOO, not_true_eq_false, not_false_eq_true]
        refine hLL _ _ ?_
        refine wpC_if ?_
        simp only [ptrTo, oxq, ↓reduceIte, simprocAttr, gR_some]
        refine wpC_skip ?_
        simp only [ptrTo, oxq, ↓reduceIte, simprocAttr, gR_some]
        exact ⟨_, _, _, _, rfl, by simp [tget_tput, q1], by simp [tget_tput, q3], by simp [tget_tput, q5]⟩
    clear q1 q3 q5 q6 q7 q10
    rintro T h4' ⟨rfl, u0, u4, u5, R, rfl, q1, q3, q5⟩
    refine su [some 211, some 212, some 213, some 214, some 215, some 216, some 217, some 218, some 219] 9 [0, 1, 0, 7, 15, 0, 32, 127, 255] (by rfl) (by rfl) (by decide +kernel) (by decide +kernel) (by decide +kernel) (fun LL hLL => ?_)
    simp only [ptrTo, pend, pend0, Pd.old, pendU, pendU0, oxq, Nat.testBit, ↓reduceIte, simprocAttr, gR_held, gm, gs, q3, q5, ixF hop, gR, vR]
    refine sorted_ok g RW hsr hwr hRW _ _ rdR _ s1 _ fun h6 s6 => ?_
    simp only [ptrTo, pend, pend0, Pd.old, pendU, pendU0, oxq, Nat.testBit, ↓reduceIte, simprocAttr, gR_held]
    refine hLL _ _ ?_
    refine wpC_if ?_
    simp only [ptrTo, oxq, ↓reduceIte, simprocAttr, gR_some]
    refine wpC_skip ?_
    simp only [ptrTo, oxq, ↓reduceIte, simprocAttr, gR_some]
    refine rg (fun LL hLL => ?_)
    simp only [ptrTo, oxq, ↓reduceIte, simprocAttr, gR_some, q5, wsucc (show op < 9223372036854775807 by omega)]
    refine hLL _ _ ?_
    simp only [ptrTo, oxq, ↓reduceIte, simprocAttr, gR_some]
    exact ⟨m - 1, by omega, op + 1, _, _, _, _, by omega, s6.drop, rfl, by simp [tget_tput, q1], by simp [tget_tput, q3], by simp [tget_tput]⟩
  · have hil : op = L.length := by omega
    subst hil
    refine wpC_exit ?_
    simp only [ptrTo, oxq, ↓reduceIte, simprocAttr, gR_some]
    refine sr (fun LL hLL => ?_)
    simp only [ptrTo, oxq, ↓reduceIte, simprocAttr, gR_some]
    refine wpF_ext rfl ?_
    refine hLL _ _ ?_
    refine wpC_ret (out_ret ?_)
    simp only [ptrTo, oxq, ↓reduceIte, simprocAttr, gR_some]
    exact hk _ s1.base
end Go.Proofs.Cd

namespace Go.Proofs.Cd
open Go Go.Ox
set_option maxRecDepth 100000
set_option maxHeartbeats 1000000
theorem wfOf {n : Int} (h : InK .i64 n) : (Lit.int .i64 n).wf = true := by
  obtain ⟨h1, h2⟩ := h
  simp only [Lit.wf, Bool.and_eq_true, decide_eq_true_eq]
  exact ⟨h1, h2⟩
theorem bytes3 : Tryz.prog.bytesOf 3 = 8 := by decide +kernel
theorem bytes41 : Tryz.prog.bytesOf 56 = 80 := by decide +kernel
theorem bytesAck : Tryz.prog.bytesOf 33 = 88 := by decide +kernel
theorem sl_each {α : Type} {R : AHeap → List Value → α → Prop} {e : TypeId} {h : AHeap} {xs : List Value} {A : List α} (hA : SlR R e h xs A) : ∀ x ∈ A, ∃ ys, R h ys x := by
  obtain ⟨a, cap, _, _, _, h2, _⟩ := hA
  intro x hx
  rcases h2 with rfl | ⟨b, rows, _, _, _, h6, h7⟩
  · cases hx
  · obtain ⟨i, hi⟩ := List.getElem?_of_mem hx
    have hi2 := (List.getElem?_eq_some_iff.1 hi).1
    exact ⟨_, h7 i _ x (List.getElem?_eq_getElem (by omega)) hi⟩
def RwR (_ : AHeap) (xs : List Value) (a : Rwc) : Prop := xs = rcell a ∧ (Lit.int .i64 a.1).wf = true
def F3R (_ : AHeap) (xs : List Value) (a : Int × Int × Int) : Prop := xs = [.int .i64 a.1, .int .i64 a.2.1, .int .i64 a.2.2]
def R2R (_ : AHeap) (xs : List Value) (a : Int × Int) : Prop := xs = [.int .i64 a.1, .int .i64 a.2]
def OpR (h : AHeap) (xs : List Value) (x : OpX) : Prop := xs = x.cells ∧ Rs icell 1 h x.a x.inn ∧ x.inn.length < 17592186045000 ∧ x.inn.length ≤ capN x.cap
def SpecR (h : AHeap) (xs : List Value) (s : Int × Option Addr × List OpX × Nat) : Prop := xs = [.int .i64 s.1, .slice s.2.1 s.2.2.1.length s.2.2.2] ∧ SpR h s.2.1 s.2.2.1
def AckR (h : AHeap) (xs : List Value) (x : AckX) : Prop := xs = x.cells ∧ AckRs h x ∧ ∀ r ∈ x.rows, (Lit.int .i64 r.1).wf = true
theorem AckRs.fr {h h' : AHeap} {x : AckX} (r : AckRs h x) (f : Fr h h' []) : AckRs h' x := ⟨r.o.fr f, r.on, r.r.fr f, r.rn, r.t.fr f, r.tn⟩
section
variable {H : Type} {enc : TypeId × Value → H} {W : World}
theorem impI : IsImpW enc Tryz.prog W 3 (IntR .i64) := (IsImp.int (by rfl)).toW
theorem impRw : IsImp enc Tryz.prog W 63 RwR := by
  refine IsImp.conv (IsImp.flat (n := 9) (s := [true, true, true]) (by decide +kernel)) ?_ (fun _ _ _ _ h _ => h)
  rintro h xs ns ⟨rfl, hl, hk⟩
  match ns, hl, hk with
  | [a, b, c], _, hk => exact ⟨(a, (b, c)), rfl, wfOf (hk a (by simp))⟩
theorem impF3 : IsImpW enc Tryz.prog W 54 F3R := by
  refine IsImp.toW (IsImp.conv (IsImp.flat (n := 9) (s := [true, true, true]) (by decide +kernel)) ?_ (fun _ _ _ _ h _ => h))
  rintro h xs ns ⟨rfl, hl, hk⟩
  match ns, hl with
  | [a, b, c], _ => exact ⟨(a, b, c), rfl⟩
theorem impR2 : IsImpW enc Tryz.prog W 65 R2R := by
  refine IsImp.toW (IsImp.conv (IsImp.flat (n := 9) (s := [true, true]) (by decide +kernel)) ?_ (fun _ _ _ _ h _ => h))
  rintro h xs ns ⟨rfl, hl, hk⟩
  match ns, hl with
  | [a, b], _ => exact ⟨(a, b), rfl⟩
theorem impIs : IsImpW enc Tryz.prog W 25 (SlRb Tryz.prog (IntR .i64) 3) := IsImpW.slice (k := 0) (by rfl) (by rfl) impI
theorem impRws : IsImpW enc Tryz.prog W 30 (SlRb Tryz.prog RwR 63) := IsImpW.slice (k := 2) (by rfl) (by rfl) impRw.toW
theorem impRcs : IsImpW enc Tryz.prog W 31 (SlRb Tryz.prog R2R 65) := IsImpW.slice (k := 1) (by rfl) (by rfl) impR2
theorem capOf {n c : Nat} (h1 : n ≤ c) (h2 : c < 9223372036854775808) : n ≤ capN c := by
  unfold capN
  rw [if_pos (by simp [big]; omega)]; exact h1
theorem impOp : IsImpW enc Tryz.prog W 56 OpR := by
  refine IsImpW.conv (IsImpW.struct (t := 56) (n := 8) Tryz.underlying56 (by rfl) (FI.cons (k := 1) (n := 7) rfl rfl impI (FI.cons (k := 1) (n := 6) rfl rfl impIs (FI.cons (k := 3) (n := 3) rfl rfl impF3 (FI.cons (k := 1) (n := 2) rfl rfl impI (FI.cons (k := 1) (n := 1) rfl rfl impI (FI.cons (k := 1) (n := 0) rfl rfl impI FI.nil))))))) ?_ (fun h h' xs a ⟨h1, h2, h3⟩ hf => ⟨h1, h2.fr hf, h3⟩)
  rintro h xs ⟨k, inn, f, p, r, c, u⟩ ⟨u1, v1, rfl, h1, u2, v2, rfl, h2, u3, v3, rfl, h3, u4, v4, rfl, h4, u5, v5, rfl, h5, u6, v6, rfl, h6, h7⟩
  obtain ⟨h2, hb⟩ := h2
  rw [bytes3] at hb
  simp only [reachBytes] at hb
  obtain ⟨a, cap, e2, _⟩ := id h2
  simp only at e2
  rw [e2] at h2
  obtain ⟨a', c', e3, hrs, _, hc1, hc2, _⟩ := sl_rs (f := icell) icell.len (fun _ _ _ k => k.1) h2
  cases e3
  refine ⟨⟨k, inn, a, cap, f.1, f.2.1, f.2.2, p, r, c⟩, ?_, hrs, by simp only; omega, capOf hc1 hc2⟩
  rw [h1.1, e2, show u3 = _ from h3, h4.1, h5.1, h6.1, h7]
  rfl
theorem impSpec : IsImpW enc Tryz.prog W 24 SpecR := by
  refine IsImpW.conv (IsImpW.struct (t := 24) (n := 2) Tryz.underlying24 (by rfl) (FI.cons (k := 1) (n := 1) rfl rfl impI (FI.cons (k := 1) (n := 0) rfl rfl (IsImpW.slice (t := 22) (e := 56) (k := 7) (by rfl) (by rfl) impOp) FI.nil))) ?_ (fun h h' xs a ⟨h1, h2⟩ hf => ⟨h1, h2.fr hf⟩)
  rintro h xs ⟨g, L, u⟩ ⟨u1, v1, rfl, h1, u2, v2, rfl, h2, h3⟩
  obtain ⟨h2, hb⟩ := h2
  rw [bytes41] at hb
  simp only [reachBytes] at hb
  obtain ⟨a, cap, e2, _⟩ := id h2
  simp only at e2
  rw [e2] at h2
  obtain ⟨a', c', e3, hrs, _⟩ := sl_rs (f := OpX.cells) OpX.len (fun _ _ _ k => k.1) h2
  cases e3
  refine ⟨(g, a, L, cap), by rw [h1.1, e2, h3]; rfl, hrs, fun x hx => ?_, by simp only; omega, fun x hx => ?_⟩
  · obtain ⟨ys, _, k2, k3, _⟩ := sl_each h2 x hx
    exact ⟨k2, k3⟩
  · obtain ⟨ys, _, _, _, k4⟩ := sl_each h2 x hx
    exact k4
theorem impAck : IsImpW enc Tryz.prog W 33 AckR := by
  refine IsImpW.conv (IsImpW.struct (t := 33) (n := 5) Tryz.underlying33 (by rfl) (FI.cons (k := 1) (n := 4) rfl rfl impI (FI.cons (k := 1) (n := 3) rfl rfl impI (FI.cons (k := 1) (n := 2) rfl rfl impIs (FI.cons (k := 1) (n := 1) rfl rfl impRws (FI.cons (k := 1) (n := 0) rfl rfl impRcs FI.nil)))))) ?_ (fun h h' xs a ⟨h1, h2, h3⟩ hf => ⟨h1, h2.fr hf, h3⟩)
  rintro h xs ⟨no, task, O, Z, T, u⟩ ⟨u1, v1, rfl, h1, u2, v2, rfl, h2, u3, v3, rfl, h3, u4, v4, rfl, h4, u5, v5, rfl, h5, h6⟩
  obtain ⟨h3, b3⟩ := h3
  obtain ⟨oa, oc, e3, _⟩ := id h3
  simp only at e3
  rw [e3] at h3
  obtain ⟨a', c', e3', r3, n3, _⟩ := sl_rs (f := icell) icell.len (fun _ _ _ k => k.1) h3
  cases e3'
  obtain ⟨h4, b4⟩ := h4
  obtain ⟨ra, rc, e4, _⟩ := id h4
  simp only at e4
  rw [e4] at h4
  obtain ⟨a', c', e4', r4, n4, _⟩ := sl_rs (f := rcell) rcell.len (fun _ _ _ k => k.1) h4
  cases e4'
  obtain ⟨h5, b5⟩ := h5
  obtain ⟨ta, tc, e5, _⟩ := id h5
  simp only at e5
  rw [e5] at h5
  obtain ⟨a', c', e5', r5, n5, _⟩ := sl_rs (f := r2cell) r2cell.len (fun _ _ _ k => k) h5
  cases e5'
  refine ⟨⟨no, task, O, oa, oc, Z, ra, rc, T, ta, tc⟩, ?_, ⟨r3, n3, r4, n4, r5, n5⟩, fun r hr => ?_⟩
  · rw [h1.1, h2.1, e3, e4, e5, h6]; rfl
  · obtain ⟨ys, _, k⟩ := sl_each h4 r hr
    exact k
theorem impAcks : IsImpW enc Tryz.prog W 26 (SlRb Tryz.prog AckR 33) := IsImpW.slice (k := 4) (by rfl) (by rfl) impAck
end
theorem ints_arg {h : AHeap} {x : Value} {A : List Int} (hA : SlRb Tryz.prog (IntR .i64) 3 h [x] A) : ∃ a c, x = .slice a A.length c ∧ Rs icell 1 h a A ∧ (a = none → A = [] ∧ c = 0) ∧ A.length < 17592186045000 := by
  obtain ⟨h2, hb⟩ := hA
  rw [bytes3] at hb
  simp only [reachBytes] at hb
  obtain ⟨a, c, k1, k2, k3, _⟩ := sl_rs (f := icell) icell.len (fun _ _ _ k => k.1) h2
  exact ⟨a, c, k1, k2, k3, by omega⟩
theorem acks_arg {h : AHeap} {x : Value} {A : List AckX} (hA : SlRb Tryz.prog AckR 33 h [x] A) : ∃ a c, x = .slice a A.length c ∧ Rs AckX.cells 5 h a A ∧ A.length < 17592186044000 ∧ ∀ y ∈ A, AckRs h y ∧ ∀ r ∈ y.rows, (Lit.int .i64 r.1).wf = true := by
  obtain ⟨h2, hb⟩ := hA
  rw [bytesAck] at hb
  simp only [reachBytes] at hb
  obtain ⟨a, c, k1, k2, _⟩ := sl_rs (f := AckX.cells) AckX.len (fun _ _ _ k => k.1) h2
  refine ⟨a, c, k1, k2, by omega, fun y hy => ?_⟩
  obtain ⟨ys, _, k3, k4⟩ := sl_each h2 y hy
  exact ⟨k3, k4⟩
end Go.Proofs.Cd

namespace Go.Proofs.Cd
open Go Go.Ox
set_option maxRecDepth 100000
set_option maxHeartbeats 1000000
theorem oxLaw3 (s : Int × Option Addr × List OpX × Nat) (x : List Value) (P : List Int) (y : Value) (l : List AckX) (z : Value) (h : AHeap) (hs : SpecR h x s) (hp : SlRb Tryz.prog (IntR .i64) 3 h [y] P) (hl : SlRb Tryz.prog AckR 33 h [z] l) :
    wpF Tryz.prog (.fn 3) [.agg x.toArray, y, z] h fun v _ => v = .bool true := by
  obtain ⟨a, c, rfl, rp, np, bp⟩ := ints_arg hp
  obtain ⟨la, lc, rfl, rl, bl, rx⟩ := acks_arg hl
  obtain ⟨rfl, sp⟩ := hs
  exact whole_body s.1 s.2.1 s.2.2.2 s.2.2.1 a c P la lc l h sp rp np bp rl bl (fun x hx => (rx x hx).1) (fun x hx r hr => (rx x hx).2 r hr) _ fun _ _ => rfl
end Go.Proofs.Cd

