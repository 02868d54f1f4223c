/-
  A part of the proof: what functions of the program do on an abstract heap. CONDITIONS: none.
-/
import Derived.Test.YtcnlilnkbhefbaaGreatOxZMd
import Derived.Test.YtcnlilnkbhefbaaGreatOxGq
set_option linter.unusedSimpArgs false
set_option linter.unusedVariables false
namespace Go.Proofs
open Go Go.Ox
set_option maxRecDepth 100000
set_option maxHeartbeats 1000000
theorem cv_ui (n : Int) : aConv Tryz.prog 121 3 (.int .u64 n) = some (.int .i64 (IntKind.i64.wrap n)) := congrArg id (by rfl)
theorem refOf_ok (k g : Int) (h : AHeap) (K : Value → AHeap → Prop) (hk : K (.int .i64 (grp k g)) h) : wpF Tryz.prog (.fn 39) [.int .i64 k, .int .i64 g] h K := by
 refine wpF_fun 33 [.tmp 4] Tryz.func39 rfl rfl rfl rfl ?_
 refine sr (fun LL hLL => ?_)
 simp only [ptrTo, oxs, simprocAttr]
 refine hLL _ _ ?_
 by_cases h1 : g < 1
 ·refine wpC_seq (sr fun LL hLL => ?_)
  simp only [ptrTo, oxs, simprocAttr, eq_true h1]
  refine hLL _ _ ?_
  refine wpC_if ?_
  simp only [ptrTo, oxs, simprocAttr]
  refine sr (fun LL hLL => ?_)
  simp only [ptrTo, oxs, simprocAttr]
  refine hLL _ _ ?_
  refine wpC_ret (out_ret ?_)
  simp only [ptrTo, oxs, simprocAttr]
  have e : grp k g = 0 := by unfold grp; rw [if_pos (.inl h1)]
  rw [e] at hk
  exact hk
 by_cases h2 : 64 < g
 ·refine wpC_seq (sr fun LL hLL => ?_)
  simp only [ptrTo, oxs, simprocAttr, eq_false h1, eq_true h2]
  refine hLL _ _ ?_
  refine wpC_if ?_
  simp only [ptrTo, oxs, simprocAttr]
  refine sr (fun LL hLL => ?_)
  simp only [ptrTo, oxs, simprocAttr]
  refine hLL _ _ ?_
  refine wpC_ret (out_ret ?_)
  simp only [ptrTo, oxs, simprocAttr]
  have e : grp k g = 0 := by unfold grp; rw [if_pos (.inr h2)]
  rw [e] at hk
  exact hk
 refine wpC_seq (sr fun LL hLL => ?_)
 simp only [ptrTo, oxs, simprocAttr, eq_false h1, eq_false h2]
 refine hLL _ _ ?_
 refine wpC_if ?_
 simp only [ptrTo, oxs, simprocAttr]
 refine wpC_skip ?_
 simp only [ptrTo, oxs, simprocAttr]
 refine sr (fun LL hLL => ?_)
 simp only [ptrTo, oxs, simprocAttr]
 refine hLL _ _ ?_
 refine sr (fun LL hLL => ?_)
 simp only [ptrTo, oxs, simprocAttr, cv_iu]
 refine hLL _ _ ?_
 refine wpC_seq ?_
 refine sr (fun LL hLL => ?_)
 simp only [ptrTo, oxs, simprocAttr]
 refine hLL _ _ ?_
 refine fg8 (fun R => ?_)
 refine wpC_block ?_
 have hg : IntKind.u64.wrap g = g := by rw [wrap_u64E]; omega
 have hg' : IntKind.u32.wrap g = g := by rw [wrap_u32E]; omega
 obtain ⟨U0, hU0⟩ : ∃ U0 : Nat, IntKind.u64.wrap k = (U0 : Int) := ⟨(IntKind.u64.wrap k).toNat, by have := wrap_u64E k; omega⟩
 have hU1 : U0 < 18446744073709551616 := by have := wrap_u64E k; omega
 rw [hU0]
 refine wpC_loop (fun m T h' => ∃ (n H U : Nat) (u2 u3 u4 : Value) (R : List Value), h' = h ∧ m + n = 8 ∧ H < 4294967296 ∧ U < 18446744073709551616 ∧ fnv m H U = fnv 8 2166136261 (IntKind.u64.wrap k) ∧ T = .int .i64 k :: .int .i64 g :: u2 :: u3 :: u4 :: .int .u64 H :: .int .u64 U :: .int .i64 n :: R) ?_ 8 _ _ ⟨0, 2166136261, U0, _, _, _, R, rfl, by omega, by omega, hU1, by rw [hU0]; rfl, rfl⟩
 rintro m T h' ⟨n, H, U, u2, u3, u4, R, rfl, hm, hH, hU, hf, rfl⟩
 refine wpC_seq (sr fun LL hLL => ?_)
 simp only [ptrTo, oxs, simprocAttr]
 refine hLL _ _ ?_
 refine wpC_if ?_
 simp only [ptrTo, oxs, simprocAttr]
 refine gC_of (fun hc => ?_) (fun hc => ?_)
 ·refine wpC_skip ?_
  simp only [ptrTo, oxs, simprocAttr]
  refine fg8 (fun R => ?_)
  obtain ⟨m', rfl⟩ : ∃ m', m = m' + 1 := ⟨m - 1, by omega⟩
  obtain ⟨e1, e2⟩ := fnvH_mod H U hH hU
  obtain ⟨H', eH', hH'⟩ := fnvH_nat H U
  have hU' : (U : Int).fdiv 256 = ((U / 256 : Nat) : Int) := by rw [Int.fdiv_eq_ediv_of_nonneg _ (by omega)]; omega
  have hfn : fnv (m' + 1) H U = fnv m' H' ((U / 256 : Nat) : Int) := by rw [← eH', ← hU', fnv]
  refine wpC_seq (wpC_block ?_)
  refine sr (fun LL hLL => ?_)
  simp only [ptrTo, oxs, simprocAttr, aInt_xor, e1, eH']
  refine hLL _ _ ?_
  refine rg (fun LL hLL => ?_)
  simp only [ptrTo, oxs, simprocAttr, e2, hU']
  refine hLL _ _ ?_
  simp only [ptrTo, oxs, simprocAttr]
  refine fg8 (fun R => ?_)
  refine rg (fun LL hLL => ?_)
  simp only [ptrTo, oxs, simprocAttr, wsucc (show n < 9223372036854775807 by omega)]
  refine hLL _ _ ?_
  simp only [ptrTo, oxs, simprocAttr]
  exact ⟨m', by omega, n + 1, H', U / 256, _, _, _, _, by omega, by omega, by omega, by rw [← hfn]; exact hf, rfl⟩
 ·refine wpC_exit ?_
  simp only [ptrTo, oxs, simprocAttr]
  refine fg8 (fun R => ?_)
  obtain rfl : m = 0 := by omega
  have h3 : fnv 0 (H : Int) U = H := rfl
  rw [h3] at hf
  have e : grp k g = IntKind.i64.wrap ((H : Int).tmod g) := by unfold grp; rw [if_neg (by omega), hf, hg']
  refine sr (fun LL hLL => ?_)
  simp only [ptrTo, oxs, simprocAttr, cv_iu, hg, cv_ui, if_neg (show ¬ g = 0 by omega)]
  refine hLL _ _ ?_
  refine wpC_ret (out_ret ?_)
  simp only [ptrTo, oxs, simprocAttr]
  rw [e] at hk
  exact hk
theorem refOwner_ok {p g x : Int} (hp : 1 ≤ p) (hg : p ≤ g) (h64 : g ≤ 64) (h0 : 0 ≤ x) (hx : x < g) (h : AHeap) (K : Value → AHeap → Prop) (hk : K (.int .i64 (ownr p g x)) h) : wpF Tryz.prog (.fn 40) [.int .i64 x, .int .i64 p, .int .i64 g] h K := by
 refine wpF_fun 36 [.tmp 6] Tryz.func40 rfl rfl rfl rfl ?_
 refine sr (fun LL hLL => ?_)
 simp only [ptrTo, oxs, simprocAttr]
 refine hLL _ _ ?_
 refine wpC_seq (sr fun LL hLL => ?_)
 simp only [ptrTo, oxs, simprocAttr, eq_false (show ¬ g < 1 by omega), eq_false (show ¬ 64 < g by omega), eq_false (show ¬ p < 1 by omega), eq_false (show ¬ g < p by omega), eq_false (show ¬ x < 0 by omega), eq_false (show ¬ g ≤ x by omega)]
 refine hLL _ _ ?_
 refine wpC_if ?_
 simp only [ptrTo, oxs, simprocAttr]
 refine wpC_skip ?_
 simp only [ptrTo, oxs, simprocAttr]
 have h1 : x * p ≤ 64 * 64 := Int.mul_le_mul (by omega) (by omega) (by omega) (by omega)
 have h2 : 0 ≤ x * p := Int.mul_nonneg h0 (by omega)
 have hw : IntKind.i64.wrap (x * p) = x * p := wrap_i64 (by omega) (by omega)
 have ho := ownr_range hp h0 hx
 have hd : IntKind.i64.wrap ((x * p).tdiv g) = ownr p g x := by
  rw [Int.tdiv_eq_ediv_of_nonneg h2]
  exact wrap_i64 (by unfold ownr at ho; omega) (by unfold ownr at ho; omega)
 refine sr (fun LL hLL => ?_)
 simp only [ptrTo, oxs, simprocAttr, hw, hd, eq_false (show ¬ g = 0 by omega)]
 refine hLL _ _ ?_
 refine wpC_ret (out_ret ?_)
 simp only [ptrTo, oxs, simprocAttr]
 exact hk
end Go.Proofs

namespace Go.Proofs
open Go Go.Ox
set_option maxRecDepth 100000
set_option maxHeartbeats 1000000
/-- Does a key stand ahead of another one? -/
def slt (g a b : Int) : Bool := decide (grp a g < grp b g ∨ (grp a g = grp b g ∧ a < b))
theorem slt_iff {g a b : Int} : slt g a b = true ↔ (grp a g < grp b g ∨ (grp a g = grp b g ∧ a < b)) := by simp [slt]
theorem slt_trans {g a b c : Int} (h1 : slt g a b = true) (h2 : slt g b c = true) : slt g a c = true := by
 rw [slt_iff] at *; omega
theorem slt_irr {g a : Int} : ¬ slt g a a = true := by rw [slt_iff]; omega
theorem slt_tri {g a b : Int} (h1 : ¬ slt g a b = true) (h2 : a ≠ b) : slt g b a = true := by
 rw [slt_iff] at *
 have := h2
 omega
/-- Rows in order, each key once. -/
abbrev Srt (g : Int) (Q : List Rw) : Prop := Q.Pairwise fun x y => slt g x.1 y.1 = true
theorem rowsOf_srt {g : Int} {M : Tb} (ok : TbOk M) : Srt g (rowsOf g M) := by
 have h2 := keySort_sorted g (tbK M)
 have h3 : (keySort g (tbK M)).Nodup := (keySort_perm g (tbK M)).nodup_iff.2 ok.nd
 show List.Pairwise _ ((keySort g (tbK M)).map fun k => (k, tgt M k))
 rw [List.pairwise_map]
 refine List.pairwise_iff_getElem.2 fun i j hi hj hij => ?_
 have a := List.pairwise_iff_getElem.1 h2 i j hi hj hij
 have b := List.pairwise_iff_getElem.1 h3 i j hi hj hij
 rw [keyLe_iff] at a
 rw [slt_iff]
 show grp (keySort g (tbK M))[i] g < grp (keySort g (tbK M))[j] g ∨ (grp (keySort g (tbK M))[i] g = grp (keySort g (tbK M))[j] g ∧ (keySort g (tbK M))[i] < (keySort g (tbK M))[j])
 omega
/-- Rows in order that hold what a table holds are its rows. -/
theorem srt_rows {g : Int} {N : Tb} (ok : TbOk N) {Q : List Rw} (hs : Srt g Q) (hm : ∀ k, k ∈ Q.map (·.1) ↔ tgt N k ≠ (0, 0)) (hv : ∀ x ∈ Q, x.2 = tgt N x.1) : Q = rowsOf g N := by
 have hk : Q.map (·.1) = keySort g (tbK N) := by
  refine sorted_ext (g := g) ?_ (keySort_sorted g _) ?_ ((keySort_perm g _).nodup_iff.2 ok.nd) fun k => ?_
  ·rw [List.pairwise_map]
   refine hs.imp fun {a b} h => ?_
   rw [slt_iff] at h
   rw [keyLe_iff]; omega
  ·rw [List.Nodup, List.pairwise_map]
   refine hs.imp fun {a b} h e => ?_
   rw [e] at h
   exact slt_irr h
  ·rw [hm, (keySort_perm g _).mem_iff, ok.iff]
 show Q = (keySort g (tbK N)).map fun k => (k, tgt N k)
 rw [← hk, List.map_map]
 conv => lhs; rw [← List.map_id Q]
 refine List.map_congr_left fun x hx => ?_
 show x = (x.1, tgt N x.1)
 rw [← hv x hx]
theorem mem_rows {g : Int} {M : Tb} (ok : TbOk M) (k : Int) : k ∈ (rowsOf g M).map (·.1) ↔ tgt M k ≠ (0, 0) := by
 rw [rows_keys, (keySort_perm g _).mem_iff, ok.iff]
theorem val_rows {g : Int} {M : Tb} (x : Rw) (hx : x ∈ rowsOf g M) : x.2 = tgt M x.1 := by
 obtain ⟨k, hk, rfl⟩ := List.mem_map.1 hx; rfl
/-- What a Put's loop makes. -/
def putF (g key : Int) (c : Cl) : Bool → List Rw → List Rw
 | l, [] => if l = true then [] else [(key, c)]
 | l, x :: xs => (if l = false ∧ slt g key x.1 = true then [(key, c)] else []) ++ ((if x.1 = key then [] else [x]) ++ putF g key c (l || slt g key x.1) xs)
theorem putF_true (g key : Int) (c : Cl) : ∀ L : List Rw, putF g key c true L = L.filter fun x => decide (x.1 ≠ key)
 | [] => rfl
 | x :: xs => by
  simp only [putF, Bool.true_or]
  rw [putF_true g key c xs]
  by_cases h : x.1 = key <;> simp [h]
theorem putF_false (g key : Int) (c : Cl) : ∀ L : List Rw, Srt g L → putF g key c false L = (L.filter fun x => slt g x.1 key) ++ [(key, c)] ++ (L.filter fun x => slt g key x.1)
 | [], _ => rfl
 | x :: xs, h => by
  obtain ⟨h1, h2⟩ := List.pairwise_cons.1 h
  have ih := putF_false g key c xs h2
  by_cases hx : slt g key x.1 = true
  ·have hne : ¬ x.1 = key := by rintro e; rw [e] at hx; exact slt_irr hx
   have hall : ∀ y ∈ xs, slt g key y.1 = true := fun y hy => slt_trans hx (h1 y hy)
   have hno : ¬ slt g x.1 key = true := fun e => slt_irr (slt_trans e hx)
   have f1 : (xs.filter fun y => slt g y.1 key) = [] := List.filter_eq_nil_iff.2 fun y hy e => slt_irr (slt_trans e (hall y hy))
   have f2 : (xs.filter fun y => slt g key y.1) = xs := List.filter_eq_self.2 hall
   have f3 : (xs.filter fun y => decide (y.1 ≠ key)) = xs := List.filter_eq_self.2 fun y hy => by
    have := hall y hy
    simp only [ne_eq, decide_eq_true_eq]
    rintro e; rw [e] at this; exact slt_irr this
   have e1 : putF g key c false (x :: xs) = [(key, c)] ++ ([x] ++ putF g key c true xs) := by simp [putF, hx, hne]
   rw [e1, putF_true, f3, List.filter_cons, List.filter_cons, f1, f2]
   simp [hx, hno]
  ·have hxf : slt g key x.1 = false := by simpa using hx
   have e1 : putF g key c false (x :: xs) = (if x.1 = key then [] else [x]) ++ putF g key c false xs := by simp [putF, hxf]
   rw [e1, ih, List.filter_cons, List.filter_cons]
   by_cases he : x.1 = key
   ·have hno : slt g x.1 key = false := by rw [he]; simpa using slt_irr (g := g) (a := key)
    rw [if_pos he, hno, hxf]; rfl
   ·have hlt := slt_tri hx (fun e => he e.symm)
    rw [if_neg he, hlt, hxf]; rfl
theorem putF_rows {g : Int} {M : Tb} (ok : TbOk M) {key : Int} (hk : (Lit.int .i64 key).wf = true) (c : Cl) : putF g key c (decide (c = (0, 0))) (rowsOf g M) = rowsOf g (tpt M key c) := by
 have ok2 := ok.put hk c
 have hs := rowsOf_srt (g := g) ok
 refine srt_rows ok2 ?_ (fun k => ?_) fun x hx => ?_
 ·by_cases hc : c = (0, 0)
  ·rw [decide_eq_true hc, putF_true]; exact hs.filter _
  ·rw [decide_eq_false hc, putF_false g key c _ hs, List.append_assoc]
   refine List.pairwise_append.2 ⟨hs.filter _, ?_, fun a ha b hb => ?_⟩
   ·exact List.pairwise_cons.2 ⟨fun b hb => (List.mem_filter.1 hb).2, hs.filter _⟩
   ·have h1 : slt g a.1 key = true := (List.mem_filter.1 ha).2
    rcases List.mem_append.1 hb with hb | hb
    ·rw [List.mem_singleton] at hb; rw [hb]; exact h1
    ·exact slt_trans h1 (List.mem_filter.1 hb).2
 ·rw [ok.get_put]
  by_cases hc : c = (0, 0)
  ·rw [decide_eq_true hc, putF_true]
   have : k ∈ ((rowsOf g M).filter fun x => decide (x.1 ≠ key)).map (·.1) ↔ k ≠ key ∧ k ∈ (rowsOf g M).map (·.1) := by
    simp only [List.mem_map, List.mem_filter, decide_eq_true_eq]
    exact ⟨fun ⟨x, ⟨h1, h2⟩, e⟩ => ⟨e ▸ h2, x, h1, e⟩, fun ⟨h2, x, h1, e⟩ => ⟨x, ⟨h1, e ▸ h2⟩, e⟩⟩
   rw [this, mem_rows ok]
   by_cases hkk : k = key
   ·simp [hkk, hc]
   ·simp [hkk]
  ·rw [decide_eq_false hc, putF_false g key c _ hs]
   by_cases hkk : k = key
   ·rw [if_pos hkk]
    refine ⟨fun _ => hc, fun _ => ?_⟩
    rw [hkk]; simp
   ·rw [if_neg hkk, ← mem_rows (g := g) ok]
    simp only [List.map_append, List.mem_append, List.map_cons, List.map_nil, List.mem_singleton, hkk, or_false]
    constructor
    ·rintro (h | h)
     ·obtain ⟨x, hx, e⟩ := List.mem_map.1 h
      exact List.mem_map.2 ⟨x, (List.mem_filter.1 hx).1, e⟩
     ·obtain ⟨x, hx, e⟩ := List.mem_map.1 h
      exact List.mem_map.2 ⟨x, (List.mem_filter.1 hx).1, e⟩
    ·intro h
     obtain ⟨x, hx, e⟩ := List.mem_map.1 h
     by_cases hl : slt g key x.1 = true
     ·exact .inr (List.mem_map.2 ⟨x, List.mem_filter.2 ⟨hx, hl⟩, e⟩)
     ·exact .inl (List.mem_map.2 ⟨x, List.mem_filter.2 ⟨hx, slt_tri hl fun e2 => hkk (e ▸ e2.symm)⟩, e⟩)
 ·rw [ok.get_put]
  by_cases hc : c = (0, 0)
  ·rw [decide_eq_true hc, putF_true] at hx
   obtain ⟨h1, h2⟩ := List.mem_filter.1 hx
   rw [if_neg (by simpa using h2)]
   exact val_rows x h1
  ·rw [decide_eq_false hc, putF_false g key c _ hs] at hx
   have hcase : (x ∈ rowsOf g M ∧ x.1 ≠ key) ∨ x = (key, c) := by
    rcases List.mem_append.1 hx with hx | hx
    ·rcases List.mem_append.1 hx with hx | hx
     ·obtain ⟨h1, h2⟩ := List.mem_filter.1 hx
      exact .inl ⟨h1, fun e => by rw [e] at h2; exact slt_irr h2⟩
     ·exact .inr (by simpa using hx)
    ·obtain ⟨h1, h2⟩ := List.mem_filter.1 hx
     exact .inl ⟨h1, fun e => by rw [e] at h2; exact slt_irr h2⟩
   rcases hcase with ⟨h1, h2⟩ | rfl
   ·rw [if_neg h2]; exact val_rows x h1
   ·rw [if_pos rfl]
/-- What a Cut takes, and what it leaves. -/
def inG (g lo hi : Int) (x : Rw) : Bool := decide (lo ≤ grp x.1 g ∧ grp x.1 g < hi)
theorem cut_takes (g lo hi : Int) (M : Tb) : (rowsOf g M).filter (inG g lo hi) = rowK M (keysIn g lo hi M) := by
 unfold rowsOf rowK keysIn
 rw [List.filter_map]
 congr 1
 refine List.filter_congr fun k _ => ?_
 simp [inG]
theorem cut_leaves {g lo hi : Int} {M : Tb} (ok : TbOk M) : (rowsOf g M).filter (fun x => !inG g lo hi x) = rowsOf g (tcut M (keysIn g lo hi M)) := by
 have hin : ∀ k, k ∈ keysIn g lo hi M ↔ tgt M k ≠ (0, 0) ∧ lo ≤ grp k g ∧ grp k g < hi := fun k => by rw [mem_keysIn, ok.iff]
 refine srt_rows (ok.cut _) ((rowsOf_srt ok).filter _) (fun k => ?_) fun x hx => ?_
 ·rw [ok.get_cut]
  have : k ∈ ((rowsOf g M).filter fun x => !inG g lo hi x).map (·.1) ↔ ¬ (lo ≤ grp k g ∧ grp k g < hi) ∧ k ∈ (rowsOf g M).map (·.1) := by
   simp only [List.mem_map, List.mem_filter, inG, Bool.not_eq_true', decide_eq_false_iff_not]
   exact ⟨fun ⟨x, ⟨h1, h2⟩, e⟩ => ⟨e ▸ h2, x, h1, e⟩, fun ⟨h2, x, h1, e⟩ => ⟨x, ⟨h1, e ▸ h2⟩, e⟩⟩
  rw [this, mem_rows ok]
  by_cases hk : k ∈ keysIn g lo hi M
  ·rw [if_pos hk]
   have := (hin k).1 hk
   simp [this]
  ·rw [if_neg hk]
   rw [hin] at hk
   constructor
   ·exact fun h => h.2
   ·exact fun h => ⟨fun h2 => hk ⟨h, h2⟩, h⟩
 ·obtain ⟨h1, h2⟩ := List.mem_filter.1 hx
  rw [ok.get_cut, if_neg]
  ·exact val_rows x h1
  ·rw [hin]
   rintro ⟨_, h3⟩
   simp [inG, h3] at h2
end Go.Proofs

namespace Go.Proofs
open Go Go.Ox
set_option maxRecDepth 100000
set_option maxHeartbeats 2000000
/-- A reference's table in the heap. -/
def rtA (β : Nat) (g : Int) (M : Tb) : Asn := exs fun p : Option Addr × Nat => star [own β (.cells false 0 [.int .i64 g, .slice p.1 (rowsOf g M).length p.2] 120), wn rcell 3 52 p.1 p.2 (rowsOf g M)]
section
variable {h0 : AHeap} {F : List Asn} {β : Nat} {g : Int} {M : Tb}
theorem rtA_out {h : AHeap} (s : St h0 h (rtA β g M :: F)) : ∃ a c, St h0 h (own β (.cells false 0 [.int .i64 g, .slice a (rowsOf g M).length c] 120) :: wn rcell 3 52 a c (rowsOf g M) :: F) := by
 obtain ⟨p, s1⟩ := s.ex_out
 exact ⟨p.1, p.2, s1.star_out⟩
theorem rtA_in {h : AHeap} {a : Option Addr} {c : Nat} {Q : List Rw} (hQ : Q = rowsOf g M) (s : St h0 h (own β (.cells false 0 [.int .i64 g, .slice a Q.length c] 120) :: wn rcell 3 52 a c Q :: F)) : St h0 h (rtA β g M :: F) := by
 subst hQ
 exact St.ex_in (a, c) (St.star_in (l := [_, _]) s)
theorem rnew_ok (h : AHeap) (s : St h0 h F) (K : Value → AHeap → Prop) (hk : ∀ β h', St h0 h' (rtA β g [] :: F) → K (.pointer (some ⟨β, 0, none⟩)) h') : wpF Tryz.prog (.fn 38) [.int .i64 g] h K := by
 refine wpF_fun 6 [.tmp 2] Tryz.func38 rfl rfl rfl rfl ?_
 refine sr (fun LL hLL => ?_)
 simp only [ptrTo, oxs, simprocAttr]
 refine hLL _ _ ?_
 refine sr (fun LL hLL => ?_)
 simp only [ptrTo, oxs, simprocAttr]
 refine hLL _ _ ?_
 refine wpC_ret (out_ret ?_)
 simp only [ptrTo, oxs, simprocAttr]
 have s1 := (s.push (.cells false 0 [.int .i64 g, .slice none 0 0] 120))
 exact hk _ _ (rtA_in (M := []) (Q := []) rfl ((s1.wn_nil (f := rcell) (k := 3) (e := 52)).mv 1))
theorem rahead_ok {v : Value} {T : TypeId} (a b : Int) (h : AHeap) (hb : h.get β = some (.cells false 0 [.int .i64 g, v] T)) (K : Value → AHeap → Prop) (hk : K (.bool (slt g a b)) h) : wpF Tryz.prog (.fn 85) [.pointer (some ⟨β, 0, none⟩), .int .i64 a, .int .i64 b] h K := by
 refine wpF_fun 34 [.tmp 6] Tryz.func85 rfl rfl rfl rfl ?_
 refine sr (fun LL hLL => ?_)
 simp only [ptrTo, oxs, simprocAttr]
 refine hLL _ _ ?_
 refine sr (fun LL hLL => ?_)
 simp only [ptrTo, pend, pend0, Pd.old, pendU, pendU0, Nat.testBit, oxh, simprocAttr, hb]
 refine refOf_ok a g _ _ ?_
 simp only [ptrTo, pend, pend0, Pd.old, pendU, pendU0, Nat.testBit, oxh, simprocAttr]
 refine hLL _ _ ?_
 refine fg9 (fun R => ?_)
 refine sr (fun LL hLL => ?_)
 simp only [ptrTo, pend, pend0, Pd.old, pendU, pendU0, Nat.testBit, oxh, simprocAttr, hb]
 refine refOf_ok b g _ _ ?_
 simp only [ptrTo, pend, pend0, Pd.old, pendU, pendU0, Nat.testBit, oxh, simprocAttr]
 refine hLL _ _ ?_
 refine fg9 (fun R => ?_)
 have fin : ∀ d : Bool, (d = true ↔ (grp a g < grp b g ∨ (grp a g = grp b g ∧ a < b))) → K (.bool d) h := fun d hd => by
  have : d = slt g a b := by
   cases d
   ·exact (decide_eq_false fun e => by have := hd.2 e; cases this).symm
   ·exact (decide_eq_true (hd.1 rfl)).symm
  rw [this]; exact hk
 by_cases h1 : grp a g < grp b g
 ·refine sr (fun LL hLL => ?_)
  simp only [ptrTo, oxs, simprocAttr, eq_true h1]
  refine hLL _ _ ?_
  refine wpC_ret (out_ret ?_)
  simp only [ptrTo, oxs, simprocAttr]
  exact fin _ (by simp [h1])
 ·by_cases h2 : grp a g = grp b g
  ·by_cases h3 : a < b
   ·refine sr (fun LL hLL => ?_)
    simp only [ptrTo, oxs, simprocAttr, eq_false h1, eq_true h2, eq_true h3]
    refine hLL _ _ ?_
    refine wpC_ret (out_ret ?_)
    simp only [ptrTo, oxs, simprocAttr]
    exact fin _ (by simp [h2, h3])
   ·refine sr (fun LL hLL => ?_)
    simp only [ptrTo, oxs, simprocAttr, eq_false h1, eq_true h2, eq_false h3]
    refine hLL _ _ ?_
    refine wpC_ret (out_ret ?_)
    simp only [ptrTo, oxs, simprocAttr]
    exact fin _ (by simp [h2, h3])
  ·refine sr (fun LL hLL => ?_)
   simp only [ptrTo, oxs, simprocAttr, eq_false h1, eq_false h2]
   refine hLL _ _ ?_
   refine wpC_ret (out_ret ?_)
   simp only [ptrTo, oxs, simprocAttr]
   exact fin _ (by simp [h1, h2])
theorem rrows_ok (hM : M.length < 1000000000) (h : AHeap) (s : St h0 h (rtA β g M :: F)) (K : Value → AHeap → Prop) (hk : ∀ a c h', St h0 h' (wn rcell 3 52 a c (rowsOf g M) :: rtA β g M :: F) → K (.slice a (rowsOf g M).length c) h') :
  wpF Tryz.prog (.fn 47) [.pointer (some ⟨β, 0, none⟩)] h K := by
 obtain ⟨a, c, s1⟩ := rtA_out s
 have hl := rows_len g M
 have g1 := s1.get
 have hfst := wnFstR (s1.mv 1)
 have s2 := s1.wn_nil (f := rcell) (k := 3) (e := 52)
 obtain ⟨aE, cE, h2, y1, y2⟩ := s2.app (bytes := 24) (d := c) (M := rowsOf g M) rcell.len rcell.oc hfst (by simp; omega) (by simp; omega)
 rw [List.nil_append] at y1 y2
 refine wpF_fun 10 [.tmp 2] Tryz.func47 rfl rfl rfl rfl ?_
 refine sr (fun LL hLL => ?_)
 simp only [ptrTo, oxs, simprocAttr]
 refine hLL _ _ ?_
 refine sr (fun LL hLL => ?_)
 simp only [ptrTo, oxs, simprocAttr]
 refine hLL _ _ ?_
 refine sr (fun LL hLL => ?_)
 simp only [ptrTo, oxs, simprocAttr, g1]
 rw [show ([] : List Rw).length = 0 from rfl] at y1
 rw [y1]
 simp only [ptrTo, oxs, simprocAttr]
 refine hLL _ _ ?_
 refine wpC_ret (out_ret ?_)
 simp only [ptrTo, oxs, simprocAttr]
 exact hk _ _ _ ((rtA_in rfl (y2.mv 1 |>.sel 3 [0, 2, 1])).mv 1)
end
end Go.Proofs

namespace Go.Proofs
open Go Go.Ox
set_option maxRecDepth 100000
set_option maxHeartbeats 4000000
section
variable {h0 : AHeap} {F : List Asn} {β : Nat} {g : Int} {M : Tb}
theorem rput_ok (ok : TbOk M) (hM : M.length < 1000000) (key : Int) (hk : (Lit.int .i64 key).wf = true) (c : Cl) (h : AHeap) (s : St h0 h (rtA β g M :: F)) (K : Value → AHeap → Prop) (hK : ∀ h', St h0 h' (rtA β g (tpt M key c) :: F) → K (.tuple #[]) h') :
  wpF Tryz.prog (.fn 71) [.pointer (some ⟨β, 0, none⟩), .int .i64 key, clV c] h K := by
 have hput := putF_rows (g := g) ok hk c
 have hl := rows_len g M
 obtain ⟨a, ca, s0⟩ := rtA_out s
 obtain ⟨Q, eQ⟩ : ∃ Q, Q = rowsOf g M := ⟨_, rfl⟩
 rw [← eQ] at s0 hput hl
 unfold clV
 refine wpF_fun 74 [] Tryz.func71 rfl rfl rfl rfl ?_
 obtain ⟨bc, ebc⟩ : ∃ b, b = h.next := ⟨_, rfl⟩
 have s1 := s0.push (.cells false 0 [.int .i64 c.1, .int .i64 c.2] 50)
 obtain ⟨h1, e1⟩ : ∃ h1, h1 = h.push (.cells false 0 [.int .i64 c.1, .int .i64 c.2] 50) := ⟨_, rfl⟩
 rw [← e1, ← ebc] at s1
 refine sr (fun LL hLL => ?_)
 simp only [ptrTo, oxs, simprocAttr, ← e1, ← ebc]
 refine hLL _ _ ?_
 refine sr (fun LL hLL => ?_)
 simp only [ptrTo, oxs, simprocAttr]
 refine hLL _ _ ?_
 have gc := s1.get
 have s2 := s1.wn_nil (f := rcell) (k := 3) (e := 52)
 refine sr (fun LL hLL => ?_)
 simp only [ptrTo, oxs, simprocAttr, gc, eqCl]
 refine hLL _ _ ?_
 refine sm (fun T h' => ∃ (N : List Rw) (l : Bool) (b : Option Addr) (d : Nat) (u2 u3 u4 : Value) (R : List Value), N.length ≤ 2 * Q.length ∧ N ++ (if l = true then [] else [(key, c)]) = rowsOf g (tpt M key c) ∧ St h0 h' (wn rcell 3 52 b d N :: own bc (.cells false 0 [.int .i64 c.1, .int .i64 c.2] 50) :: own β (.cells false 0 [.int .i64 g, .slice a Q.length ca] 120) :: wn rcell 3 52 a ca Q :: F) ∧
  T = .pointer (some ⟨β, 0, none⟩) :: .int .i64 key :: u2 :: u3 :: u4 :: .pointer (some ⟨bc, 0, none⟩) :: .slice b N.length d :: .bool l :: R) ?_ ?_
 ·refine sr (fun LL hLL => ?_)
  simp only [ptrTo, oxs, simprocAttr]
  refine hLL _ _ ?_
  refine fg9 (fun R => ?_)
  refine wpC_block ?_
  refine wpC_loop (fun m T h' => ∃ (i : Nat) (N : List Rw) (l : Bool) (b : Option Addr) (d : Nat) (u2 u3 u4 : Value) (R : List Value), m + i = Q.length ∧ N.length ≤ 2 * i ∧ N ++ putF g key c l (Q.drop i) = rowsOf g (tpt M key c) ∧ St h0 h' (wn rcell 3 52 b d N :: own bc (.cells false 0 [.int .i64 c.1, .int .i64 c.2] 50) :: own β (.cells false 0 [.int .i64 g, .slice a Q.length ca] 120) :: wn rcell 3 52 a ca Q :: F) ∧
   T = .pointer (some ⟨β, 0, none⟩) :: .int .i64 key :: u2 :: u3 :: u4 :: .pointer (some ⟨bc, 0, none⟩) :: .slice b N.length d :: .bool l :: .int .i64 i :: R) ?_ Q.length _ _ ⟨0, [], decide (c = (0, 0)), none, 0, _, _, _, R, by omega, by simp, hput, s2, rfl⟩
  rintro m T h' ⟨i, N, l, b, d, u2, u3, u4, R, hmi, hN, hp, s3, rfl⟩
  have gb := (s3.mv 2).get
  refine wpC_seq (sr fun LL hLL => ?_)
  simp only [ptrTo, oxs, simprocAttr, gb]
  refine hLL _ _ ?_
  refine wpC_if ?_
  simp only [ptrTo, oxs, simprocAttr]
  refine gC_of (fun hc => ?_) (fun hc => ?_)
  ·refine wpC_skip ?_
   simp only [ptrTo, oxs, simprocAttr]
   refine fg9 (fun R => ?_)
   have hi : i < Q.length := by omega
   obtain ⟨x, ex⟩ : ∃ x, x = Q[i] := ⟨_, rfl⟩
   have hdr : Q.drop i = x :: Q.drop (i + 1) := by rw [ex]; exact List.drop_eq_getElem_cons hi
   rw [hdr, putF] at hp
   have zz : aZeros [.int .i64 0, .int .i64 0, .int .i64 0] 1 = [.int .i64 0, .int .i64 0, .int .i64 0] := rfl
   refine wpC_seq (wpC_block ?_)
   refine sm (fun T h' => ∃ (N' : List Rw) (b : Option Addr) (d : Nat) (u2 u3 u4 : Value) (R : List Value), N' = N ++ (if l = false ∧ slt g key x.1 = true then [(key, c)] else []) ∧ St h0 h' (wn rcell 3 52 b d N' :: own bc (.cells false 0 [.int .i64 c.1, .int .i64 c.2] 50) :: own β (.cells false 0 [.int .i64 g, .slice a Q.length ca] 120) :: wn rcell 3 52 a ca Q :: F) ∧
    T = .pointer (some ⟨β, 0, none⟩) :: .int .i64 key :: u2 :: u3 :: u4 :: .pointer (some ⟨bc, 0, none⟩) :: .slice b N'.length d :: .bool (l || slt g key x.1) :: .int .i64 i :: R) ?_ ?_
   ·obtain ⟨bq, oq, roq, szq, Cq, Tq, eq, pq, gq, rq, qq⟩ := ((s3.mv 3).rs rcell.len).resolve_left (by rintro rfl; simp at hi)
    have w1 : Cq[oq + i * 3]? = some (.int .i64 Q[i].1) := Rs.cell rcell.len rq qq i hi 0 (by omega)
    rw [← ex] at w1
    have gb1 := gb
    rw [eq] at gb1
    cases l with
    | true =>
     refine sr (fun LL hLL => ?_)
     simp only [ptrTo, oxs, simprocAttr]
     refine hLL _ _ ?_
     refine wpC_if ?_
     simp only [ptrTo, oxs, simprocAttr]
     refine wpC_skip ?_
     simp only [ptrTo, oxs, simprocAttr]
     exact ⟨N, b, d, _, _, _, _, by simp, s3, rfl⟩
    | false =>
     refine sr (fun LL hLL => ?_)
     simp only [ptrTo, pend, pend0, Pd.old, pendU, pendU0, Nat.testBit, oxh, simprocAttr, gb1, ixF hi, gq, w1]
     refine rahead_ok key x.1 _ gb _ ?_
     simp only [ptrTo, pend, pend0, Pd.old, pendU, pendU0, Nat.testBit, oxh, simprocAttr, gb1, ixF hi, gq, w1]
     refine hLL _ _ ?_
     cases hs : slt g key x.1 with
     | false =>
      refine wpC_if ?_
      simp only [ptrTo, oxs, simprocAttr]
      refine wpC_skip ?_
      simp only [ptrTo, oxs, simprocAttr]
      exact ⟨N, b, d, _, _, _, _, by simp, s3, rfl⟩
     | true =>
      refine wpC_if ?_
      simp only [ptrTo, oxs, simprocAttr]
      have gc3 := (s3.mv 1).get
      obtain ⟨aE, cE, h5, y1, y2⟩ := s3.app1 (bytes := 24) (key, c) rcell.len rcell.oc (by omega) (by omega)
      have y1' := y1
      simp only [rcell] at y1'
      refine sr (fun LL hLL => ?_)
      simp only [ptrTo, oxs, simprocAttr, gc3, zz]
      rw [y1']
      simp only [ptrTo, oxs, simprocAttr]
      refine hLL _ _ ?_
      refine rg (fun LL hLL => ?_)
      simp only [ptrTo, oxs, simprocAttr]
      refine hLL _ _ ?_
      simp only [ptrTo, oxs, simprocAttr]
      rw [show N.length + 1 = (N ++ [(key, c)]).length by simp]
      exact ⟨N ++ [(key, c)], aE, cE, _, _, _, _, by simp, y2, rfl⟩
   rintro T h5 ⟨N', b', d', u2, u3, u4, R, hN', s4, rfl⟩
   have hN2 : N'.length ≤ 2 * i + 1 := by
    rw [hN', List.length_append]
    split <;> simp <;> omega
   have gb := (s4.mv 2).get
   obtain ⟨bq, oq, roq, szq, Cq, Tq, eq, pq, gq, rq, qq⟩ := ((s4.mv 3).rs rcell.len).resolve_left (by rintro rfl; simp at hi)
   obtain ⟨wq, xq⟩ := Rs.row rcell.len rq qq i hi
   have w1 : Cq[oq + i * 3]? = some (.int .i64 Q[i].1) := Rs.cell rcell.len rq qq i hi 0 (by omega)
   rw [← ex] at wq w1
   have gb1 := gb
   rw [eq] at gb1
   by_cases hx : x.1 = key
   ·refine sr (fun LL hLL => ?_)
    simp only [ptrTo, oxs, simprocAttr, gb1, ixF hi, gq, w1, eq_true hx, not_true_eq_false]
    refine hLL _ _ ?_
    refine wpC_if ?_
    simp only [ptrTo, oxs, simprocAttr]
    refine wpC_skip ?_
    simp only [ptrTo, oxs, simprocAttr]
    refine fg9 (fun R => ?_)
    refine rg (fun LL hLL => ?_)
    simp only [ptrTo, oxs, simprocAttr, wsucc (show i < 9223372036854775807 by omega)]
    refine hLL _ _ ?_
    simp only [ptrTo, oxs, simprocAttr]
    refine ⟨m - 1, by omega, i + 1, N', l || slt g key x.1, b', d', _, _, _, _, by omega, by omega, ?_, s4, rfl⟩
    rw [← hp, hN', if_pos hx]; simp
   ·refine sr (fun LL hLL => ?_)
    simp only [ptrTo, oxs, simprocAttr, gb1, ixF hi, gq, w1, eq_false hx, not_false_eq_true]
    refine hLL _ _ ?_
    refine wpC_if ?_
    simp only [ptrTo, oxs, simprocAttr]
    obtain ⟨aE, cE, h6, y1, y2⟩ := s4.app1 (bytes := 24) x rcell.len rcell.oc (by omega) (by omega)
    have y1' := y1
    simp only [rcell] at y1'
    refine rg (fun LL hLL => ?_)
    simp only [ptrTo, oxs, simprocAttr, gb1, ixF hi, gq, wq, xq, rcell.len, rcell, zz]
    rw [y1']
    simp only [ptrTo, oxs, simprocAttr]
    refine hLL _ _ ?_
    simp only [ptrTo, oxs, simprocAttr]
    refine fg9 (fun R => ?_)
    refine rg (fun LL hLL => ?_)
    simp only [ptrTo, oxs, simprocAttr, wsucc (show i < 9223372036854775807 by omega)]
    refine hLL _ _ ?_
    simp only [ptrTo, oxs, simprocAttr]
    rw [show N'.length + 1 = (N' ++ [x]).length by simp]
    refine ⟨m - 1, by omega, i + 1, N' ++ [x], l || slt g key x.1, aE, cE, _, _, _, _, by omega, by simp; omega, ?_, y2, rfl⟩
    rw [← hp, hN', if_neg hx]; simp
  ·have : i = Q.length := by omega
   subst this
   rw [List.drop_length, putF] at hp
   refine wpC_exit ?_
   simp only [ptrTo, oxs, simprocAttr]
   exact ⟨N, l, b, d, _, _, _, _, hN, hp, s3, rfl⟩
 rintro T h' ⟨N, l, b, d, u2, u3, u4, R, hN, hp, s3, rfl⟩
 have zz : aZeros [.int .i64 0, .int .i64 0, .int .i64 0] 1 = [.int .i64 0, .int .i64 0, .int .i64 0] := rfl
 have fin : ∀ (N' : List Rw) (b : Option Addr) (d : Nat) (h' : AHeap), N' = rowsOf g (tpt M key c) → St h0 h' (wn rcell 3 52 b d N' :: own bc (.cells false 0 [.int .i64 c.1, .int .i64 c.2] 50) :: own β (.cells false 0 [.int .i64 g, .slice b N'.length d] 120) :: wn rcell 3 52 a ca Q :: F) → K (.tuple #[]) h' := fun N' b d h' hN' s => by
  have s9 := (s).sel 4 [2, 0]
  simp only [oxf] at s9
  exact hK _ (rtA_in hN' s9)
 cases l with
 | true =>
  rw [if_pos rfl, List.append_nil] at hp
  refine wpC_seq (sr fun LL hLL => ?_)
  simp only [ptrTo, oxs, simprocAttr]
  refine hLL _ _ ?_
  refine wpC_if ?_
  simp only [ptrTo, oxs, simprocAttr]
  refine wpC_skip ?_
  simp only [ptrTo, oxs, simprocAttr]
  have gb := (s3.mv 2).get
  refine rg (fun LL hLL => ?_)
  simp only [ptrTo, oxs, simprocAttr, gb]
  refine hLL _ _ ?_
  refine out_normal ?_
  simp only [ptrTo, oxs, simprocAttr]
  have s5 := (s3.mv 2).set (.cells false 0 [.int .i64 g, .slice b N.length d] 120)
  have s4 := (s5).sel 4 [1, 2, 0, 3]
  simp only [oxf] at s4
  exact fin _ _ _ _ hp s4
 | false =>
  rw [if_neg (by simp)] at hp
  refine wpC_seq (sr fun LL hLL => ?_)
  simp only [ptrTo, oxs, simprocAttr]
  refine hLL _ _ ?_
  refine wpC_if ?_
  simp only [ptrTo, oxs, simprocAttr]
  have gc3 := (s3.mv 1).get
  obtain ⟨aE, cE, h5, y1, y2⟩ := s3.app1 (bytes := 24) (key, c) rcell.len rcell.oc (by omega) (by omega)
  have y1' := y1
  simp only [rcell] at y1'
  refine rg (fun LL hLL => ?_)
  simp only [ptrTo, oxs, simprocAttr, gc3, zz]
  rw [y1']
  simp only [ptrTo, oxs, simprocAttr]
  refine hLL _ _ ?_
  simp only [ptrTo, oxs, simprocAttr]
  have gb := (y2.mv 2).get
  refine rg (fun LL hLL => ?_)
  simp only [ptrTo, oxs, simprocAttr, gb]
  refine hLL _ _ ?_
  refine out_normal ?_
  simp only [ptrTo, oxs, simprocAttr]
  rw [show N.length + 1 = (N ++ [(key, c)]).length by simp]
  have s5 := (y2.mv 2).set (.cells false 0 [.int .i64 g, .slice aE (N ++ [(key, c)]).length cE] 120)
  have s4 := (s5).sel 4 [1, 2, 0, 3]
  simp only [oxf] at s4
  exact fin _ _ _ _ hp s4
theorem rlay_ok (ok : TbOk M) (a : Option Addr) (c : Nat) (L : List Rw) (hw : ∀ r ∈ L, (Lit.int .i64 r.1).wf = true) (h : AHeap) (s : St h0 h (rtA β g M :: F)) (r : Rd h0 F rcell 3 a L) (hl : M.length + L.length < 1000000) (K : Value → AHeap → Prop)
  (hk : ∀ h', St h0 h' (rtA β g (tlay M L) :: F) → K (.tuple #[]) h') : wpF Tryz.prog (.fn 41) [.pointer (some ⟨β, 0, none⟩), .slice a L.length c] h K := by
 refine wpF_fun 23 [] Tryz.func41 rfl rfl rfl rfl ?_
 refine sr (fun LL hLL => ?_)
 simp only [ptrTo, oxs, simprocAttr]
 refine hLL _ _ ?_
 refine fg5 (fun R => ?_)
 refine wpC_block ?_
 refine wpC_loop (fun k T h' => ∃ (i : Nat) (u2 u3 : Value) (R : List Value), k + i = L.length ∧ St h0 h' (rtA β g (tlay M (L.take i)) :: F) ∧ T = .pointer (some ⟨β, 0, none⟩) :: .slice a L.length c :: u2 :: u3 :: .int .i64 i :: R) ?_ L.length _ _ ⟨0, _, _, R, by omega, s, rfl⟩
 rintro k T h' ⟨i, u2, u3, R, hi, s1, rfl⟩
 refine wpC_seq (sr fun LL hLL => ?_)
 simp only [ptrTo, oxs, simprocAttr]
 refine hLL _ _ ?_
 refine wpC_if ?_
 simp only [ptrTo, oxs, simprocAttr]
 refine gC_of (fun hc => ?_) (fun hc => ?_)
 ·refine wpC_skip ?_
  simp only [ptrTo, oxs, simprocAttr]
  refine fg5 (fun R => ?_)
  have hi' : i < L.length := by omega
  have hne : L ≠ [] := by rintro rfl; simp at hi'
  have ht : L.take (i + 1) = L.take i ++ [L[i]] := List.take_succ_eq_append_getElem hi'
  have okT : TbOk (tlay M (L.take i)) := ok.lay fun r hr => hw r (List.mem_of_mem_take hr)
  have hlT := tlay_few M (L.take i)
  rw [List.length_take] at hlT
  obtain ⟨b1, o1, ro1, sz1, C1, e1, rfl, p1, g1, r1, q1⟩ := (r _ s1.drop).resolve_left hne
  obtain ⟨w1, x1⟩ := Rs.row rcell.len r1 q1 i hi'
  have v1 : C1[o1 + i * 3]? = some (.int .i64 L[i].1) := Rs.cell rcell.len r1 q1 i hi' 0 (by omega)
  have w4 := row_sub (j := 1) (m := 2) w1 (by omega)
  rw [show ((rcell L[i]).drop 1).take 2 = [.int .i64 L[i].2.1, .int .i64 L[i].2.2] from rfl] at w4
  refine wpC_seq (wpC_block ?_)
  refine du [some 11, some 12, some 13, some 14, some 15, some 16, some 17, some 18, some 19, some 20, some 21, some 22] 12 [0, 0, 0, 6, 14, 30, 0, 0, 192, 448, 960, 2047] (by rfl) (by rfl) (by decide +kernel) (by decide +kernel) (by decide +kernel) (fun LL hLL => ?_)
  simp only [ptrTo, pend, pend0, Pd.old, pendU, pendU0, Nat.testBit, oxh, simprocAttr, ixF hi', g1, v1, w4, eq_true (show o1 + i * 3 + 1 + 2 ≤ C1.length by omega)]
  refine rput_ok okT (by omega) L[i].1 (hw _ (List.getElem_mem hi')) L[i].2 _ s1 _ fun h7 s7 => ?_
  obtain ⟨b2, o2, ro2, sz2, C2, e2, q2, p2, g2, r2, q3⟩ := (r _ s7.drop).resolve_left hne
  cases q2
  have v2 : C2[o1 + i * 3]? = some (.int .i64 L[i].1) := Rs.cell rcell.len r2 q3 i hi' 0 (by omega)
  obtain ⟨w2, x2⟩ := Rs.row rcell.len r2 q3 i hi'
  have w5 := row_sub (j := 1) (m := 2) w2 (by omega)
  rw [show ((rcell L[i]).drop 1).take 2 = [.int .i64 L[i].2.1, .int .i64 L[i].2.2] from rfl] at w5
  have vc : ∀ x y : Int, veq 6 (.agg #[.int .i64 x, .int .i64 y]) (.agg #[.int .i64 x, .int .i64 y]) = true := fun x y => by simp [veq]
  simp only [ptrTo, pend, pend0, Pd.old, pendU, pendU0, Nat.testBit, oxh, simprocAttr, ixF hi', g1, v1, w4, g2, v2, w5, eq_true (show o1 + i * 3 + 1 + 2 ≤ C1.length by omega), eq_true (show o1 + i * 3 + 1 + 2 ≤ C2.length by omega), vc]
  refine hLL _ _ ?_
  simp only [ptrTo, oxs, simprocAttr]
  refine fg5 (fun R => ?_)
  refine rg (fun LL hLL => ?_)
  simp only [ptrTo, oxs, simprocAttr, wsucc (show i < 9223372036854775807 by omega)]
  refine hLL _ _ ?_
  simp only [ptrTo, oxs, simprocAttr]
  exact ⟨k - 1, by omega, i + 1, _, _, _, by omega, by rw [ht]; unfold tlay; rw [List.foldl_append]; exact s7, rfl⟩
 ·have hil : i = L.length := by omega
  subst hil
  refine wpC_exit ?_
  simp only [ptrTo, oxs, simprocAttr]
  refine out_normal ?_
  simp only [ptrTo, oxs, simprocAttr]
  rw [List.take_length] at s1
  exact hk _ s1
end
end Go.Proofs

namespace Go.Proofs
open Go Go.Ox
set_option maxRecDepth 100000
set_option maxHeartbeats 4000000
section
variable {h0 : AHeap} {F : List Asn} {β : Nat} {g : Int} {M : Tb}
theorem rcut_ok (lo hi : Int) (ok : TbOk M) (hM : M.length < 1000000) (h : AHeap) (s : St h0 h (rtA β g M :: F)) (K : Value → AHeap → Prop)
  (hK : ∀ a c h', St h0 h' (wn rcell 3 52 a c (rowK M (keysIn g lo hi M)) :: rtA β g (tcut M (keysIn g lo hi M)) :: F) → K (.slice a (rowK M (keysIn g lo hi M)).length c) h') :
  wpF Tryz.prog (.fn 53) [.pointer (some ⟨β, 0, none⟩), .int .i64 lo, .int .i64 hi] h K := by
 have e1 := cut_takes g lo hi M
 have e2 := cut_leaves (g := g) (lo := lo) (hi := hi) ok
 have hl := rows_len g M
 obtain ⟨a, ca, s0⟩ := rtA_out s
 obtain ⟨Q, eQ⟩ : ∃ Q, Q = rowsOf g M := ⟨_, rfl⟩
 rw [← eQ] at s0 hl e1 e2
 obtain ⟨pI, epI⟩ : ∃ p, p = inG g lo hi := ⟨_, rfl⟩
 rw [← epI] at e1 e2
 have hpI : ∀ x, pI x = decide (lo ≤ grp x.1 g ∧ grp x.1 g < hi) := fun x => by rw [epI]; rfl
 have s1 := (s0.wn_nil (f := rcell) (k := 3) (e := 52)).wn_nil (f := rcell) (k := 3) (e := 52)
 refine wpF_fun 66 [.tmp 6] Tryz.func53 rfl rfl rfl rfl ?_
 refine sr (fun LL hLL => ?_)
 simp only [ptrTo, oxs, simprocAttr]
 refine hLL _ _ ?_
 refine sr (fun LL hLL => ?_)
 simp only [ptrTo, oxs, simprocAttr]
 refine hLL _ _ ?_
 refine sr (fun LL hLL => ?_)
 simp only [ptrTo, oxs, simprocAttr]
 refine hLL _ _ ?_
 refine sm (fun T h' => ∃ (b b' : Option Addr) (d d' : Nat) (u3 u4 u5 u6 : Value) (R : List Value), St h0 h' (wn rcell 3 52 b d (Q.filter pI) :: wn rcell 3 52 b' d' (Q.filter fun x => !pI x) :: own β (.cells false 0 [.int .i64 g, .slice a Q.length ca] 120) :: wn rcell 3 52 a ca Q :: F) ∧
  T = .pointer (some ⟨β, 0, none⟩) :: .int .i64 lo :: .int .i64 hi :: u3 :: u4 :: u5 :: u6 :: .slice b (Q.filter pI).length d :: .slice b' (Q.filter fun x => !pI x).length d' :: R) ?_ ?_
 ·refine sr (fun LL hLL => ?_)
  simp only [ptrTo, oxs, simprocAttr]
  refine hLL _ _ ?_
  refine fg10 (fun R => ?_)
  refine wpC_block ?_
  refine wpC_loop (fun m T h' => ∃ (i : Nat) (b b' : Option Addr) (d d' : Nat) (u3 u4 u5 u6 : Value) (R : List Value), m + i = Q.length ∧ St h0 h' (wn rcell 3 52 b d ((Q.take i).filter pI) :: wn rcell 3 52 b' d' ((Q.take i).filter fun x => !pI x) :: own β (.cells false 0 [.int .i64 g, .slice a Q.length ca] 120) :: wn rcell 3 52 a ca Q :: F) ∧
   T = .pointer (some ⟨β, 0, none⟩) :: .int .i64 lo :: .int .i64 hi :: u3 :: u4 :: u5 :: u6 :: .slice b ((Q.take i).filter pI).length d :: .slice b' ((Q.take i).filter fun x => !pI x).length d' :: .int .i64 i :: R) ?_ Q.length _ _ ⟨0, none, none, 0, 0, _, _, _, _, R, by omega, s1, rfl⟩
  rintro m T h' ⟨i, b, b', d, d', u3, u4, u5, u6, R, hmi, s2, rfl⟩
  have gb := (s2.mv 2).get
  refine wpC_seq (sr fun LL hLL => ?_)
  simp only [ptrTo, oxs, simprocAttr, gb]
  refine hLL _ _ ?_
  refine wpC_if ?_
  simp only [ptrTo, oxs, simprocAttr]
  refine gC_of (fun hc => ?_) (fun hc => ?_)
  ·refine wpC_skip ?_
   simp only [ptrTo, oxs, simprocAttr]
   refine fg10 (fun R => ?_)
   have hi' : i < Q.length := by omega
   obtain ⟨x, ex⟩ : ∃ x, x = Q[i] := ⟨_, rfl⟩
   have ht : Q.take (i + 1) = Q.take i ++ [x] := by rw [ex]; exact List.take_succ_eq_append_getElem hi'
   have hn1 : ((Q.take i).filter pI).length ≤ i := Nat.le_trans (List.length_filter_le ..) (by rw [List.length_take]; omega)
   have hn2 : ((Q.take i).filter fun x => !pI x).length ≤ i := Nat.le_trans (List.length_filter_le ..) (by rw [List.length_take]; omega)
   have zz : aZeros [.int .i64 0, .int .i64 0, .int .i64 0] 1 = [.int .i64 0, .int .i64 0, .int .i64 0] := rfl
   obtain ⟨bq, oq, roq, szq, Cq, Tq, eq, pq, gq, rq, qq⟩ := ((s2.mv 3).rs rcell.len).resolve_left (by rintro rfl; simp at hi')
   obtain ⟨wq, xq⟩ := Rs.row rcell.len rq qq i hi'
   have w1 : Cq[oq + i * 3]? = some (.int .i64 Q[i].1) := Rs.cell rcell.len rq qq i hi' 0 (by omega)
   rw [← ex] at wq w1
   have gb1 := gb
   rw [eq] at gb1
   have sv : ∀ (a : Option Addr) (m n : Nat), veq 6 (.slice a m n) (.slice a m n) = true := by intro a m n; simp [veq]
   refine wpC_seq (wpC_block ?_)
   refine su [some 20, some 21, some 22, some 23, some 24, some 25, some 26, some 27, some 28, some 29, some 30, some 31, some 32, some 10] 14 [0, 1, 3, 7, 0, 31, 63, 127, 0, 256, 768, 1792, 4095, 8191] (by rfl) (by rfl) (by decide +kernel) (by decide +kernel) (by decide +kernel) (fun LL hLL => ?_)
   simp only [ptrTo, pend, pend0, Pd.old, pendU, pendU0, Nat.testBit, oxh, simprocAttr, gb1, ixF hi', gq, w1, sv]
   refine refOf_ok x.1 g _ _ ?_
   simp only [ptrTo, pend, pend0, Pd.old, pendU, pendU0, Nat.testBit, oxh, simprocAttr, gb1, ixF hi', gq, w1, sv]
   refine hLL _ _ ?_
   refine xp10 1 (by repeat (first | exact tput_le _ _ _ _ (.inr (by omega)) | refine tput_le _ _ _ _ (.inl ?_))) (fun R => ?_)
   simp only [ptrTo, oxs, simprocAttr, show List.range 1 = [0] from rfl]
   refine fg11 (fun R => ?_)
   have step : ∀ p : Bool, p = pI x → (p = true → lo ≤ grp x.1 g ∧ grp x.1 g < hi) ∧ (p = false → ¬ (lo ≤ grp x.1 g ∧ grp x.1 g < hi)) := fun p hp => by
    rw [hpI] at hp
    exact ⟨fun h => of_decide_eq_true (hp ▸ h), fun h => of_decide_eq_false (hp ▸ h)⟩
   cases hp : pI x with
   | true =>
    obtain ⟨h1, h2⟩ := (step _ hp.symm).1 rfl
    have f1 : (Q.take (i + 1)).filter pI = (Q.take i).filter pI ++ [x] := by rw [ht, List.filter_append]; simp [hp]
    have f2 : ((Q.take (i + 1)).filter fun x => !pI x) = (Q.take i).filter fun x => !pI x := by rw [ht, List.filter_append]; simp [hp]
    refine sr (fun LL hLL => ?_)
    simp only [ptrTo, oxs, simprocAttr, eq_true h1, eq_true h2]
    refine hLL _ _ ?_
    refine wpC_if ?_
    simp only [ptrTo, oxs, simprocAttr]
    obtain ⟨aE, cE, h6, y1, y2⟩ := s2.app1 (bytes := 24) x rcell.len rcell.oc (by omega) (by omega)
    have y1' := y1
    simp only [rcell] at y1'
    refine rg (fun LL hLL => ?_)
    simp only [ptrTo, oxs, simprocAttr, gb1, ixF hi', gq, wq, xq, rcell.len, rcell, zz]
    rw [y1']
    simp only [ptrTo, oxs, simprocAttr]
    refine hLL _ _ ?_
    simp only [ptrTo, oxs, simprocAttr]
    refine fg10 (fun R => ?_)
    refine rg (fun LL hLL => ?_)
    simp only [ptrTo, oxs, simprocAttr, wsucc (show i < 9223372036854775807 by omega)]
    refine hLL _ _ ?_
    simp only [ptrTo, oxs, simprocAttr]
    rw [show ((Q.take i).filter pI).length + 1 = ((Q.take (i + 1)).filter pI).length by rw [f1]; simp, ← f2]
    rw [← f1, ← f2] at y2
    exact ⟨m - 1, by omega, i + 1, aE, b', cE, d', _, _, _, _, _, by omega, y2, rfl⟩
   | false =>
    have h1 := (step _ hp.symm).2 rfl
    have f1 : (Q.take (i + 1)).filter pI = (Q.take i).filter pI := by rw [ht, List.filter_append]; simp [hp]
    have f2 : ((Q.take (i + 1)).filter fun x => !pI x) = ((Q.take i).filter fun x => !pI x) ++ [x] := by rw [ht, List.filter_append]; simp [hp]
    by_cases h3 : lo ≤ grp x.1 g
    ·refine sr (fun LL hLL => ?_)
     simp only [ptrTo, oxs, simprocAttr, eq_true h3, eq_false (show ¬ grp x.1 g < hi from fun h => h1 ⟨h3, h⟩)]
     refine hLL _ _ ?_
     refine wpC_if ?_
     simp only [ptrTo, oxs, simprocAttr]
     obtain ⟨aE, cE, h6, y1, y2⟩ := (s2.mv 1).app1 (bytes := 24) x rcell.len rcell.oc (by omega) (by omega)
     have y1' := y1
     simp only [rcell] at y1'
     refine rg (fun LL hLL => ?_)
     simp only [ptrTo, oxs, simprocAttr, gb1, ixF hi', gq, wq, xq, rcell.len, rcell, zz]
     rw [y1']
     simp only [ptrTo, oxs, simprocAttr]
     refine hLL _ _ ?_
     simp only [ptrTo, oxs, simprocAttr]
     refine fg10 (fun R => ?_)
     refine rg (fun LL hLL => ?_)
     simp only [ptrTo, oxs, simprocAttr, wsucc (show i < 9223372036854775807 by omega)]
     refine hLL _ _ ?_
     simp only [ptrTo, oxs, simprocAttr]
     rw [show ((Q.take i).filter fun x => !pI x).length + 1 = ((Q.take (i + 1)).filter fun x => !pI x).length by rw [f2]; simp, ← f1]
     rw [← f2, ← f1] at y2
     exact ⟨m - 1, by omega, i + 1, b, aE, d, cE, _, _, _, _, _, by omega, y2.mv 1, rfl⟩
    ·refine sr (fun LL hLL => ?_)
     simp only [ptrTo, oxs, simprocAttr, eq_false h3]
     refine hLL _ _ ?_
     refine wpC_if ?_
     simp only [ptrTo, oxs, simprocAttr]
     obtain ⟨aE, cE, h6, y1, y2⟩ := (s2.mv 1).app1 (bytes := 24) x rcell.len rcell.oc (by omega) (by omega)
     have y1' := y1
     simp only [rcell] at y1'
     refine rg (fun LL hLL => ?_)
     simp only [ptrTo, oxs, simprocAttr, gb1, ixF hi', gq, wq, xq, rcell.len, rcell, zz]
     rw [y1']
     simp only [ptrTo, oxs, simprocAttr]
     refine hLL _ _ ?_
     simp only [ptrTo, oxs, simprocAttr]
     refine fg10 (fun R => ?_)
     refine rg (fun LL hLL => ?_)
     simp only [ptrTo, oxs, simprocAttr, wsucc (show i < 9223372036854775807 by omega)]
     refine hLL _ _ ?_
     simp only [ptrTo, oxs, simprocAttr]
     rw [show ((Q.take i).filter fun x => !pI x).length + 1 = ((Q.take (i + 1)).filter fun x => !pI x).length by rw [f2]; simp, ← f1]
     rw [← f2, ← f1] at y2
     exact ⟨m - 1, by omega, i + 1, b, aE, d, cE, _, _, _, _, _, by omega, y2.mv 1, rfl⟩
  ·have : i = Q.length := by omega
   subst this
   rw [List.take_length] at s2
   refine wpC_exit ?_
   simp only [ptrTo, oxs, simprocAttr, List.take_length]
   exact ⟨b, b', d, d', _, _, _, _, _, s2, rfl⟩
 rintro T h' ⟨b, b', d, d', u3, u4, u5, u6, R, s2, rfl⟩
 have gb := (s2.mv 2).get
 refine sr (fun LL hLL => ?_)
 simp only [ptrTo, oxs, simprocAttr, gb]
 refine hLL _ _ ?_
 refine sr (fun LL hLL => ?_)
 simp only [ptrTo, oxs, simprocAttr]
 refine hLL _ _ ?_
 refine wpC_ret (out_ret ?_)
 simp only [ptrTo, oxs, simprocAttr]
 have s3 := (s2.mv 2).set (.cells false 0 [.int .i64 g, .slice b' (Q.filter fun x => !pI x).length d'] 120)
 have s4 := (s3).sel 4 [0, 2, 1]
 simp only [oxf] at s4
 have s5 := (rtA_in e2 s4).mv 1
 rw [e1] at s5 ⊢
 exact hK _ _ _ s5
end
end Go.Proofs

namespace Go.Proofs
open Go Go.Ox
set_option maxRecDepth 100000
set_option maxHeartbeats 4000000
theorem run_end {o p g : Int} {lo : Nat} : ∀ n : Nat, (∀ y : Nat, lo ≤ y → y < lo + n + 1 → alike o p g y lo) ∨ ∃ hi : Nat, lo < hi ∧ hi ≤ lo + n ∧ (∀ y : Nat, lo ≤ y → y < hi → alike o p g y lo) ∧ ¬ alike o p g hi lo
 | 0 => .inl fun y h1 h2 => by
  obtain rfl : y = lo := by omega
  exact ⟨rfl, rfl⟩
 | n + 1 => by
  rcases run_end (o := o) (p := p) (g := g) (lo := lo) n with h | ⟨hi, h1, h2, h3, h4⟩
  ·by_cases ha : alike o p g ((lo + n + 1 : Nat) : Int) lo
   ·exact .inl fun y h1 h2 => by
     by_cases e : y < lo + n + 1
     ·exact h y h1 e
     ·obtain rfl : y = lo + n + 1 := by omega
      exact ha
   ·exact .inr ⟨lo + n + 1, by omega, by omega, h, ha⟩
  ·exact .inr ⟨hi, h1, by omega, h3, h4⟩
theorem planJ_all {o p : Int} {g : Nat} (ho : 1 ≤ o) (hp : 1 ≤ p) : ∀ (n lo : Nat) (P : List Mv), lo + n = g → PlanJ o p g lo P → ∃ P', PlanJ o p g g P' := by
 intro n
 induction n using Nat.strongRecOn with
 | _ n ih =>
  intro lo P hn j
  rcases Nat.eq_zero_or_pos n with h0 | h0
  ·obtain rfl : lo = g := by omega
   exact ⟨P, j⟩
  ·have key : ∃ hi : Nat, lo < hi ∧ hi ≤ g ∧ (∀ y : Nat, lo ≤ y → y < hi → alike o p g y lo) ∧ ((hi : Int) = g ∨ ¬ alike o p g hi lo) := by
    rcases run_end (o := o) (p := p) (g := (g : Int)) (lo := lo) (n - 1) with h | ⟨hi, h1, h2, h3, h4⟩
    ·exact ⟨g, by omega, by omega, fun y h1 h2 => h y h1 (by omega), .inl rfl⟩
    ·exact ⟨hi, h1, by omega, h3, .inr h4⟩
   obtain ⟨hi, h1, h2, h3, h4⟩ := key
   by_cases he : ownr o g lo = ownr p g lo
   ·exact ih (g - hi) (by omega) hi P (by omega) (j.stay ho hp h1 (by omega) h3 h4 he)
   ·exact ih (g - hi) (by omega) hi _ (by omega) (j.move ho hp h1 (by omega) h3 h4 he)
theorem planL_ok {o p : Int} {g : Nat} (ho : 1 ≤ o) (hp : 1 ≤ p) (hog : o ≤ g) (hpg : p ≤ g) : PlanP o p g (planL o p g g) := by
 obtain ⟨P', j⟩ := planJ_all (o := o) (p := p) (g := g) ho hp g 0 [] (by omega) (PlanJ.zero o p g)
 have := j.eq
 subst this
 exact j.done ho hp hog hpg
theorem planL_few {o p g : Int} : ∀ x : Nat, (planL o p g x).length ≤ x
 | 0 => by simp [planL]
 | x + 1 => by
  have ih := planL_few (o := o) (p := p) (g := g) x
  rw [planL]
  split
  ·omega
  ·split
   ·rename_i h
    simp only [List.length_append, List.length_dropLast, List.length_cons, List.length_nil]; omega
   ·simp only [List.length_append, List.length_cons, List.length_nil]; omega
/-- The last move that was planned. -/
theorem planL_last {o p g : Int} : ∀ (x : Nat) (P' : List Mv) (m : Mv), planL o p g x = P' ++ [m] → m.hi ≤ (x : Int) ∧ (m.hi = (x : Int) → 0 < x ∧ ¬ ownr o g ((x : Int) - 1) = ownr p g ((x : Int) - 1) ∧ m.fr = ownr o g ((x : Int) - 1) ∧ m.to = ownr p g ((x : Int) - 1))
 | 0, P', m, h => by simp [planL] at h
 | x + 1, P', m, h => by
  have e : (((x + 1 : Nat) : Int) - 1) = (x : Int) := by omega
  rw [planL] at h
  rw [e]
  by_cases hs : ownr o g x = ownr p g x
  ·rw [if_pos hs] at h
   have := (planL_last x P' m h).1
   exact ⟨by omega, fun h => by omega⟩
  ·rw [if_neg hs] at h
   split at h
   ·obtain ⟨_, h2⟩ := List.append_inj' h rfl
    simp only [List.cons.injEq, and_true] at h2
    subst h2
    exact ⟨by simp, fun _ => ⟨by omega, hs, rfl, rfl⟩⟩
   ·obtain ⟨_, h2⟩ := List.append_inj' h rfl
    simp only [List.cons.injEq, and_true] at h2
    subst h2
    exact ⟨by simp, fun _ => ⟨by omega, hs, rfl, rfl⟩⟩
theorem planL_moved {o p g : Int} (x : Nat) (h0 : 0 < x) (hm : ¬ ownr o g ((x : Int) - 1) = ownr p g ((x : Int) - 1)) : ∃ (P' : List Mv) (m : Mv), planL o p g x = P' ++ [m] ∧ m.hi = (x : Int) := by
 obtain ⟨y, rfl⟩ : ∃ y, x = y + 1 := ⟨x - 1, by omega⟩
 have e : (((y + 1 : Nat) : Int) - 1) = (y : Int) := by omega
 rw [e] at hm
 rw [planL, if_neg hm]
 split
 ·exact ⟨_, _, rfl, by simp⟩
 ·exact ⟨_, _, rfl, by simp⟩
/-- What the reference asks of the last move. -/
def lastQ (o p g : Int) (x : Nat) (P : List Mv) : Prop := ∃ (P' : List Mv) (m : Mv), P = P' ++ [m] ∧ m.hi = (x : Int) ∧ m.fr = ownr o g x ∧ m.to = ownr p g x
theorem planL_ext {o p g : Int} (x : Nat) {P' : List Mv} {m : Mv} (e : planL o p g x = P' ++ [m]) (h1 : m.hi = (x : Int)) (h2 : m.fr = ownr o g x) (h3 : m.to = ownr p g x) : planL o p g (x + 1) = P' ++ [⟨m.fr, m.to, m.lo, (x : Int) + 1⟩] := by
 obtain ⟨a, b, c, d⟩ := (planL_last x P' m e).2 h1
 rw [planL, if_neg (by rw [← h2, ← h3, c, d]; exact b), if_pos ⟨a, by rw [← h2, c], by rw [← h3, d]⟩, e, h2, h3]
 simp
theorem planL_new {o p g : Int} (x : Nat) (hn : ¬ lastQ o p g x (planL o p g x)) (hm : ¬ ownr o g x = ownr p g x) : planL o p g (x + 1) = planL o p g x ++ [⟨ownr o g x, ownr p g x, x, (x : Int) + 1⟩] := by
 rw [planL, if_neg hm, if_neg]
 rintro ⟨h0, h1, h2⟩
 obtain ⟨P', m, e, h⟩ := planL_moved (o := o) (p := p) (g := g) x h0 (by rw [← h1, ← h2]; exact hm)
 obtain ⟨a, b, c, d⟩ := (planL_last x P' m e).2 h
 exact hn ⟨P', m, e, h, by rw [c, h1], by rw [d, h2]⟩
theorem planL_same {o p g : Int} (x : Nat) (hm : ownr o g x = ownr p g x) : planL o p g (x + 1) = planL o p g x := by rw [planL, if_pos hm]
end Go.Proofs

namespace Go.Proofs
open Go Go.Ox
set_option maxRecDepth 100000
set_option maxHeartbeats 4000000
theorem refPlan_ok {h0 : AHeap} {F : List Asn} {o p : Int} {g : Nat} (ho : 1 ≤ o) (hog : o ≤ g) (hp : 1 ≤ p) (hpg : p ≤ g) (h64 : g ≤ 64) (h : AHeap) (s : St h0 h F) (K : Value → AHeap → Prop)
  (hk : ∀ a c h', St h0 h' (wn Mv.cells 4 75 a c (planL o p g g) :: F) → K (.slice a (planL o p g g).length c) h') : wpF Tryz.prog (.fn 42) [.int .i64 o, .int .i64 p, .int .i64 g] h K := by
 refine wpF_fun 105 [.tmp 6] Tryz.func42 rfl rfl rfl rfl ?_
 refine sr (fun LL hLL => ?_)
 simp only [ptrTo, oxs, simprocAttr]
 refine hLL _ _ ?_
 refine wpC_seq (sr fun LL hLL => ?_)
 simp only [ptrTo, oxs, simprocAttr, eq_false (show ¬ (g : Int) < 1 by omega), eq_false (show ¬ (64 : Int) < g by omega), eq_false (show ¬ o < 1 by omega), eq_false (show ¬ (g : Int) < o by omega), eq_false (show ¬ p < 1 by omega), eq_false (show ¬ (g : Int) < p by omega)]
 refine hLL _ _ ?_
 refine wpC_if ?_
 simp only [ptrTo, oxs, simprocAttr]
 refine wpC_skip ?_
 simp only [ptrTo, oxs, simprocAttr]
 refine sr (fun LL hLL => ?_)
 simp only [ptrTo, oxs, simprocAttr]
 refine hLL _ _ ?_
 refine sm (fun T h' => ∃ (a : Option Addr) (c : Nat) (u3 u4 u5 u6 : Value) (R : List Value), St h0 h' (wn Mv.cells 4 75 a c (planL o p g g) :: F) ∧ T = .int .i64 o :: .int .i64 p :: .int .i64 g :: u3 :: u4 :: u5 :: u6 :: .slice a (planL o p g g).length c :: R) ?_ ?_
 ·refine sr (fun LL hLL => ?_)
  simp only [ptrTo, oxs, simprocAttr]
  refine hLL _ _ ?_
  refine fg9 (fun R => ?_)
  have s0 := s.wn_nil (f := Mv.cells) (k := 4) (e := 75)
  refine wpC_block ?_
  refine wpC_loop (fun m T h' => ∃ (x : Nat) (a : Option Addr) (c : Nat) (u3 u4 u5 u6 : Value) (R : List Value), m + x = g ∧ St h0 h' (wn Mv.cells 4 75 a c (planL o p g x) :: F) ∧ T = .int .i64 o :: .int .i64 p :: .int .i64 g :: u3 :: u4 :: u5 :: u6 :: .slice a (planL o p g x).length c :: .int .i64 x :: R) ?_ g _ _ ⟨0, none, 0, _, _, _, _, R, by omega, s0, rfl⟩
  rintro m T h' ⟨x, a, c, u3, u4, u5, u6, R, hmx, s1, rfl⟩
  refine wpC_seq (sr fun LL hLL => ?_)
  simp only [ptrTo, oxs, simprocAttr]
  refine hLL _ _ ?_
  refine wpC_if ?_
  simp only [ptrTo, oxs, simprocAttr]
  refine gC_of (fun hc => ?_) (fun hc => ?_)
  ·refine wpC_skip ?_
   simp only [ptrTo, oxs, simprocAttr]
   refine fg9 (fun R => ?_)
   have hx : x < g := by omega
   have hfew := planL_few (o := o) (p := p) (g := (g : Int)) x
   obtain ⟨P, eP⟩ : ∃ P, P = planL o p g x := ⟨_, rfl⟩
   rw [← eP] at s1 hfew ⊢
   have hw1 : IntKind.i64.wrap ((x : Int) + 1) = (x : Int) + 1 := wrap_i64 (by omega) (by omega)
   obtain ⟨bx, ebx⟩ : ∃ b, b = h'.next := ⟨_, rfl⟩
   have s2 := s1.push (.cells false 0 [.int .i64 0, .int .i64 0, .int .i64 0, .int .i64 0] 75)
   rw [← ebx] at s2
   have g2 := s2.get
   have s3 := s2.set (.cells false 0 [.int .i64 (ownr o g x), .int .i64 (ownr p g x), .int .i64 x, .int .i64 ((x : Int) + 1)] 75)
   obtain ⟨h3, e3⟩ : ∃ h3, h3 = (h'.push (.cells false 0 [.int .i64 0, .int .i64 0, .int .i64 0, .int .i64 0] 75)).set bx (.cells false 0 [.int .i64 (ownr o g x), .int .i64 (ownr p g x), .int .i64 x, .int .i64 ((x : Int) + 1)] 75) := ⟨_, rfl⟩
   rw [← e3] at s3
   refine wpC_seq (wpC_block ?_)
   refine sr (fun LL hLL => ?_)
   simp only [ptrTo, pend, pend0, Pd.old, pendU, pendU0, Nat.testBit, oxh, simprocAttr]
   refine refOwner_ok ho hog (by omega) (by omega) (by omega) _ _ ?_
   simp only [ptrTo, pend, pend0, Pd.old, pendU, pendU0, Nat.testBit, oxh, simprocAttr]
   refine refOwner_ok hp hpg (by omega) (by omega) (by omega) _ _ ?_
   simp only [ptrTo, pend, pend0, Pd.old, pendU, pendU0, Nat.testBit, oxh, simprocAttr, hw1, ← ebx, g2, ← e3]
   refine hLL _ _ ?_
   refine xp9 1 (by repeat (first | exact tput_le _ _ _ _ (.inr (by omega)) | refine tput_le _ _ _ _ (.inl ?_))) (fun R => ?_)
   simp only [ptrTo, oxs, simprocAttr, show List.range 1 = [0] from rfl]
   refine fg10 (fun R => ?_)
   refine sr (fun LL hLL => ?_)
   simp only [ptrTo, oxs, simprocAttr]
   refine hLL _ _ ?_
   refine xp10 1 (by repeat (first | exact tput_le _ _ _ _ (.inr (by omega)) | refine tput_le _ _ _ _ (.inl ?_))) (fun R => ?_)
   simp only [ptrTo, oxs, simprocAttr, show List.range 1 = [0] from rfl]
   refine fg11 (fun R => ?_)
   have gx := s3.get
   refine sm (fun T h'' => h3 = h'' ∧ ∃ (d : Bool) (R : List Value), (d = true ↔ lastQ o p g x P) ∧ T = .int .i64 o :: .int .i64 p :: .int .i64 g :: u3 :: u4 :: u5 :: u6 :: .slice a P.length c :: .int .i64 x :: .pointer (some ⟨bx, 0, none⟩) :: .int .i64 P.length :: R ∧ tget R 76 = .bool d) ?_ ?_
   ·rcases List.eq_nil_or_concat P with hP | ⟨P', mm, hP0⟩
    ·have hl : P.length = 0 := by rw [hP]; rfl
     have hno : false = true ↔ lastQ o p g x P := by
      constructor
      ·intro h; cases h
      ·rintro ⟨Q, m, e, _⟩; rw [hP] at e; simp at e
     refine du [some 54, some 55, some 56, some 57, some 58, some 59, some 60, some 61, some 62, some 63, some 64, some 65, some 66, some 67, some 68, some 69, some 70, some 71, some 72, some 73, some 74, some 75, some 76, some 77, some 78, some 79, some 80, some 81, some 82, some 83, some 84, some 85, some 86, some 87] 34 [0, 1, 3, 7, 7, 23, 63, 127, 255, 7, 1023, 2047, 4095, 8191, 8191, 24575, 65535, 131071, 262143, 8191, 532479, 2097151, 4194303, 8388607, 16777215, 16777215, 50331647, 134217727, 268435455, 536870911, 16777215, 1090519039, 4294967295, 8589934591] (by rfl) (by rfl) (by decide +kernel) (by decide +kernel) (by decide +kernel) (fun LL hLL => ?_)
     simp only [ptrTo, pend, pend0, Pd.old, pendU, pendU0, Nat.testBit, oxs, simprocAttr, eq_false (show ¬ (0 : Int) < ((P.length : Nat) : Int) by omega)]
     refine hLL _ _ ?_
     simp only [ptrTo, oxs, simprocAttr]
     exact ⟨false, _, hno, rfl, by simp [tget_tput]⟩
    ·have hP : P = P' ++ [mm] := by rw [hP0]; simp
     clear hP0
     have hl : P.length = P'.length + 1 := by rw [hP]; simp
     have hi : P'.length < P.length := by omega
     have hlast : P[P'.length] = mm := by simp [hP]
     have hq : ∀ d : Bool, (d = true ↔ (mm.hi = (x : Int) ∧ mm.fr = ownr o g x ∧ mm.to = ownr p g x)) → (d = true ↔ lastQ o p g x P) := fun d hd => by
      rw [hd]
      refine ⟨fun h => ⟨P', mm, hP, h⟩, fun ⟨Q, m, e, h⟩ => ?_⟩
      rw [hP] at e
      obtain ⟨_, e2⟩ := List.append_inj' e rfl
      simp only [List.cons.injEq, and_true] at e2
      rw [e2]; exact h
     have hwn : IntKind.i64.wrap (((P.length : Nat) : Int) - 1) = (P'.length : Int) := by rw [wrap_i64 (by omega) (by omega)]; omega
     obtain ⟨b, rfl, hcc, s4⟩ := (s3.mv 1).wn_out (.inl (by rintro rfl; simp at hl))
     have gb := s4.get
     have w0 : (P.flatMap Mv.cells)[P'.length * 4]? = some (.int .i64 mm.fr) := by rw [flat_get' Mv.len P P'.length hi (by omega), hlast]; rfl
     have w1 : (P.flatMap Mv.cells)[P'.length * 4 + 1]? = some (.int .i64 mm.to) := by rw [flat_get Mv.len P P'.length 1 hi (by omega), hlast]; rfl
     have w3 : (P.flatMap Mv.cells)[P'.length * 4 + 3]? = some (.int .i64 mm.hi) := by rw [flat_get Mv.len P P'.length 3 hi (by omega), hlast]; rfl
     have hpos : (0 : Int) < ((P.length : Nat) : Int) := by omega
     by_cases c1 : mm.hi = (x : Int)
     ·by_cases c2 : mm.fr = ownr o g x
      ·by_cases c3 : mm.to = ownr p g x
       ·refine du [some 54, some 55, some 56, some 57, some 58, some 59, some 60, some 61, some 62, some 63, some 64, some 65, some 66, some 67, some 68, some 69, some 70, some 71, some 72, some 73, some 74, some 75, some 76, some 77, some 78, some 79, some 80, some 81, some 82, some 83, some 84, some 85, some 86, some 87] 34 [0, 1, 3, 7, 7, 23, 63, 127, 255, 7, 1023, 2047, 4095, 8191, 8191, 24575, 65535, 131071, 262143, 8191, 532479, 2097151, 4194303, 8388607, 16777215, 16777215, 50331647, 134217727, 268435455, 536870911, 16777215, 1090519039, 4294967295, 8589934591] (by rfl) (by rfl) (by decide +kernel) (by decide +kernel) (by decide +kernel) (fun LL hLL => ?_)
        simp only [ptrTo, pend, pend0, Pd.old, pendU, pendU0, Nat.testBit, oxs, simprocAttr, eq_true hpos, hwn, ixF hi, gb, w3, eq_true c1, w0, gx, eq_true c2, w1, eq_true c3]
        refine hLL _ _ ?_
        simp only [ptrTo, oxs, simprocAttr]
        exact ⟨true, _, hq _ (by simp [c1, c2, c3]), rfl, by simp [tget_tput]⟩
       ·refine du [some 54, some 55, some 56, some 57, some 58, some 59, some 60, some 61, some 62, some 63, some 64, some 65, some 66, some 67, some 68, some 69, some 70, some 71, some 72, some 73, some 74, some 75, some 76, some 77, some 78, some 79, some 80, some 81, some 82, some 83, some 84, some 85, some 86, some 87] 34 [0, 1, 3, 7, 7, 23, 63, 127, 255, 7, 1023, 2047, 4095, 8191, 8191, 24575, 65535, 131071, 262143, 8191, 532479, 2097151, 4194303, 8388607, 16777215, 16777215, 50331647, 134217727, 268435455, 536870911, 16777215, 1090519039, 4294967295, 8589934591] (by rfl) (by rfl) (by decide +kernel) (by decide +kernel) (by decide +kernel) (fun LL hLL => ?_)
        simp only [ptrTo, pend, pend0, Pd.old, pendU, pendU0, Nat.testBit, oxs, simprocAttr, eq_true hpos, hwn, ixF hi, gb, w3, eq_true c1, w0, gx, eq_true c2, w1, eq_false c3]
        refine hLL _ _ ?_
        simp only [ptrTo, oxs, simprocAttr]
        exact ⟨false, _, hq _ (by simp [c3]), rfl, by simp [tget_tput]⟩
      ·refine du [some 54, some 55, some 56, some 57, some 58, some 59, some 60, some 61, some 62, some 63, some 64, some 65, some 66, some 67, some 68, some 69, some 70, some 71, some 72, some 73, some 74, some 75, some 76, some 77, some 78, some 79, some 80, some 81, some 82, some 83, some 84, some 85, some 86, some 87] 34 [0, 1, 3, 7, 7, 23, 63, 127, 255, 7, 1023, 2047, 4095, 8191, 8191, 24575, 65535, 131071, 262143, 8191, 532479, 2097151, 4194303, 8388607, 16777215, 16777215, 50331647, 134217727, 268435455, 536870911, 16777215, 1090519039, 4294967295, 8589934591] (by rfl) (by rfl) (by decide +kernel) (by decide +kernel) (by decide +kernel) (fun LL hLL => ?_)
       simp only [ptrTo, pend, pend0, Pd.old, pendU, pendU0, Nat.testBit, oxs, simprocAttr, eq_true hpos, hwn, ixF hi, gb, w3, eq_true c1, w0, gx, eq_false c2]
       refine hLL _ _ ?_
       simp only [ptrTo, oxs, simprocAttr]
       exact ⟨false, _, hq _ (by simp [c2]), rfl, by simp [tget_tput]⟩
     ·refine du [some 54, some 55, some 56, some 57, some 58, some 59, some 60, some 61, some 62, some 63, some 64, some 65, some 66, some 67, some 68, some 69, some 70, some 71, some 72, some 73, some 74, some 75, some 76, some 77, some 78, some 79, some 80, some 81, some 82, some 83, some 84, some 85, some 86, some 87] 34 [0, 1, 3, 7, 7, 23, 63, 127, 255, 7, 1023, 2047, 4095, 8191, 8191, 24575, 65535, 131071, 262143, 8191, 532479, 2097151, 4194303, 8388607, 16777215, 16777215, 50331647, 134217727, 268435455, 536870911, 16777215, 1090519039, 4294967295, 8589934591] (by rfl) (by rfl) (by decide +kernel) (by decide +kernel) (by decide +kernel) (fun LL hLL => ?_)
      simp only [ptrTo, pend, pend0, Pd.old, pendU, pendU0, Nat.testBit, oxs, simprocAttr, eq_true hpos, hwn, ixF hi, gb, w3, eq_false c1]
      refine hLL _ _ ?_
      simp only [ptrTo, oxs, simprocAttr]
      exact ⟨false, _, hq _ (by simp [c1]), rfl, by simp [tget_tput]⟩
   rintro T h'' ⟨rfl, d, R, hd, rfl, q1⟩
   cases d with
   | true =>
    obtain ⟨P', mm, hP, c1, c2, c3⟩ := hd.1 rfl
    have hl : P.length = P'.length + 1 := by rw [hP]; simp
    have hi : P'.length < P.length := by omega
    have hlast : P[P'.length] = mm := by simp [hP]
    have hwn : IntKind.i64.wrap (((P.length : Nat) : Int) - 1) = (P'.length : Int) := by rw [wrap_i64 (by omega) (by omega)]; omega
    obtain ⟨b, rfl, hcc, s4⟩ := (s3.mv 1).wn_out (.inl (by rintro rfl; simp at hl))
    have gb := s4.get
    have hle := flat_le Mv.len P P'.length hi
    have hput := flat_put Mv.len P P'.length 3 (.int .i64 ((x : Int) + 1)) ⟨mm.fr, mm.to, mm.lo, (x : Int) + 1⟩ hi (by omega) (by rw [hlast]; rfl)
    have hset : P.set P'.length ⟨mm.fr, mm.to, mm.lo, (x : Int) + 1⟩ = planL o p g (x + 1) := by
     rw [planL_ext x (eP.symm.trans hP) c1 c2 c3, hP]; simp
    rw [hset] at hput
    have hlen : (planL o p g (x + 1)).length = P.length := by rw [← hset]; simp
    refine wpC_if ?_
    simp only [ptrTo, oxs, simprocAttr, q1]
    refine rg (fun LL hLL => ?_)
    simp only [ptrTo, oxs, simprocAttr, hwn, ixF hi, gb, hw1, hput, eq_true (show P'.length * 4 + 3 + 1 ≤ (P.flatMap Mv.cells).length by omega)]
    refine hLL _ _ ?_
    simp only [ptrTo, oxs, simprocAttr]
    refine fg9 (fun R => ?_)
    refine rg (fun LL hLL => ?_)
    simp only [ptrTo, oxs, simprocAttr, hw1]
    refine hLL _ _ ?_
    simp only [ptrTo, oxs, simprocAttr]
    have s5 := (s4.set (.cells false 4 ((planL o p g (x + 1)).flatMap Mv.cells) 75)).wn_in (f := Mv.cells) (c := c) (L := planL o p g (x + 1)) (by rw [hlen]; exact hcc)
    rw [← hlen]
    exact ⟨m - 1, by omega, x + 1, _, c, _, _, _, _, _, by omega, (s5.mv 1).drop, rfl⟩
   | false =>
    have hno : ¬ lastQ o p g x P := fun h => by have := hd.2 h; cases this
    refine wpC_if ?_
    simp only [ptrTo, oxs, simprocAttr, q1]
    by_cases hm : ownr o g x = ownr p g x
    ·refine sr (fun LL hLL => ?_)
     simp only [ptrTo, oxs, simprocAttr, gx, eq_true hm, not_true_eq_false]
     refine hLL _ _ ?_
     refine wpC_if ?_
     simp only [ptrTo, oxs, simprocAttr]
     refine wpC_skip ?_
     simp only [ptrTo, oxs, simprocAttr]
     refine fg9 (fun R => ?_)
     refine rg (fun LL hLL => ?_)
     simp only [ptrTo, oxs, simprocAttr, hw1]
     refine hLL _ _ ?_
     simp only [ptrTo, oxs, simprocAttr]
     have e1 := planL_same (o := o) (p := p) (g := (g : Int)) x hm
     rw [← eP] at e1
     rw [← e1] at s3 ⊢
     exact ⟨m - 1, by omega, x + 1, a, c, _, _, _, _, _, by omega, s3.drop, rfl⟩
    ·refine sr (fun LL hLL => ?_)
     simp only [ptrTo, oxs, simprocAttr, gx, eq_false hm, not_false_eq_true]
     refine hLL _ _ ?_
     refine wpC_if ?_
     simp only [ptrTo, oxs, simprocAttr]
     have e1 := planL_new (o := o) (p := p) (g := (g : Int)) x (by rw [← eP]; exact hno) hm
     rw [← eP] at e1
     have zz : aZeros [.int .i64 0, .int .i64 0, .int .i64 0, .int .i64 0] 1 = [.int .i64 0, .int .i64 0, .int .i64 0, .int .i64 0] := rfl
     obtain ⟨aE, cE, h6, y1, y2⟩ := (s3.mv 1).app1 (bytes := 32) ⟨ownr o g x, ownr p g x, x, (x : Int) + 1⟩ Mv.len Mv.oc (by omega) (by omega)
     have y1' := y1
     simp only [Mv.cells] at y1'
     refine rg (fun LL hLL => ?_)
     simp only [ptrTo, oxs, simprocAttr, gx, zz]
     rw [y1']
     simp only [ptrTo, oxs, simprocAttr]
     refine hLL _ _ ?_
     simp only [ptrTo, oxs, simprocAttr]
     refine fg9 (fun R => ?_)
     refine rg (fun LL hLL => ?_)
     simp only [ptrTo, oxs, simprocAttr, hw1]
     refine hLL _ _ ?_
     simp only [ptrTo, oxs, simprocAttr]
     rw [← e1] at y2
     rw [show P.length + 1 = (planL o p g (x + 1)).length by rw [e1]; simp]
     exact ⟨m - 1, by omega, x + 1, aE, cE, _, _, _, _, _, by omega, (y2.mv 1).drop, rfl⟩
  ·obtain rfl : x = g := by omega
   refine wpC_exit ?_
   simp only [ptrTo, oxs, simprocAttr]
   exact ⟨a, c, _, _, _, _, _, s1, rfl⟩
 rintro T h' ⟨a, c, u3, u4, u5, u6, R, s1, rfl⟩
 refine sr (fun LL hLL => ?_)
 simp only [ptrTo, oxs, simprocAttr]
 refine hLL _ _ ?_
 refine wpC_ret (out_ret ?_)
 simp only [ptrTo, oxs, simprocAttr]
 exact hk _ _ _ s1
end Go.Proofs

namespace Go.Proofs
open Go Go.Ox
set_option maxRecDepth 100000
set_option maxHeartbeats 4000000
abbrev Rc2 := Int × Int
def r2cell (r : Rc2) : List Value := [.int .i64 r.1, .int .i64 r.2]
theorem r2cell.len (x : Rc2) : (r2cell x).length = 2 := rfl
theorem r2cell.oc (x : Rc2) : (r2cell x).all Value.oneCell' = true := rfl
theorem copyInts_ok {h0 : AHeap} {F : List Asn} (L : List Int) (a : Option Addr) (c : Nat) (h : AHeap) (r : Rd h0 F icell 1 a L) (hl : L.length < 1000000) (s : St h0 h F) (K : Value → AHeap → Prop) (hk : ∀ b d h', St h0 h' (wn icell 1 3 b d L :: F) → K (.slice b L.length d) h') :
  wpF Tryz.prog (.fn 9) [.slice a L.length c] h K := by
 have zz : aZeros [.int .i64 0] 1 = [.int .i64 0] := rfl
 refine wpF_fun 19 [.tmp 2] Tryz.func9 rfl rfl rfl rfl ?_
 refine sr (fun LL hLL => ?_)
 simp only [ptrTo, oxs, simprocAttr]
 refine hLL _ _ ?_
 refine sr (fun LL hLL => ?_)
 simp only [ptrTo, oxs, simprocAttr]
 refine hLL _ _ ?_
 refine sm (fun T h' => ∃ (b : Option Addr) (d : Nat) (u0 u1 u2 : Value) (R : List Value), St h0 h' (wn icell 1 3 b d L :: F) ∧ T = u0 :: u1 :: u2 :: .slice b L.length d :: R) ?_ ?_
 ·refine sr (fun LL hLL => ?_)
  simp only [ptrTo, oxs, simprocAttr]
  refine hLL _ _ ?_
  refine fg5 (fun R => ?_)
  have s0 := s.wn_nil (f := icell) (k := 1) (e := 3)
  refine wpC_block ?_
  refine wpC_loop (fun m T h' => ∃ (i : Nat) (b : Option Addr) (d : Nat) (u1 u2 : Value) (R : List Value), m + i = L.length ∧ St h0 h' (wn icell 1 3 b d (L.take i) :: F) ∧ T = .slice a L.length c :: u1 :: u2 :: .slice b (L.take i).length d :: .int .i64 i :: R) ?_ L.length _ _ ⟨0, none, 0, _, _, R, by omega, s0, rfl⟩
  rintro m T h' ⟨i, b, d, u1, u2, R, hmi, s1, rfl⟩
  refine wpC_seq (sr fun LL hLL => ?_)
  simp only [ptrTo, oxs, simprocAttr]
  refine hLL _ _ ?_
  refine wpC_if ?_
  simp only [ptrTo, oxs, simprocAttr]
  refine gC_of (fun hc => ?_) (fun hc => ?_)
  ·refine wpC_skip ?_
   simp only [ptrTo, oxs, simprocAttr]
   refine fg5 (fun R => ?_)
   have hi : i < L.length := by omega
   have ht : L.take (i + 1) = L.take i ++ [L[i]] := List.take_succ_eq_append_getElem hi
   have hli : (L.take i).length = i := by rw [List.length_take]; omega
   obtain ⟨bq, oq, roq, szq, Cq, Tq, eq, pq, gq, rq, qq⟩ := (r _ s1.drop).resolve_left (by rintro rfl; simp at hi)
   subst eq
   have wq : Cq[oq + i * 1]? = some (.int .i64 L[i]) := Rs.cell icell.len rq qq i hi 0 (by omega)
   obtain ⟨aE, cE, h6, y1, y2⟩ := s1.app1 (bytes := 8) L[i] icell.len icell.oc (by omega) (by omega)
   have y1' := y1
   simp only [icell] at y1'
   refine wpC_seq (wpC_block ?_)
   refine rg (fun LL hLL => ?_)
   simp only [ptrTo, oxs, simprocAttr, ixF hi, gq, wq, zz]
   rw [y1']
   simp only [ptrTo, oxs, simprocAttr]
   refine hLL _ _ ?_
   simp only [ptrTo, oxs, simprocAttr]
   refine fg5 (fun R => ?_)
   refine rg (fun LL hLL => ?_)
   simp only [ptrTo, oxs, simprocAttr, wsucc (show i < 9223372036854775807 by omega)]
   refine hLL _ _ ?_
   simp only [ptrTo, oxs, simprocAttr]
   rw [show (L.take i).length + 1 = (L.take (i + 1)).length by rw [hli, List.length_take]; omega]
   rw [← ht] at y2
   exact ⟨m - 1, by omega, i + 1, aE, cE, _, _, _, by omega, y2, rfl⟩
  ·have hil : i = L.length := by omega
   subst hil
   rw [List.take_length] at s1
   refine wpC_exit ?_
   simp only [ptrTo, oxs, simprocAttr, List.take_length]
   exact ⟨b, d, _, _, _, _, s1, rfl⟩
 rintro T h' ⟨b, d, u0, u1, u2, R, s1, rfl⟩
 refine sr (fun LL hLL => ?_)
 simp only [ptrTo, oxs, simprocAttr]
 refine hLL _ _ ?_
 refine wpC_ret (out_ret ?_)
 simp only [ptrTo, oxs, simprocAttr]
 exact hk _ _ _ s1
theorem copyRows_ok {h0 : AHeap} {F : List Asn} (L : List Rw) (a : Option Addr) (c : Nat) (h : AHeap) (r : Rd h0 F rcell 3 a L) (hl : L.length < 1000000) (s : St h0 h F) (K : Value → AHeap → Prop) (hk : ∀ b d h', St h0 h' (wn rcell 3 52 b d L :: F) → K (.slice b L.length d) h') :
  wpF Tryz.prog (.fn 63) [.slice a L.length c] h K := by
 have zz : aZeros [.int .i64 0, .int .i64 0, .int .i64 0] 1 = [.int .i64 0, .int .i64 0, .int .i64 0] := rfl
 refine wpF_fun 19 [.tmp 2] Tryz.func63 rfl rfl rfl rfl ?_
 refine sr (fun LL hLL => ?_)
 simp only [ptrTo, oxs, simprocAttr]
 refine hLL _ _ ?_
 refine sr (fun LL hLL => ?_)
 simp only [ptrTo, oxs, simprocAttr]
 refine hLL _ _ ?_
 refine sm (fun T h' => ∃ (b : Option Addr) (d : Nat) (u0 u1 u2 : Value) (R : List Value), St h0 h' (wn rcell 3 52 b d L :: F) ∧ T = u0 :: u1 :: u2 :: .slice b L.length d :: R) ?_ ?_
 ·refine sr (fun LL hLL => ?_)
  simp only [ptrTo, oxs, simprocAttr]
  refine hLL _ _ ?_
  refine fg5 (fun R => ?_)
  have s0 := s.wn_nil (f := rcell) (k := 3) (e := 52)
  refine wpC_block ?_
  refine wpC_loop (fun m T h' => ∃ (i : Nat) (b : Option Addr) (d : Nat) (u1 u2 : Value) (R : List Value), m + i = L.length ∧ St h0 h' (wn rcell 3 52 b d (L.take i) :: F) ∧ T = .slice a L.length c :: u1 :: u2 :: .slice b (L.take i).length d :: .int .i64 i :: R) ?_ L.length _ _ ⟨0, none, 0, _, _, R, by omega, s0, rfl⟩
  rintro m T h' ⟨i, b, d, u1, u2, R, hmi, s1, rfl⟩
  refine wpC_seq (sr fun LL hLL => ?_)
  simp only [ptrTo, oxs, simprocAttr]
  refine hLL _ _ ?_
  refine wpC_if ?_
  simp only [ptrTo, oxs, simprocAttr]
  refine gC_of (fun hc => ?_) (fun hc => ?_)
  ·refine wpC_skip ?_
   simp only [ptrTo, oxs, simprocAttr]
   refine fg5 (fun R => ?_)
   have hi : i < L.length := by omega
   have ht : L.take (i + 1) = L.take i ++ [L[i]] := List.take_succ_eq_append_getElem hi
   have hli : (L.take i).length = i := by rw [List.length_take]; omega
   obtain ⟨bq, oq, roq, szq, Cq, Tq, eq, pq, gq, rq, qq⟩ := (r _ s1.drop).resolve_left (by rintro rfl; simp at hi)
   subst eq
   obtain ⟨wq, xq⟩ := Rs.row rcell.len rq qq i hi
   obtain ⟨aE, cE, h6, y1, y2⟩ := s1.app1 (bytes := 24) L[i] rcell.len rcell.oc (by omega) (by omega)
   have y1' := y1
   simp only [rcell] at y1'
   refine wpC_seq (wpC_block ?_)
   refine rg (fun LL hLL => ?_)
   simp only [ptrTo, oxs, simprocAttr, ixF hi, gq, wq, xq, rcell.len, rcell, zz]
   rw [y1']
   simp only [ptrTo, oxs, simprocAttr]
   refine hLL _ _ ?_
   simp only [ptrTo, oxs, simprocAttr]
   refine fg5 (fun R => ?_)
   refine rg (fun LL hLL => ?_)
   simp only [ptrTo, oxs, simprocAttr, wsucc (show i < 9223372036854775807 by omega)]
   refine hLL _ _ ?_
   simp only [ptrTo, oxs, simprocAttr]
   rw [show (L.take i).length + 1 = (L.take (i + 1)).length by rw [hli, List.length_take]; omega]
   rw [← ht] at y2
   exact ⟨m - 1, by omega, i + 1, aE, cE, _, _, _, by omega, y2, rfl⟩
  ·have hil : i = L.length := by omega
   subst hil
   rw [List.take_length] at s1
   refine wpC_exit ?_
   simp only [ptrTo, oxs, simprocAttr, List.take_length]
   exact ⟨b, d, _, _, _, _, s1, rfl⟩
 rintro T h' ⟨b, d, u0, u1, u2, R, s1, rfl⟩
 refine sr (fun LL hLL => ?_)
 simp only [ptrTo, oxs, simprocAttr]
 refine hLL _ _ ?_
 refine wpC_ret (out_ret ?_)
 simp only [ptrTo, oxs, simprocAttr]
 exact hk _ _ _ s1
theorem copyRecs_ok {h0 : AHeap} {F : List Asn} (L : List Rc2) (a : Option Addr) (c : Nat) (h : AHeap) (r : Rd h0 F r2cell 2 a L) (hl : L.length < 1000000) (s : St h0 h F) (K : Value → AHeap → Prop) (hk : ∀ b d h', St h0 h' (wn r2cell 2 130 b d L :: F) → K (.slice b L.length d) h') :
  wpF Tryz.prog (.fn 64) [.slice a L.length c] h K := by
 have zz : aZeros [.int .i64 0, .int .i64 0] 1 = [.int .i64 0, .int .i64 0] := rfl
 refine wpF_fun 19 [.tmp 2] Tryz.func64 rfl rfl rfl rfl ?_
 refine sr (fun LL hLL => ?_)
 simp only [ptrTo, oxs, simprocAttr]
 refine hLL _ _ ?_
 refine sr (fun LL hLL => ?_)
 simp only [ptrTo, oxs, simprocAttr]
 refine hLL _ _ ?_
 refine sm (fun T h' => ∃ (b : Option Addr) (d : Nat) (u0 u1 u2 : Value) (R : List Value), St h0 h' (wn r2cell 2 130 b d L :: F) ∧ T = u0 :: u1 :: u2 :: .slice b L.length d :: R) ?_ ?_
 ·refine sr (fun LL hLL => ?_)
  simp only [ptrTo, oxs, simprocAttr]
  refine hLL _ _ ?_
  refine fg5 (fun R => ?_)
  have s0 := s.wn_nil (f := r2cell) (k := 2) (e := 130)
  refine wpC_block ?_
  refine wpC_loop (fun m T h' => ∃ (i : Nat) (b : Option Addr) (d : Nat) (u1 u2 : Value) (R : List Value), m + i = L.length ∧ St h0 h' (wn r2cell 2 130 b d (L.take i) :: F) ∧ T = .slice a L.length c :: u1 :: u2 :: .slice b (L.take i).length d :: .int .i64 i :: R) ?_ L.length _ _ ⟨0, none, 0, _, _, R, by omega, s0, rfl⟩
  rintro m T h' ⟨i, b, d, u1, u2, R, hmi, s1, rfl⟩
  refine wpC_seq (sr fun LL hLL => ?_)
  simp only [ptrTo, oxs, simprocAttr]
  refine hLL _ _ ?_
  refine wpC_if ?_
  simp only [ptrTo, oxs, simprocAttr]
  refine gC_of (fun hc => ?_) (fun hc => ?_)
  ·refine wpC_skip ?_
   simp only [ptrTo, oxs, simprocAttr]
   refine fg5 (fun R => ?_)
   have hi : i < L.length := by omega
   have ht : L.take (i + 1) = L.take i ++ [L[i]] := List.take_succ_eq_append_getElem hi
   have hli : (L.take i).length = i := by rw [List.length_take]; omega
   obtain ⟨bq, oq, roq, szq, Cq, Tq, eq, pq, gq, rq, qq⟩ := (r _ s1.drop).resolve_left (by rintro rfl; simp at hi)
   subst eq
   obtain ⟨wq, xq⟩ := Rs.row r2cell.len rq qq i hi
   obtain ⟨aE, cE, h6, y1, y2⟩ := s1.app1 (bytes := 16) L[i] r2cell.len r2cell.oc (by omega) (by omega)
   have y1' := y1
   simp only [r2cell] at y1'
   refine wpC_seq (wpC_block ?_)
   refine rg (fun LL hLL => ?_)
   simp only [ptrTo, oxs, simprocAttr, ixF hi, gq, wq, xq, r2cell.len, r2cell, zz]
   rw [y1']
   simp only [ptrTo, oxs, simprocAttr]
   refine hLL _ _ ?_
   simp only [ptrTo, oxs, simprocAttr]
   refine fg5 (fun R => ?_)
   refine rg (fun LL hLL => ?_)
   simp only [ptrTo, oxs, simprocAttr, wsucc (show i < 9223372036854775807 by omega)]
   refine hLL _ _ ?_
   simp only [ptrTo, oxs, simprocAttr]
   rw [show (L.take i).length + 1 = (L.take (i + 1)).length by rw [hli, List.length_take]; omega]
   rw [← ht] at y2
   exact ⟨m - 1, by omega, i + 1, aE, cE, _, _, _, by omega, y2, rfl⟩
  ·have hil : i = L.length := by omega
   subst hil
   rw [List.take_length] at s1
   refine wpC_exit ?_
   simp only [ptrTo, oxs, simprocAttr, List.take_length]
   exact ⟨b, d, _, _, _, _, s1, rfl⟩
 rintro T h' ⟨b, d, u0, u1, u2, R, s1, rfl⟩
 refine sr (fun LL hLL => ?_)
 simp only [ptrTo, oxs, simprocAttr]
 refine hLL _ _ ?_
 refine wpC_ret (out_ret ?_)
 simp only [ptrTo, oxs, simprocAttr]
 exact hk _ _ _ s1
theorem copyIntLists_ok {h0 : AHeap} {F : List Asn} (L : List (List Int)) (a : Option Addr) (c : Nat) (h : AHeap) (r : RdN h0 F icell 1 a L) (hl : L.length < 1000000) (hl1 : ∀ x ∈ L, x.length < 1000000) (s : St h0 h F) (K : Value → AHeap → Prop) (hk : ∀ b d h', St h0 h' (nest icell 1 3 25 b d L :: F) → K (.slice b L.length d) h') :
  wpF Tryz.prog (.fn 29) [.slice a L.length c] h K := by
 have zz : aZeros [.slice none 0 0] 1 = [.slice none 0 0] := rfl
 refine wpF_fun 20 [.tmp 2] Tryz.func29 rfl rfl rfl rfl ?_
 refine sr (fun LL hLL => ?_)
 simp only [ptrTo, oxs, simprocAttr]
 refine hLL _ _ ?_
 refine sr (fun LL hLL => ?_)
 simp only [ptrTo, oxs, simprocAttr]
 refine hLL _ _ ?_
 refine sm (fun T h' => ∃ (b : Option Addr) (d : Nat) (u0 u1 u2 : Value) (R : List Value), St h0 h' (nest icell 1 3 25 b d L :: F) ∧ T = u0 :: u1 :: u2 :: .slice b L.length d :: R) ?_ ?_
 ·refine sr (fun LL hLL => ?_)
  simp only [ptrTo, oxs, simprocAttr]
  refine hLL _ _ ?_
  refine fg5 (fun R => ?_)
  have s0 := s.nest_nil (f := icell) (k := 1) (e := 3) (E := 25)
  refine wpC_block ?_
  refine wpC_loop (fun m T h' => ∃ (i : Nat) (b : Option Addr) (d : Nat) (u1 u2 : Value) (R : List Value), m + i = L.length ∧ St h0 h' (nest icell 1 3 25 b d (L.take i) :: F) ∧ T = .slice a L.length c :: u1 :: u2 :: .slice b (L.take i).length d :: .int .i64 i :: R) ?_ L.length _ _ ⟨0, none, 0, _, _, R, by omega, s0, rfl⟩
  rintro m T h' ⟨i, b, d, u1, u2, R, hmi, s1, rfl⟩
  refine wpC_seq (sr fun LL hLL => ?_)
  simp only [ptrTo, oxs, simprocAttr]
  refine hLL _ _ ?_
  refine wpC_if ?_
  simp only [ptrTo, oxs, simprocAttr]
  refine gC_of (fun hc => ?_) (fun hc => ?_)
  ·refine wpC_skip ?_
   simp only [ptrTo, oxs, simprocAttr]
   refine fg5 (fun R => ?_)
   have hi : i < L.length := by omega
   have ht : L.take (i + 1) = L.take i ++ [L[i]] := List.take_succ_eq_append_getElem hi
   have hli : (L.take i).length = i := by rw [List.length_take]; omega
   obtain ⟨ai, ci, rat, rdi, _⟩ := rdnAt r i hi
   obtain ⟨bq, oq, roq, szq, Cq, Tq, eq, gq, vq⟩ := rat _ s1.drop
   refine wpC_seq (wpC_block ?_)
   rw [eq]
   refine rg (fun LL hLL => ?_)
   simp only [ptrTo, pend, pend0, Pd.old, pendU, pendU0, Nat.testBit, oxh, simprocAttr, ixF hi, gq, vq]
   refine copyInts_ok L[i] ai ci _ (rdi.up (A := nest icell 1 3 25 b d (L.take i))) (hl1 _ (List.getElem_mem hi)) s1 _ fun b2 d2 h2 s2 => ?_
   obtain ⟨aE, cE, h6, y1, y2⟩ := s2.nest_app (by omega)
   have eq2 : a = some ⟨bq, oq, none⟩ := eq
   simp only [ptrTo, pend, pend0, Pd.old, pendU, pendU0, Nat.testBit, oxh, simprocAttr, zz]
   rw [y1]
   simp only [ptrTo, pend, pend0, Pd.old, pendU, pendU0, Nat.testBit, oxh, simprocAttr]
   refine hLL _ _ ?_
   simp only [ptrTo, oxs, simprocAttr]
   refine fg5 (fun R => ?_)
   refine rg (fun LL hLL => ?_)
   simp only [ptrTo, oxs, simprocAttr, wsucc (show i < 9223372036854775807 by omega)]
   refine hLL _ _ ?_
   simp only [ptrTo, oxs, simprocAttr]
   rw [show (L.take i).length + 1 = (L.take (i + 1)).length by rw [hli, List.length_take]; omega]
   rw [← ht] at y2
   rw [← eq2]
   exact ⟨m - 1, by omega, i + 1, aE, cE, _, _, _, by omega, y2, rfl⟩
  ·have hil : i = L.length := by omega
   subst hil
   rw [List.take_length] at s1
   refine wpC_exit ?_
   simp only [ptrTo, oxs, simprocAttr, List.take_length]
   exact ⟨b, d, _, _, _, _, s1, rfl⟩
 rintro T h' ⟨b, d, u0, u1, u2, R, s1, rfl⟩
 refine sr (fun LL hLL => ?_)
 simp only [ptrTo, oxs, simprocAttr]
 refine hLL _ _ ?_
 refine wpC_ret (out_ret ?_)
 simp only [ptrTo, oxs, simprocAttr]
 exact hk _ _ _ s1
theorem copyRowLists_ok {h0 : AHeap} {F : List Asn} (L : List (List Rw)) (a : Option Addr) (c : Nat) (h : AHeap) (r : RdN h0 F rcell 3 a L) (hl : L.length < 1000000) (hl1 : ∀ x ∈ L, x.length < 1000000) (s : St h0 h F) (K : Value → AHeap → Prop) (hk : ∀ b d h', St h0 h' (nest rcell 3 52 48 b d L :: F) → K (.slice b L.length d) h') :
  wpF Tryz.prog (.fn 30) [.slice a L.length c] h K := by
 have zz : aZeros [.slice none 0 0] 1 = [.slice none 0 0] := rfl
 refine wpF_fun 20 [.tmp 2] Tryz.func30 rfl rfl rfl rfl ?_
 refine sr (fun LL hLL => ?_)
 simp only [ptrTo, oxs, simprocAttr]
 refine hLL _ _ ?_
 refine sr (fun LL hLL => ?_)
 simp only [ptrTo, oxs, simprocAttr]
 refine hLL _ _ ?_
 refine sm (fun T h' => ∃ (b : Option Addr) (d : Nat) (u0 u1 u2 : Value) (R : List Value), St h0 h' (nest rcell 3 52 48 b d L :: F) ∧ T = u0 :: u1 :: u2 :: .slice b L.length d :: R) ?_ ?_
 ·refine sr (fun LL hLL => ?_)
  simp only [ptrTo, oxs, simprocAttr]
  refine hLL _ _ ?_
  refine fg5 (fun R => ?_)
  have s0 := s.nest_nil (f := rcell) (k := 3) (e := 52) (E := 48)
  refine wpC_block ?_
  refine wpC_loop (fun m T h' => ∃ (i : Nat) (b : Option Addr) (d : Nat) (u1 u2 : Value) (R : List Value), m + i = L.length ∧ St h0 h' (nest rcell 3 52 48 b d (L.take i) :: F) ∧ T = .slice a L.length c :: u1 :: u2 :: .slice b (L.take i).length d :: .int .i64 i :: R) ?_ L.length _ _ ⟨0, none, 0, _, _, R, by omega, s0, rfl⟩
  rintro m T h' ⟨i, b, d, u1, u2, R, hmi, s1, rfl⟩
  refine wpC_seq (sr fun LL hLL => ?_)
  simp only [ptrTo, oxs, simprocAttr]
  refine hLL _ _ ?_
  refine wpC_if ?_
  simp only [ptrTo, oxs, simprocAttr]
  refine gC_of (fun hc => ?_) (fun hc => ?_)
  ·refine wpC_skip ?_
   simp only [ptrTo, oxs, simprocAttr]
   refine fg5 (fun R => ?_)
   have hi : i < L.length := by omega
   have ht : L.take (i + 1) = L.take i ++ [L[i]] := List.take_succ_eq_append_getElem hi
   have hli : (L.take i).length = i := by rw [List.length_take]; omega
   obtain ⟨ai, ci, rat, rdi, _⟩ := rdnAt r i hi
   obtain ⟨bq, oq, roq, szq, Cq, Tq, eq, gq, vq⟩ := rat _ s1.drop
   refine wpC_seq (wpC_block ?_)
   rw [eq]
   refine rg (fun LL hLL => ?_)
   simp only [ptrTo, pend, pend0, Pd.old, pendU, pendU0, Nat.testBit, oxh, simprocAttr, ixF hi, gq, vq]
   refine copyRows_ok L[i] ai ci _ (rdi.up (A := nest rcell 3 52 48 b d (L.take i))) (hl1 _ (List.getElem_mem hi)) s1 _ fun b2 d2 h2 s2 => ?_
   obtain ⟨aE, cE, h6, y1, y2⟩ := s2.nest_app (by omega)
   have eq2 : a = some ⟨bq, oq, none⟩ := eq
   simp only [ptrTo, pend, pend0, Pd.old, pendU, pendU0, Nat.testBit, oxh, simprocAttr, zz]
   rw [y1]
   simp only [ptrTo, pend, pend0, Pd.old, pendU, pendU0, Nat.testBit, oxh, simprocAttr]
   refine hLL _ _ ?_
   simp only [ptrTo, oxs, simprocAttr]
   refine fg5 (fun R => ?_)
   refine rg (fun LL hLL => ?_)
   simp only [ptrTo, oxs, simprocAttr, wsucc (show i < 9223372036854775807 by omega)]
   refine hLL _ _ ?_
   simp only [ptrTo, oxs, simprocAttr]
   rw [show (L.take i).length + 1 = (L.take (i + 1)).length by rw [hli, List.length_take]; omega]
   rw [← ht] at y2
   rw [← eq2]
   exact ⟨m - 1, by omega, i + 1, aE, cE, _, _, _, by omega, y2, rfl⟩
  ·have hil : i = L.length := by omega
   subst hil
   rw [List.take_length] at s1
   refine wpC_exit ?_
   simp only [ptrTo, oxs, simprocAttr, List.take_length]
   exact ⟨b, d, _, _, _, _, s1, rfl⟩
 rintro T h' ⟨b, d, u0, u1, u2, R, s1, rfl⟩
 refine sr (fun LL hLL => ?_)
 simp only [ptrTo, oxs, simprocAttr]
 refine hLL _ _ ?_
 refine wpC_ret (out_ret ?_)
 simp only [ptrTo, oxs, simprocAttr]
 exact hk _ _ _ s1
theorem copyRecLists_ok {h0 : AHeap} {F : List Asn} (L : List (List Rc2)) (a : Option Addr) (c : Nat) (h : AHeap) (r : RdN h0 F r2cell 2 a L) (hl : L.length < 1000000) (hl1 : ∀ x ∈ L, x.length < 1000000) (s : St h0 h F) (K : Value → AHeap → Prop) (hk : ∀ b d h', St h0 h' (nest r2cell 2 130 110 b d L :: F) → K (.slice b L.length d) h') :
  wpF Tryz.prog (.fn 31) [.slice a L.length c] h K := by
 have zz : aZeros [.slice none 0 0] 1 = [.slice none 0 0] := rfl
 refine wpF_fun 20 [.tmp 2] Tryz.func31 rfl rfl rfl rfl ?_
 refine sr (fun LL hLL => ?_)
 simp only [ptrTo, oxs, simprocAttr]
 refine hLL _ _ ?_
 refine sr (fun LL hLL => ?_)
 simp only [ptrTo, oxs, simprocAttr]
 refine hLL _ _ ?_
 refine sm (fun T h' => ∃ (b : Option Addr) (d : Nat) (u0 u1 u2 : Value) (R : List Value), St h0 h' (nest r2cell 2 130 110 b d L :: F) ∧ T = u0 :: u1 :: u2 :: .slice b L.length d :: R) ?_ ?_
 ·refine sr (fun LL hLL => ?_)
  simp only [ptrTo, oxs, simprocAttr]
  refine hLL _ _ ?_
  refine fg5 (fun R => ?_)
  have s0 := s.nest_nil (f := r2cell) (k := 2) (e := 130) (E := 110)
  refine wpC_block ?_
  refine wpC_loop (fun m T h' => ∃ (i : Nat) (b : Option Addr) (d : Nat) (u1 u2 : Value) (R : List Value), m + i = L.length ∧ St h0 h' (nest r2cell 2 130 110 b d (L.take i) :: F) ∧ T = .slice a L.length c :: u1 :: u2 :: .slice b (L.take i).length d :: .int .i64 i :: R) ?_ L.length _ _ ⟨0, none, 0, _, _, R, by omega, s0, rfl⟩
  rintro m T h' ⟨i, b, d, u1, u2, R, hmi, s1, rfl⟩
  refine wpC_seq (sr fun LL hLL => ?_)
  simp only [ptrTo, oxs, simprocAttr]
  refine hLL _ _ ?_
  refine wpC_if ?_
  simp only [ptrTo, oxs, simprocAttr]
  refine gC_of (fun hc => ?_) (fun hc => ?_)
  ·refine wpC_skip ?_
   simp only [ptrTo, oxs, simprocAttr]
   refine fg5 (fun R => ?_)
   have hi : i < L.length := by omega
   have ht : L.take (i + 1) = L.take i ++ [L[i]] := List.take_succ_eq_append_getElem hi
   have hli : (L.take i).length = i := by rw [List.length_take]; omega
   obtain ⟨ai, ci, rat, rdi, _⟩ := rdnAt r i hi
   obtain ⟨bq, oq, roq, szq, Cq, Tq, eq, gq, vq⟩ := rat _ s1.drop
   refine wpC_seq (wpC_block ?_)
   rw [eq]
   refine rg (fun LL hLL => ?_)
   simp only [ptrTo, pend, pend0, Pd.old, pendU, pendU0, Nat.testBit, oxh, simprocAttr, ixF hi, gq, vq]
   refine copyRecs_ok L[i] ai ci _ (rdi.up (A := nest r2cell 2 130 110 b d (L.take i))) (hl1 _ (List.getElem_mem hi)) s1 _ fun b2 d2 h2 s2 => ?_
   obtain ⟨aE, cE, h6, y1, y2⟩ := s2.nest_app (by omega)
   have eq2 : a = some ⟨bq, oq, none⟩ := eq
   simp only [ptrTo, pend, pend0, Pd.old, pendU, pendU0, Nat.testBit, oxh, simprocAttr, zz]
   rw [y1]
   simp only [ptrTo, pend, pend0, Pd.old, pendU, pendU0, Nat.testBit, oxh, simprocAttr]
   refine hLL _ _ ?_
   simp only [ptrTo, oxs, simprocAttr]
   refine fg5 (fun R => ?_)
   refine rg (fun LL hLL => ?_)
   simp only [ptrTo, oxs, simprocAttr, wsucc (show i < 9223372036854775807 by omega)]
   refine hLL _ _ ?_
   simp only [ptrTo, oxs, simprocAttr]
   rw [show (L.take i).length + 1 = (L.take (i + 1)).length by rw [hli, List.length_take]; omega]
   rw [← ht] at y2
   rw [← eq2]
   exact ⟨m - 1, by omega, i + 1, aE, cE, _, _, _, by omega, y2, rfl⟩
  ·have hil : i = L.length := by omega
   subst hil
   rw [List.take_length] at s1
   refine wpC_exit ?_
   simp only [ptrTo, oxs, simprocAttr, List.take_length]
   exact ⟨b, d, _, _, _, _, s1, rfl⟩
 rintro T h' ⟨b, d, u0, u1, u2, R, s1, rfl⟩
 refine sr (fun LL hLL => ?_)
 simp only [ptrTo, oxs, simprocAttr]
 refine hLL _ _ ?_
 refine wpC_ret (out_ret ?_)
 simp only [ptrTo, oxs, simprocAttr]
 exact hk _ _ _ s1
end Go.Proofs

