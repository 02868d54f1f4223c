/-
  A part of the proof: what functions of the program do on an abstract heap. CONDITIONS: none.
-/
import Derived.Test.YtfcajloeknedeaaGreatOxTyG
import Derived.Test.YtfcajloeknedeaaGreatOxGp
import Derived.Test.YtfcajloeknedeaaGreatOxLyG
import Derived.Test.YtfcajloeknedeaaGreatOxSo
import Derived.Test.YtfcajloeknedeaaGreatChecked
import Derived.Shelf.SlSortCmp.NoneTotal
import Derived.Shelf.SlIterI.Collect
import Derived.RangeFuncBound
import Derived.WalkKit
set_option linter.unusedSimpArgs false
set_option linter.unusedVariables false
namespace Go.Proofs
open Go Go.Ox
set_option maxRecDepth 100000
set_option maxHeartbeats 1000000
theorem cv_iu (n : Int) : aConv Tryz.prog 3 157 (.int .i64 n) = some (.int .u64 (IntKind.u64.wrap n)) := congrArg id (by rfl)
theorem cv_us (n : Int) : aConv Tryz.prog 157 156 (.int .u64 n) = some (.int .u32 (IntKind.u32.wrap n)) := congrArg id (by rfl)
theorem cv_is (n : Int) : aConv Tryz.prog 3 156 (.int .i64 n) = some (.int .u32 (IntKind.u32.wrap n)) := congrArg id (by rfl)
theorem cv_si (n : Int) : aConv Tryz.prog 156 3 (.int .u32 n) = some (.int .i64 (IntKind.i64.wrap n)) := congrArg id (by rfl)
theorem wrap_u32_id {n : Int} (h0 : 0 ≤ n) (h1 : n < 4294967296) : IntKind.u32.wrap n = n := by
 have h : IntKind.u32.wrap n = n % 4294967296 := by
  simp only [IntKind.wrap, IntKind.bits, IntKind.signed, Bool.false_and, Bool.false_eq_true, if_false]
  rfl
 rw [h]; omega
theorem of_ok [X : Ext Tryz.prog] (hX : Out X [87]) (k g : Int) (h : AHeap) (K : Value → AHeap → Prop) (hk : K (.int .i64 (grp k g)) h) : wpF Tryz.prog (.fn 87) [.int .i64 k, .int .i64 g] h K := by
 refine wpF_fun 31 [.tmp 4] Tryz.func87 rfl rfl rfl (hX.no (f := 87) (by decide)) ?_
 refine sr (fun LL hLL => ?_)
 simp only [oxz, simprocAttr]
 refine hLL _ _ ?_
 by_cases h1 : g < 1
 ·refine wpC_seq (sr fun LL hLL => ?_)
  simp only [oxz, simprocAttr, eq_true h1]
  refine hLL _ _ ?_
  refine wpC_if ?_
  simp only [oxz, simprocAttr]
  refine sr (fun LL hLL => ?_)
  simp only [oxz, simprocAttr]
  refine hLL _ _ ?_
  refine wpC_ret (out_ret ?_)
  simp only [oxz, simprocAttr]
  have e : grp k g = 0 := by unfold grp; rw [if_pos (.inl h1)]
  rw [e] at hk
  exact hk
 by_cases h2 : 64 < g
 ·refine wpC_seq (sr fun LL hLL => ?_)
  simp only [oxz, simprocAttr, eq_false h1, eq_true h2]
  refine hLL _ _ ?_
  refine wpC_if ?_
  simp only [oxz, simprocAttr]
  refine sr (fun LL hLL => ?_)
  simp only [oxz, simprocAttr]
  refine hLL _ _ ?_
  refine wpC_ret (out_ret ?_)
  simp only [oxz, simprocAttr]
  have e : grp k g = 0 := by unfold grp; rw [if_pos (.inr h2)]
  rw [e] at hk
  exact hk
 refine wpC_seq (sr fun LL hLL => ?_)
 simp only [oxz, simprocAttr, eq_false h1, eq_false h2]
 refine hLL _ _ ?_
 refine wpC_if ?_
 simp only [oxz, simprocAttr]
 refine wpC_skip ?_
 simp only [oxz, simprocAttr]
 refine sr (fun LL hLL => ?_)
 simp only [oxz, simprocAttr, cv_iu]
 refine hLL _ _ ?_
 refine wpC_seq ?_
 refine sr (fun LL hLL => ?_)
 simp only [oxz, simprocAttr]
 refine hLL _ _ ?_
 refine fg16 (fun R => ?_)
 refine wpC_block ?_
 have hg : IntKind.u32.wrap g = g := wrap_u32_id (by omega) (by omega)
 refine wpC_loop (fun m T h' => ∃ (n : Nat) (H U : Int) (u2 u3 u4 u7 u8 u9 u10 u11 u12 u13 u14 : Value) (R : List Value), h' = h ∧ m + n = 8 ∧ fnv m H U = fnv 8 2166136261 (IntKind.u64.wrap k) ∧ T = .int .i64 k :: .int .i64 g :: u2 :: u3 :: u4 :: .int .u32 H :: .int .u64 U :: u7 :: u8 :: u9 :: u10 :: u11 :: u12 :: u13 :: u14 :: .int .i64 n :: R) ?_ 8 _ _ ⟨0, 2166136261, IntKind.u64.wrap k, _, _, _, _, _, _, _, _, _, _, _, _, rfl, rfl, Eq.refl _, rfl⟩
 rintro m T h' ⟨n, H, U, u2, u3, u4, u7, u8, u9, u10, u11, u12, u13, u14, R, rfl, hm, hf, rfl⟩
 refine sr (fun LL hLL => ?_)
 simp only [oxz, simprocAttr]
 refine hLL _ _ ?_
 refine wpC_seq ?_
 refine wpC_if ?_
 simp only [oxz, simprocAttr]
 refine gC_of (fun hc => ?_) (fun hc => ?_)
 ·refine wpC_skip ?_
  simp only [oxz, simprocAttr]
  refine wpC_seq (wpC_block ?_)
  refine sr (fun LL hLL => ?_)
  simp only [oxz, simprocAttr, aInt_and, cv_us, aInt_xor]
  refine hLL _ _ ?_
  refine rg (fun LL hLL => ?_)
  simp only [oxz, simprocAttr, aInt_shr8 .u64 (by decide)]
  refine hLL _ _ ?_
  simp only [oxz, simprocAttr]
  refine fg16 (fun R => ?_)
  have hw : IntKind.i64.wrap ((n : Int) + 1) = ((n + 1 : Nat) : Int) := by rw [wrap_i64 (by omega) (by omega)]; omega
  refine rg (fun LL hLL => ?_)
  simp only [oxz, simprocAttr, hw]
  refine hLL _ _ ?_
  simp only [oxz, simprocAttr]
  obtain ⟨m', rfl⟩ : ∃ m', m = m' + 1 := ⟨m - 1, by omega⟩
  exact ⟨m', by omega, n + 1, fnvH H U, U.fdiv 256, _, _, _, _, _, _, _, _, _, _, _, _, by omega, hf, rfl⟩
 ·refine wpC_exit ?_
  simp only [oxz, simprocAttr]
  refine fg16 (fun R => ?_)
  obtain rfl : m = 0 := by omega
  have h3 : fnv 0 H U = H := rfl
  rw [h3] at hf
  have hlt := fnv_lt 8 2166136261 (IntKind.u64.wrap k) (by omega) (by omega)
  have e : grp k g = IntKind.i64.wrap (H.tmod g) := by unfold grp; rw [if_neg (by omega), hf, hg]
  refine sr (fun LL hLL => ?_)
  simp only [oxz, simprocAttr, cv_is, hg, cv_si, aInt_rem, if_neg (show ¬ g = 0 by omega)]
  refine hLL _ _ ?_
  refine wpC_ret (out_ret ?_)
  simp only [oxz, simprocAttr]
  rw [e] at hk
  exact hk
theorem nan_ok [X : Ext Tryz.prog] (hX : Out X [101]) (x : Int) (h : AHeap) (K : Value → AHeap → Prop) (hk : K (.bool false) h) : wpF Tryz.prog (.fn 101) [.int .i64 x] h K := by
 refine wpF_fun 6 [.tmp 2] Tryz.func101 rfl rfl rfl (hX.no (f := 101) (by decide)) ?_
 refine sr (fun LL hLL => ?_)
 simp only [oxz, simprocAttr]
 refine hLL _ _ ?_
 refine sr (fun LL hLL => ?_)
 simp only [oxz, simprocAttr, not_true_eq_false]
 refine hLL _ _ ?_
 refine wpC_ret (out_ret ?_)
 simp only [oxz, simprocAttr]
 exact hk
theorem compare_ok [X : Ext Tryz.prog] (hX : Out X [101, 86]) (x y : Int) (h : AHeap) (K : Value → AHeap → Prop) (hk : K (.int .i64 (cmpI x y)) h) : wpF Tryz.prog (.fn 86) [.int .i64 x, .int .i64 y] h K := by
 refine wpF_fun 20 [.tmp 4] Tryz.func86 rfl rfl rfl (hX.no (f := 86) (by decide)) ?_
 refine sr (fun LL hLL => ?_)
 simp only [oxz, simprocAttr]
 refine hLL _ _ ?_
 refine sr (fun LL hLL => ?_)
 simp only [oxz, simprocAttr]
 refine nan_ok (hX.sub (by decide)) _ _ _ ?_
 refine hLL _ _ ?_
 refine sr (fun LL hLL => ?_)
 simp only [oxz, simprocAttr]
 refine nan_ok (hX.sub (by decide)) _ _ _ ?_
 refine hLL _ _ ?_
 refine wpC_seq (sr fun LL hLL => ?_)
 simp only [oxz, simprocAttr]
 refine hLL _ _ ?_
 refine wpC_if ?_
 simp only [oxz, simprocAttr]
 refine wpC_skip ?_
 simp only [oxz, simprocAttr]
 refine wpC_seq (sr fun LL hLL => ?_)
 simp only [oxz, simprocAttr]
 refine hLL _ _ ?_
 refine wpC_if ?_
 simp only [oxz, simprocAttr]
 refine wpC_skip ?_
 simp only [oxz, simprocAttr]
 by_cases h1 : x < y
 ·refine wpC_seq (sr fun LL hLL => ?_)
  simp only [oxz, simprocAttr, eq_true h1]
  refine hLL _ _ ?_
  refine wpC_if ?_
  simp only [oxz, simprocAttr]
  refine sr (fun LL hLL => ?_)
  simp only [oxz, simprocAttr]
  refine hLL _ _ ?_
  refine wpC_ret (out_ret ?_)
  simp only [oxz, simprocAttr]
  have e : cmpI x y = -1 := by unfold cmpI; rw [if_pos h1]
  rw [e] at hk
  exact hk
 refine wpC_seq (sr fun LL hLL => ?_)
 simp only [oxz, simprocAttr, eq_false h1]
 refine hLL _ _ ?_
 refine wpC_if ?_
 simp only [oxz, simprocAttr]
 refine wpC_skip ?_
 simp only [oxz, simprocAttr]
 by_cases h2 : y < x
 ·refine wpC_seq (sr fun LL hLL => ?_)
  simp only [oxz, simprocAttr, eq_true h2]
  refine hLL _ _ ?_
  refine wpC_if ?_
  simp only [oxz, simprocAttr]
  refine sr (fun LL hLL => ?_)
  simp only [oxz, simprocAttr]
  refine hLL _ _ ?_
  refine wpC_ret (out_ret ?_)
  simp only [oxz, simprocAttr]
  have e : cmpI x y = 1 := by unfold cmpI; rw [if_neg h1, if_pos h2]
  rw [e] at hk
  exact hk
 refine wpC_seq (sr fun LL hLL => ?_)
 simp only [oxz, simprocAttr, eq_false h2]
 refine hLL _ _ ?_
 refine wpC_if ?_
 simp only [oxz, simprocAttr]
 refine wpC_skip ?_
 simp only [oxz, simprocAttr]
 refine sr (fun LL hLL => ?_)
 simp only [oxz, simprocAttr]
 refine hLL _ _ ?_
 refine wpC_ret (out_ret ?_)
 simp only [oxz, simprocAttr]
 have e : cmpI x y = 0 := by unfold cmpI; rw [if_neg h1, if_neg h2]
 rw [e] at hk
 exact hk
theorem or_ok [X : Ext Tryz.prog] (hX : Out X [85]) (x y : Int) (b : Nat) (ro : Bool) (sz : Nat) (T : TypeId) (h : AHeap) (hb : h.get b = some (.cells ro sz [.int .i64 x, .int .i64 y] T)) (K : Value → AHeap → Prop) (hk : K (.int .i64 (if x ≠ 0 then x else y)) h) : wpF Tryz.prog (.fn 85) [.slice (some ⟨b, 0, none⟩) 2 2] h K := by
 refine wpF_fun 18 [.tmp 2] Tryz.func85 rfl rfl rfl (hX.no (f := 85) (by decide)) ?_
 refine sr (fun LL hLL => ?_)
 simp only [oxz, simprocAttr]
 refine hLL _ _ ?_
 refine sr (fun LL hLL => ?_)
 simp only [oxz, simprocAttr]
 refine hLL _ _ ?_
 refine wpC_seq ?_
 refine sr (fun LL hLL => ?_)
 simp only [oxz, simprocAttr]
 refine hLL _ _ ?_
 refine fg9 (fun R => ?_)
 refine wpC_block ?_
 refine wpC_loop (fun m T h' => ∃ (n : Nat) (u1 u2 u4 u5 : Value) (R : List Value), h' = h ∧ m + n = 2 ∧ (0 < n → x = 0) ∧ (1 < n → y = 0) ∧ T = .slice (some ⟨b, 0, none⟩) 2 2 :: u1 :: u2 :: .int .i64 0 :: u4 :: u5 :: .slice (some ⟨b, 0, none⟩) 2 2 :: .int .i64 2 :: .int .i64 n :: R) ?_ 2 _ _ ⟨0, _, _, _, _, _, rfl, rfl, by omega, by omega, rfl⟩
 rintro m T h' ⟨n, u1, u2, u4, u5, R, rfl, hm, hx, hy, rfl⟩
 refine sr (fun LL hLL => ?_)
 simp only [oxz, simprocAttr]
 refine hLL _ _ ?_
 refine wpC_seq ?_
 refine wpC_if ?_
 simp only [oxz, simprocAttr]
 refine gC_of (fun hc => ?_) (fun hc => ?_)
 ·refine wpC_skip ?_
  simp only [oxz, simprocAttr]
  refine wpC_seq (wpC_block ?_)
  obtain ⟨v, hv, hvx⟩ : ∃ v : Int, [Value.int .i64 x, .int .i64 y][n]? = some (.int .i64 v) ∧ ((n = 0 ∧ v = x) ∨ (n = 1 ∧ v = y)) := by
   have : n = 0 ∨ n = 1 := by omega
   rcases this with rfl | rfl
   ·exact ⟨x, rfl, .inl ⟨rfl, rfl⟩⟩
   ·exact ⟨y, rfl, .inr ⟨rfl, rfl⟩⟩
  refine sr (fun LL hLL => ?_)
  simp only [oxz, simprocAttr, ixF (show n < 2 by omega), eq_true (show (n : Int) < 2 by omega), hb, hv, Nat.mul_one]
  refine hLL _ _ ?_
  by_cases hz : v = 0
  ·refine sr (fun LL hLL => ?_)
   simp only [oxz, simprocAttr, hz, not_true_eq_false]
   refine hLL _ _ ?_
   refine wpC_if ?_
   simp only [oxz, simprocAttr]
   refine wpC_skip ?_
   simp only [oxz, simprocAttr]
   refine fg9 (fun R => ?_)
   have hw : IntKind.i64.wrap ((n : Int) + 1) = ((n + 1 : Nat) : Int) := by rw [wrap_i64 (by omega) (by omega)]; omega
   refine rg (fun LL hLL => ?_)
   simp only [oxz, simprocAttr, hw]
   refine hLL _ _ ?_
   simp only [oxz, simprocAttr]
   obtain ⟨m', rfl⟩ : ∃ m', m = m' + 1 := ⟨m - 1, by omega⟩
   exact ⟨m', by omega, n + 1, _, _, _, _, _, by omega, by omega, by omega, rfl⟩
  ·refine sr (fun LL hLL => ?_)
   simp only [oxz, simprocAttr, eq_true hz]
   refine hLL _ _ ?_
   refine wpC_if ?_
   simp only [oxz, simprocAttr]
   refine sr (fun LL hLL => ?_)
   simp only [oxz, simprocAttr]
   refine hLL _ _ ?_
   refine wpC_ret (out_ret ?_)
   simp only [oxz, simprocAttr]
   have e : (if x ≠ 0 then x else y) = v := by
    rcases hvx with ⟨rfl, rfl⟩ | ⟨rfl, rfl⟩
    ·rw [if_pos hz]
    ·rw [if_neg (by have := hx (by omega); simpa using this)]
   rw [e] at hk
   exact hk
 ·refine wpC_exit ?_
  simp only [oxz, simprocAttr]
  refine fg9 (fun R => ?_)
  have hx' := hx (by omega)
  have hy' := hy (by omega)
  refine sr (fun LL hLL => ?_)
  simp only [oxz, simprocAttr]
  refine hLL _ _ ?_
  refine wpC_ret (out_ret ?_)
  simp only [oxz, simprocAttr]
  have e : (if x ≠ 0 then x else y) = 0 := by rw [hx', hy']; rfl
  rw [e] at hk
  exact hk
theorem in1_ok [X : Ext Tryz.prog] (hX : Out X [87, 90]) (k g : Int) (b3 bt : Nat) (ro3 rot : Bool) (s3 st : Nat) (T3 Tt : TypeId) (m : Value) (h : AHeap) (h3 : h.get b3 = some (.cells ro3 s3 [.pointer (some ⟨bt, 0, none⟩)] T3)) (ht : h.get bt = some (.cells rot st [.int .i64 g, m] Tt))
  (K : Value → AHeap → Prop) (hk : K (.int .i64 (grp k g)) h) : wpF Tryz.prog (.fn 90) [.int .i64 k, .pointer (some ⟨b3, 0, none⟩)] h K := by
 refine wpF_fun 10 [.tmp 3] Tryz.func90 rfl rfl rfl (hX.no (f := 90) (by decide)) ?_
 refine sr (fun LL hLL => ?_)
 simp only [oxz, simprocAttr]
 refine hLL _ _ ?_
 refine sr (fun LL hLL => ?_)
 simp only [oxz, simprocAttr, h3, ht]
 refine of_ok (hX.sub (by decide)) _ _ _ _ ?_
 refine hLL _ _ ?_
 refine wpC_ret (out_ret ?_)
 simp only [oxz, simprocAttr]
 exact hk
/-- What the order of keys captures. -/
structure Ord (h : AHeap) (g : Int) (b7 b3 bt : Nat) : Prop where
 c7 : ∃ ro s T, h.get b7 = some (.cells ro s [.func (.func 90) #[] #[.pointer (some ⟨b3, 0, none⟩)]] T)
 c3 : ∃ ro s T, h.get b3 = some (.cells ro s [.pointer (some ⟨bt, 0, none⟩)] T)
 ct : ∃ ro s T m, h.get bt = some (.cells ro s [.int .i64 g, m] T)
theorem in2_ok [X : Ext Tryz.prog] (hX : Out X [87, 90, 93, 101, 86, 85]) (a b g : Int) (b7 b3 bt : Nat) (h : AHeap) (o : Ord h g b7 b3 bt)
  (K : Value → AHeap → Prop) (hk : ∀ h', Fr h h' [] → K (.int .i64 (gkCmp g a b)) h') : wpF Tryz.prog (.fn 93) [.int .i64 a, .int .i64 b, .pointer (some ⟨b7, 0, none⟩)] h K := by
 obtain ⟨⟨r7, s7, T7, h7⟩, ⟨r3, s3, T3, h3⟩, ⟨rt, st, Tt, m, ht⟩⟩ := o
 refine wpF_fun 18 [.tmp 5] Tryz.func93 rfl rfl rfl (hX.no (f := 93) (by decide)) ?_
 refine sr (fun LL hLL => ?_)
 simp only [oxz, simprocAttr]
 refine hLL _ _ ?_
 have v7 : veq 6 (.func (.func 90) #[] #[.pointer (some ⟨b3, 0, none⟩)]) (.func (.func 90) #[] #[.pointer (some ⟨b3, 0, none⟩)]) = true := by simp [veq]
 have z2 : aZeros [.int .i64 0] 2 = [.int .i64 0, .int .i64 0] := rfl
 refine sd [0, 1, 3, 4, 7, 8, 2, 5, 6, 9, 10, 11, 12] [0, 0, 0, 0, 0, 0, 3, 31, 63, 511, 1023, 2047, 4095] (by decide +kernel) (by decide +kernel) (by decide +kernel) (fun LL hLL => ?_)
 simp only [oxk, simprocAttr, h7, v7]
 refine in1_ok (hX.sub (by decide)) _ _ _ _ _ _ _ _ _ _ _ _ h3 ht _ ?_
 simp only [oxk, simprocAttr, h7, v7]
 refine in1_ok (hX.sub (by decide)) _ _ _ _ _ _ _ _ _ _ _ _ h3 ht _ ?_
 simp only [oxk, simprocAttr, h7, v7]
 refine compare_ok (hX.sub (by decide)) _ _ _ _ ?_
 simp only [oxk, simprocAttr, h7, v7]
 refine compare_ok (hX.sub (by decide)) _ _ _ _ ?_
 simp only [oxk, simprocAttr, h7, v7, z2]
 refine or_ok (hX.sub (by decide)) (cmpI (grp a g) (grp b g)) (cmpI a b) _ false 1 3 _ (by simp only [AHeap.get_push, if_true]) _ ?_
 simp only [oxk, simprocAttr, h7, v7]
 refine hLL _ _ ?_
 refine wpC_ret (out_ret ?_)
 simp only [oxz, simprocAttr]
 exact hk _ (Fr.refl h _ |>.to_push _)
end Go.Proofs

namespace Go.Proofs
open Go Go.Ox Go.RowKit Go.Maps Go.Sort Go.Shelf
set_option maxRecDepth 200000
theorem tNamed : Named Tryz.prog := named_of (by decide +kernel)
def skNo : SkNo := ⟨91, 106, 93, 90, 3⟩
theorem swoGk (g : Int) : SWO (ltOf (gkCmp g)) := by
 refine ⟨fun x => ?_, fun x y z h1 h2 => ?_, fun x y z h1 h2 => ?_⟩
 ·simp only [ltOf, decide_eq_false_iff_not, gkCmp_neg]; omega
 ·simp only [ltOf, decide_eq_true_eq, gkCmp_neg] at *; omega
 ·simp only [ltOf, decide_eq_false_iff_not, gkCmp_neg] at *; omega
theorem totGk (g x y : Int) (h1 : ltOf (gkCmp g) x y = false) (h2 : ltOf (gkCmp g) y x = false) : x = y := by
 simp only [ltOf, decide_eq_false_iff_not, gkCmp_neg] at *; omega
theorem wpGk (g a b : Int) : @wpF Tryz.prog (noExt Tryz.prog) (.fn 93) [.int .i64 a, .int .i64 b, .pointer (some ⟨0, 0, none⟩)] (ordH 90 g) (fun v _ => v = .int .i64 (gkCmp g a b)) :=
 @in2_ok (noExt Tryz.prog) (fun f _ => ⟨rfl, rfl⟩) a b g 0 1 2 _ ⟨⟨_, _, _, rfl⟩, ⟨_, _, _, rfl⟩, ⟨_, _, _, _, rfl⟩⟩ _ fun _ _ => rfl
set_option maxHeartbeats 2000000 in
theorem skSays : SkSays Tryz.prog skNo := by
 intro w Bm b nn b7 o7 b3 o3 bt ot g D ow hBm hm hown hmax
 show Calls Tryz.prog 91 #[.func (.func 106) #[] #[.pointer (some ⟨Bm, 0, none⟩)], .func (.func 93) #[] #[.pointer (some ⟨b7, o7, none⟩)]] w _
 refine (callsIn_wide (n := 6)).1 ?_
 have hN : Maps.size D ≤ maxLen := by
  have : (17592186044416 : Nat) ≤ maxLen := by decide
  omega
 have hseq : SeqGives Fence.wide 3 Tryz.prog 106 #[.pointer (some ⟨Bm, 0, none⟩)] encZ (fun ss => ss.Perm (intKeys D)) (Maps.size D) w :=
  AnyZI.keys_gives (ρ := Tryz.keys1L_ren) Tryz.keys1L Fence.wide _ trivial rfl (by omega) Bm b nn D w hBm hm hown
 have cC := AnyZI.collect_in (ρ := Tryz.collectL_ren) Tryz.collectL Fence.wide 5 trivial trivial rfl (by omega) 106 #[.pointer (some ⟨Bm, 0, none⟩)] trivial (enters_of Tryz.func106 (by kernel_rfl) rfl) _ _ hN (by omega) w hseq.bounded
 change CallsIn _ _ Tryz.prog 104 _ _ _ at cC
 have hfC : Fence.wide.fn 104 := trivial
 have hfS : Fence.wide.fn 105 := trivial
 refine callsIn_of_wp Tryz.func91 rfl trivial ?_ rfl
 simp only [Tryz.ntmps91, List.size_toArray, List.length_cons, List.length_nil, Nat.reduceAdd, Nat.reduceSub, Array.replicate_succ, Array.replicate_zero, List.push_toArray, List.append_toArray, List.nil_append, List.cons_append]
 gi_wp2_with (gi_at_call 104; refine cC.mono ?_; rintro e W ⟨v, ss, rfl, ⟨hS, hlen⟩, hrow, hnil, hb⟩)
 have hrow3 : W.ownsRow w.heap.size 3 1 v ss.length (ss.map encZ) := hrow
 rcases hrow.2 with ⟨rfl, hz⟩ | ⟨gb, cap, cur, rfl, hbase, hgb, r1, r2, r3, r4⟩
 ·have hss : ss = [] := List.eq_nil_of_length_eq_zero hz
  subst hss
  have cN : ∀ W', CallsIn Fence.wide 5 Tryz.prog 105 #[.slice none 0 0, .func (.func 93) #[] #[.pointer (some ⟨b7, o7, none⟩)]] W' fun e w' => e = .returned (.tuple #[]) ∧ w' = W' := fun W' =>
   callsIn_wide.2 (AnyF.slices_SortFunc_none (ρ := Tryz.sortL_ren) { Tryz.sortL with } none 0 _ W')
  gi_wp2_with (gi_at_call 105; refine (cN _).mono ?_; rintro e w' ⟨rfl, rfl⟩)
  go_ret
  exact ⟨.slice none 0 0, [], rfl, hS, hrow3, by simp, hb⟩
 ·have hH : Holds (Value.int .i64) W gb 0 ss.toArray := holds_of_blockI hgb (by simpa [encZ] using r4)
  have hgl : gb < W.heap.size := (Array.getElem?_eq_some_iff.1 hgb).1
  have hsz : ss.toArray.size < 4611686018427387904 := by
   simp; omega
  have hlt := ow.lt
  have ow' := ow.keep (hb.block b7 hlt.1) (hb.block b3 hlt.2.1) (hb.block bt hlt.2.2)
  have hcmp := cmp_lays tNamed (Checked.mixed Tryz.checked) (gc := 93) (wpGk g) ow' gb 0 ss.toArray.size (by omega) (by omega) (by omega)
  have cS : CallsIn Fence.wide 5 Tryz.prog 105 #[.slice (some ⟨gb, 0, none⟩) ss.length cap, .func (.func 93) #[] #[.pointer (some ⟨b7, o7, none⟩)]] W _ :=
   callsIn_wide.2 (Any.slices_SortFunc_total (ρ := Tryz.sortL_ren) Tryz.sortL (Value.int .i64) (fun _ => rfl) (gkCmp g) (swoGk g) 93 #[.pointer (some ⟨b7, o7, none⟩)] gb 0 cap ss.toArray W (enters_of Tryz.func93 (by kernel_rfl) rfl) hcmp hH hgl hsz (totGk g))
  gi_wp2_with (gi_at_call 105; refine cS.mono ?_; rintro e w' ⟨rfl, nn', os, rfl⟩)
  go_ret
  exact ⟨_, ss, rfl, hS, by rw [← keySort_merge]; exact ownsRow_sortedI (by simp) hbase hgb r1 r2 r3, hnil, hb.grown (grownBy_sortedI _) hb.size (fun j hj => by cases hj; exact hbase)⟩
theorem skUnder : Tryz.prog.underlying skNo.T = some (.int .i64) := Tryz.underlying3
theorem skBody : hasBody Tryz.prog skNo.s = true := by rfl
theorem skNext (f : FuncId) (args : List Value) (h : AHeap) (v : Value) (h' : AHeap) (hs : skApp skNo f args h = some (v, h')) : h.next ≤ h'.next := by
 obtain ⟨_, bm, b7, _, hr⟩ := skApp_inv hs
 obtain ⟨r, b3, bt, es, L, g, m, Tm, r7, r3, rt, s7, s3, st, T7, T3, Tt, _, _, _, _, _, _, _, _, h9⟩ := skRun_inv hr
 have := skOut_next skNo.T g L h
 rw [← h9] at this
 exact this
@[reducible] def skExt : Ext Tryz.prog := { fs := [], body := fun _ k => (by cases k), ok := fun _ k => (by cases k), xs := [skNo.s], app := skApp skNo, xnext := skNext, xok := skApp_ok skBody skUnder skSays }
end Go.Proofs

