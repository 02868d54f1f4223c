/-
  A part of the proof: what functions of the program do on an abstract heap. CONDITIONS: none.
-/
import Derived.Test.YtfcajloeknedeaaGreatOxJGb
import Derived.Test.YtfcajloeknedeaaGreatOxTyG
import Derived.Test.YtfcajloeknedeaaGreatOxGp
set_option linter.unusedSimpArgs false
set_option linter.unusedVariables false
namespace Go.Proofs.Cd
open Go Go.Ox
set_option maxRecDepth 100000
set_option maxHeartbeats 4000000
theorem sortStable_at {h0 : AHeap} {F : List Asn} {lt : Rwc → Rwc → Bool} {ke : Rwc → Int} (o : KOrd lt ke) (g : Nat) (u : Value) (hcmp : CmpAt g u lt h0 F) (X : List Rwc) (a : Option Addr) (c n : Nat) (h : AHeap) (hn : n = X.length) (hl : n < 1000000000) (s : St h0 h (wn rcell 3 63 a c X :: F)) (K : Value → AHeap → Prop)
    (hk : ∀ h' X', SrtL lt X' → Sim ke X X' → St h0 h' (wn rcell 3 63 a c X' :: F) → K (.tuple #[]) h') :
    wpF Tryz.prog (.fn 83) [.slice a n c, cfun g u] h K := by
  refine wpF_fun 9 [] Tryz.func83 rfl rfl rfl rfl ?_
  refine rg (fun LL hLL => ?_)
  simp only [ptrTo, oxq, ↓reduceIte, simprocAttr, gR_some]
  refine stable_at o g u hcmp X a c n _ hn hl s _ fun h2 X' h1 h3 s2 => ?_
  refine hLL _ _ ?_
  refine out_normal ?_
  simp only [ptrTo, oxq, ↓reduceIte, simprocAttr, gR_some]
  exact hk _ _ h1 h3 s2
end Go.Proofs.Cd

namespace Go.Ox
variable {α κ : Type} [DecidableEq κ] {lt : α → α → Bool} {ke : α → κ}
theorem srt_one (o : KOrd lt ke) : ∀ (L M : List α), SrtL lt L → SrtL lt M → Sim ke L M → L = M
  | [], M, _, _, h => (List.length_eq_zero_iff.1 (by rw [← h.len]; rfl)).symm
  | x :: L, [], _, _, h => by have := h.len; simp at this
  | x :: L, y :: M, hL, hM, h => by
    have hx : x ∈ y :: M := (h.mem x).1 (List.mem_cons_self ..)
    have hy : y ∈ x :: L := (h.mem y).2 (List.mem_cons_self ..)
    have ek : ke x = ke y := o.eq x y (srt_first o hM hx) (srt_first o hL hy)
    have e := h (ke x)
    rw [List.filter_cons_of_pos (by simp), List.filter_cons_of_pos (by simp [ek])] at e
    obtain ⟨rfl, _⟩ := List.cons.inj e
    have h2 : Sim ke L M := fun k => by
      have := h k
      by_cases hk : ke x = k
      · rw [List.filter_cons_of_pos (by simpa using hk), List.filter_cons_of_pos (by simpa using hk)] at this
        exact (List.cons.inj this).2
      · rwa [List.filter_cons_of_neg (by simpa using hk), List.filter_cons_of_neg (by simpa using hk)] at this
    rw [srt_one o L M (List.pairwise_cons.1 hL).2 (List.pairwise_cons.1 hM).2 h2]
end Go.Ox

namespace Go.Proofs.Cd
open Go Go.Ox
set_option maxRecDepth 100000
set_option maxHeartbeats 1000000
theorem cv_iu (n : Int) : aConv Tryz.prog 3 157 (.int .i64 n) = some (.int .u64 (IntKind.u64.wrap n)) := congrArg id (by rfl)
theorem cv_us (n : Int) : aConv Tryz.prog 157 156 (.int .u64 n) = some (.int .u32 (IntKind.u32.wrap n)) := congrArg id (by rfl)
theorem cv_is (n : Int) : aConv Tryz.prog 3 156 (.int .i64 n) = some (.int .u32 (IntKind.u32.wrap n)) := congrArg id (by rfl)
theorem cv_si (n : Int) : aConv Tryz.prog 156 3 (.int .u32 n) = some (.int .i64 (IntKind.i64.wrap n)) := congrArg id (by rfl)
theorem wrap_u32_id {n : Int} (h0 : 0 ≤ n) (h1 : n < 4294967296) : IntKind.u32.wrap n = n := by
  have h : IntKind.u32.wrap n = n % 4294967296 := by
    simp only [IntKind.wrap, IntKind.bits, IntKind.signed, Bool.false_and, Bool.false_eq_true, if_false]
    rfl
  rw [h]; omega
theorem of_ok [X : Ext Tryz.prog] (hX : Out X [87]) (k g : Int) (h : AHeap) (K : Value → AHeap → Prop) (hk : K (.int .i64 (grp k g)) h) : wpF Tryz.prog (.fn 87) [.int .i64 k, .int .i64 g] h K := by
  refine wpF_fun 31 [.tmp 4] Tryz.func87 rfl rfl rfl (hX.no (f := 87) (by decide)) ?_
  refine sr (fun LL hLL => ?_)
  simp only [ptrTo, oxq, ↓reduceIte, simprocAttr, gR_some]
  refine hLL _ _ ?_
  by_cases h1 : g < 1
  · refine wpC_seq (sr fun LL hLL => ?_)
    simp only [ptrTo, oxq, ↓reduceIte, simprocAttr, gR_some, eq_true h1]
    refine hLL _ _ ?_
    refine wpC_if ?_
    simp only [ptrTo, oxq, ↓reduceIte, simprocAttr, gR_some]
    refine sr (fun LL hLL => ?_)
    simp only [ptrTo, oxq, ↓reduceIte, simprocAttr, gR_some]
    refine hLL _ _ ?_
    refine wpC_ret (out_ret ?_)
    simp only [ptrTo, oxq, ↓reduceIte, simprocAttr, gR_some]
    have e : grp k g = 0 := by unfold grp; rw [if_pos (.inl h1)]
    rw [e] at hk
    exact hk
  by_cases h2 : 64 < g
  · refine wpC_seq (sr fun LL hLL => ?_)
    simp only [ptrTo, oxq, ↓reduceIte, simprocAttr, gR_some, eq_false h1, eq_true h2]
    refine hLL _ _ ?_
    refine wpC_if ?_
    simp only [ptrTo, oxq, ↓reduceIte, simprocAttr, gR_some]
    refine sr (fun LL hLL => ?_)
    simp only [ptrTo, oxq, ↓reduceIte, simprocAttr, gR_some]
    refine hLL _ _ ?_
    refine wpC_ret (out_ret ?_)
    simp only [ptrTo, oxq, ↓reduceIte, simprocAttr, gR_some]
    have e : grp k g = 0 := by unfold grp; rw [if_pos (.inr h2)]
    rw [e] at hk
    exact hk
  refine wpC_seq (sr fun LL hLL => ?_)
  simp only [ptrTo, oxq, ↓reduceIte, simprocAttr, gR_some, eq_false h1, eq_false h2]
  refine hLL _ _ ?_
  refine wpC_if ?_
  simp only [ptrTo, oxq, ↓reduceIte, simprocAttr, gR_some]
  refine wpC_skip ?_
  simp only [ptrTo, oxq, ↓reduceIte, simprocAttr, gR_some]
  refine sr (fun LL hLL => ?_)
  simp only [ptrTo, oxq, ↓reduceIte, simprocAttr, gR_some, cv_iu]
  refine hLL _ _ ?_
  refine wpC_seq ?_
  refine sr (fun LL hLL => ?_)
  simp only [ptrTo, oxq, ↓reduceIte, simprocAttr, gR_some]
  refine hLL _ _ ?_
  refine fg16 (fun R => ?_)
  refine wpC_block ?_
  have hg : IntKind.u32.wrap g = g := wrap_u32_id (by omega) (by omega)
  refine wpC_loop (fun m T h' => ∃ (n : Nat) (H U : Int) (u2 u3 u4 u7 u8 u9 u10 u11 u12 u13 u14 : Value) (R : List Value), h' = h ∧ m + n = 8 ∧ fnv m H U = fnv 8 2166136261 (IntKind.u64.wrap k) ∧ T = .int .i64 k :: .int .i64 g :: u2 :: u3 :: u4 :: .int .u32 H :: .int .u64 U :: u7 :: u8 :: u9 :: u10 :: u11 :: u12 :: u13 :: u14 :: .int .i64 n :: R) ?_ 8 _ _ ⟨0, 2166136261, IntKind.u64.wrap k, _, _, _, _, _, _, _, _, _, _, _, _, rfl, rfl, Eq.refl _, rfl⟩
  rintro m T h' ⟨n, H, U, u2, u3, u4, u7, u8, u9, u10, u11, u12, u13, u14, R, rfl, hm, hf, rfl⟩
  refine sr (fun LL hLL => ?_)
  simp only [ptrTo, oxq, ↓reduceIte, simprocAttr, gR_some]
  refine hLL _ _ ?_
  refine wpC_seq ?_
  refine wpC_if ?_
  simp only [ptrTo, oxq, ↓reduceIte, simprocAttr, gR_some]
  refine gC_of (fun hc => ?_) (fun hc => ?_)
  · refine wpC_skip ?_
    simp only [ptrTo, oxq, ↓reduceIte, simprocAttr, gR_some]
    refine wpC_seq (wpC_block ?_)
    refine sr (fun LL hLL => ?_)
    simp only [ptrTo, oxq, ↓reduceIte, simprocAttr, gR_some, aInt_and, cv_us, aInt_xor]
    refine hLL _ _ ?_
    refine rg (fun LL hLL => ?_)
    simp only [ptrTo, oxq, ↓reduceIte, simprocAttr, gR_some, aInt_shr8 .u64 (by decide)]
    refine hLL _ _ ?_
    simp only [ptrTo, oxq, ↓reduceIte, simprocAttr, gR_some]
    refine fg16 (fun R => ?_)
    have hw : IntKind.i64.wrap ((n : Int) + 1) = ((n + 1 : Nat) : Int) := by rw [wrap_i64 (by omega) (by omega)]; omega
    refine rg (fun LL hLL => ?_)
    simp only [ptrTo, oxq, ↓reduceIte, simprocAttr, gR_some, hw]
    refine hLL _ _ ?_
    simp only [ptrTo, oxq, ↓reduceIte, simprocAttr, gR_some]
    obtain ⟨m', rfl⟩ : ∃ m', m = m' + 1 := ⟨m - 1, by omega⟩
    exact ⟨m', by omega, n + 1, fnvH H U, U.fdiv 256, _, _, _, _, _, _, _, _, _, _, _, _, by omega, hf, rfl⟩
  · refine wpC_exit ?_
    simp only [ptrTo, oxq, ↓reduceIte, simprocAttr, gR_some]
    refine fg16 (fun R => ?_)
    obtain rfl : m = 0 := by omega
    have h3 : fnv 0 H U = H := rfl
    rw [h3] at hf
    have hlt := fnv_lt 8 2166136261 (IntKind.u64.wrap k) (by omega) (by omega)
    have e : grp k g = IntKind.i64.wrap (H.tmod g) := by unfold grp; rw [if_neg (by omega), hf, hg]
    refine sr (fun LL hLL => ?_)
    simp only [ptrTo, oxq, ↓reduceIte, simprocAttr, gR_some, cv_is, hg, cv_si, aInt_rem, if_neg (show ¬ g = 0 by omega)]
    refine hLL _ _ ?_
    refine wpC_ret (out_ret ?_)
    simp only [ptrTo, oxq, ↓reduceIte, simprocAttr, gR_some]
    rw [e] at hk
    exact hk
theorem nan_ok [X : Ext Tryz.prog] (hX : Out X [101]) (x : Int) (h : AHeap) (K : Value → AHeap → Prop) (hk : K (.bool false) h) : wpF Tryz.prog (.fn 101) [.int .i64 x] h K := by
  refine wpF_fun 6 [.tmp 2] Tryz.func101 rfl rfl rfl (hX.no (f := 101) (by decide)) ?_
  refine sr (fun LL hLL => ?_)
  simp only [ptrTo, oxq, ↓reduceIte, simprocAttr, gR_some]
  refine hLL _ _ ?_
  refine sr (fun LL hLL => ?_)
  simp only [ptrTo, oxq, ↓reduceIte, simprocAttr, gR_some, not_true_eq_false]
  refine hLL _ _ ?_
  refine wpC_ret (out_ret ?_)
  simp only [ptrTo, oxq, ↓reduceIte, simprocAttr, gR_some]
  exact hk
theorem compare_ok [X : Ext Tryz.prog] (hX : Out X [101, 86]) (x y : Int) (h : AHeap) (K : Value → AHeap → Prop) (hk : K (.int .i64 (cmpI x y)) h) : wpF Tryz.prog (.fn 86) [.int .i64 x, .int .i64 y] h K := by
  refine wpF_fun 20 [.tmp 4] Tryz.func86 rfl rfl rfl (hX.no (f := 86) (by decide)) ?_
  refine sr (fun LL hLL => ?_)
  simp only [ptrTo, oxq, ↓reduceIte, simprocAttr, gR_some]
  refine hLL _ _ ?_
  refine sr (fun LL hLL => ?_)
  simp only [ptrTo, oxq, ↓reduceIte, simprocAttr, gR_some]
  refine nan_ok (hX.sub (by decide)) _ _ _ ?_
  refine hLL _ _ ?_
  refine sr (fun LL hLL => ?_)
  simp only [ptrTo, oxq, ↓reduceIte, simprocAttr, gR_some]
  refine nan_ok (hX.sub (by decide)) _ _ _ ?_
  refine hLL _ _ ?_
  refine wpC_seq (sr fun LL hLL => ?_)
  simp only [ptrTo, oxq, ↓reduceIte, simprocAttr, gR_some]
  refine hLL _ _ ?_
  refine wpC_if ?_
  simp only [ptrTo, oxq, ↓reduceIte, simprocAttr, gR_some]
  refine wpC_skip ?_
  simp only [ptrTo, oxq, ↓reduceIte, simprocAttr, gR_some]
  refine wpC_seq (sr fun LL hLL => ?_)
  simp only [ptrTo, oxq, ↓reduceIte, simprocAttr, gR_some]
  refine hLL _ _ ?_
  refine wpC_if ?_
  simp only [ptrTo, oxq, ↓reduceIte, simprocAttr, gR_some]
  refine wpC_skip ?_
  simp only [ptrTo, oxq, ↓reduceIte, simprocAttr, gR_some]
  by_cases h1 : x < y
  · refine wpC_seq (sr fun LL hLL => ?_)
    simp only [ptrTo, oxq, ↓reduceIte, simprocAttr, gR_some, eq_true h1]
    refine hLL _ _ ?_
    refine wpC_if ?_
    simp only [ptrTo, oxq, ↓reduceIte, simprocAttr, gR_some]
    refine sr (fun LL hLL => ?_)
    simp only [ptrTo, oxq, ↓reduceIte, simprocAttr, gR_some]
    refine hLL _ _ ?_
    refine wpC_ret (out_ret ?_)
    simp only [ptrTo, oxq, ↓reduceIte, simprocAttr, gR_some]
    have e : cmpI x y = -1 := by unfold cmpI; rw [if_pos h1]
    rw [e] at hk
    exact hk
  refine wpC_seq (sr fun LL hLL => ?_)
  simp only [ptrTo, oxq, ↓reduceIte, simprocAttr, gR_some, eq_false h1]
  refine hLL _ _ ?_
  refine wpC_if ?_
  simp only [ptrTo, oxq, ↓reduceIte, simprocAttr, gR_some]
  refine wpC_skip ?_
  simp only [ptrTo, oxq, ↓reduceIte, simprocAttr, gR_some]
  by_cases h2 : y < x
  · refine wpC_seq (sr fun LL hLL => ?_)
    simp only [ptrTo, oxq, ↓reduceIte, simprocAttr, gR_some, eq_true h2]
    refine hLL _ _ ?_
    refine wpC_if ?_
    simp only [ptrTo, oxq, ↓reduceIte, simprocAttr, gR_some]
    refine sr (fun LL hLL => ?_)
    simp only [ptrTo, oxq, ↓reduceIte, simprocAttr, gR_some]
    refine hLL _ _ ?_
    refine wpC_ret (out_ret ?_)
    simp only [ptrTo, oxq, ↓reduceIte, simprocAttr, gR_some]
    have e : cmpI x y = 1 := by unfold cmpI; rw [if_neg h1, if_pos h2]
    rw [e] at hk
    exact hk
  refine wpC_seq (sr fun LL hLL => ?_)
  simp only [ptrTo, oxq, ↓reduceIte, simprocAttr, gR_some, eq_false h2]
  refine hLL _ _ ?_
  refine wpC_if ?_
  simp only [ptrTo, oxq, ↓reduceIte, simprocAttr, gR_some]
  refine wpC_skip ?_
  simp only [ptrTo, oxq, ↓reduceIte, simprocAttr, gR_some]
  refine sr (fun LL hLL => ?_)
  simp only [ptrTo, oxq, ↓reduceIte, simprocAttr, gR_some]
  refine hLL _ _ ?_
  refine wpC_ret (out_ret ?_)
  simp only [ptrTo, oxq, ↓reduceIte, simprocAttr, gR_some]
  have e : cmpI x y = 0 := by unfold cmpI; rw [if_neg h1, if_neg h2]
  rw [e] at hk
  exact hk
theorem or_ok [X : Ext Tryz.prog] (hX : Out X [85]) (x y : Int) (b : Nat) (ro : Bool) (sz : Nat) (T : TypeId) (h : AHeap) (hb : h.get b = some (.cells ro sz [.int .i64 x, .int .i64 y] T)) (K : Value → AHeap → Prop) (hk : K (.int .i64 (if x ≠ 0 then x else y)) h) : wpF Tryz.prog (.fn 85) [.slice (some ⟨b, 0, none⟩) 2 2] h K := by
  refine wpF_fun 18 [.tmp 2] Tryz.func85 rfl rfl rfl (hX.no (f := 85) (by decide)) ?_
  refine sr (fun LL hLL => ?_)
  simp only [ptrTo, oxq, ↓reduceIte, simprocAttr, gR_some]
  refine hLL _ _ ?_
  refine sr (fun LL hLL => ?_)
  simp only [ptrTo, oxq, ↓reduceIte, simprocAttr, gR_some]
  refine hLL _ _ ?_
  refine wpC_seq ?_
  refine sr (fun LL hLL => ?_)
  simp only [ptrTo, oxq, ↓reduceIte, simprocAttr, gR_some]
  refine hLL _ _ ?_
  refine fg9 (fun R => ?_)
  refine wpC_block ?_
  refine wpC_loop (fun m T h' => ∃ (n : Nat) (u1 u2 u4 u5 : Value) (R : List Value), h' = h ∧ m + n = 2 ∧ (0 < n → x = 0) ∧ (1 < n → y = 0) ∧ T = .slice (some ⟨b, 0, none⟩) 2 2 :: u1 :: u2 :: .int .i64 0 :: u4 :: u5 :: .slice (some ⟨b, 0, none⟩) 2 2 :: .int .i64 2 :: .int .i64 n :: R) ?_ 2 _ _ ⟨0, _, _, _, _, _, rfl, rfl, by omega, by omega, rfl⟩
  rintro m T h' ⟨n, u1, u2, u4, u5, R, rfl, hm, hx, hy, rfl⟩
  refine sr (fun LL hLL => ?_)
  simp only [ptrTo, oxq, ↓reduceIte, simprocAttr, gR_some]
  refine hLL _ _ ?_
  refine wpC_seq ?_
  refine wpC_if ?_
  simp only [ptrTo, oxq, ↓reduceIte, simprocAttr, gR_some]
  refine gC_of (fun hc => ?_) (fun hc => ?_)
  · refine wpC_skip ?_
    simp only [ptrTo, oxq, ↓reduceIte, simprocAttr, gR_some]
    refine wpC_seq (wpC_block ?_)
    obtain ⟨v, hv, hvx⟩ : ∃ v : Int, [Value.int .i64 x, .int .i64 y][n]? = some (.int .i64 v) ∧ ((n = 0 ∧ v = x) ∨ (n = 1 ∧ v = y)) := by
      have : n = 0 ∨ n = 1 := by omega
      rcases this with rfl | rfl
      · exact ⟨x, rfl, .inl ⟨rfl, rfl⟩⟩
      · exact ⟨y, rfl, .inr ⟨rfl, rfl⟩⟩
    refine sr (fun LL hLL => ?_)
    simp only [ptrTo, oxq, ↓reduceIte, simprocAttr, gR_some, ixF (show n < 2 by omega), eq_true (show (n : Int) < 2 by omega), hb, hv, Nat.mul_one]
    refine hLL _ _ ?_
    by_cases hz : v = 0
    · refine sr (fun LL hLL => ?_)
      simp only [ptrTo, oxq, ↓reduceIte, simprocAttr, gR_some, hz, not_true_eq_false]
      refine hLL _ _ ?_
      refine wpC_if ?_
      simp only [ptrTo, oxq, ↓reduceIte, simprocAttr, gR_some]
      refine wpC_skip ?_
      simp only [ptrTo, oxq, ↓reduceIte, simprocAttr, gR_some]
      refine fg9 (fun R => ?_)
      have hw : IntKind.i64.wrap ((n : Int) + 1) = ((n + 1 : Nat) : Int) := by rw [wrap_i64 (by omega) (by omega)]; omega
      refine rg (fun LL hLL => ?_)
      simp only [ptrTo, oxq, ↓reduceIte, simprocAttr, gR_some, hw]
      refine hLL _ _ ?_
      simp only [ptrTo, oxq, ↓reduceIte, simprocAttr, gR_some]
      obtain ⟨m', rfl⟩ : ∃ m', m = m' + 1 := ⟨m - 1, by omega⟩
      exact ⟨m', by omega, n + 1, _, _, _, _, _, by omega, by omega, by omega, rfl⟩
    · refine sr (fun LL hLL => ?_)
      simp only [ptrTo, oxq, ↓reduceIte, simprocAttr, gR_some, eq_true hz]
      refine hLL _ _ ?_
      refine wpC_if ?_
      simp only [ptrTo, oxq, ↓reduceIte, simprocAttr, gR_some]
      refine sr (fun LL hLL => ?_)
      simp only [ptrTo, oxq, ↓reduceIte, simprocAttr, gR_some]
      refine hLL _ _ ?_
      refine wpC_ret (out_ret ?_)
      simp only [ptrTo, oxq, ↓reduceIte, simprocAttr, gR_some]
      have e : (if x ≠ 0 then x else y) = v := by
        rcases hvx with ⟨rfl, rfl⟩ | ⟨rfl, rfl⟩
        · rw [if_pos hz]
        · rw [if_neg (by have := hx (by omega); simpa using this)]
      rw [e] at hk
      exact hk
  · refine wpC_exit ?_
    simp only [ptrTo, oxq, ↓reduceIte, simprocAttr, gR_some]
    refine fg9 (fun R => ?_)
    have hx' := hx (by omega)
    have hy' := hy (by omega)
    refine sr (fun LL hLL => ?_)
    simp only [ptrTo, oxq, ↓reduceIte, simprocAttr, gR_some]
    refine hLL _ _ ?_
    refine wpC_ret (out_ret ?_)
    simp only [ptrTo, oxq, ↓reduceIte, simprocAttr, gR_some]
    have e : (if x ≠ 0 then x else y) = 0 := by rw [hx', hy']; rfl
    rw [e] at hk
    exact hk
end Go.Proofs.Cd

namespace Go.Proofs.Cd
open Go Go.Ox
set_option maxRecDepth 100000
set_option maxHeartbeats 4000000
def ltg (G : Int) (x y : Rwc) : Bool := decide (grp x.1 G < grp y.1 G ∨ (grp x.1 G = grp y.1 G ∧ x.1 < y.1))
theorem ltg_ord (G : Int) : KOrd (ltg G) (fun x : Rwc => x.1) where
  nt a b c h1 h2 := by simp only [ltg, decide_eq_false_iff_not] at *; omega
  asy a b h := by simp only [ltg, decide_eq_false_iff_not, decide_eq_true_eq] at *; omega
  eq a b h1 h2 := by simp only [ltg, decide_eq_false_iff_not] at *; omega
  ne a b h := by simp only [ltg, decide_eq_true_eq] at h; intro e; have e2 : a.1 = b.1 := e; rw [e2] at h; omega
end Go.Proofs.Cd

namespace Go.Proofs.Cd
open Go Go.Ox
set_option maxRecDepth 100000
set_option maxHeartbeats 4000000
theorem cmpI_neg2 (a b : Int) : cmpI a b < 0 ↔ a < b := by unfold cmpI; split <;> (try split) <;> omega
theorem cmpI_zero2 (a b : Int) : cmpI a b = 0 ↔ a = b := by unfold cmpI; split <;> (try split) <;> omega
theorem oxOutC1 : Out oxExt [87] := by intro f hf; obtain rfl := List.mem_singleton.1 hf; exact ⟨rfl, rfl⟩
theorem oxOutC2 : Out oxExt [101, 86] := by intro f hf; simp only [List.mem_cons, List.not_mem_nil, or_false] at hf; rcases hf with rfl | rfl <;> exact ⟨rfl, rfl⟩
theorem oxOutC3 : Out oxExt [85] := by intro f hf; obtain rfl := List.mem_singleton.1 hf; exact ⟨rfl, rfl⟩
theorem byGroups_cmp {h0 : AHeap} {F : List Asn} (G : Int) (bg : Nat) : CmpAt 84 (.pointer (some ⟨bg, 0, none⟩)) (ltg G) h0 (own bg (.cells false 0 [.int .i64 G] 3) :: F) := by
  intro Gs x y h K s hk
  have s1 := s.perm List.perm_append_comm
  have gg := s1.get
  have s2 := s1.push (.cells false 0 (rcell x) 63)
  have s3 := s2.push (.cells false 0 (rcell y) 63)
  refine wpF_fun 22 [.tmp 5] Tryz.func84 rfl rfl rfl rfl ?_
  refine sr (fun LL hLL => ?_)
  simp only [ptrTo, oxq, ↓reduceIte, simprocAttr, gR_some]
  refine hLL _ _ ?_
  have gy := s3.get
  have gx := (s3.mv 1).get
  have gg3 := (s3.mv 2).get
  obtain ⟨h3, e3⟩ : ∃ z, z = (h.push (.cells false 0 (rcell x) 63)).push (.cells false 0 (rcell y) 63) := ⟨_, rfl⟩
  rw [← e3] at s3 gy gx gg3 ⊢
  simp only [rcell, AHeap.next_push] at gx gy
  have z2 : aZeros [.int .i64 0] 2 = [.int .i64 0, .int .i64 0] := rfl
  refine sd [0, 1, 2, 4, 5, 6, 9, 10, 11, 12, 3, 7, 8, 13, 14, 15, 16] [0, 1, 0, 0, 16, 0, 0, 512, 0, 2048, 7, 127, 255, 8191, 16383, 32767, 65535] (by decide +kernel) (by decide +kernel) (by decide +kernel) (fun LL hLL => ?_)
  simp only [ptrTo, pend, pend0, Pd.old, pendU, pendU0, oxq, Nat.testBit, ↓reduceIte, simprocAttr, gR_held, gx, gy, gg3]
  refine of_ok oxOutC1 _ _ _ _ ?_
  simp only [ptrTo, pend, pend0, Pd.old, pendU, pendU0, oxq, Nat.testBit, ↓reduceIte, simprocAttr, gR_held, gx, gy, gg3]
  refine of_ok oxOutC1 _ _ _ _ ?_
  simp only [ptrTo, pend, pend0, Pd.old, pendU, pendU0, oxq, Nat.testBit, ↓reduceIte, simprocAttr, gR_held, gx, gy, gg3]
  refine compare_ok oxOutC2 _ _ _ _ ?_
  simp only [ptrTo, pend, pend0, Pd.old, pendU, pendU0, oxq, Nat.testBit, ↓reduceIte, simprocAttr, gR_held, gx, gy, gg3]
  refine compare_ok oxOutC2 _ _ _ _ ?_
  simp only [ptrTo, pend, pend0, Pd.old, pendU, pendU0, oxq, Nat.testBit, ↓reduceIte, simprocAttr, gR_held, gx, gy, gg3, z2]
  refine or_ok oxOutC3 (cmpI (grp x.1 G) (grp y.1 G)) (cmpI x.1 y.1) _ false 1 3 _ (by simp only [AHeap.get_push, if_true]) _ ?_
  simp only [ptrTo, pend, pend0, Pd.old, pendU, pendU0, oxq, Nat.testBit, ↓reduceIte, simprocAttr, gR_held]
  refine hLL _ _ ?_
  refine wpC_ret (out_ret ?_)
  simp only [ptrTo, oxq, ↓reduceIte, simprocAttr, gR_some]
  refine hk _ _ (((s3.push _).drop.drop.drop).perm List.perm_append_comm) ?_
  have a1 := cmpI_neg2 (grp x.1 G) (grp y.1 G)
  have a2 := cmpI_zero2 (grp x.1 G) (grp y.1 G)
  have a3 := cmpI_neg2 x.1 y.1
  simp only [ltg, decide_eq_true_eq]
  split <;> omega
end Go.Proofs.Cd

namespace Go.Proofs.Cd
open Go Go.Ox
set_option maxRecDepth 100000
set_option maxHeartbeats 4000000
abbrev Rc2 := Int × Int
def r2cell (r : Rc2) : List Value := [.int .i64 r.1, .int .i64 r.2]
theorem r2cell.len (x : Rc2) : (r2cell x).length = 2 := rfl
theorem r2cell.oc (x : Rc2) : (r2cell x).all Value.oneCell' = true := rfl
theorem rdnAt {α : Type} {f : α → List Value} {k : Nat} {h0 : AHeap} {F : List Asn} {a : Option Addr} {LI : List (List α)} (r : RdN h0 F f k a LI) (i : Nat) (hi : i < LI.length) : ∃ ai ci, (∀ h, St h0 h F → ∃ b o ro sz C T, a = some ⟨b, o, none⟩ ∧ h.get b = some (.cells ro sz C T) ∧ C[o + i * 1]? = some (.slice ai LI[i].length ci)) ∧ Rd h0 F f k ai LI[i] ∧ (ai = none → LI[i] = [] ∧ ci = 0) := by
  obtain ⟨S, hS, r1, r2⟩ := r
  have hl : S.length = LI.length := by simpa using congrArg List.length hS
  have hi' : i < S.length := by omega
  have hne : S ≠ [] := by rintro rfl; simp at hi'
  have e : S[i].len = LI[i].length := lens_at hS i hi' hi
  refine ⟨S[i].a, S[i].cap, fun h s => ?_, (r2 i hi' hi).1, (r2 i hi' hi).2⟩
  obtain ⟨b, o, ro, sz, C, T, rfl, p, g, q, w⟩ := (r1 h s).resolve_left hne
  have v : C[o + i * 1]? = some (.slice S[i].a S[i].len S[i].cap) := Rs.cell Sv.len1 q w i hi' 0 (by omega)
  rw [e] at v
  exact ⟨b, o, ro, sz, C, T, rfl, g, v⟩
theorem splice_rep {α : Type} {f : α → List Value} {k : Nat} (hf : ∀ x, (f x).length = k) (L M : List α) (r : Nat) (z : α) (hr : M.length ≤ r) : splice ((L ++ List.replicate r z).flatMap f) (L.length * k) (M.flatMap f) = ((L ++ M) ++ List.replicate (r - M.length) z).flatMap f := by
  have e : List.replicate r z = List.replicate M.length z ++ List.replicate (r - M.length) z := by rw [List.replicate_append_replicate]; congr 1; omega
  rw [e, List.flatMap_append, List.flatMap_append, ← flat_length hf L, splice_at _ _ _ _ (by rw [flat_length hf, flat_length hf]; simp), List.flatMap_append, List.flatMap_append, List.append_assoc]
/-- To append where there is room. -/
theorem app_room {α : Type} {f : α → List Value} {k : Nat} {h0 h : AHeap} {F : List Asn} {e : TypeId} {b n bytes d : Nat} {ai : Option Addr} {L M : List α} (z : α) (hf : ∀ x, (f x).length = k) (hoc : ∀ x : α, (f x).all Value.oneCell' = true)
    (s : St h0 h (own b (.cells false k ((L ++ List.replicate (n - L.length) z).flatMap f) e) :: F)) (hM : Go.Ox.fst h k M.length ai = some (M.flatMap f)) (hle : L.length + M.length ≤ n) (h1 : n * bytes ≤ 140737488355328) (h2 : n < 4611686018427387904) :
    ∃ h2, apF h k bytes e (some ⟨b, 0, none⟩) L.length (big + n) ai M.length d = some (.slice (some ⟨b, 0, none⟩) (L ++ M).length (big + n), h2) ∧ St h0 h2 (own b (.cells false k (((L ++ M) ++ List.replicate (n - (L ++ M).length) z).flatMap f) e) :: F) := by
  have hcap : (if big + n < big then big + n else big + n - big) = n := by rw [if_neg (by omega)]; omega
  have hby : (L.length + M.length) * bytes ≤ n * bytes := Nat.mul_le_mul_right _ hle
  by_cases h0 : M.length = 0
  · have e0 : M = [] := List.eq_nil_of_length_eq_zero h0
    subst e0
    refine ⟨h, ?_, ?_⟩
    · have hL0 : L.length * bytes ≤ n * bytes := Nat.mul_le_mul_right _ (by omega)
      have := apF_none (h := h) (size := k) (bytes := bytes) (e := e) (a := ⟨b, 0, none⟩) (b := ai) (len := L.length) (cap := big + n) (d := d) (by omega) (by omega) hM (by rw [hcap]; omega)
      rw [List.append_nil]; exact this
    · rw [List.append_nil]; exact s
  · have hn : n - L.length - M.length = n - (L ++ M).length := by rw [List.length_append]; omega
    have hall : (M.flatMap f).all Value.oneCell' = true := by
      simp only [List.all_eq_true, List.mem_flatMap]
      rintro x ⟨y, _, hx⟩
      exact List.all_eq_true.1 (hoc y) x hx
    have hst : h.store ⟨b, 0 + L.length * k, none⟩ (M.flatMap f) = some (h.set b (.cells false k (((L ++ M) ++ List.replicate (n - (L ++ M).length) z).flatMap f) e)) := by
      rw [store_eq, s.get, gPut_eq, if_pos, Nat.zero_add, splice_rep hf L M _ z (by omega), hn]
      refine ⟨?_, hall⟩
      rw [flat_length hf, flat_length hf, Nat.zero_add, ← Nat.add_mul]
      exact Nat.mul_le_mul_right _ (by simp; omega)
    refine ⟨_, ?_, s.set _⟩
    simp only [apF, hM]
    rw [if_neg (by omega), hcap, if_pos hle, if_neg h0, add_none, hst, List.length_append]
/-- What is gathered so far: with room for n, or nothing where n is 0. -/
def Room {α : Type} (f : α → List Value) (k : Nat) (e : TypeId) (z : α) (h0 : AHeap) (F : List Asn) (n : Nat) (a : Option Addr) (d : Nat) (L : List α) (h : AHeap) : Prop :=
  (n = 0 ∧ L = [] ∧ a = none ∧ d = 0 ∧ St h0 h F) ∨ ∃ b, a = some ⟨b, 0, none⟩ ∧ d = big + n ∧ St h0 h (own b (.cells false k ((L ++ List.replicate (n - L.length) z).flatMap f) e) :: F)
theorem Room.app {α : Type} {f : α → List Value} {k : Nat} {h0 h : AHeap} {F : List Asn} {e : TypeId} {n d bytes : Nat} {a : Option Addr} {z : α} {L : List α} (R : Room f k e z h0 F n a d L h) {M : List α} {ai : Option Addr} {dd : Nat} (hf : ∀ x, (f x).length = k) (hoc : ∀ x : α, (f x).all Value.oneCell' = true)
    (hM : Go.Ox.fst h k M.length ai = some (M.flatMap f)) (hle : L.length + M.length ≤ n) (h1 : n * bytes ≤ 140737488355328) (h2 : n < 4611686018427387904) : ∃ h2, apF h k bytes e a L.length d ai M.length dd = some (.slice a (L ++ M).length d, h2) ∧ Room f k e z h0 F n a d (L ++ M) h2 := by
  rcases R with ⟨rfl, rfl, rfl, rfl, s⟩ | ⟨b, rfl, rfl, s⟩
  · have e0 : M = [] := List.eq_nil_of_length_eq_zero (by simpa using hle)
    subst e0
    exact ⟨h, apF_zero (by simp) hM, .inl ⟨rfl, rfl, rfl, rfl, s⟩⟩
  · obtain ⟨h3, k1, k2⟩ := app_room z hf hoc s hM hle h1 h2 (d := dd)
    exact ⟨h3, k1, .inr ⟨b, rfl, rfl, k2⟩⟩
theorem Room.st {α : Type} {f : α → List Value} {k : Nat} {h0 h : AHeap} {F : List Asn} {e : TypeId} {n d : Nat} {a : Option Addr} {z : α} {L : List α} (R : Room f k e z h0 F n a d L h) : St h0 h F := by
  rcases R with ⟨_, _, _, _, s⟩ | ⟨b, _, _, s⟩
  · exact s
  · exact s.drop
theorem Room.full {α : Type} {f : α → List Value} {k : Nat} {h0 h : AHeap} {F : List Asn} {e : TypeId} {n d : Nat} {a : Option Addr} {z : α} {L : List α} (R : Room f k e z h0 F n a d L h) (hn : L.length = n) : St h0 h (wn f k e a d L :: F) := by
  rcases R with ⟨_, rfl, rfl, rfl, s⟩ | ⟨b, rfl, rfl, s⟩
  · exact s.wn_nil
  · rw [hn, Nat.sub_self, List.replicate_zero, List.append_nil] at s
    exact s.wn_in (.inr (by rw [hn]))
theorem growR_ok {h0 : AHeap} {F : List Asn} (n : Nat) (hn : n < 1000000) (h : AHeap) (s : St h0 h F) (K : Value → AHeap → Prop)
    (hk0 : n = 0 → K (.slice none 0 0) h) (hk : ∀ b h', 0 < n → St h0 h' (own b (.cells false 3 (aZeros [.int .i64 0, .int .i64 0, .int .i64 0] n) 63) :: F) → K (.slice (some ⟨b, 0, none⟩) 0 (big + n)) h') :
    wpF Tryz.prog (.fn 99) [.slice none 0 0, .int .i64 n] h K := by
  refine wpF_fun 27 [.tmp 4] Tryz.func99 rfl rfl rfl rfl ?_
  refine sr (fun LL hLL => ?_)
  simp only [ptrTo, oxq, ↓reduceIte, simprocAttr, gR_some]
  refine hLL _ _ ?_
  refine wpC_seq (sr fun LL hLL => ?_)
  simp only [ptrTo, oxq, ↓reduceIte, simprocAttr, gR_some, eq_false (show ¬ (n : Int) < 0 by omega)]
  refine hLL _ _ ?_
  refine wpC_if ?_
  simp only [ptrTo, oxq, ↓reduceIte, simprocAttr, gR_some]
  refine wpC_skip ?_
  simp only [ptrTo, oxq, ↓reduceIte, simprocAttr, gR_some]
  refine fg5 (fun R => ?_)
  have hw : IntKind.i64.wrap (n : Int) = (n : Int) := wrap_i64 (by omega) (by omega)
  refine wpC_seq ?_
  have e0 : IntKind.i64.wrap ((n : Int) - IntKind.i64.wrap (((0 : Nat) : Int) - 0)) = n := by
    rw [show IntKind.i64.wrap (((0 : Nat) : Int) - 0) = 0 from rfl, Int.sub_zero, hw]
  refine sr (fun LL hLL => ?_)
  simp only [ptrTo, oxq, ↓reduceIte, simprocAttr, gR_some]
  refine hLL _ _ ?_
  rw [e0]
  refine fg5 (fun R => ?_)
  refine sr (fun LL hLL => ?_)
  simp only [ptrTo, oxq, ↓reduceIte, simprocAttr, gR_some]
  refine hLL _ _ ?_
  by_cases h0n : n = 0
  · subst h0n
    refine wpC_if ?_
    simp only [ptrTo, oxq, ↓reduceIte, simprocAttr, gR_some]
    refine wpC_skip ?_
    simp only [ptrTo, oxq, ↓reduceIte, simprocAttr, gR_some]
    refine fg5 (fun R => ?_)
    refine sr (fun LL hLL => ?_)
    simp only [ptrTo, oxq, ↓reduceIte, simprocAttr, gR_some]
    refine hLL _ _ ?_
    refine wpC_ret (out_ret ?_)
    simp only [ptrTo, oxq, ↓reduceIte, simprocAttr, gR_some]
    exact hk0 rfl
  · refine wpC_if ?_
    simp only [ptrTo, oxq, ↓reduceIte, simprocAttr, gR_some, eq_true (show (0 : Int) < (n : Int) by omega)]
    have c1 : ∀ h, aBuiltin Tryz.prog h .cap #[30] [.slice none 0 0] = some (.int .i64 0, h) := fun _ => rfl
    have c2 : ∀ h, aSlice Tryz.prog h 30 (.slice none 0 0) none (some (.int .i64 0)) none = some (.slice none 0 0) := fun _ => sl_nil_to (P := Tryz.prog) Tryz.underlying30 (by rfl)
    have c3 : ∀ h, aBuiltin Tryz.prog h .append #[30, 3] [.slice none 0 0, .int .i64 n] = some (.slice (some ⟨h.next, 0, none⟩) n (big + n), h.push (.cells false 3 (aZeros [.int .i64 0, .int .i64 0, .int .i64 0] n) 63)) := fun h => by
      have e1 : aBuiltin Tryz.prog h .append #[30, 3] [.slice none 0 0, .int .i64 n] = if 3 = 0 ∨ ¬ (0 < (n : Int) ∧ (n : Int) < 2 ^ 62) ∨ (n : Int).toNat * 24 > 2 ^ 47 then none else some (.slice (some ⟨h.next, 0, none⟩) (n : Int).toNat (big + (n : Int).toNat), h.push (.cells false 3 (aZeros [.int .i64 0, .int .i64 0, .int .i64 0] (n : Int).toNat) 63)) := rfl
      rw [e1, if_neg (by simp; omega), Int.toNat_natCast]
    have c4 : ∀ (h : AHeap) b, aSlice Tryz.prog h 30 (.slice (some ⟨b, 0, none⟩) n (big + n)) none (some (.int .i64 0)) none = some (.slice (some ⟨b, 0, none⟩) 0 (big + n)) := fun h b => by
      have hb : capN (big + n) = n := capN_own (by omega) (.inr rfl)
      exact sl_to (P := Tryz.prog) (i := 0) Tryz.underlying30 (by rfl) (by omega) (by omega)
    refine rg (fun LL hLL => ?_)
    simp only [ptrTo, oxq, ↓reduceIte, simprocAttr, gR_some, c1, c2, c3, c4]
    refine hLL _ _ ?_
    simp only [ptrTo, oxq, ↓reduceIte, simprocAttr, gR_some]
    refine fg5 (fun R => ?_)
    refine sr (fun LL hLL => ?_)
    simp only [ptrTo, oxq, ↓reduceIte, simprocAttr, gR_some]
    refine hLL _ _ ?_
    refine wpC_ret (out_ret ?_)
    simp only [ptrTo, oxq, ↓reduceIte, simprocAttr, gR_some]
    exact hk _ _ (by omega) (s.push _)
theorem concatR_ok {h0 : AHeap} {F : List Asn} (a : Option Addr) (c : Nat) (ZL : List (List Rwc)) (r : RdN h0 F rcell 3 a ZL) (hl : ZL.length < 1000000) (hl2 : ZL.flatten.length < 1000000) (h : AHeap) (s : St h0 h F) (K : Value → AHeap → Prop)
    (hk : ∀ b d h', St h0 h' (wn rcell 3 63 b d ZL.flatten :: F) → K (.slice b ZL.flatten.length d) h') :
    wpF Tryz.prog (.fn 82) [.slice a ZL.length c] h K := by
  refine wpF_fun 36 [.tmp 2] Tryz.func82 rfl rfl rfl rfl ?_
  refine sr (fun LL hLL => ?_)
  simp only [ptrTo, oxq, ↓reduceIte, simprocAttr, gR_some]
  refine hLL _ _ ?_
  refine sr (fun LL hLL => ?_)
  simp only [ptrTo, oxq, ↓reduceIte, simprocAttr, gR_some]
  refine hLL _ _ ?_
  have fll : ∀ i (hi : i < ZL.length), (ZL.take (i + 1)).flatten.length = (ZL.take i).flatten.length + ZL[i].length := fun i hi => by
    rw [List.take_succ_eq_append_getElem hi, List.flatten_append]; simp
  have fle : ∀ i, (ZL.take i).flatten.length ≤ ZL.flatten.length := fun i => by
    have := congrArg (fun L => (List.flatten L).length) (List.take_append_drop i ZL)
    simp only [List.flatten_append, List.length_append] at this
    omega
  refine sm (fun T h' => h' = h ∧ ∃ (u1 u4 u5 u6 u7 u8 : Value) (R : List Value), T = .slice a ZL.length c :: u1 :: .slice none 0 0 :: .int .i64 ZL.flatten.length :: u4 :: u5 :: u6 :: u7 :: u8 :: R) ?_ ?_
  · refine sr (fun LL hLL => ?_)
    simp only [ptrTo, oxq, ↓reduceIte, simprocAttr, gR_some]
    refine hLL _ _ ?_
    refine fg12 (fun R => ?_)
    refine wpC_block ?_
    refine wpC_loop (fun m T h' => ∃ (i : Nat) (u1 u4 u5 u6 u7 u8 : Value) (R : List Value), h' = h ∧ m + i = ZL.length ∧ T = .slice a ZL.length c :: u1 :: .slice none 0 0 :: .int .i64 (ZL.take i).flatten.length :: u4 :: u5 :: u6 :: u7 :: u8 :: .slice a ZL.length c :: .int .i64 ZL.length :: .int .i64 i :: R) ?_ ZL.length _ _ ⟨0, _, _, _, _, _, _, R, rfl, by omega, rfl⟩
    rintro m T h' ⟨i, u1, u4, u5, u6, u7, u8, R, rfl, hmi, rfl⟩
    refine sr (fun LL hLL => ?_)
    simp only [ptrTo, oxq, ↓reduceIte, simprocAttr, gR_some]
    refine hLL _ _ ?_
    refine wpC_seq ?_
    refine wpC_if ?_
    simp only [ptrTo, oxq, ↓reduceIte, simprocAttr, gR_some]
    refine gC_of (fun hc => ?_) (fun hc => ?_)
    · refine wpC_skip ?_
      simp only [ptrTo, oxq, ↓reduceIte, simprocAttr, gR_some]
      have hi : i < ZL.length := by omega
      obtain ⟨ai, ci, rat, rdi, _⟩ := rdnAt r i hi
      obtain ⟨bq, oq, roq, szq, Cq, Tq, eq, gq, vq⟩ := rat _ s
      subst eq
      refine wpC_seq (wpC_block ?_)
      refine sr (fun LL hLL => ?_)
      simp only [ptrTo, oxq, ↓reduceIte, simprocAttr, gR_some, ixF hi, gq, vq]
      refine hLL _ _ ?_
      have hb := fle (i + 1)
      have hs := fll i hi
      have hw : IntKind.i64.wrap (((ZL.take i).flatten.length : Int) + (ZL[i].length : Int)) = ((ZL.take (i + 1)).flatten.length : Int) := by rw [wrap_i64 (by omega) (by omega)]; omega
      refine sr (fun LL hLL => ?_)
      simp only [ptrTo, oxq, ↓reduceIte, simprocAttr, gR_some, hw]
      refine hLL _ _ ?_
      refine sr (fun LL hLL => ?_)
      simp only [ptrTo, oxq, ↓reduceIte, simprocAttr, gR_some, eq_false (show ¬ ((ZL.take (i + 1)).flatten.length : Int) < 0 by omega)]
      refine hLL _ _ ?_
      refine wpC_if ?_
      simp only [ptrTo, oxq, ↓reduceIte, simprocAttr, gR_some]
      refine wpC_skip ?_
      simp only [ptrTo, oxq, ↓reduceIte, simprocAttr, gR_some]
      refine fg12 (fun R => ?_)
      refine rg (fun LL hLL => ?_)
      simp only [ptrTo, oxq, ↓reduceIte, simprocAttr, gR_some, wsucc (show i < 9223372036854775807 by omega)]
      refine hLL _ _ ?_
      simp only [ptrTo, oxq, ↓reduceIte, simprocAttr, gR_some]
      exact ⟨m - 1, by omega, i + 1, _, _, _, _, _, _, _, by omega, rfl⟩
    · have hil : i = ZL.length := by omega
      subst hil
      refine wpC_exit ?_
      simp only [ptrTo, oxq, ↓reduceIte, simprocAttr, gR_some, List.take_length]
      exact ⟨_, _, _, _, _, _, _, rfl⟩
  rintro T h' ⟨rfl, u1, u4, u5, u6, u7, u8, R, rfl⟩
  obtain ⟨n, en⟩ : ∃ n, n = ZL.flatten.length := ⟨_, rfl⟩
  rw [← en] at hl2 fle ⊢
  have z0 : aZeros [.int .i64 0, .int .i64 0, .int .i64 0] n = (List.replicate n ((0, (0, 0)) : Rwc)).flatMap rcell := zeros_flat (f := rcell) ((0, (0, 0)) : Rwc) n
  refine sm (fun T h' => ∃ (b : Option Addr) (d : Nat) (u1 u4 u5 u7 u8 : Value) (R : List Value), Room rcell 3 63 ((0, (0, 0)) : Rwc) h0 F n b d [] h' ∧ T = .slice a ZL.length c :: u1 :: .slice none 0 0 :: .int .i64 n :: u4 :: u5 :: .slice b 0 d :: u7 :: u8 :: R) ?_ ?_
  · refine rg (fun LL hLL => ?_)
    simp only [ptrTo, oxq, ↓reduceIte, simprocAttr, gR_some]
    refine growR_ok n hl2 _ s _ (fun h0n => ?_) fun b h2 hp s2 => ?_
    · refine hLL _ _ ?_
      exact ⟨none, 0, _, _, _, _, _, _, .inl ⟨h0n, rfl, rfl, rfl, s⟩, rfl⟩
    · refine hLL _ _ ?_
      rw [z0] at s2
      exact ⟨_, _, _, _, _, _, _, _, .inr ⟨b, rfl, rfl, s2⟩, rfl⟩
  rintro T h' ⟨b, d, u1, u4, u5, u7, u8, R, hR, rfl⟩
  refine wpC_seq ?_
  refine sr (fun LL hLL => ?_)
  simp only [ptrTo, oxq, ↓reduceIte, simprocAttr, gR_some]
  refine hLL _ _ ?_
  refine wpC_block ?_
  refine wpC_loop (fun m T h' => ∃ (i : Nat) (u1 u4 u5 u7 u8 : Value) (R : List Value), m + i = ZL.length ∧ Room rcell 3 63 ((0, (0, 0)) : Rwc) h0 F n b d (ZL.take i).flatten h' ∧ T = .slice a ZL.length c :: u1 :: .slice none 0 0 :: .int .i64 n :: u4 :: u5 :: .slice b (ZL.take i).flatten.length d :: u7 :: u8 :: R ∧ tget R 16 = .slice a ZL.length c ∧ tget R 17 = .int .i64 ZL.length ∧ tget R 18 = .int .i64 i) ?_ ZL.length _ _ ⟨0, _, _, _, _, _, _, by omega, hR, rfl, by simp [tget_tput], by simp [tget_tput], by simp [tget_tput]⟩
  rintro m T h' ⟨i, u1, u4, u5, u7, u8, R, hmi, hR, rfl, q1, q2, q3⟩
  refine sr (fun LL hLL => ?_)
  simp only [ptrTo, oxq, ↓reduceIte, simprocAttr, gR_some, q1, q2, q3]
  refine hLL _ _ ?_
  refine wpC_seq ?_
  refine wpC_if ?_
  simp only [ptrTo, oxq, ↓reduceIte, simprocAttr, gR_some]
  refine gC_of (fun hc => ?_) (fun hc => ?_)
  · refine wpC_skip ?_
    simp only [ptrTo, oxq, ↓reduceIte, simprocAttr, gR_some]
    have hi : i < ZL.length := by omega
    obtain ⟨ai, ci, rat, rdi, hnil⟩ := rdnAt r i hi
    obtain ⟨bq, oq, roq, szq, Cq, Tq, eq, gq, vq⟩ := rat _ hR.st
    subst eq
    have hb := fle (i + 1)
    have hs := fll i hi
    have ht : (ZL.take (i + 1)).flatten = (ZL.take i).flatten ++ ZL[i] := by rw [List.take_succ_eq_append_getElem hi, List.flatten_append]; simp
    have hf := (rdi _ hR.st).fst fun ha => (hnil ha).1
    obtain ⟨h3, y1, y2⟩ := hR.app (M := ZL[i]) (bytes := 24) (dd := ci) rcell.len rcell.oc hf (by omega) (by omega) (by omega)
    rw [← ht] at y1 y2
    refine wpC_seq (wpC_block ?_)
    refine sr (fun LL hLL => ?_)
    simp only [ptrTo, oxq, ↓reduceIte, simprocAttr, gR_some, q1, q2, q3, ixF hi, gq, vq]
    refine hLL _ _ ?_
    refine rg (fun LL hLL => ?_)
    simp only [ptrTo, oxq, ↓reduceIte, simprocAttr, gR_some, q1, q2, q3, y1]
    refine hLL _ _ ?_
    simp only [ptrTo, oxq, ↓reduceIte, simprocAttr, gR_some]
    refine rg (fun LL hLL => ?_)
    simp only [ptrTo, oxq, ↓reduceIte, simprocAttr, gR_some, q1, q2, q3, wsucc (show i < 9223372036854775807 by omega)]
    refine hLL _ _ ?_
    simp only [ptrTo, oxq, ↓reduceIte, simprocAttr, gR_some]
    exact ⟨m - 1, by omega, i + 1, _, _, _, _, _, _, by omega, y2, rfl, by simp [tget_tput, q1], by simp [tget_tput, q2], by simp [tget_tput]⟩
  · have hil : i = ZL.length := by omega
    subst hil
    rw [List.take_length] at hR
    refine wpC_exit ?_
    simp only [ptrTo, oxq, ↓reduceIte, simprocAttr, gR_some, List.take_length]
    refine fg9 (fun R => ?_)
    refine sr (fun LL hLL => ?_)
    simp only [ptrTo, oxq, ↓reduceIte, simprocAttr, gR_some]
    refine hLL _ _ ?_
    refine wpC_ret (out_ret ?_)
    simp only [ptrTo, oxq, ↓reduceIte, simprocAttr, gR_some]
    rw [← en]
    have := hk b d _ (hR.full en.symm)
    rw [← en] at this
    exact this
theorem growC_ok {h0 : AHeap} {F : List Asn} (n : Nat) (hn : n < 1000000) (h : AHeap) (s : St h0 h F) (K : Value → AHeap → Prop)
    (hk0 : n = 0 → K (.slice none 0 0) h) (hk : ∀ b h', 0 < n → St h0 h' (own b (.cells false 2 (aZeros [.int .i64 0, .int .i64 0] n) 65) :: F) → K (.slice (some ⟨b, 0, none⟩) 0 (big + n)) h') :
    wpF Tryz.prog (.fn 102) [.slice none 0 0, .int .i64 n] h K := by
  refine wpF_fun 27 [.tmp 4] Tryz.func102 rfl rfl rfl rfl ?_
  refine sr (fun LL hLL => ?_)
  simp only [ptrTo, oxq, ↓reduceIte, simprocAttr, gR_some]
  refine hLL _ _ ?_
  refine wpC_seq (sr fun LL hLL => ?_)
  simp only [ptrTo, oxq, ↓reduceIte, simprocAttr, gR_some, eq_false (show ¬ (n : Int) < 0 by omega)]
  refine hLL _ _ ?_
  refine wpC_if ?_
  simp only [ptrTo, oxq, ↓reduceIte, simprocAttr, gR_some]
  refine wpC_skip ?_
  simp only [ptrTo, oxq, ↓reduceIte, simprocAttr, gR_some]
  refine fg5 (fun R => ?_)
  have hw : IntKind.i64.wrap (n : Int) = (n : Int) := wrap_i64 (by omega) (by omega)
  refine wpC_seq ?_
  have e0 : IntKind.i64.wrap ((n : Int) - IntKind.i64.wrap (((0 : Nat) : Int) - 0)) = n := by
    rw [show IntKind.i64.wrap (((0 : Nat) : Int) - 0) = 0 from rfl, Int.sub_zero, hw]
  refine sr (fun LL hLL => ?_)
  simp only [ptrTo, oxq, ↓reduceIte, simprocAttr, gR_some]
  refine hLL _ _ ?_
  rw [e0]
  refine fg5 (fun R => ?_)
  refine sr (fun LL hLL => ?_)
  simp only [ptrTo, oxq, ↓reduceIte, simprocAttr, gR_some]
  refine hLL _ _ ?_
  by_cases h0n : n = 0
  · subst h0n
    refine wpC_if ?_
    simp only [ptrTo, oxq, ↓reduceIte, simprocAttr, gR_some]
    refine wpC_skip ?_
    simp only [ptrTo, oxq, ↓reduceIte, simprocAttr, gR_some]
    refine fg5 (fun R => ?_)
    refine sr (fun LL hLL => ?_)
    simp only [ptrTo, oxq, ↓reduceIte, simprocAttr, gR_some]
    refine hLL _ _ ?_
    refine wpC_ret (out_ret ?_)
    simp only [ptrTo, oxq, ↓reduceIte, simprocAttr, gR_some]
    exact hk0 rfl
  · refine wpC_if ?_
    simp only [ptrTo, oxq, ↓reduceIte, simprocAttr, gR_some, eq_true (show (0 : Int) < (n : Int) by omega)]
    have c1 : ∀ h, aBuiltin Tryz.prog h .cap #[31] [.slice none 0 0] = some (.int .i64 0, h) := fun _ => rfl
    have c2 : ∀ h, aSlice Tryz.prog h 31 (.slice none 0 0) none (some (.int .i64 0)) none = some (.slice none 0 0) := fun _ => sl_nil_to (P := Tryz.prog) Tryz.underlying31 (by rfl)
    have c3 : ∀ h, aBuiltin Tryz.prog h .append #[31, 3] [.slice none 0 0, .int .i64 n] = some (.slice (some ⟨h.next, 0, none⟩) n (big + n), h.push (.cells false 2 (aZeros [.int .i64 0, .int .i64 0] n) 65)) := fun h => by
      have e1 : aBuiltin Tryz.prog h .append #[31, 3] [.slice none 0 0, .int .i64 n] = if 2 = 0 ∨ ¬ (0 < (n : Int) ∧ (n : Int) < 2 ^ 62) ∨ (n : Int).toNat * 16 > 2 ^ 47 then none else some (.slice (some ⟨h.next, 0, none⟩) (n : Int).toNat (big + (n : Int).toNat), h.push (.cells false 2 (aZeros [.int .i64 0, .int .i64 0] (n : Int).toNat) 65)) := rfl
      rw [e1, if_neg (by simp; omega), Int.toNat_natCast]
    have c4 : ∀ (h : AHeap) b, aSlice Tryz.prog h 31 (.slice (some ⟨b, 0, none⟩) n (big + n)) none (some (.int .i64 0)) none = some (.slice (some ⟨b, 0, none⟩) 0 (big + n)) := fun h b => by
      have hb : capN (big + n) = n := capN_own (by omega) (.inr rfl)
      exact sl_to (P := Tryz.prog) (i := 0) Tryz.underlying31 (by rfl) (by omega) (by omega)
    refine rg (fun LL hLL => ?_)
    simp only [ptrTo, oxq, ↓reduceIte, simprocAttr, gR_some, c1, c2, c3, c4]
    refine hLL _ _ ?_
    simp only [ptrTo, oxq, ↓reduceIte, simprocAttr, gR_some]
    refine fg5 (fun R => ?_)
    refine sr (fun LL hLL => ?_)
    simp only [ptrTo, oxq, ↓reduceIte, simprocAttr, gR_some]
    refine hLL _ _ ?_
    refine wpC_ret (out_ret ?_)
    simp only [ptrTo, oxq, ↓reduceIte, simprocAttr, gR_some]
    exact hk _ _ (by omega) (s.push _)
theorem concatC_ok {h0 : AHeap} {F : List Asn} (a : Option Addr) (c : Nat) (ZL : List (List Rc2)) (r : RdN h0 F r2cell 2 a ZL) (hl : ZL.length < 1000000) (hl2 : ZL.flatten.length < 1000000) (h : AHeap) (s : St h0 h F) (K : Value → AHeap → Prop)
    (hk : ∀ b d h', St h0 h' (wn r2cell 2 65 b d ZL.flatten :: F) → K (.slice b ZL.flatten.length d) h') :
    wpF Tryz.prog (.fn 88) [.slice a ZL.length c] h K := by
  refine wpF_fun 36 [.tmp 2] Tryz.func88 rfl rfl rfl rfl ?_
  refine sr (fun LL hLL => ?_)
  simp only [ptrTo, oxq, ↓reduceIte, simprocAttr, gR_some]
  refine hLL _ _ ?_
  refine sr (fun LL hLL => ?_)
  simp only [ptrTo, oxq, ↓reduceIte, simprocAttr, gR_some]
  refine hLL _ _ ?_
  have fll : ∀ i (hi : i < ZL.length), (ZL.take (i + 1)).flatten.length = (ZL.take i).flatten.length + ZL[i].length := fun i hi => by
    rw [List.take_succ_eq_append_getElem hi, List.flatten_append]; simp
  have fle : ∀ i, (ZL.take i).flatten.length ≤ ZL.flatten.length := fun i => by
    have := congrArg (fun L => (List.flatten L).length) (List.take_append_drop i ZL)
    simp only [List.flatten_append, List.length_append] at this
    omega
  refine sm (fun T h' => h' = h ∧ ∃ (u1 u4 u5 u6 u7 u8 : Value) (R : List Value), T = .slice a ZL.length c :: u1 :: .slice none 0 0 :: .int .i64 ZL.flatten.length :: u4 :: u5 :: u6 :: u7 :: u8 :: R) ?_ ?_
  · refine sr (fun LL hLL => ?_)
    simp only [ptrTo, oxq, ↓reduceIte, simprocAttr, gR_some]
    refine hLL _ _ ?_
    refine fg12 (fun R => ?_)
    refine wpC_block ?_
    refine wpC_loop (fun m T h' => ∃ (i : Nat) (u1 u4 u5 u6 u7 u8 : Value) (R : List Value), h' = h ∧ m + i = ZL.length ∧ T = .slice a ZL.length c :: u1 :: .slice none 0 0 :: .int .i64 (ZL.take i).flatten.length :: u4 :: u5 :: u6 :: u7 :: u8 :: .slice a ZL.length c :: .int .i64 ZL.length :: .int .i64 i :: R) ?_ ZL.length _ _ ⟨0, _, _, _, _, _, _, R, rfl, by omega, rfl⟩
    rintro m T h' ⟨i, u1, u4, u5, u6, u7, u8, R, rfl, hmi, rfl⟩
    refine sr (fun LL hLL => ?_)
    simp only [ptrTo, oxq, ↓reduceIte, simprocAttr, gR_some]
    refine hLL _ _ ?_
    refine wpC_seq ?_
    refine wpC_if ?_
    simp only [ptrTo, oxq, ↓reduceIte, simprocAttr, gR_some]
    refine gC_of (fun hc => ?_) (fun hc => ?_)
    · refine wpC_skip ?_
      simp only [ptrTo, oxq, ↓reduceIte, simprocAttr, gR_some]
      have hi : i < ZL.length := by omega
      obtain ⟨ai, ci, rat, rdi, _⟩ := rdnAt r i hi
      obtain ⟨bq, oq, roq, szq, Cq, Tq, eq, gq, vq⟩ := rat _ s
      subst eq
      refine wpC_seq (wpC_block ?_)
      refine sr (fun LL hLL => ?_)
      simp only [ptrTo, oxq, ↓reduceIte, simprocAttr, gR_some, ixF hi, gq, vq]
      refine hLL _ _ ?_
      have hb := fle (i + 1)
      have hs := fll i hi
      have hw : IntKind.i64.wrap (((ZL.take i).flatten.length : Int) + (ZL[i].length : Int)) = ((ZL.take (i + 1)).flatten.length : Int) := by rw [wrap_i64 (by omega) (by omega)]; omega
      refine sr (fun LL hLL => ?_)
      simp only [ptrTo, oxq, ↓reduceIte, simprocAttr, gR_some, hw]
      refine hLL _ _ ?_
      refine sr (fun LL hLL => ?_)
      simp only [ptrTo, oxq, ↓reduceIte, simprocAttr, gR_some, eq_false (show ¬ ((ZL.take (i + 1)).flatten.length : Int) < 0 by omega)]
      refine hLL _ _ ?_
      refine wpC_if ?_
      simp only [ptrTo, oxq, ↓reduceIte, simprocAttr, gR_some]
      refine wpC_skip ?_
      simp only [ptrTo, oxq, ↓reduceIte, simprocAttr, gR_some]
      refine fg12 (fun R => ?_)
      refine rg (fun LL hLL => ?_)
      simp only [ptrTo, oxq, ↓reduceIte, simprocAttr, gR_some, wsucc (show i < 9223372036854775807 by omega)]
      refine hLL _ _ ?_
      simp only [ptrTo, oxq, ↓reduceIte, simprocAttr, gR_some]
      exact ⟨m - 1, by omega, i + 1, _, _, _, _, _, _, _, by omega, rfl⟩
    · have hil : i = ZL.length := by omega
      subst hil
      refine wpC_exit ?_
      simp only [ptrTo, oxq, ↓reduceIte, simprocAttr, gR_some, List.take_length]
      exact ⟨_, _, _, _, _, _, _, rfl⟩
  rintro T h' ⟨rfl, u1, u4, u5, u6, u7, u8, R, rfl⟩
  obtain ⟨n, en⟩ : ∃ n, n = ZL.flatten.length := ⟨_, rfl⟩
  rw [← en] at hl2 fle ⊢
  have z0 : aZeros [.int .i64 0, .int .i64 0] n = (List.replicate n ((0, 0) : Rc2)).flatMap r2cell := zeros_flat (f := r2cell) ((0, 0) : Rc2) n
  refine sm (fun T h' => ∃ (b : Option Addr) (d : Nat) (u1 u4 u5 u7 u8 : Value) (R : List Value), Room r2cell 2 65 ((0, 0) : Rc2) h0 F n b d [] h' ∧ T = .slice a ZL.length c :: u1 :: .slice none 0 0 :: .int .i64 n :: u4 :: u5 :: .slice b 0 d :: u7 :: u8 :: R) ?_ ?_
  · refine rg (fun LL hLL => ?_)
    simp only [ptrTo, oxq, ↓reduceIte, simprocAttr, gR_some]
    refine growC_ok n hl2 _ s _ (fun h0n => ?_) fun b h2 hp s2 => ?_
    · refine hLL _ _ ?_
      exact ⟨none, 0, _, _, _, _, _, _, .inl ⟨h0n, rfl, rfl, rfl, s⟩, rfl⟩
    · refine hLL _ _ ?_
      rw [z0] at s2
      exact ⟨_, _, _, _, _, _, _, _, .inr ⟨b, rfl, rfl, s2⟩, rfl⟩
  rintro T h' ⟨b, d, u1, u4, u5, u7, u8, R, hR, rfl⟩
  refine wpC_seq ?_
  refine sr (fun LL hLL => ?_)
  simp only [ptrTo, oxq, ↓reduceIte, simprocAttr, gR_some]
  refine hLL _ _ ?_
  refine wpC_block ?_
  refine wpC_loop (fun m T h' => ∃ (i : Nat) (u1 u4 u5 u7 u8 : Value) (R : List Value), m + i = ZL.length ∧ Room r2cell 2 65 ((0, 0) : Rc2) h0 F n b d (ZL.take i).flatten h' ∧ T = .slice a ZL.length c :: u1 :: .slice none 0 0 :: .int .i64 n :: u4 :: u5 :: .slice b (ZL.take i).flatten.length d :: u7 :: u8 :: R ∧ tget R 16 = .slice a ZL.length c ∧ tget R 17 = .int .i64 ZL.length ∧ tget R 18 = .int .i64 i) ?_ ZL.length _ _ ⟨0, _, _, _, _, _, _, by omega, hR, rfl, by simp [tget_tput], by simp [tget_tput], by simp [tget_tput]⟩
  rintro m T h' ⟨i, u1, u4, u5, u7, u8, R, hmi, hR, rfl, q1, q2, q3⟩
  refine sr (fun LL hLL => ?_)
  simp only [ptrTo, oxq, ↓reduceIte, simprocAttr, gR_some, q1, q2, q3]
  refine hLL _ _ ?_
  refine wpC_seq ?_
  refine wpC_if ?_
  simp only [ptrTo, oxq, ↓reduceIte, simprocAttr, gR_some]
  refine gC_of (fun hc => ?_) (fun hc => ?_)
  · refine wpC_skip ?_
    simp only [ptrTo, oxq, ↓reduceIte, simprocAttr, gR_some]
    have hi : i < ZL.length := by omega
    obtain ⟨ai, ci, rat, rdi, hnil⟩ := rdnAt r i hi
    obtain ⟨bq, oq, roq, szq, Cq, Tq, eq, gq, vq⟩ := rat _ hR.st
    subst eq
    have hb := fle (i + 1)
    have hs := fll i hi
    have ht : (ZL.take (i + 1)).flatten = (ZL.take i).flatten ++ ZL[i] := by rw [List.take_succ_eq_append_getElem hi, List.flatten_append]; simp
    have hf := (rdi _ hR.st).fst fun ha => (hnil ha).1
    obtain ⟨h3, y1, y2⟩ := hR.app (M := ZL[i]) (bytes := 16) (dd := ci) r2cell.len r2cell.oc hf (by omega) (by omega) (by omega)
    rw [← ht] at y1 y2
    refine wpC_seq (wpC_block ?_)
    refine sr (fun LL hLL => ?_)
    simp only [ptrTo, oxq, ↓reduceIte, simprocAttr, gR_some, q1, q2, q3, ixF hi, gq, vq]
    refine hLL _ _ ?_
    refine rg (fun LL hLL => ?_)
    simp only [ptrTo, oxq, ↓reduceIte, simprocAttr, gR_some, q1, q2, q3, y1]
    refine hLL _ _ ?_
    simp only [ptrTo, oxq, ↓reduceIte, simprocAttr, gR_some]
    refine rg (fun LL hLL => ?_)
    simp only [ptrTo, oxq, ↓reduceIte, simprocAttr, gR_some, q1, q2, q3, wsucc (show i < 9223372036854775807 by omega)]
    refine hLL _ _ ?_
    simp only [ptrTo, oxq, ↓reduceIte, simprocAttr, gR_some]
    exact ⟨m - 1, by omega, i + 1, _, _, _, _, _, _, by omega, y2, rfl, by simp [tget_tput, q1], by simp [tget_tput, q2], by simp [tget_tput]⟩
  · have hil : i = ZL.length := by omega
    subst hil
    rw [List.take_length] at hR
    refine wpC_exit ?_
    simp only [ptrTo, oxq, ↓reduceIte, simprocAttr, gR_some, List.take_length]
    refine fg9 (fun R => ?_)
    refine sr (fun LL hLL => ?_)
    simp only [ptrTo, oxq, ↓reduceIte, simprocAttr, gR_some]
    refine hLL _ _ ?_
    refine wpC_ret (out_ret ?_)
    simp only [ptrTo, oxq, ↓reduceIte, simprocAttr, gR_some]
    rw [← en]
    have := hk b d _ (hR.full en.symm)
    rw [← en] at this
    exact this
end Go.Proofs.Cd

namespace Go.Ox
section
variable {α κ : Type} [DecidableEq κ] {lt : α → α → Bool} {ke : α → κ}
/-- One more, behind those that it is not ahead of. -/
def insB (lt : α → α → Bool) (x : α) : List α → List α
  | [] => [x]
  | y :: l => if lt x y = true then x :: y :: l else y :: insB lt x l
def sortB (lt : α → α → Bool) (L : List α) : List α := L.foldl (fun acc x => insB lt x acc) []
end
section
variable {α κ : Type} {lt : α → α → Bool} {ke : α → κ}
theorem insB_split (o : KOrd lt ke) (x : α) : ∀ (L : List α), SrtL lt L → ∃ S1 S2, L = S1 ++ S2 ∧ insB lt x L = S1 ++ x :: S2 ∧ (∀ z ∈ S2, lt x z = true) ∧ (S1 = [] ∨ ∃ S y, S1 = S ++ [y] ∧ lt x y = false)
  | [], _ => ⟨[], [], rfl, rfl, by simp, .inl rfl⟩
  | y :: l, hs => by
    rw [SrtL, List.pairwise_cons] at hs
    unfold insB
    split
    · rename_i h
      refine ⟨[], y :: l, rfl, rfl, fun z hz => ?_, .inl rfl⟩
      rcases List.mem_cons.1 hz with rfl | hz
      · exact h
      · exact o.lt_le h (hs.1 z hz)
    · rename_i h
      have h' : lt x y = false := by simpa using h
      obtain ⟨S1, S2, e1, e2, h2, h1⟩ := insB_split o x l hs.2
      refine ⟨y :: S1, S2, by rw [e1]; rfl, by rw [e2]; rfl, h2, .inr ?_⟩
      rcases h1 with rfl | ⟨S, z, rfl, hz⟩
      · exact ⟨[], y, rfl, h'⟩
      · exact ⟨y :: S, z, rfl, hz⟩
end
section
variable {α κ : Type} [DecidableEq κ] {lt : α → α → Bool} {ke : α → κ}
theorem insB_ok (o : KOrd lt ke) (x : α) (L : List α) (hs : SrtL lt L) : SrtL lt (insB lt x L) ∧ Sim ke (L ++ [x]) (insB lt x L) := by
  obtain ⟨S1, S2, e1, e2, h2, h1⟩ := insB_split o x L hs
  rw [e2, e1]
  rw [e1] at hs
  exact ins_stop o hs h2 h1
theorem sortB_go (o : KOrd lt ke) : ∀ (L acc M : List α), SrtL lt acc → Sim ke M acc → SrtL lt (L.foldl (fun acc x => insB lt x acc) acc) ∧ Sim ke (M ++ L) (L.foldl (fun acc x => insB lt x acc) acc)
  | [], acc, M, h1, h2 => by rw [List.append_nil]; exact ⟨h1, h2⟩
  | x :: L, acc, M, h1, h2 => by
    obtain ⟨k1, k2⟩ := insB_ok o x acc h1
    have := sortB_go o L (insB lt x acc) (M ++ [x]) k1 ((h2.append (Sim.refl [x])).trans k2)
    rw [List.append_assoc] at this
    exact this
theorem sortB_srt (o : KOrd lt ke) (L : List α) : SrtL lt (sortB lt L) := (sortB_go o L [] [] List.Pairwise.nil (Sim.refl _)).1
theorem sortB_sim (o : KOrd lt ke) (L : List α) : Sim ke L (sortB lt L) := (sortB_go o L [] [] List.Pairwise.nil (Sim.refl _)).2
/-- What a stable sort makes is this. -/
theorem sortB_one (o : KOrd lt ke) {L X : List α} (h1 : SrtL lt X) (h2 : Sim ke L X) : X = sortB lt L := srt_one o X (sortB lt L) h1 (sortB_srt o L) (h2.symm.trans (sortB_sim o L))
theorem sortB_len (o : KOrd lt ke) (L : List α) : (sortB lt L).length = L.length := (sortB_sim o L).len.symm
end
end Go.Ox
namespace Go.Proofs.Cd
open Go Go.Ox
set_option maxRecDepth 100000
set_option maxHeartbeats 4000000
theorem byGroups_ok {h0 : AHeap} {F : List Asn} (G : Int) (h : AHeap) (s : St h0 h F) (K : Value → AHeap → Prop) (hk : ∀ bg h', St h0 h' (own bg (.cells false 0 [.int .i64 G] 3) :: F) → K (cfun 84 (.pointer (some ⟨bg, 0, none⟩))) h') :
    wpF Tryz.prog (.fn 59) [.int .i64 G] h K := by
  refine wpF_fun 4 [.tmp 2] Tryz.func59 rfl rfl rfl rfl ?_
  have s1 := s.push (.cells false 0 [.int .i64 G] 3)
  refine sr (fun LL hLL => ?_)
  simp only [ptrTo, oxq, ↓reduceIte, simprocAttr, gR_some]
  refine hLL _ _ ?_
  refine sr (fun LL hLL => ?_)
  simp only [ptrTo, oxq, ↓reduceIte, simprocAttr, gR_some]
  refine hLL _ _ ?_
  refine wpC_ret (out_ret ?_)
  simp only [ptrTo, oxq, ↓reduceIte, simprocAttr, gR_some]
  exact hk _ _ s1
theorem gatherR_ok {h0 : AHeap} {F : List Asn} (G : Int) (bg : Nat) (a : Option Addr) (c : Nat) (ZL : List (List Rwc)) (r : RdN h0 (own bg (.cells false 0 [.int .i64 G] 3) :: F) rcell 3 a ZL) (hl : ZL.length < 1000000) (hl2 : ZL.flatten.length < 1000000) (h : AHeap) (s : St h0 h (own bg (.cells false 0 [.int .i64 G] 3) :: F)) (K : Value → AHeap → Prop)
    (hk : ∀ b d h', St h0 h' (wn rcell 3 63 b d (sortB (ltg G) ZL.flatten) :: own bg (.cells false 0 [.int .i64 G] 3) :: F) → K (.slice b ZL.flatten.length d) h') :
    wpF Tryz.prog (.fn 58) [.slice a ZL.length c, cfun 84 (.pointer (some ⟨bg, 0, none⟩))] h K := by
  refine wpF_fun 14 [.tmp 4] Tryz.func58 rfl rfl rfl rfl ?_
  refine sr (fun LL hLL => ?_)
  simp only [ptrTo, oxq, ↓reduceIte, simprocAttr, gR_some]
  refine hLL _ _ ?_
  refine sr (fun LL hLL => ?_)
  simp only [ptrTo, oxq, ↓reduceIte, simprocAttr, gR_some]
  refine concatR_ok a c ZL r hl hl2 _ s _ fun b d h1 s1 => ?_
  refine hLL _ _ ?_
  refine wpC_seq (sr fun LL hLL => ?_)
  simp only [ptrTo, oxq, ↓reduceIte, simprocAttr, gR_some, not_true_eq_false]
  refine hLL _ _ ?_
  refine wpC_if ?_
  simp only [ptrTo, oxq, ↓reduceIte, simprocAttr, gR_some]
  refine rg (fun LL hLL => ?_)
  simp only [ptrTo, oxq, ↓reduceIte, simprocAttr, gR_some]
  refine sortStable_at (ltg_ord G) _ _ (byGroups_cmp G bg) ZL.flatten b d _ _ rfl (by omega) s1 _ fun h2 X h1 h3 s2 => ?_
  refine hLL _ _ ?_
  simp only [ptrTo, oxq, ↓reduceIte, simprocAttr, gR_some]
  refine fg6 (fun R => ?_)
  refine sr (fun LL hLL => ?_)
  simp only [ptrTo, oxq, ↓reduceIte, simprocAttr, gR_some]
  refine hLL _ _ ?_
  refine wpC_ret (out_ret ?_)
  simp only [ptrTo, oxq, ↓reduceIte, simprocAttr, gR_some]
  have e := sortB_one (ltg_ord G) h1 h3
  subst e
  exact hk _ _ _ s2
theorem gatherC_ok {h0 : AHeap} {F : List Asn} (a : Option Addr) (c : Nat) (ZL : List (List Rc2)) (r : RdN h0 F r2cell 2 a ZL) (hl : ZL.length < 1000000) (hl2 : ZL.flatten.length < 1000000) (h : AHeap) (s : St h0 h F) (K : Value → AHeap → Prop)
    (hk : ∀ b d h', St h0 h' (wn r2cell 2 65 b d ZL.flatten :: F) → K (.slice b ZL.flatten.length d) h') :
    wpF Tryz.prog (.fn 60) [.slice a ZL.length c, .nilFunc] h K := by
  refine wpF_fun 14 [.tmp 4] Tryz.func60 rfl rfl rfl rfl ?_
  refine sr (fun LL hLL => ?_)
  simp only [ptrTo, oxq, ↓reduceIte, simprocAttr, gR_some]
  refine hLL _ _ ?_
  refine sr (fun LL hLL => ?_)
  simp only [ptrTo, oxq, ↓reduceIte, simprocAttr, gR_some]
  refine concatC_ok a c ZL r hl hl2 _ s _ fun b d h1 s1 => ?_
  refine hLL _ _ ?_
  refine wpC_seq (sr fun LL hLL => ?_)
  simp only [ptrTo, oxq, ↓reduceIte, simprocAttr, gR_some]
  refine hLL _ _ ?_
  refine wpC_if ?_
  simp only [ptrTo, oxq, ↓reduceIte, simprocAttr, gR_some]
  refine wpC_skip ?_
  simp only [ptrTo, oxq, ↓reduceIte, simprocAttr, gR_some]
  refine fg6 (fun R => ?_)
  refine sr (fun LL hLL => ?_)
  simp only [ptrTo, oxq, ↓reduceIte, simprocAttr, gR_some]
  refine hLL _ _ ?_
  refine wpC_ret (out_ret ?_)
  simp only [ptrTo, oxq, ↓reduceIte, simprocAttr, gR_some]
  exact hk _ _ _ s1
end Go.Proofs.Cd

namespace Go.Proofs.Cd
open Go Go.Ox
set_option maxRecDepth 100000
set_option maxHeartbeats 4000000
def icell (n : Int) : List Value := [.int .i64 n]
theorem icell.len (x : Int) : (icell x).length = 1 := rfl
theorem icell.oc (x : Int) : (icell x).all Value.oneCell' = true := rfl
/-- What a task tells, and where its lists stand. -/
structure AckX where
  no : Int
  task : Int
  offs : List Int
  oa : Option Addr
  oc : Nat
  rows : List Rwc
  ra : Option Addr
  rc : Nat
  outs : List Rc2
  ta : Option Addr
  tc : Nat
def AckX.cells (x : AckX) : List Value := [.int .i64 x.no, .int .i64 x.task, .slice x.oa x.offs.length x.oc, .slice x.ra x.rows.length x.rc, .slice x.ta x.outs.length x.tc]
theorem AckX.len (x : AckX) : x.cells.length = 5 := rfl
theorem AckX.ones (x : AckX) : x.cells.all Value.oneCell' = true := rfl
/-- Its lists can be read. -/
structure AckRd (h0 : AHeap) (F : List Asn) (x : AckX) : Prop where
  o : Rd h0 F icell 1 x.oa x.offs
  on : x.oa = none → x.offs = [] ∧ x.oc = 0
  r : Rd h0 F rcell 3 x.ra x.rows
  rn : x.ra = none → x.rows = [] ∧ x.rc = 0
  t : Rd h0 F r2cell 2 x.ta x.outs
  tn : x.ta = none → x.outs = [] ∧ x.tc = 0
/-- No list of it is long. -/
structure AckSm (x : AckX) : Prop where
  o : x.offs.length ≤ 100
  r : x.rows.length ≤ 100
  t : x.outs.length ≤ 100
theorem AckRd.up {h0 : AHeap} {F : List Asn} {x : AckX} (r : AckRd h0 F x) (A : Asn) : AckRd h0 (A :: F) x := ⟨r.o.up, r.on, r.r.up, r.rn, r.t.up, r.tn⟩
def mx1 (v : Int) : Option Int → Int
  | some a => if a > v then a else v
  | none => v
def offOne (out O : List Int) : List Int := out.mapIdx fun p v => mx1 v O[p]?
theorem offOne_len (out O : List Int) : (offOne out O).length = out.length := by simp [offOne]
def offsL (n : Nat) (Z : List (List Int)) : List Int := Z.foldl offOne (List.replicate n 0)
theorem foldOff_len (Z : List (List Int)) : ∀ out, (Z.foldl offOne out).length = out.length := by
  induction Z with
  | nil => intro out; rfl
  | cons O Z ih => intro out; rw [List.foldl_cons, ih, offOne_len]
theorem offsL_len (n : Nat) (Z : List (List Int)) : (offsL n Z).length = n := by rw [offsL, foldOff_len]; simp
theorem offsets_ok {h0 : AHeap} {F : List Asn} (n : Nat) (hn : n ≤ 100) (la : Option Addr) (lc : Nat) (X : List AckX) (r : Rd h0 F AckX.cells 5 la X) (rx : ∀ x ∈ X, AckRd h0 F x) (hl : X.length < 1000000) (hx : ∀ x ∈ X, AckSm x) (h : AHeap) (s : St h0 h F) (K : Value → AHeap → Prop)
    (hk : ∀ b d h', St h0 h' (wn icell 1 3 b d (offsL n (X.map AckX.offs)) :: F) → K (.slice b n d) h') : wpF Tryz.prog (.fn 57) [.int .i64 n, .slice la X.length lc] h K := by
  have zi : aZeros [.int .i64 0] n = (List.replicate n (0 : Int)).flatMap icell := zeros_flat (f := icell) (0 : Int) n
  refine wpF_fun 41 [.tmp 4] Tryz.func57 rfl rfl rfl rfl ?_
  refine sr (fun LL hLL => ?_)
  simp only [ptrTo, oxq, ↓reduceIte, simprocAttr, gR_some]
  refine hLL _ _ ?_
  refine sr (fun LL hLL => ?_)
  simp only [ptrTo, oxq, ↓reduceIte, simprocAttr, gR_some, msF_of (l := (n : Int)) (c := (n : Int)) (size := 1) (bytes := 8) (zs := [.int .i64 0]) (e := 3) (by omega) (by omega) (by omega) (by omega), Int.toNat_natCast, zi]
  refine hLL _ _ ?_
  obtain ⟨bT, eT⟩ : ∃ b, b = h.next := ⟨_, rfl⟩
  have s1 := s.push (.cells false 1 ((List.replicate n (0 : Int)).flatMap icell) 3)
  rw [← eT] at s1 ⊢
  refine wpC_seq ?_
  refine sr (fun LL hLL => ?_)
  simp only [ptrTo, oxq, ↓reduceIte, simprocAttr, gR_some]
  refine hLL _ _ ?_
  have z : List.take 0 X = [] := rfl
  refine wpC_block ?_
  refine wpC_loop (fun m T h' => ∃ (i : Nat) (u2 u3 u4 u6 u7 u8 u9 : Value) (R : List Value), m + i = X.length ∧ St h0 h' (own bT (.cells false 1 ((offsL n ((X.take i).map AckX.offs)).flatMap icell) 3) :: F) ∧
    T = .int .i64 n :: .slice la X.length lc :: u2 :: u3 :: u4 :: .slice (some ⟨bT, 0, none⟩) n n :: u6 :: u7 :: u8 :: u9 :: R ∧ tget R 2 = .slice la X.length lc ∧ tget R 3 = .int .i64 X.length ∧ tget R 4 = .int .i64 i) ?_ X.length _ _ ⟨0, _, _, _, _, _, _, _, _, by omega, by rw [z]; exact s1, rfl, rfl, rfl, rfl⟩
  clear s1
  rintro m T h' ⟨i, u2, u3, u4, u6, u7, u8, u9, R, hmi, s1, rfl, q1, q2, q3⟩
  refine sr (fun LL hLL => ?_)
  simp only [ptrTo, oxq, ↓reduceIte, simprocAttr, gR_some, q1, q2, q3]
  refine hLL _ _ ?_
  refine wpC_seq ?_
  refine wpC_if ?_
  simp only [ptrTo, oxq, ↓reduceIte, simprocAttr, gR_some]
  refine gC_of (fun hc => ?_) (fun hc => ?_)
  · refine wpC_skip ?_
    simp only [ptrTo, oxq, ↓reduceIte, simprocAttr, gR_some]
    have hi : i < X.length := by omega
    obtain ⟨out0, eo⟩ : ∃ o, o = offsL n ((X.take i).map AckX.offs) := ⟨_, rfl⟩
    have ho : out0.length = n := by rw [eo, offsL_len]
    have hnext : offsL n ((X.take (i + 1)).map AckX.offs) = offOne out0 X[i].offs := by
      rw [List.take_succ_eq_append_getElem hi, List.map_append, offsL, List.foldl_append, eo]; rfl
    rw [← eo] at s1
    obtain ⟨bq, oq, roq, szq, Cq, Tq, eq, pq, gq, rq, qq⟩ := (r _ s1.drop).resolve_left (by rintro rfl; simp at hi)
    obtain ⟨wq, xq⟩ := Rs.row AckX.len rq qq i hi
    have ax := rx _ (List.getElem_mem hi)
    have sx := (hx _ (List.getElem_mem hi)).o
    obtain ⟨x, ex⟩ : ∃ x, x = X[i] := ⟨_, rfl⟩
    rw [← ex] at wq ax sx hnext
    subst eq
    obtain ⟨ba, eba⟩ : ∃ b, b = h'.next := ⟨_, rfl⟩
    have s2 := (s1.push (.cells false 0 [.int .i64 0, .int .i64 0, .slice none 0 0, .slice none 0 0, .slice none 0 0] 33)).set (.cells false 0 x.cells 33)
    have gz := (s1.push (.cells false 0 [.int .i64 0, .int .i64 0, .slice none 0 0, .slice none 0 0, .slice none 0 0] 33)).get
    unfold AckX.cells at wq s2
    refine wpC_seq (wpC_block ?_)
    refine sr (fun LL hLL => ?_)
    simp only [ptrTo, oxq, ↓reduceIte, simprocAttr, gR_some, q1, q2, q3, ixF hi, gq, wq, xq, AckX.len, gz]
    refine hLL _ _ ?_
    obtain ⟨h2, e2⟩ : ∃ h2, h2 = (h'.push (.cells false 0 [.int .i64 0, .int .i64 0, .slice none 0 0, .slice none 0 0, .slice none 0 0] 33)).set h'.next (.cells false 0 [.int .i64 x.no, .int .i64 x.task, .slice x.oa x.offs.length x.oc, .slice x.ra x.rows.length x.rc, .slice x.ta x.outs.length x.tc] 33) := ⟨_, rfl⟩
    rw [← e2, ← eba] at s2
    rw [← e2, ← eba]
    have ga := s2.get
    refine sr (fun LL hLL => ?_)
    simp only [ptrTo, oxq, ↓reduceIte, simprocAttr, gR_some, ga]
    refine hLL _ _ ?_
    refine wpC_block ?_
    refine wpC_loop (fun m2 T h' => ∃ (j : Nat) (out : List Int) (u2 u3 u4 u6 u8 u9 : Value) (R : List Value), m2 + j = x.offs.length ∧ (∃ ho2 : out.length = n, ∀ p (hp : p < n), out[p] = if p < j then mx1 out0[p] x.offs[p]? else out0[p]) ∧ St h0 h' (own ba (.cells false 0 [.int .i64 x.no, .int .i64 x.task, .slice x.oa x.offs.length x.oc, .slice x.ra x.rows.length x.rc, .slice x.ta x.outs.length x.tc] 33) :: own bT (.cells false 1 (out.flatMap icell) 3) :: F) ∧
      T = .int .i64 n :: .slice (some ⟨bq, oq, none⟩) X.length lc :: u2 :: u3 :: u4 :: .slice (some ⟨bT, 0, none⟩) n n :: u6 :: .pointer (some ⟨ba, 0, none⟩) :: u8 :: u9 :: R ∧ tget R 2 = .slice (some ⟨bq, oq, none⟩) X.length lc ∧ tget R 3 = .int .i64 X.length ∧ tget R 4 = .int .i64 i ∧ tget R 9 = .slice x.oa x.offs.length x.oc ∧ tget R 10 = .int .i64 x.offs.length ∧ tget R 11 = .int .i64 j) ?_ x.offs.length _ _ ⟨0, out0, _, _, _, _, _, _, _, by omega, ⟨ho, fun p hp => by simp⟩, s2, rfl, by simp [tget_tput, q1], by simp [tget_tput, q2], by simp [tget_tput, q3], by simp [tget_tput], by simp [tget_tput], by simp [tget_tput]⟩
    clear s2 s1 q1 q2 q3 ga gz e2
    rintro m2 T h' ⟨j, out, u2, u3, u4, u6, u8, u9, R, hmj, ⟨ho2, hout⟩, s1, rfl, q1, q2, q3, q4, q5, q6⟩
    refine sr (fun LL hLL => ?_)
    simp only [ptrTo, oxq, ↓reduceIte, simprocAttr, gR_some, q4, q5, q6]
    refine hLL _ _ ?_
    refine wpC_seq ?_
    refine wpC_if ?_
    simp only [ptrTo, oxq, ↓reduceIte, simprocAttr, gR_some]
    refine gC_of (fun hc2 => ?_) (fun hc2 => ?_)
    · refine wpC_skip ?_
      simp only [ptrTo, oxq, ↓reduceIte, simprocAttr, gR_some]
      have hj : j < x.offs.length := by omega
      obtain ⟨b3, o3, ro3, sz3, C3, T3, e3, p3, g3, r3, w3⟩ := (ax.o _ s1.drop.drop).resolve_left (by rintro e; rw [e] at hj; simp at hj)
      have v3 : C3[o3 + j * 1]? = some (.int .i64 x.offs[j]) := Rs.cell icell.len r3 w3 j hj 0 (by omega)
      rw [e3] at q4
      have gT := (s1.mv 1).get
      refine wpC_seq (wpC_block ?_)
      refine sr (fun LL hLL => ?_)
      simp only [ptrTo, oxq, ↓reduceIte, simprocAttr, gR_some, q4, q5, q6, ixF hj, g3, v3]
      refine hLL _ _ ?_
      by_cases hjn : j < n
      · refine sr (fun LL hLL => ?_)
        simp only [ptrTo, oxq, ↓reduceIte, simprocAttr, gR_some, eq_true (show (j : Int) < (n : Int) by omega)]
        refine hLL _ _ ?_
        have vT : (out.flatMap icell)[j * 1]? = some (.int .i64 (out[j]'(by omega))) := by
          have := flat_get icell.len out j 0 (by omega) (by omega)
          simpa [icell] using this
        have hst : splice (out.flatMap icell) (j * 1) [.int .i64 (if x.offs[j] > out[j]'(by omega) then x.offs[j] else out[j]'(by omega))] = (out.set j (if x.offs[j] > out[j]'(by omega) then x.offs[j] else out[j]'(by omega))).flatMap icell := flat_store icell.len out j _ (by omega)
        have hle := flat_le icell.len out j (by omega)
        refine wpC_if ?_
        simp only [ptrTo, oxq, ↓reduceIte, simprocAttr, gR_some]
        refine rg (fun LL hLL => ?_)
        simp only [ptrTo, oxq, ↓reduceIte, simprocAttr, gR_some, ixF hjn, gT, vT, hst, eq_true (show j * 1 + 1 ≤ (out.flatMap icell).length by omega)]
        refine hLL _ _ ?_
        simp only [ptrTo, oxq, ↓reduceIte, simprocAttr, gR_some]
        refine rg (fun LL hLL => ?_)
        simp only [ptrTo, oxq, ↓reduceIte, simprocAttr, gR_some, q4, q5, q6, wsucc (show j < 9223372036854775807 by omega)]
        refine hLL _ _ ?_
        simp only [ptrTo, oxq, ↓reduceIte, simprocAttr, gR_some]
        refine ⟨m2 - 1, by omega, j + 1, out.set j (if x.offs[j] > out[j]'(by omega) then x.offs[j] else out[j]'(by omega)), _, _, _, _, _, _, _, by omega, ⟨by rw [List.length_set]; exact ho2, fun p hp => ?_⟩, ((s1.mv 1).set _).mv 1, rfl, by simp [tget_tput, q1], by simp [tget_tput, q2], by simp [tget_tput, q3], by simp [tget_tput, q4, e3], by simp [tget_tput, q5], by simp [tget_tput]⟩
        rw [List.getElem_set]
        by_cases e : j = p
        · subst e
          rw [if_pos rfl]
          have h1 := hout j hp
          rw [if_neg (by omega)] at h1
          rw [if_pos (show j < j + 1 by omega), h1, List.getElem?_eq_getElem hj]; rfl
        · rw [if_neg e, hout p hp]
          by_cases hpj : p < j
          · rw [if_pos hpj, if_pos (by omega)]
          · rw [if_neg hpj, if_neg (by omega)]
      · refine sr (fun LL hLL => ?_)
        simp only [ptrTo, oxq, ↓reduceIte, simprocAttr, gR_some, eq_false (show ¬ (j : Int) < (n : Int) by omega)]
        refine hLL _ _ ?_
        refine wpC_if ?_
        simp only [ptrTo, oxq, ↓reduceIte, simprocAttr, gR_some]
        refine wpC_skip ?_
        simp only [ptrTo, oxq, ↓reduceIte, simprocAttr, gR_some]
        refine rg (fun LL hLL => ?_)
        simp only [ptrTo, oxq, ↓reduceIte, simprocAttr, gR_some, q4, q5, q6, wsucc (show j < 9223372036854775807 by omega)]
        refine hLL _ _ ?_
        simp only [ptrTo, oxq, ↓reduceIte, simprocAttr, gR_some]
        refine ⟨m2 - 1, by omega, j + 1, out, _, _, _, _, _, _, _, by omega, ⟨ho2, fun p hp => ?_⟩, s1, rfl, by simp [tget_tput, q1], by simp [tget_tput, q2], by simp [tget_tput, q3], by simp [tget_tput, q4, e3], by simp [tget_tput, q5], by simp [tget_tput]⟩
        rw [hout p hp, if_pos (by omega), if_pos (by omega)]
    · have hjl : j = x.offs.length := by omega
      subst hjl
      refine wpC_exit ?_
      simp only [ptrTo, oxq, ↓reduceIte, simprocAttr, gR_some]
      have efin : out = offOne out0 x.offs := by
        refine List.ext_getElem (by rw [offOne_len]; omega) fun p h1 h2 => ?_
        rw [hout p (by omega)]
        simp only [offOne, List.getElem_mapIdx]
        split
        · rfl
        · rw [List.getElem?_eq_none (by omega)]; rfl
      refine rg (fun LL hLL => ?_)
      simp only [ptrTo, oxq, ↓reduceIte, simprocAttr, gR_some, q1, q2, q3, wsucc (show i < 9223372036854775807 by omega)]
      refine hLL _ _ ?_
      simp only [ptrTo, oxq, ↓reduceIte, simprocAttr, gR_some]
      have s2 := s1.drop
      rw [efin, ← hnext] at s2
      exact ⟨m - 1, by omega, i + 1, _, _, _, _, _, _, _, _, by omega, s2, rfl, by simp [tget_tput, q1], by simp [tget_tput, q2], by simp [tget_tput]⟩
  · have hil : i = X.length := by omega
    subst hil
    rw [List.take_length] at s1
    refine wpC_exit ?_
    simp only [ptrTo, oxq, ↓reduceIte, simprocAttr, gR_some]
    refine fg10 (fun R => ?_)
    refine sr (fun LL hLL => ?_)
    simp only [ptrTo, oxq, ↓reduceIte, simprocAttr, gR_some]
    refine hLL _ _ ?_
    refine wpC_ret (out_ret ?_)
    simp only [ptrTo, oxq, ↓reduceIte, simprocAttr, gR_some]
    have s2 := s1.wn_own (f := icell) (offsL n (X.map AckX.offs)) rfl
    rw [offsL_len] at s2
    exact hk _ _ _ s2
end Go.Proofs.Cd

