/-
  A part of the proof: what functions of the program do on an abstract heap. CONDITIONS: none.
-/
import Derived.Test.YtfcajloeknedeaaGreatOxExY
import Derived.Test.YtfcajloeknedeaaGreatOxNs
import Derived.Test.YtfcajloeknedeaaGreatOxSs
set_option linter.unusedSimpArgs false
set_option linter.unusedVariables false
namespace Go.Proofs.Cd
open Go Go.Ox
set_option maxRecDepth 100000
set_option maxHeartbeats 2000000
abbrev Rwc := Int × Int × Int
def rcell (r : Rwc) : List Value := [.int .i64 r.1, .int .i64 r.2.1, .int .i64 r.2.2]
theorem rcell.len (x : Rwc) : (rcell x).length = 3 := rfl
theorem rcell.oc (x : Rwc) : (rcell x).all Value.oneCell' = true := rfl
theorem rcell.vq (x : Rwc) : ((rcell x).all fun v => veq 5 v v) = true := by simp [rcell, veq]
theorem wsucc {i : Nat} (h : i < 9223372036854775807) : IntKind.i64.wrap ((i : Int) + 1) = ((i + 1 : Nat) : Int) := by rw [wrap_i64 (by omega) (by omega)]; omega
/-- Two that change places. -/
def swp {α : Type} (L : List α) (p q : Nat) (hp : p < L.length) (hq : q < L.length) : List α := (L.set p L[q]).set q L[p]
theorem swp_len {α : Type} (L : List α) (p q : Nat) (hp : p < L.length) (hq : q < L.length) : (swp L p q hp hq).length = L.length := by simp [swp]
theorem swp_at {α : Type} (U W V : List α) (x y : α) (L : List α) (e : L = U ++ x :: (W ++ y :: V)) (p q : Nat) (ep : p = U.length) (eq : q = U.length + 1 + W.length) (hp : p < L.length) (hq : q < L.length) : swp L p q hp hq = U ++ y :: (W ++ x :: V) ∧ swp L q p hq hp = U ++ y :: (W ++ x :: V) := by
  subst ep eq e
  have g1 : (U ++ x :: (W ++ y :: V))[U.length] = x := by simp
  have g2 : (U ++ x :: (W ++ y :: V))[U.length + 1 + W.length] = y := by
    rw [List.getElem_append_right (by omega)]
    have : U.length + 1 + W.length - U.length = W.length + 1 := by omega
    simp [this]
  constructor
  · unfold swp
    rw [g1, g2, List.set_append_right _ _ (Nat.le_refl _), Nat.sub_self, List.set_cons_zero, List.set_append_right _ _ (by omega), show U.length + 1 + W.length - U.length = W.length + 1 by omega, List.set_cons_succ, List.set_append_right _ _ (Nat.le_refl _), Nat.sub_self, List.set_cons_zero]
  · unfold swp
    rw [g1, g2, List.set_append_right _ _ (by omega), show U.length + 1 + W.length - U.length = W.length + 1 by omega, List.set_cons_succ, List.set_append_right _ _ (Nat.le_refl _), Nat.sub_self, List.set_cons_zero, List.set_append_right _ _ (Nat.le_refl _), Nat.sub_self, List.set_cons_zero]
theorem swapRange_ok {h0 : AHeap} {F : List Asn} (U X W Y V : List Rwc) (hXY : X.length = Y.length) (a : Option Addr) (c n : Nat) (cmp : Value) (h : AHeap) (hn : n = (U ++ (X ++ (W ++ (Y ++ V)))).length) (hl : n < 1000000000) (s : St h0 h (wn rcell 3 63 a c (U ++ (X ++ (W ++ (Y ++ V)))) :: F)) (K : Value → AHeap → Prop)
    (hk : ∀ h', St h0 h' (wn rcell 3 63 a c (U ++ (Y ++ (W ++ (X ++ V)))) :: F) → K (.tuple #[]) h') :
    wpF Tryz.prog (.fn 126) [.slice a n c, .int .i64 U.length, .int .i64 ((U.length + X.length + W.length : Nat) : Int), .int .i64 X.length, cmp] h K := by
  refine wpF_fun 38 [] Tryz.func126 rfl rfl rfl rfl ?_
  refine sr (fun LL hLL => ?_)
  simp only [ptrTo, oxq, ↓reduceIte, simprocAttr, gR_some]
  refine hLL _ _ ?_
  refine fg11 (fun R => ?_)
  refine wpC_block ?_
  refine wpC_loop (fun m T h' => ∃ (i : Nat) (L : List Rwc) (u5 u6 u7 u8 u9 : Value) (R : List Value), m + i = X.length ∧ L = U ++ ((Y.take i ++ X.drop i) ++ (W ++ ((X.take i ++ Y.drop i) ++ V))) ∧ St h0 h' (wn rcell 3 63 a c L :: F) ∧
    T = .slice a n c :: .int .i64 U.length :: .int .i64 ((U.length + X.length + W.length : Nat) : Int) :: .int .i64 X.length :: cmp :: u5 :: u6 :: u7 :: u8 :: u9 :: .int .i64 i :: R) ?_ X.length _ _ ⟨0, _, _, _, _, _, _, R, by omega, by simp, s, rfl⟩
  rintro m T h' ⟨i, L, u5, u6, u7, u8, u9, R, hmi, hL, s1, rfl⟩
  have hLn : L.length = n := by rw [hL, hn]; simp; omega
  refine wpC_seq (sr fun LL hLL => ?_)
  simp only [ptrTo, oxq, ↓reduceIte, simprocAttr, gR_some]
  refine hLL _ _ ?_
  refine wpC_if ?_
  simp only [ptrTo, oxq, ↓reduceIte, simprocAttr, gR_some]
  refine gC_of (fun hc => ?_) (fun hc => ?_)
  · refine wpC_skip ?_
    simp only [ptrTo, oxq, ↓reduceIte, simprocAttr, gR_some]
    refine fg11 (fun R => ?_)
    have hi : i < X.length := by omega
    have hi2 : i < Y.length := by omega
    obtain ⟨p, ep⟩ : ∃ p, p = U.length + i := ⟨_, rfl⟩
    obtain ⟨q, eq⟩ : ∃ q, q = U.length + X.length + W.length + i := ⟨_, rfl⟩
    have hnl : n = U.length + X.length + W.length + Y.length + V.length := by rw [hn]; simp; omega
    have hp : p < L.length := by omega
    have hq : q < L.length := by omega
    have wp1 : IntKind.i64.wrap ((U.length : Int) + (i : Int)) = (p : Int) := by rw [wrap_i64 (by omega) (by omega)]; omega
    have wq1 : IntKind.i64.wrap (((U.length + X.length + W.length : Nat) : Int) + (i : Int)) = (q : Int) := by rw [wrap_i64 (by omega) (by omega)]; omega
    obtain ⟨b, rfl, hcc, s2⟩ := s1.wn_out (.inl (by rintro rfl; simp at hp))
    have gb := s2.get
    have hpn : p < n := by omega
    have hqn : q < n := by omega
    have rp := flat_row rcell.len L p hp
    have rq := flat_row rcell.len L q hq
    have lp := flat_le rcell.len L p hp
    have lq := flat_le rcell.len L q hq
    have s3 := s2.set (.cells false 3 ((L.set p L[q]).flatMap rcell) 63)
    obtain ⟨h3, e3⟩ : ∃ x, x = h'.set b (.cells false 3 ((L.set p L[q]).flatMap rcell) 63) := ⟨_, rfl⟩
    rw [← e3] at s3
    have gb3 := s3.get
    have lq3 := flat_le rcell.len (L.set p L[q]) q (by simpa using hq)
    have st1 := flat_store rcell.len L p L[q] hp
    have st2 := flat_store rcell.len (L.set p L[q]) q L[p] (by simpa using hq)
    obtain ⟨s4, h4, e4⟩ : ∃ (_ : St h0 (h3.set b (.cells false 3 (((L.set p L[q]).set q L[p]).flatMap rcell) 63)) _) (x : AHeap), x = h3.set b (.cells false 3 (((L.set p L[q]).set q L[p]).flatMap rcell) 63) := ⟨s3.set (.cells false 3 (((L.set p L[q]).set q L[p]).flatMap rcell) 63), _, rfl⟩
    rw [← e4] at s4
    refine wpC_seq (wpC_block ?_)
    refine du [some 16, some 17, some 18, some 19, some 20, some 21, some 22, some 23, some 24, some 25, some 26, some 27, some 28, some 29, some 30, some 31, some 32, some 33, some 34, some 35, some 36, none, some 37, none] 24 [0, 0, 0, 6, 0, 0, 0, 96, 0, 0, 0, 1536, 3840, 7936, 0, 0, 0, 98304, 245760, 507904, 1048335, 2096911, 4194303, 8388607] (by rfl) (by rfl) (by decide +kernel) (by decide +kernel) (by decide +kernel) (fun LL hLL => ?_)
    simp only [ptrTo, pend, pend0, Pd.old, pendU, pendU0, oxq, Nat.testBit, ↓reduceIte, simprocAttr, gR_some, wp1, wq1, ixF hpn, ixF hqn, gb, rp, rq, lp, lq, rcell.vq, rcell.len, rcell.oc, st1, st2, gb3, lq3, ← e3, ← e4]
    refine hLL _ _ ?_
    simp only [ptrTo, oxq, ↓reduceIte, simprocAttr, gR_some]
    refine fg11 (fun R => ?_)
    refine rg (fun LL hLL => ?_)
    simp only [ptrTo, oxq, ↓reduceIte, simprocAttr, gR_some, wsucc (show i < 9223372036854775807 by omega)]
    refine hLL _ _ ?_
    simp only [ptrTo, oxq, ↓reduceIte, simprocAttr, gR_some]
    obtain ⟨x, ex⟩ : ∃ x, x = X[i] := ⟨_, rfl⟩
    obtain ⟨y, ey⟩ : ∃ y, y = Y[i] := ⟨_, rfl⟩
    have hL2 : L = (U ++ Y.take i) ++ x :: ((X.drop (i + 1) ++ (W ++ X.take i)) ++ y :: (Y.drop (i + 1) ++ V)) := by
      rw [hL, List.drop_eq_getElem_cons hi, List.drop_eq_getElem_cons hi2, ← ex, ← ey]; simp
    have hsw := (swp_at _ _ _ x y L hL2 p q (by simp; omega) (by simp; omega) hp hq).1
    refine ⟨m - 1, by omega, i + 1, _, _, _, _, _, _, _, by omega, ?_, s4.wn_in (by simpa using hcc), rfl⟩
    show swp L p q hp hq = _
    rw [hsw, List.take_succ_eq_append_getElem hi, List.take_succ_eq_append_getElem hi2, ← ex, ← ey]; simp
  · refine wpC_exit ?_
    simp only [ptrTo, oxq, ↓reduceIte, simprocAttr, gR_some]
    refine out_normal ?_
    simp only [ptrTo, oxq, ↓reduceIte, simprocAttr, gR_some]
    have hiX : i = X.length := by omega
    subst hiX
    rw [List.drop_eq_nil_of_le (Nat.le_refl _), List.drop_eq_nil_of_le (by omega), List.take_length, List.take_of_length_le (by omega)] at hL
    simp at hL
    subst hL
    exact hk _ s1
theorem swapRange_at {h0 : AHeap} {F : List Asn} (U X W Y V L : List Rwc) (eL : L = U ++ (X ++ (W ++ (Y ++ V)))) (hXY : X.length = Y.length) (p q k : Int) (ep : p = (U.length : Int)) (eq : q = ((U.length + X.length + W.length : Nat) : Int)) (ek : k = (X.length : Int)) (a : Option Addr) (c n : Nat) (cmp : Value) (h : AHeap) (hn : n = L.length) (hl : n < 1000000000) (s : St h0 h (wn rcell 3 63 a c L :: F)) (K : Value → AHeap → Prop)
    (hk : ∀ h', St h0 h' (wn rcell 3 63 a c (U ++ (Y ++ (W ++ (X ++ V)))) :: F) → K (.tuple #[]) h') :
    wpF Tryz.prog (.fn 126) [.slice a n c, .int .i64 p, .int .i64 q, .int .i64 k, cmp] h K := by
  subst ep eq ek eL
  exact swapRange_ok U X W Y V hXY a c n cmp h hn hl s K hk
end Go.Proofs.Cd

namespace Go.Proofs.Cd
open Go Go.Ox
set_option maxRecDepth 100000
set_option maxHeartbeats 2000000
theorem split_at {α : Type} (L : List α) (i : Nat) (h : i ≤ L.length) : ∃ A B, L = A ++ B ∧ A.length = i := ⟨L.take i, L.drop i, (List.take_append_drop i L).symm, by simp; omega⟩
theorem rotate_at {h0 : AHeap} {F : List Asn} (U X Y V L : List Rwc) (eL : L = U ++ (X ++ (Y ++ V))) (hX : 0 < X.length) (hY : 0 < Y.length) (p m q : Int) (ep : p = (U.length : Int)) (em : m = ((U.length + X.length : Nat) : Int)) (eq : q = ((U.length + X.length + Y.length : Nat) : Int)) (a : Option Addr) (c n : Nat) (cmp : Value) (h : AHeap) (hn : n = L.length) (hl : n < 1000000000) (s : St h0 h (wn rcell 3 63 a c L :: F)) (K : Value → AHeap → Prop)
    (hk : ∀ h', St h0 h' (wn rcell 3 63 a c (U ++ (Y ++ (X ++ V))) :: F) → K (.tuple #[]) h') :
    wpF Tryz.prog (.fn 114) [.slice a n c, .int .i64 p, .int .i64 m, .int .i64 q, cmp] h K := by
  subst ep eq
  obtain ⟨M, eM⟩ : ∃ M, M = U.length + X.length := ⟨_, rfl⟩
  rw [← eM] at em ⊢
  subst em
  have hnn : n = U.length + X.length + Y.length + V.length := by rw [hn, eL]; simp; omega
  have w1 : IntKind.i64.wrap ((M : Int) - (U.length : Int)) = (X.length : Int) := by rw [wrap_i64 (by omega) (by omega)]; omega
  have w2 : IntKind.i64.wrap (((M + Y.length : Nat) : Int) - (M : Int)) = (Y.length : Int) := by rw [wrap_i64 (by omega) (by omega)]; omega
  refine wpF_fun 58 [] Tryz.func114 rfl rfl rfl rfl ?_
  refine sr (fun LL hLL => ?_)
  simp only [ptrTo, oxq, ↓reduceIte, simprocAttr, gR_some, w1]
  refine hLL _ _ ?_
  refine sr (fun LL hLL => ?_)
  simp only [ptrTo, oxq, ↓reduceIte, simprocAttr, gR_some, w2]
  refine hLL _ _ ?_
  refine fg12 (fun R => ?_)
  refine wpC_seq (wpC_block ?_)
  refine wpC_loop (fun k T h' => ∃ (U' X' Y' V' L' : List Rwc) (u5 u6 u7 u8 u9 : Value) (R : List Value), L' = U' ++ (X' ++ (Y' ++ V')) ∧ L'.length = n ∧ U ++ (Y ++ (X ++ V)) = U' ++ (Y' ++ (X' ++ V')) ∧ M = U'.length + X'.length ∧ 0 < X'.length ∧ 0 < Y'.length ∧ k = X'.length + Y'.length ∧ St h0 h' (wn rcell 3 63 a c L' :: F) ∧
    T = .slice a n c :: .int .i64 U.length :: .int .i64 M :: .int .i64 ((M + Y.length : Nat) : Int) :: cmp :: u5 :: u6 :: u7 :: u8 :: u9 :: .int .i64 X'.length :: .int .i64 Y'.length :: R) ?_ (X.length + Y.length) _ _ ⟨U, X, Y, V, L, _, _, _, _, _, R, eL, hn.symm, rfl, eM, hX, hY, rfl, s, rfl⟩
  rintro k T h' ⟨U', X', Y', V', L', u5, u6, u7, u8, u9, R, hL', hlen, ht, hM, hX', hY', hkk, s1, rfl⟩
  have hnl : n = U'.length + X'.length + Y'.length + V'.length := by rw [← hlen, hL']; simp; omega
  have v1 : IntKind.i64.wrap ((M : Int) - (X'.length : Int)) = (U'.length : Int) := by rw [wrap_i64 (by omega) (by omega)]; omega
  by_cases hc : X'.length = Y'.length
  · refine wpC_seq (sr fun LL hLL => ?_)
    simp only [ptrTo, oxq, ↓reduceIte, simprocAttr, gR_some, eq_true (show (X'.length : Int) = (Y'.length : Int) by omega), not_true_eq_false]
    refine hLL _ _ ?_
    refine wpC_if ?_
    simp only [ptrTo, oxq, ↓reduceIte, simprocAttr, gR_some]
    refine wpC_exit ?_
    simp only [ptrTo, oxq, ↓reduceIte, simprocAttr, gR_some]
    refine fg12 (fun R => ?_)
    refine rg (fun LL hLL => ?_)
    simp only [ptrTo, oxq, ↓reduceIte, simprocAttr, gR_some, v1]
    refine swapRange_at U' X' [] Y' V' L' (by rw [hL']; simp) hc _ _ _ rfl (by simp [hM]) rfl a c n cmp _ hlen.symm hl s1 _ fun h2 s2 => ?_
    refine hLL _ _ ?_
    refine out_normal ?_
    simp only [ptrTo, oxq, ↓reduceIte, simprocAttr, gR_some]
    rw [List.nil_append, ← ht] at s2
    exact hk _ s2
  · refine wpC_seq (sr fun LL hLL => ?_)
    simp only [ptrTo, oxq, ↓reduceIte, simprocAttr, gR_some, eq_false (show ¬ (X'.length : Int) = (Y'.length : Int) by omega), not_false_eq_true]
    refine hLL _ _ ?_
    refine wpC_if ?_
    simp only [ptrTo, oxq, ↓reduceIte, simprocAttr, gR_some]
    refine wpC_skip ?_
    simp only [ptrTo, oxq, ↓reduceIte, simprocAttr, gR_some]
    refine fg12 (fun R => ?_)
    refine wpC_block ?_
    by_cases hgt : Y'.length < X'.length
    · refine sr (fun LL hLL => ?_)
      simp only [ptrTo, oxq, ↓reduceIte, simprocAttr, gR_some, eq_true (show (Y'.length : Int) < (X'.length : Int) by omega)]
      refine hLL _ _ ?_
      refine wpC_if ?_
      simp only [ptrTo, oxq, ↓reduceIte, simprocAttr, gR_some]
      refine sr (fun LL hLL => ?_)
      simp only [ptrTo, oxq, ↓reduceIte, simprocAttr, gR_some, v1]
      obtain ⟨A, B, eX, lA⟩ := split_at X' Y'.length (by omega)
      have lX : X'.length = A.length + B.length := by rw [eX]; simp
      refine swapRange_at U' A B Y' V' L' (by rw [hL', eX]; simp) lA _ _ _ rfl (by omega) (by omega) a c n cmp _ hlen.symm hl s1 _ fun h2 s2 => ?_
      refine hLL _ _ ?_
      refine rg (fun LL hLL => ?_)
      simp only [ptrTo, oxq, ↓reduceIte, simprocAttr, gR_some, show IntKind.i64.wrap ((X'.length : Int) - (Y'.length : Int)) = (B.length : Int) by rw [wrap_i64 (by omega) (by omega)]; omega]
      refine hLL _ _ ?_
      simp only [ptrTo, oxq, ↓reduceIte, simprocAttr, gR_some]
      rw [← lA]
      exact ⟨B.length + A.length, by omega, U' ++ Y', B, A, V', _, _, _, _, _, _, _, by simp, by simp; omega, by rw [ht, eX]; simp, by simp; omega, by omega, by omega, rfl, s2, rfl⟩
    · refine sr (fun LL hLL => ?_)
      simp only [ptrTo, oxq, ↓reduceIte, simprocAttr, gR_some, eq_false (show ¬ (Y'.length : Int) < (X'.length : Int) by omega)]
      refine hLL _ _ ?_
      refine wpC_if ?_
      simp only [ptrTo, oxq, ↓reduceIte, simprocAttr, gR_some]
      have v2 : IntKind.i64.wrap ((M : Int) + (Y'.length : Int)) = ((M + Y'.length : Nat) : Int) := by rw [wrap_i64 (by omega) (by omega)]; omega
      have v3 : IntKind.i64.wrap (((M + Y'.length : Nat) : Int) - (X'.length : Int)) = ((M + Y'.length - X'.length : Nat) : Int) := by rw [wrap_i64 (by omega) (by omega)]; omega
      refine sr (fun LL hLL => ?_)
      simp only [ptrTo, oxq, ↓reduceIte, simprocAttr, gR_some, v1, v2, v3]
      obtain ⟨A, B, eY, lA⟩ := split_at Y' (Y'.length - X'.length) (by omega)
      have lY : Y'.length = A.length + B.length := by rw [eY]; simp
      refine swapRange_at U' X' A B V' L' (by rw [hL', eY]; simp) (by omega) _ _ _ rfl (by omega) rfl a c n cmp _ hlen.symm hl s1 _ fun h2 s2 => ?_
      refine hLL _ _ ?_
      refine rg (fun LL hLL => ?_)
      simp only [ptrTo, oxq, ↓reduceIte, simprocAttr, gR_some, show IntKind.i64.wrap ((Y'.length : Int) - (X'.length : Int)) = (A.length : Int) by rw [wrap_i64 (by omega) (by omega)]; omega]
      refine hLL _ _ ?_
      simp only [ptrTo, oxq, ↓reduceIte, simprocAttr, gR_some]
      rw [show X'.length = B.length by omega]
      exact ⟨B.length + A.length, by omega, U', B, A, X' ++ V', _, _, _, _, _, _, _, by simp, by simp; omega, by rw [ht, eY]; simp, by omega, by omega, by omega, rfl, s2, rfl⟩
end Go.Proofs.Cd

namespace Go.Proofs.Cd
open Go Go.Ox
set_option maxRecDepth 100000
set_option maxHeartbeats 2000000
abbrev rval (x : Rwc) : Value := .agg (rcell x).toArray
abbrev cfun (g : Nat) (u : Value) : Value := .func (.func g) #[] #[u]
/-- What a comparison must do. -/
def CmpAt (g : Nat) (u : Value) (lt : Rwc → Rwc → Bool) (h0 : AHeap) (F : List Asn) : Prop :=
  ∀ (G : List Asn) (x y : Rwc) (h : AHeap) (K : Value → AHeap → Prop), St h0 h (G ++ F) → (∀ h' (r : Int), St h0 h' (G ++ F) → (r < 0 ↔ lt x y = true) → K (.int .i64 r) h') → wpF Tryz.prog (.fn g) [rval x, rval y, u] h K
theorem insertion_at {h0 : AHeap} {F : List Asn} {lt : Rwc → Rwc → Bool} {ke : Rwc → Int} (o : KOrd lt ke) (g : Nat) (u : Value) (hcmp : CmpAt g u lt h0 F) (U X V L : List Rwc) (eL : L = U ++ (X ++ V)) (p q : Int) (ep : p = (U.length : Int)) (eq : q = ((U.length + X.length : Nat) : Int)) (a : Option Addr) (c n : Nat) (h : AHeap) (hn : n = L.length) (hl : n < 1000000000) (s : St h0 h (wn rcell 3 63 a c L :: F)) (K : Value → AHeap → Prop)
    (hk : ∀ h' X', SrtL lt X' → Sim ke X X' → St h0 h' (wn rcell 3 63 a c (U ++ (X' ++ V)) :: F) → K (.tuple #[]) h') :
    wpF Tryz.prog (.fn 107) [.slice a n c, .int .i64 p, .int .i64 q, cfun g u] h K := by
  subst ep eq
  have hnn : n = U.length + X.length + V.length := by rw [hn, eL]; simp; omega
  refine wpF_fun 53 [] Tryz.func107 rfl rfl rfl rfl ?_
  refine sr (fun LL hLL => ?_)
  simp only [ptrTo, oxq, ↓reduceIte, simprocAttr, gR_some, wsucc (show U.length < 9223372036854775807 by omega)]
  refine hLL _ _ ?_
  refine fg10 (fun R => ?_)
  refine wpC_block ?_
  refine wpC_loop (fun m T h' => ∃ (i k : Nat) (S Z L' : List Rwc) (u4 u5 u6 u7 u9 : Value) (R : List Value), L' = U ++ (S ++ (Z ++ V)) ∧ i = U.length + k ∧ 0 < k ∧ S.length = min k X.length ∧ Z = X.drop k ∧ SrtL lt S ∧ Sim ke (X.take k) S ∧ m + k = X.length + 1 ∧ St h0 h' (wn rcell 3 63 a c L' :: F) ∧
    T = .slice a n c :: .int .i64 U.length :: .int .i64 ((U.length + X.length : Nat) : Int) :: cfun g u :: u4 :: u5 :: u6 :: u7 :: .int .i64 i :: u9 :: R) ?_ X.length _ _ ⟨U.length + 1, 1, X.take 1, X.drop 1, L, _, _, _, _, _, R, by rw [eL, ← List.append_assoc (X.take 1), List.take_append_drop], rfl, by omega, by simp, rfl, by rcases X with _ | ⟨x, X⟩ <;> simp, .refl _, rfl, s, rfl⟩
  rintro m T h' ⟨i, k, S, Z, L', u4, u5, u6, u7, u9, R, hL', hi, hk0, hS, hZ, hsrt, hsim, hm, s1, rfl⟩
  by_cases hc : k < X.length
  · refine wpC_seq (sr fun LL hLL => ?_)
    simp only [ptrTo, oxq, ↓reduceIte, simprocAttr, gR_some, eq_true (show (i : Int) < ((U.length + X.length : Nat) : Int) by omega)]
    refine hLL _ _ ?_
    refine wpC_if ?_
    simp only [ptrTo, oxq, ↓reduceIte, simprocAttr, gR_some]
    refine wpC_skip ?_
    simp only [ptrTo, oxq, ↓reduceIte, simprocAttr, gR_some]
    refine fg10 (fun R => ?_)
    refine wpC_seq (wpC_block ?_)
    refine sr (fun LL hLL => ?_)
    simp only [ptrTo, oxq, ↓reduceIte, simprocAttr, gR_some]
    refine hLL _ _ ?_
    refine fg10 (fun R => ?_)
    refine wpC_block ?_
    obtain ⟨x, ex⟩ : ∃ x, x = X[k] := ⟨_, rfl⟩
    obtain ⟨Z', eZ'⟩ : ∃ Z', Z' = X.drop (k + 1) := ⟨_, rfl⟩
    have eZ : Z = x :: Z' := by rw [hZ, List.drop_eq_getElem_cons hc, ex, eZ']
    have eT : X.take (k + 1) = X.take k ++ [x] := by rw [List.take_succ_eq_append_getElem hc, ex]
    have hSk : S.length = k := by omega
    refine wpC_loop (fun m2 T h' => ∃ (j : Nat) (S1 S2 L2 : List Rwc) (u4 u5 u6 u7 : Value) (R : List Value), L2 = U ++ (S1 ++ (x :: (S2 ++ (Z' ++ V)))) ∧ j = U.length + S1.length ∧ S1 ++ S2 = S ∧ (∀ z ∈ S2, lt x z = true) ∧ m2 = S1.length ∧ St h0 h' (wn rcell 3 63 a c L2 :: F) ∧
      T = .slice a n c :: .int .i64 U.length :: .int .i64 ((U.length + X.length : Nat) : Int) :: cfun g u :: u4 :: u5 :: u6 :: u7 :: .int .i64 i :: .int .i64 j :: R) ?_ k _ _ ⟨i, S, [], L', _, _, _, _, R, by rw [hL', eZ]; simp, by omega, by simp, by simp, hSk.symm, s1, rfl⟩
    rintro m2 T h' ⟨j, S1, S2, L2, u4, u5, u6, u7, R, hL2, hj, hSS, h2, hm2, s2, rfl⟩
    have hS12 : S1.length + S2.length = S.length := by rw [← hSS]; simp
    have hl2 : L2.length = n := by rw [hL2, hnn]; have := congrArg List.length eZ'; simp at this ⊢; omega
    refine wpC_seq ?_
    by_cases hj0 : S1 = []
    · have hj1 : j = U.length := by rw [hj, hj0]; simp
      refine su [some 18, some 19, some 20, some 21, some 22, some 23, some 24, some 25, some 26, some 27, some 28, some 29, some 30, some 31, some 32, some 33, some 34] 17 [0, 0, 3, 7, 15, 15, 15, 111, 239, 15, 15, 1039, 3599, 7695, 16383, 32767, 65535] (by rfl) (by rfl) (by decide +kernel) (by decide +kernel) (by decide +kernel) (fun LL hLL => ?_)
      simp only [ptrTo, pend, pend0, Pd.old, pendU, pendU0, oxq, Nat.testBit, ↓reduceIte, simprocAttr, gR_some, eq_false (show ¬ (U.length : Int) < (j : Int) by omega)]
      refine hLL _ _ ?_
      refine wpC_if ?_
      simp only [ptrTo, oxq, ↓reduceIte, simprocAttr, gR_some]
      refine wpC_exit ?_
      simp only [ptrTo, oxq, ↓reduceIte, simprocAttr, gR_some]
      refine fg10 (fun R => ?_)
      refine rg (fun LL hLL => ?_)
      simp only [ptrTo, oxq, ↓reduceIte, simprocAttr, gR_some, wsucc (show i < 9223372036854775807 by omega)]
      refine hLL _ _ ?_
      simp only [ptrTo, oxq, ↓reduceIte, simprocAttr, gR_some]
      obtain ⟨q1, q2⟩ := ins_stop o (S1 := S1) (S2 := S2) (x := x) (by rw [hSS]; exact hsrt) h2 (.inl hj0)
      exact ⟨m - 1, by omega, i + 1, k + 1, S1 ++ x :: S2, Z', L2, _, _, _, _, _, _, by rw [hL2]; simp, by omega, by omega, by simp; omega, eZ', q1, by rw [eT]; exact (hsim.append (.refl [x])).trans (by rw [← hSS]; exact q2), by omega, s2, rfl⟩
    · obtain ⟨S0, y, eS⟩ : ∃ S0 y, S1 = S0 ++ [y] := ⟨S1.dropLast, S1.getLast hj0, (List.dropLast_concat_getLast hj0).symm⟩
      have lS : S1.length = S0.length + 1 := by rw [eS]; simp
      obtain ⟨i1, ei1⟩ : ∃ i1, i1 = U.length + S0.length := ⟨_, rfl⟩
      have hji : j = i1 + 1 := by omega
      have hL3 : L2 = (U ++ S0) ++ y :: ([] ++ x :: (S2 ++ (Z' ++ V))) := by rw [hL2, eS]; simp
      have hjl : j < L2.length := by omega
      have hil : i1 < L2.length := by omega
      have gj : L2[j] = x := by simp only [hL2]; rw [List.getElem_append_right (by omega)]; simp [show j - U.length = S1.length by omega]
      have gi : L2[i1] = y := by simp only [hL3]; rw [List.getElem_append_right (by simp; omega)]; simp [show i1 - (U.length + S0.length) = 0 by omega]
      obtain ⟨b, rfl, hcc, s3⟩ := s2.wn_out (.inl (by rintro rfl; simp at hjl))
      have gb := s3.get
      have rj := flat_row rcell.len L2 j hjl
      have ri := flat_row rcell.len L2 i1 hil
      rw [gj] at rj
      rw [gi] at ri
      have lj := flat_le rcell.len L2 j hjl
      have li := flat_le rcell.len L2 i1 hil
      have wj : IntKind.i64.wrap ((j : Int) - 1) = (i1 : Int) := by rw [wrap_i64 (by omega) (by omega)]; omega
      refine su [some 18, some 19, some 20, some 21, some 22, some 23, some 24, some 25, some 26, some 27, some 28, some 29, some 30, some 31, some 32, some 33, some 34] 17 [0, 0, 3, 7, 15, 15, 15, 111, 239, 15, 15, 1039, 3599, 7695, 16383, 32767, 65535] (by rfl) (by rfl) (by decide +kernel) (by decide +kernel) (by decide +kernel) (fun LL hLL => ?_)
      simp only [ptrTo, pend, pend0, Pd.old, pendU, pendU0, oxq, Nat.testBit, ↓reduceIte, simprocAttr, gR_held, eq_true (show (U.length : Int) < (j : Int) by omega), wj, ixF (show j < n by omega), ixF (show i1 < n by omega), gb, rj, ri, lj, li, rcell.vq]
      refine hcmp [_] x y _ _ s3 fun h4 r s4 hr => ?_
      have gb4 := s4.get
      by_cases hlt : lt x y = true
      · simp only [ptrTo, pend, pend0, Pd.old, pendU, pendU0, oxq, Nat.testBit, ↓reduceIte, simprocAttr, gR_held, eq_true (hr.2 hlt)]
        refine hLL _ _ ?_
        refine wpC_if ?_
        simp only [ptrTo, oxq, ↓reduceIte, simprocAttr, gR_some]
        refine wpC_skip ?_
        simp only [ptrTo, oxq, ↓reduceIte, simprocAttr, gR_some]
        refine fg10 (fun R => ?_)
        have hj5 : j < (L2.set j y).length := by simpa using hjl
        have hi5 : i1 < (L2.set j y).length := by simpa using hil
        have st1 := flat_store rcell.len L2 j y hjl
        have st2 := flat_store rcell.len (L2.set j y) i1 x hi5
        have li5 := flat_le rcell.len (L2.set j y) i1 hi5
        have s5 := s4.set (.cells false 3 ((L2.set j y).flatMap rcell) 63)
        obtain ⟨h5, e5⟩ : ∃ z, z = h4.set b (.cells false 3 ((L2.set j y).flatMap rcell) 63) := ⟨_, rfl⟩
        rw [← e5] at s5
        have gb5 := s5.get
        have s6 := s5.set (.cells false 3 (((L2.set j y).set i1 x).flatMap rcell) 63)
        obtain ⟨h6, e6⟩ : ∃ z, z = h5.set b (.cells false 3 (((L2.set j y).set i1 x).flatMap rcell) 63) := ⟨_, rfl⟩
        rw [← e6] at s6
        refine wpC_seq (wpC_block ?_)
        refine du [some 37, some 38, some 39, some 40, some 41, some 42, some 43, some 44, some 45, some 46, some 47, some 48, some 49, some 50, some 51, none, some 52, none] 18 [0, 0, 0, 0, 8, 0, 0, 64, 224, 480, 0, 0, 3072, 7168, 16355, 32739, 65535, 131071] (by rfl) (by rfl) (by decide +kernel) (by decide +kernel) (by decide +kernel) (fun LL hLL => ?_)
        simp only [ptrTo, pend, pend0, Pd.old, pendU, pendU0, oxq, Nat.testBit, ↓reduceIte, simprocAttr, gR_some, wj, ixF (show j < n by omega), ixF (show i1 < n by omega), gb4, rj, ri, lj, li, rcell.vq, rcell.len, rcell.oc, st1, st2, gb5, li5, ← e5, ← e6]
        refine hLL _ _ ?_
        simp only [ptrTo, oxq, ↓reduceIte, simprocAttr, gR_some]
        refine fg10 (fun R => ?_)
        refine rg (fun LL hLL => ?_)
        simp only [ptrTo, oxq, ↓reduceIte, simprocAttr, gR_some, wj]
        refine hLL _ _ ?_
        simp only [ptrTo, oxq, ↓reduceIte, simprocAttr, gR_some]
        have hsw := (swp_at _ _ _ y x L2 hL3 i1 j (by simp; omega) (by simp; omega) hil hjl).2
        unfold swp at hsw
        rw [gi, gj] at hsw
        refine ⟨m2 - 1, by omega, i1, S0, y :: S2, _, _, _, _, _, _, ?_, ei1, by rw [← hSS, eS]; simp, fun z hz => ?_, by omega, s6.wn_in (by simpa using hcc), rfl⟩
        · rw [hsw]; simp
        · rcases List.mem_cons.1 hz with rfl | hz
          · exact hlt
          · exact h2 z hz
      · simp only [ptrTo, pend, pend0, Pd.old, pendU, pendU0, oxq, Nat.testBit, ↓reduceIte, simprocAttr, gR_held, eq_false (fun hh => hlt (hr.1 hh))]
        refine hLL _ _ ?_
        refine wpC_if ?_
        simp only [ptrTo, oxq, ↓reduceIte, simprocAttr, gR_some]
        refine wpC_exit ?_
        simp only [ptrTo, oxq, ↓reduceIte, simprocAttr, gR_some]
        refine fg10 (fun R => ?_)
        refine rg (fun LL hLL => ?_)
        simp only [ptrTo, oxq, ↓reduceIte, simprocAttr, gR_some, wsucc (show i < 9223372036854775807 by omega)]
        refine hLL _ _ ?_
        simp only [ptrTo, oxq, ↓reduceIte, simprocAttr, gR_some]
        obtain ⟨q1, q2⟩ := ins_stop o (S1 := S1) (S2 := S2) (x := x) (by rw [hSS]; exact hsrt) h2 (.inr ⟨S0, y, eS, by simpa using hlt⟩)
        exact ⟨m - 1, by omega, i + 1, k + 1, S1 ++ x :: S2, Z', L2, _, _, _, _, _, _, by rw [hL2]; simp, by omega, by omega, by simp; omega, eZ', q1, by rw [eT]; exact (hsim.append (.refl [x])).trans (by rw [← hSS]; exact q2), by omega, s4.wn_in (by simpa using hcc), rfl⟩
  · refine wpC_seq (sr fun LL hLL => ?_)
    simp only [ptrTo, oxq, ↓reduceIte, simprocAttr, gR_some, eq_false (show ¬ (i : Int) < ((U.length + X.length : Nat) : Int) by omega)]
    refine hLL _ _ ?_
    refine wpC_if ?_
    simp only [ptrTo, oxq, ↓reduceIte, simprocAttr, gR_some]
    refine wpC_exit ?_
    simp only [ptrTo, oxq, ↓reduceIte, simprocAttr, gR_some]
    refine out_normal ?_
    simp only [ptrTo, oxq, ↓reduceIte, simprocAttr, gR_some]
    have : X.length ≤ k := by omega
    rw [List.take_of_length_le this] at hsim
    rw [hZ, List.drop_eq_nil_of_le this, List.nil_append] at hL'
    rw [hL'] at s1
    exact hk _ S hsrt hsim s1
end Go.Proofs.Cd

namespace Go.Ox
section
variable {α κ : Type} [DecidableEq κ] {lt : α → α → Bool} {ke : α → κ}
end
section
variable {α κ : Type} {lt : α → α → Bool} {ke : α → κ}
theorem srt_last (o : KOrd lt ke) {S : List α} {x a : α} (h : SrtL lt (S ++ [x])) (ha : a ∈ S ++ [x]) : lt x a = false := by
  rcases List.mem_append.1 ha with h1 | h1
  · exact (List.pairwise_append.1 h).2.2 a h1 x (by simp)
  · obtain rfl : a = x := by simpa using h1
    exact o.irr a
end
section
variable {α κ : Type} [DecidableEq κ] {lt : α → α → Bool} {ke : α → κ}
end
section
variable {α κ : Type} {lt : α → α → Bool} {ke : α → κ}
theorem srt_first (o : KOrd lt ke) {S : List α} {x a : α} (h : SrtL lt (x :: S)) (ha : a ∈ x :: S) : lt a x = false := by
  rcases List.mem_cons.1 ha with rfl | h1
  · exact o.irr _
  · exact (List.pairwise_cons.1 h).1 a h1
end
section
variable {α κ : Type} [DecidableEq κ] {lt : α → α → Bool} {ke : α → κ}
end
section
variable {α κ : Type} {lt : α → α → Bool} {ke : α → κ}
theorem sym_cut (o : KOrd lt ke) {A1 A2 B1 B2 : List α} (hA : SrtL lt (A1 ++ A2)) (hB : SrtL lt (B1 ++ B2))
    (h1 : A1 = [] ∨ B2 = [] ∨ ∃ S x y T, A1 = S ++ [x] ∧ B2 = y :: T ∧ lt y x = false)
    (h2 : B1 = [] ∨ A2 = [] ∨ ∃ S y x T, B1 = S ++ [y] ∧ A2 = x :: T ∧ lt y x = true) :
    (∀ a ∈ A1, ∀ b ∈ B2, lt b a = false) ∧ (∀ b ∈ B1, ∀ a ∈ A2, lt b a = true) := by
  constructor
  · intro a ha b hb
    rcases h1 with rfl | rfl | ⟨S, x, y, T, rfl, rfl, h⟩
    · cases ha
    · cases hb
    · have e1 := srt_last o (List.pairwise_append.1 hA).1 ha
      have e2 := srt_first o (List.pairwise_append.1 hB).2.1 hb
      exact o.nt a y b (o.nt a x y e1 h) e2
  · intro b hb a ha
    rcases h2 with rfl | rfl | ⟨S, y, x, T, rfl, rfl, h⟩
    · cases hb
    · cases ha
    · have e1 := srt_last o (List.pairwise_append.1 hB).1 hb
      have e2 := srt_first o (List.pairwise_append.1 hA).2.1 ha
      exact o.lt_le (o.le_lt e1 h) e2
end
section
variable {α κ : Type} [DecidableEq κ] {lt : α → α → Bool} {ke : α → κ}
/-- The whole merge, once the halves are merged. -/
theorem sym_all (o : KOrd lt ke) {A1 A2 B1 B2 X Y : List α} (hA : SrtL lt (A1 ++ A2)) (hB : SrtL lt (B1 ++ B2))
    (h1 : A1 = [] ∨ B2 = [] ∨ ∃ S x y T, A1 = S ++ [x] ∧ B2 = y :: T ∧ lt y x = false)
    (h2 : B1 = [] ∨ A2 = [] ∨ ∃ S y x T, B1 = S ++ [y] ∧ A2 = x :: T ∧ lt y x = true)
    (hX : SrtL lt X) (sX : Sim ke (A1 ++ B1) X) (hY : SrtL lt Y) (sY : Sim ke (A2 ++ B2) Y) : SrtL lt (X ++ Y) ∧ Sim ke ((A1 ++ A2) ++ (B1 ++ B2)) (X ++ Y) := by
  obtain ⟨c1, c2⟩ := sym_cut o hA hB h1 h2
  exact merge_halves o hA hB c1 c2 hX sX hY sY
/-- One ahead of the others. -/
theorem sym_one (o : KOrd lt ke) {B1 B2 : List α} {x : α} (hB : SrtL lt (B1 ++ B2)) (h1 : B1 = [] ∨ ∃ S y, B1 = S ++ [y] ∧ lt y x = true) (h2 : B2 = [] ∨ ∃ y T, B2 = y :: T ∧ lt y x = false) :
    SrtL lt (B1 ++ x :: B2) ∧ Sim ke ([x] ++ (B1 ++ B2)) (B1 ++ x :: B2) := by
  have e2 : ∀ b ∈ B2, lt b x = false := by
    rcases h2 with rfl | ⟨y, T, rfl, h⟩
    · simp
    · intro b hb
      exact o.nt x y b h (srt_first o (List.pairwise_append.1 hB).2.1 hb)
  have := sym_all o (A1 := []) (A2 := [x]) (B1 := B1) (B2 := B2) (X := B1) (Y := [x] ++ B2) (by simp [SrtL]) hB (.inl rfl)
    (by rcases h1 with h | ⟨S, y, e, h⟩
        · exact .inl h
        · exact .inr (.inr ⟨S, y, x, [], e, rfl, h⟩))
    (List.pairwise_append.1 hB).1 (by rw [List.nil_append]; exact .refl _) (List.pairwise_cons.2 ⟨e2, (List.pairwise_append.1 hB).2.1⟩) (.refl _)
  simpa using this
/-- One behind the others. -/
theorem sym_end (o : KOrd lt ke) {A1 A2 : List α} {y : α} (hA : SrtL lt (A1 ++ A2)) (h1 : A1 = [] ∨ ∃ S x, A1 = S ++ [x] ∧ lt y x = false) (h2 : A2 = [] ∨ ∃ x T, A2 = x :: T ∧ lt y x = true) :
    SrtL lt (A1 ++ y :: A2) ∧ Sim ke ((A1 ++ A2) ++ [y]) (A1 ++ y :: A2) := by
  have e1 : ∀ a ∈ A1, lt y a = false := by
    rcases h1 with rfl | ⟨S, x, rfl, h⟩
    · simp
    · intro a ha
      exact o.nt a x y (srt_last o (List.pairwise_append.1 hA).1 ha) h
  have := sym_all o (A1 := A1) (A2 := A2) (B1 := [y]) (B2 := []) (X := A1 ++ [y]) (Y := A2) hA (by simp [SrtL]) (.inr (.inl rfl))
    (by rcases h2 with h | ⟨x, T, e, h⟩
        · exact .inr (.inl h)
        · exact .inr (.inr ⟨[], y, x, T, rfl, e, h⟩))
    (List.pairwise_append.2 ⟨(List.pairwise_append.1 hA).1, by simp, fun a ha b hb => by rw [List.mem_singleton.1 hb]; exact e1 a ha⟩) (.refl _) (List.pairwise_append.1 hA).2.1 (by rw [List.append_nil]; exact .refl _)
  simpa using this
end
end Go.Ox

namespace Go.Proofs.Cd
open Go Go.Ox
set_option maxRecDepth 100000
set_option maxHeartbeats 4000000
theorem halfu {n : Nat} (h : n < 9223372036854775807) : IntKind.u64.wrap (n : Int) = (n : Int) := by
  have h1 : IntKind.u64.wrap (n : Int) = (n : Int) % 18446744073709551616 := rfl
  rw [h1]; omega
theorem halfw {n : Nat} (h : n < 9223372036854775807) : IntKind.i64.wrap ((n : Int).fdiv (2 ^ min (Int.toNat 1) IntKind.u64.bits)) = ((n / 2 : Nat) : Int) := by
  have h2 : (2 : Int) ^ min (Int.toNat 1) IntKind.u64.bits = 2 := by decide
  rw [h2, Int.fdiv_eq_ediv_of_nonneg _ (by omega), wrap_i64 (by omega) (by omega)]; omega
theorem sym_first {h0 : AHeap} {F : List Asn} {lt : Rwc → Rwc → Bool} {ke : Rwc → Int} (o : KOrd lt ke) (g : Nat) (u : Value) (hcmp : CmpAt g u lt h0 F) (U B V L : List Rwc) (x : Rwc) (eL : L = U ++ ([x] ++ (B ++ V))) (hB : SrtL lt B) (p m q : Int) (ep : p = (U.length : Int)) (em : m = ((U.length + 1 : Nat) : Int)) (eq : q = ((U.length + 1 + B.length : Nat) : Int)) (a : Option Addr) (c n : Nat) (h : AHeap) (hn : n = L.length) (hl : n < 1000000000) (s : St h0 h (wn rcell 3 63 a c L :: F)) (K : Value → AHeap → Prop)
    (hk : ∀ h' X', SrtL lt X' → Sim ke ([x] ++ B) X' → St h0 h' (wn rcell 3 63 a c (U ++ (X' ++ V)) :: F) → K (.tuple #[]) h') :
    wpF Tryz.prog (.fn 108) [.slice a n c, .int .i64 p, .int .i64 m, .int .i64 q, cfun g u] h K := by
  subst ep eq em
  have hnn : n = U.length + 1 + B.length + V.length := by rw [hn, eL]; simp; omega
  obtain ⟨M, eM⟩ : ∃ M, M = U.length + 1 := ⟨_, rfl⟩
  rw [← eM]
  have w1 : IntKind.i64.wrap ((M : Int) - (U.length : Int)) = 1 := by rw [wrap_i64 (by omega) (by omega)]; omega
  refine wpF_fun 220 [] Tryz.func108 rfl rfl rfl rfl ?_
  refine wpC_seq (sr fun LL hLL => ?_)
  simp only [ptrTo, oxq, ↓reduceIte, simprocAttr, gR_some, w1]
  refine hLL _ _ ?_
  refine wpC_if ?_
  simp only [ptrTo, oxq, ↓reduceIte, simprocAttr, gR_some]
  refine sr (fun LL hLL => ?_)
  simp only [ptrTo, oxq, ↓reduceIte, simprocAttr, gR_some]
  refine hLL _ _ ?_
  refine sr (fun LL hLL => ?_)
  simp only [ptrTo, oxq, ↓reduceIte, simprocAttr, gR_some]
  refine hLL _ _ ?_
  refine fg25 (fun R => ?_)
  refine wpC_seq (wpC_block ?_)
  refine wpC_loop (fun k T h' => ∃ (i j s e : Nat) (u5 u6 u7 u8 u9 u12 u13 u14 u15 u16 u17 u18 u19 u20 u21 u22 u23 u24 : Value) (R : List Value), i = M + s ∧ j = M + e ∧ s ≤ e ∧ e ≤ B.length ∧ (∀ t y, t + 1 = s → B[t]? = some y → lt y x = true) ∧ (∀ y, B[e]? = some y → lt y x = false) ∧ k + s = e ∧ St h0 h' (wn rcell 3 63 a c L :: F) ∧
    T = .slice a n c :: .int .i64 U.length :: .int .i64 M :: .int .i64 ((M + B.length : Nat) : Int) :: cfun g u :: u5 :: u6 :: u7 :: u8 :: u9 :: .int .i64 i :: .int .i64 j :: u12 :: u13 :: u14 :: u15 :: u16 :: u17 :: u18 :: u19 :: u20 :: u21 :: u22 :: u23 :: u24 :: R) ?_ B.length _ _ ⟨M, M + B.length, 0, B.length, _, _, _, _, _, _, _, _, _, _, _, _, _, _, _, _, _, _, R, rfl, rfl, by omega, by omega, by intros; omega, by simp, by omega, s, rfl⟩
  rintro k T h' ⟨i, j, s', e, u5, u6, u7, u8, u9, u12, u13, u14, u15, u16, u17, u18, u19, u20, u21, u22, u23, u24, R, hi, hj, hse, heB, hlo, hhi, hk', s1, rfl⟩
  by_cases hc : s' < e
  · refine wpC_seq (sr fun LL hLL => ?_)
    simp only [ptrTo, oxq, ↓reduceIte, simprocAttr, gR_some, eq_true (show (i : Int) < (j : Int) by omega)]
    refine hLL _ _ ?_
    refine wpC_if ?_
    simp only [ptrTo, oxq, ↓reduceIte, simprocAttr, gR_some]
    refine wpC_skip ?_
    simp only [ptrTo, oxq, ↓reduceIte, simprocAttr, gR_some]
    refine fg25 (fun R => ?_)
    refine wpC_block ?_
    obtain ⟨t, et⟩ : ∃ t, t = (i + j) / 2 := ⟨_, rfl⟩
    refine sr (fun LL hLL => ?_)
    simp only [ptrTo, oxq, ↓reduceIte, simprocAttr, gR_some, show IntKind.i64.wrap ((i : Int) + (j : Int)) = ((i + j : Nat) : Int) by rw [wrap_i64 (by omega) (by omega)]; omega]
    refine hLL _ _ ?_
    simp only [halfu (show i + j < 9223372036854775807 by omega), halfw (show i + j < 9223372036854775807 by omega), ← et]
    obtain ⟨r, er⟩ : ∃ r, t = M + r := ⟨t - M, by omega⟩
    have hr : r < B.length := by omega
    have htl : t < L.length := by omega
    have hul : U.length < L.length := by omega
    obtain ⟨y, ey⟩ : ∃ y, y = B[r] := ⟨_, rfl⟩
    have gt : L[t] = y := by simp only [eL]; rw [List.getElem_append_right (by omega), List.getElem_append_right (by simp; omega), List.getElem_append_left (by simp; omega), ey]; congr 1; simp; omega
    have gu : L[U.length] = x := by simp [eL]
    obtain ⟨b, rfl, hcc, s3⟩ := s1.wn_out (.inl (by rintro rfl; simp at htl))
    have gb := s3.get
    have rt := flat_row rcell.len L t htl
    have ru := flat_row rcell.len L U.length hul
    rw [gt] at rt
    rw [gu] at ru
    have lt' := flat_le rcell.len L t htl
    have lu := flat_le rcell.len L U.length hul
    refine su [some 40, some 41, some 42, some 43, some 44, some 45, some 46, some 47, some 48, some 49, some 50] 11 [0, 0, 0, 6, 14, 0, 0, 96, 224, 511, 1023] (by rfl) (by rfl) (by decide +kernel) (by decide +kernel) (by decide +kernel) (fun LL hLL => ?_)
    simp only [ptrTo, pend, pend0, Pd.old, pendU, pendU0, oxq, Nat.testBit, ↓reduceIte, simprocAttr, gR_held, ixF (show t < n by omega), ixF (show U.length < n by omega), gb, rt, ru, lt', lu, rcell.vq]
    refine hcmp [_] y x _ _ s3 fun h4 r' s4 hr' => ?_
    by_cases hlt : lt y x = true
    · simp only [ptrTo, pend, pend0, Pd.old, pendU, pendU0, oxq, Nat.testBit, ↓reduceIte, simprocAttr, gR_held, eq_true (hr'.2 hlt)]
      refine hLL _ _ ?_
      refine wpC_if ?_
      simp only [ptrTo, oxq, ↓reduceIte, simprocAttr, gR_some]
      refine rg (fun LL hLL => ?_)
      simp only [ptrTo, oxq, ↓reduceIte, simprocAttr, gR_some, wsucc (show t < 9223372036854775807 by omega)]
      refine hLL _ _ ?_
      simp only [ptrTo, oxq, ↓reduceIte, simprocAttr, gR_some]
      exact ⟨e - (r + 1), by omega, t + 1, j, r + 1, e, _, _, _, _, _, _, _, _, _, _, _, _, _, _, _, _, _, _, _, by omega, hj, by omega, heB, fun t' y' h1 h2 => by
        obtain rfl : t' = r := by omega
        rw [List.getElem?_eq_getElem hr, ← ey] at h2
        cases h2; exact hlt, hhi, by omega, s4.wn_in (by simpa using hcc), rfl⟩
    · simp only [ptrTo, pend, pend0, Pd.old, pendU, pendU0, oxq, Nat.testBit, ↓reduceIte, simprocAttr, gR_held, eq_false (fun hh => hlt (hr'.1 hh))]
      refine hLL _ _ ?_
      refine wpC_if ?_
      simp only [ptrTo, oxq, ↓reduceIte, simprocAttr, gR_some]
      refine rg (fun LL hLL => ?_)
      simp only [ptrTo, oxq, ↓reduceIte, simprocAttr, gR_some]
      refine hLL _ _ ?_
      simp only [ptrTo, oxq, ↓reduceIte, simprocAttr, gR_some]
      exact ⟨r - s', by omega, i, t, s', r, _, _, _, _, _, _, _, _, _, _, _, _, _, _, _, _, _, _, _, hi, er, by omega, by omega, hlo, fun y' h2 => by
        rw [List.getElem?_eq_getElem hr, ← ey] at h2
        cases h2; simpa using hlt, by omega, s4.wn_in (by simpa using hcc), rfl⟩
  · refine wpC_seq (sr fun LL hLL => ?_)
    simp only [ptrTo, oxq, ↓reduceIte, simprocAttr, gR_some, eq_false (show ¬ (i : Int) < (j : Int) by omega)]
    refine hLL _ _ ?_
    refine wpC_if ?_
    simp only [ptrTo, oxq, ↓reduceIte, simprocAttr, gR_some]
    refine wpC_exit ?_
    simp only [ptrTo, oxq, ↓reduceIte, simprocAttr, gR_some]
    refine fg25 (fun R => ?_)
    refine wpC_seq (sr fun LL hLL => ?_)
    simp only [ptrTo, oxq, ↓reduceIte, simprocAttr, gR_some]
    refine hLL _ _ ?_
    refine fg25 (fun R => ?_)
    refine wpC_block ?_
    have hes : e = s' := by omega
    subst hes
    have hwi : IntKind.i64.wrap ((i : Int) - 1) = ((U.length + e : Nat) : Int) := by rw [wrap_i64 (by omega) (by omega)]; omega
    refine wpC_loop (fun k2 T h' => ∃ (w : Nat) (L2 : List Rwc) (u5 u6 u7 u8 u9 u11 u12 u14 u15 u16 u17 u18 u19 u20 u21 u22 u23 u24 : Value) (R : List Value), L2 = U ++ (B.take w ++ (x :: (B.drop w ++ V))) ∧ k2 + w = e ∧ St h0 h' (wn rcell 3 63 a c L2 :: F) ∧
      T = .slice a n c :: .int .i64 U.length :: .int .i64 M :: .int .i64 ((M + B.length : Nat) : Int) :: cfun g u :: u5 :: u6 :: u7 :: u8 :: u9 :: .int .i64 i :: u11 :: u12 :: .int .i64 ((U.length + w : Nat) : Int) :: u14 :: u15 :: u16 :: u17 :: u18 :: u19 :: u20 :: u21 :: u22 :: u23 :: u24 :: R) ?_ e _ _ ⟨0, L, _, _, _, _, _, _, _, _, _, _, _, _, _, _, _, _, _, _, R, by rw [eL]; simp, by omega, s1, rfl⟩
    rintro k2 T h' ⟨w, L2, u5, u6, u7, u8, u9, u11, u12, u14, u15, u16, u17, u18, u19, u20, u21, u22, u23, u24, R, hL2, hk2, s2, rfl⟩
    by_cases hw : w < e
    · refine wpC_seq (sr fun LL hLL => ?_)
      simp only [ptrTo, oxq, ↓reduceIte, simprocAttr, gR_some, hwi, eq_true (show ((U.length + w : Nat) : Int) < ((U.length + e : Nat) : Int) by omega)]
      refine hLL _ _ ?_
      refine wpC_if ?_
      simp only [ptrTo, oxq, ↓reduceIte, simprocAttr, gR_some]
      refine wpC_skip ?_
      simp only [ptrTo, oxq, ↓reduceIte, simprocAttr, gR_some]
      refine fg25 (fun R => ?_)
      have hwB : w < B.length := by omega
      obtain ⟨y, ey⟩ : ∃ y, y = B[w] := ⟨_, rfl⟩
      obtain ⟨i1, ei1⟩ : ∃ i1, i1 = U.length + w := ⟨_, rfl⟩
      rw [← ei1]
      have hl2 : L2.length = n := by rw [hL2, hnn]; simp; omega
      have hL3 : L2 = (U ++ B.take w) ++ x :: ([] ++ y :: (B.drop (w + 1) ++ V)) := by rw [hL2, List.drop_eq_getElem_cons hwB, ← ey]; simp
      have hil : i1 < L2.length := by omega
      have hjl : i1 + 1 < L2.length := by omega
      have gi : L2[i1] = x := by simp only [hL3]; rw [List.getElem_append_right (by simp; omega)]; simp [show i1 - (U.length + min w B.length) = 0 by omega]
      have gj : L2[i1 + 1] = y := by simp only [hL3]; rw [List.getElem_append_right (by simp; omega)]; simp [show i1 + 1 - (U.length + min w B.length) = 1 by omega]
      obtain ⟨b, rfl, hcc, s3⟩ := s2.wn_out (.inl (by rintro rfl; simp at hjl))
      have gb := s3.get
      have rj := flat_row rcell.len L2 (i1 + 1) hjl
      have ri := flat_row rcell.len L2 i1 hil
      rw [gj] at rj
      rw [gi] at ri
      have lj := flat_le rcell.len L2 (i1 + 1) hjl
      have li := flat_le rcell.len L2 i1 hil
      have wj := wsucc (show i1 < 9223372036854775807 by omega)
      have hj5 : i1 + 1 < (L2.set i1 y).length := by simpa using hjl
      have st1 := flat_store rcell.len L2 i1 y hil
      have st2 := flat_store rcell.len (L2.set i1 y) (i1 + 1) x hj5
      have li5 := flat_le rcell.len (L2.set i1 y) (i1 + 1) hj5
      have s5 := s3.set (.cells false 3 ((L2.set i1 y).flatMap rcell) 63)
      obtain ⟨h5, e5⟩ : ∃ z, z = h'.set b (.cells false 3 ((L2.set i1 y).flatMap rcell) 63) := ⟨_, rfl⟩
      rw [← e5] at s5
      have gb5 := s5.get
      have s6 := s5.set (.cells false 3 (((L2.set i1 y).set (i1 + 1) x).flatMap rcell) 63)
      obtain ⟨h6, e6⟩ : ∃ z, z = h5.set b (.cells false 3 (((L2.set i1 y).set (i1 + 1) x).flatMap rcell) 63) := ⟨_, rfl⟩
      rw [← e6] at s6
      refine wpC_seq (wpC_block ?_)
      refine du [some 61, some 62, some 63, some 64, some 65, some 66, some 67, some 68, some 69, some 70, some 71, some 72, some 73, some 74, some 75, none, some 76, none] 18 [0, 0, 0, 0, 8, 0, 0, 64, 224, 480, 0, 0, 3072, 7168, 16355, 32739, 65535, 131071] (by rfl) (by rfl) (by decide +kernel) (by decide +kernel) (by decide +kernel) (fun LL hLL => ?_)
      simp only [ptrTo, pend, pend0, Pd.old, pendU, pendU0, oxq, Nat.testBit, ↓reduceIte, simprocAttr, gR_some, wj, ixF (show i1 + 1 < n by omega), ixF (show i1 < n by omega), gb, rj, ri, lj, li, rcell.vq, rcell.len, rcell.oc, st1, st2, gb5, li5, ← e5, ← e6]
      refine hLL _ _ ?_
      simp only [ptrTo, oxq, ↓reduceIte, simprocAttr, gR_some]
      refine fg25 (fun R => ?_)
      refine rg (fun LL hLL => ?_)
      simp only [ptrTo, oxq, ↓reduceIte, simprocAttr, gR_some, wj]
      refine hLL _ _ ?_
      simp only [ptrTo, oxq, ↓reduceIte, simprocAttr, gR_some]
      have hsw := (swp_at _ _ _ x y L2 hL3 i1 (i1 + 1) (by simp; omega) (by simp; omega) hil hjl).1
      unfold swp at hsw
      rw [gi, gj] at hsw
      exact ⟨k2 - 1, by omega, w + 1, (L2.set i1 y).set (i1 + 1) x, _, _, _, _, _, _, _, _, _, _, _, _, _, _, _, _, _, _, _, by rw [hsw, List.take_succ_eq_append_getElem hwB, ← ey]; simp, by omega, s6.wn_in (by simpa using hcc), by rw [show U.length + (w + 1) = i1 + 1 by omega]⟩
    · refine wpC_seq (sr fun LL hLL => ?_)
      simp only [ptrTo, oxq, ↓reduceIte, simprocAttr, gR_some, hwi, eq_false (show ¬ ((U.length + w : Nat) : Int) < ((U.length + e : Nat) : Int) by omega)]
      refine hLL _ _ ?_
      refine wpC_if ?_
      simp only [ptrTo, oxq, ↓reduceIte, simprocAttr, gR_some]
      refine wpC_exit ?_
      simp only [ptrTo, oxq, ↓reduceIte, simprocAttr, gR_some]
      refine wpC_ret (out_ret ?_)
      simp only [ptrTo, oxq, ↓reduceIte, simprocAttr, gR_some]
      have hwe : w = e := by omega
      subst hwe
      obtain ⟨q1, q2⟩ := sym_one o (B1 := B.take w) (B2 := B.drop w) (x := x) (by rw [List.take_append_drop]; exact hB) (by
        rcases Nat.eq_zero_or_pos w with h0' | h0'
        · exact .inl (by rw [h0']; rfl)
        · obtain ⟨t, rfl⟩ : ∃ t, w = t + 1 := ⟨w - 1, by omega⟩
          have ht : t < B.length := by omega
          exact .inr ⟨B.take t, B[t], List.take_succ_eq_append_getElem ht, hlo t _ rfl (List.getElem?_eq_getElem ht)⟩) (by
        by_cases hwB : w < B.length
        · exact .inr ⟨B[w], B.drop (w + 1), List.drop_eq_getElem_cons hwB, hhi _ (List.getElem?_eq_getElem hwB)⟩
        · exact .inl (List.drop_eq_nil_of_le (by omega)))
      rw [List.take_append_drop] at q2
      refine hk _ _ q1 q2 ?_
      rw [hL2] at s2
      simpa using s2
end Go.Proofs.Cd

namespace Go.Proofs.Cd
open Go Go.Ox
set_option maxRecDepth 100000
set_option maxHeartbeats 4000000
theorem sym_last {h0 : AHeap} {F : List Asn} {lt : Rwc → Rwc → Bool} {ke : Rwc → Int} (o : KOrd lt ke) (g : Nat) (u : Value) (hcmp : CmpAt g u lt h0 F) (U A V L : List Rwc) (y : Rwc) (eL : L = U ++ (A ++ ([y] ++ V))) (hA : SrtL lt A) (hA1 : A.length ≠ 1) (p m q : Int) (ep : p = (U.length : Int)) (em : m = ((U.length + A.length : Nat) : Int)) (eq : q = ((U.length + A.length + 1 : Nat) : Int)) (a : Option Addr) (c n : Nat) (h : AHeap) (hn : n = L.length) (hl : n < 1000000000) (s : St h0 h (wn rcell 3 63 a c L :: F)) (K : Value → AHeap → Prop)
    (hk : ∀ h' X', SrtL lt X' → Sim ke (A ++ [y]) X' → St h0 h' (wn rcell 3 63 a c (U ++ (X' ++ V)) :: F) → K (.tuple #[]) h') :
    wpF Tryz.prog (.fn 108) [.slice a n c, .int .i64 p, .int .i64 m, .int .i64 q, cfun g u] h K := by
  subst ep eq em
  have hnn : n = U.length + A.length + 1 + V.length := by rw [hn, eL]; simp; omega
  obtain ⟨M, eM⟩ : ∃ M, M = U.length + A.length := ⟨_, rfl⟩
  rw [← eM]
  have w1 : IntKind.i64.wrap ((M : Int) - (U.length : Int)) = (A.length : Int) := by rw [wrap_i64 (by omega) (by omega)]; omega
  have w2 : IntKind.i64.wrap (((M + 1 : Nat) : Int) - (M : Int)) = 1 := by rw [wrap_i64 (by omega) (by omega)]; omega
  refine wpF_fun 220 [] Tryz.func108 rfl rfl rfl rfl ?_
  refine wpC_seq (sr fun LL hLL => ?_)
  simp only [ptrTo, oxq, ↓reduceIte, simprocAttr, gR_some, w1, eq_false (show ¬ (A.length : Int) = 1 by omega)]
  refine hLL _ _ ?_
  refine wpC_if ?_
  simp only [ptrTo, oxq, ↓reduceIte, simprocAttr, gR_some]
  refine wpC_skip ?_
  simp only [ptrTo, oxq, ↓reduceIte, simprocAttr, gR_some]
  refine fg25 (fun R => ?_)
  refine wpC_seq (sr fun LL hLL => ?_)
  simp only [ptrTo, oxq, ↓reduceIte, simprocAttr, gR_some, w2]
  refine hLL _ _ ?_
  refine wpC_if ?_
  simp only [ptrTo, oxq, ↓reduceIte, simprocAttr, gR_some]
  refine sr (fun LL hLL => ?_)
  simp only [ptrTo, oxq, ↓reduceIte, simprocAttr, gR_some]
  refine hLL _ _ ?_
  refine sr (fun LL hLL => ?_)
  simp only [ptrTo, oxq, ↓reduceIte, simprocAttr, gR_some]
  refine hLL _ _ ?_
  refine fg25 (fun R => ?_)
  refine wpC_seq (wpC_block ?_)
  refine wpC_loop (fun k T h' => ∃ (i j s e : Nat) (u5 u6 u7 u8 u9 u10 u11 u12 u13 u16 u17 u18 u19 u20 u21 u22 u23 u24 : Value) (R : List Value), i = U.length + s ∧ j = U.length + e ∧ s ≤ e ∧ e ≤ A.length ∧ (∀ t x, t + 1 = s → A[t]? = some x → lt y x = false) ∧ (∀ x, A[e]? = some x → lt y x = true) ∧ k + s = e ∧ St h0 h' (wn rcell 3 63 a c L :: F) ∧
    T = .slice a n c :: .int .i64 U.length :: .int .i64 M :: .int .i64 ((M + 1 : Nat) : Int) :: cfun g u :: u5 :: u6 :: u7 :: u8 :: u9 :: u10 :: u11 :: u12 :: u13 :: .int .i64 i :: .int .i64 j :: u16 :: u17 :: u18 :: u19 :: u20 :: u21 :: u22 :: u23 :: u24 :: R) ?_ A.length _ _ ⟨U.length, M, 0, A.length, _, _, _, _, _, _, _, _, _, _, _, _, _, _, _, _, _, _, R, rfl, eM, by omega, by omega, by intros; omega, by simp, by omega, s, rfl⟩
  rintro k T h' ⟨i, j, s', e, u5, u6, u7, u8, u9, u10, u11, u12, u13, u16, u17, u18, u19, u20, u21, u22, u23, u24, R, hi, hj, hse, heB, hlo, hhi, hk', s1, rfl⟩
  by_cases hc : s' < e
  · refine wpC_seq (sr fun LL hLL => ?_)
    simp only [ptrTo, oxq, ↓reduceIte, simprocAttr, gR_some, eq_true (show (i : Int) < (j : Int) by omega)]
    refine hLL _ _ ?_
    refine wpC_if ?_
    simp only [ptrTo, oxq, ↓reduceIte, simprocAttr, gR_some]
    refine wpC_skip ?_
    simp only [ptrTo, oxq, ↓reduceIte, simprocAttr, gR_some]
    refine fg25 (fun R => ?_)
    refine wpC_block ?_
    obtain ⟨t, et⟩ : ∃ t, t = (i + j) / 2 := ⟨_, rfl⟩
    refine sr (fun LL hLL => ?_)
    simp only [ptrTo, oxq, ↓reduceIte, simprocAttr, gR_some, show IntKind.i64.wrap ((i : Int) + (j : Int)) = ((i + j : Nat) : Int) by rw [wrap_i64 (by omega) (by omega)]; omega]
    refine hLL _ _ ?_
    simp only [halfu (show i + j < 9223372036854775807 by omega), halfw (show i + j < 9223372036854775807 by omega), ← et]
    obtain ⟨r, er⟩ : ∃ r, t = U.length + r := ⟨t - U.length, by omega⟩
    have hr : r < A.length := by omega
    have htl : t < L.length := by omega
    have hul : M < L.length := by omega
    obtain ⟨x, ex⟩ : ∃ x, x = A[r] := ⟨_, rfl⟩
    have gt : L[t] = x := by simp only [eL]; rw [List.getElem_append_right (by omega), List.getElem_append_left (by omega), ex]; congr 1; omega
    have gu : L[M] = y := by simp only [eL]; rw [List.getElem_append_right (by omega), List.getElem_append_right (by omega), List.getElem_append_left (by simp; omega)]; simp
    obtain ⟨b, rfl, hcc, s3⟩ := s1.wn_out (.inl (by rintro rfl; simp at htl))
    have gb := s3.get
    have rt := flat_row rcell.len L t htl
    have ru := flat_row rcell.len L M hul
    rw [gt] at rt
    rw [gu] at ru
    have lt' := flat_le rcell.len L t htl
    have lu := flat_le rcell.len L M hul
    refine su [some 92, some 93, some 94, some 95, some 96, some 97, some 98, some 99, some 100, some 101, some 102, some 103] 12 [0, 0, 0, 6, 14, 0, 0, 96, 224, 511, 1023, 2047] (by rfl) (by rfl) (by decide +kernel) (by decide +kernel) (by decide +kernel) (fun LL hLL => ?_)
    simp only [ptrTo, pend, pend0, Pd.old, pendU, pendU0, oxq, Nat.testBit, ↓reduceIte, simprocAttr, gR_held, ixF (show t < n by omega), ixF (show M < n by omega), gb, rt, ru, lt', lu, rcell.vq]
    refine hcmp [_] y x _ _ s3 fun h4 r' s4 hr' => ?_
    by_cases hlt : lt y x = true
    · simp only [ptrTo, pend, pend0, Pd.old, pendU, pendU0, oxq, Nat.testBit, ↓reduceIte, simprocAttr, gR_held, eq_true (hr'.2 hlt)]
      refine hLL _ _ ?_
      refine wpC_if ?_
      simp only [ptrTo, oxq, ↓reduceIte, simprocAttr, gR_some]
      refine rg (fun LL hLL => ?_)
      simp only [ptrTo, oxq, ↓reduceIte, simprocAttr, gR_some]
      refine hLL _ _ ?_
      simp only [ptrTo, oxq, ↓reduceIte, simprocAttr, gR_some]
      exact ⟨r - s', by omega, i, t, s', r, _, _, _, _, _, _, _, _, _, _, _, _, _, _, _, _, _, _, _, hi, er, by omega, by omega, hlo, fun y' h2 => by
        rw [List.getElem?_eq_getElem hr, ← ex] at h2
        cases h2; exact hlt, by omega, s4.wn_in (by simpa using hcc), rfl⟩
    · simp only [ptrTo, pend, pend0, Pd.old, pendU, pendU0, oxq, Nat.testBit, ↓reduceIte, simprocAttr, gR_held, eq_false (fun hh => hlt (hr'.1 hh))]
      refine hLL _ _ ?_
      refine wpC_if ?_
      simp only [ptrTo, oxq, ↓reduceIte, simprocAttr, gR_some]
      refine rg (fun LL hLL => ?_)
      simp only [ptrTo, oxq, ↓reduceIte, simprocAttr, gR_some, wsucc (show t < 9223372036854775807 by omega)]
      refine hLL _ _ ?_
      simp only [ptrTo, oxq, ↓reduceIte, simprocAttr, gR_some]
      exact ⟨e - (r + 1), by omega, t + 1, j, r + 1, e, _, _, _, _, _, _, _, _, _, _, _, _, _, _, _, _, _, _, _, by omega, hj, by omega, heB, fun t' y' h1 h2 => by
        obtain rfl : t' = r := by omega
        rw [List.getElem?_eq_getElem hr, ← ex] at h2
        cases h2; simpa using hlt, hhi, by omega, s4.wn_in (by simpa using hcc), rfl⟩
  · refine wpC_seq (sr fun LL hLL => ?_)
    simp only [ptrTo, oxq, ↓reduceIte, simprocAttr, gR_some, eq_false (show ¬ (i : Int) < (j : Int) by omega)]
    refine hLL _ _ ?_
    refine wpC_if ?_
    simp only [ptrTo, oxq, ↓reduceIte, simprocAttr, gR_some]
    refine wpC_exit ?_
    simp only [ptrTo, oxq, ↓reduceIte, simprocAttr, gR_some]
    refine fg25 (fun R => ?_)
    refine wpC_seq (sr fun LL hLL => ?_)
    simp only [ptrTo, oxq, ↓reduceIte, simprocAttr, gR_some]
    refine hLL _ _ ?_
    refine fg25 (fun R => ?_)
    refine wpC_block ?_
    have hes : e = s' := by omega
    subst hes
    refine wpC_loop (fun k2 T h' => ∃ (w : Nat) (L2 : List Rwc) (u5 u6 u7 u8 u9 u10 u11 u12 u13 u15 u16 u18 u19 u20 u21 u22 u23 u24 : Value) (R : List Value), L2 = U ++ (A.take w ++ (y :: (A.drop w ++ V))) ∧ w ≤ A.length ∧ e ≤ w ∧ k2 + e = w ∧ St h0 h' (wn rcell 3 63 a c L2 :: F) ∧
      T = .slice a n c :: .int .i64 U.length :: .int .i64 M :: .int .i64 ((M + 1 : Nat) : Int) :: cfun g u :: u5 :: u6 :: u7 :: u8 :: u9 :: u10 :: u11 :: u12 :: u13 :: .int .i64 i :: u15 :: u16 :: .int .i64 ((U.length + w : Nat) : Int) :: u18 :: u19 :: u20 :: u21 :: u22 :: u23 :: u24 :: R) ?_ (A.length - e) _ _ ⟨A.length, L, _, _, _, _, _, _, _, _, _, _, _, _, _, _, _, _, _, _, R, by rw [eL]; simp, by omega, by omega, by omega, s1, by rw [eM]⟩
    rintro k2 T h' ⟨w, L2, u5, u6, u7, u8, u9, u10, u11, u12, u13, u15, u16, u18, u19, u20, u21, u22, u23, u24, R, hL2, hwA, hew, hk2, s2, rfl⟩
    by_cases hw : e < w
    · refine wpC_seq (sr fun LL hLL => ?_)
      simp only [ptrTo, oxq, ↓reduceIte, simprocAttr, gR_some, eq_true (show (i : Int) < ((U.length + w : Nat) : Int) by omega)]
      refine hLL _ _ ?_
      refine wpC_if ?_
      simp only [ptrTo, oxq, ↓reduceIte, simprocAttr, gR_some]
      refine wpC_skip ?_
      simp only [ptrTo, oxq, ↓reduceIte, simprocAttr, gR_some]
      refine fg25 (fun R => ?_)
      obtain ⟨v, rfl⟩ : ∃ v, w = v + 1 := ⟨w - 1, by omega⟩
      have hwB : v < A.length := by omega
      obtain ⟨x, ex⟩ : ∃ x, x = A[v] := ⟨_, rfl⟩
      obtain ⟨i1, ei1⟩ : ∃ i1, i1 = U.length + v := ⟨_, rfl⟩
      rw [show U.length + (v + 1) = i1 + 1 by omega]
      have hl2 : L2.length = n := by rw [hL2, hnn]; simp; omega
      have hL3 : L2 = (U ++ A.take v) ++ x :: ([] ++ y :: (A.drop (v + 1) ++ V)) := by rw [hL2, List.take_succ_eq_append_getElem hwB, ← ex]; simp
      have hil : i1 < L2.length := by omega
      have hjl : i1 + 1 < L2.length := by omega
      have gi : L2[i1] = x := by simp only [hL3]; rw [List.getElem_append_right (by simp; omega)]; simp [show i1 - (U.length + min v A.length) = 0 by omega]
      have gj : L2[i1 + 1] = y := by simp only [hL3]; rw [List.getElem_append_right (by simp; omega)]; simp [show i1 + 1 - (U.length + min v A.length) = 1 by omega]
      obtain ⟨b, rfl, hcc, s3⟩ := s2.wn_out (.inl (by rintro rfl; simp at hjl))
      have gb := s3.get
      have rj := flat_row rcell.len L2 (i1 + 1) hjl
      have ri := flat_row rcell.len L2 i1 hil
      rw [gj] at rj
      rw [gi] at ri
      have lj := flat_le rcell.len L2 (i1 + 1) hjl
      have li := flat_le rcell.len L2 i1 hil
      have wj : IntKind.i64.wrap (((i1 + 1 : Nat) : Int) - 1) = (i1 : Int) := by rw [wrap_i64 (by omega) (by omega)]; omega
      have hj5 : i1 < (L2.set (i1 + 1) x).length := by simpa using hil
      have st1 := flat_store rcell.len L2 (i1 + 1) x hjl
      have st2 := flat_store rcell.len (L2.set (i1 + 1) x) i1 y hj5
      have li5 := flat_le rcell.len (L2.set (i1 + 1) x) i1 hj5
      have s5 := s3.set (.cells false 3 ((L2.set (i1 + 1) x).flatMap rcell) 63)
      obtain ⟨h5, e5⟩ : ∃ z, z = h'.set b (.cells false 3 ((L2.set (i1 + 1) x).flatMap rcell) 63) := ⟨_, rfl⟩
      rw [← e5] at s5
      have gb5 := s5.get
      have s6 := s5.set (.cells false 3 (((L2.set (i1 + 1) x).set i1 y).flatMap rcell) 63)
      obtain ⟨h6, e6⟩ : ∃ z, z = h5.set b (.cells false 3 (((L2.set (i1 + 1) x).set i1 y).flatMap rcell) 63) := ⟨_, rfl⟩
      rw [← e6] at s6
      refine wpC_seq (wpC_block ?_)
      refine du [some 113, some 114, some 115, some 116, some 117, some 118, some 119, some 120, some 121, some 122, some 123, some 124, some 125, some 126, some 127, none, some 128, none] 18 [0, 0, 0, 0, 8, 0, 0, 64, 224, 480, 0, 0, 3072, 7168, 16355, 32739, 65535, 131071] (by rfl) (by rfl) (by decide +kernel) (by decide +kernel) (by decide +kernel) (fun LL hLL => ?_)
      simp only [ptrTo, pend, pend0, Pd.old, pendU, pendU0, oxq, Nat.testBit, ↓reduceIte, simprocAttr, gR_some, wj, ixF (show i1 + 1 < n by omega), ixF (show i1 < n by omega), gb, rj, ri, lj, li, rcell.vq, rcell.len, rcell.oc, st1, st2, gb5, li5, ← e5, ← e6]
      refine hLL _ _ ?_
      simp only [ptrTo, oxq, ↓reduceIte, simprocAttr, gR_some]
      refine fg25 (fun R => ?_)
      refine rg (fun LL hLL => ?_)
      simp only [ptrTo, oxq, ↓reduceIte, simprocAttr, gR_some, wj]
      refine hLL _ _ ?_
      simp only [ptrTo, oxq, ↓reduceIte, simprocAttr, gR_some]
      have hsw := (swp_at _ _ _ x y L2 hL3 i1 (i1 + 1) (by simp; omega) (by simp; omega) hil hjl).2
      unfold swp at hsw
      rw [gi, gj] at hsw
      exact ⟨k2 - 1, by omega, v, (L2.set (i1 + 1) x).set i1 y, _, _, _, _, _, _, _, _, _, _, _, _, _, _, _, _, _, _, _, by rw [hsw, List.drop_eq_getElem_cons hwB, ← ex]; simp, by omega, by omega, by omega, s6.wn_in (by simpa using hcc), by rw [ei1]⟩
    · refine wpC_seq (sr fun LL hLL => ?_)
      simp only [ptrTo, oxq, ↓reduceIte, simprocAttr, gR_some, eq_false (show ¬ (i : Int) < ((U.length + w : Nat) : Int) by omega)]
      refine hLL _ _ ?_
      refine wpC_if ?_
      simp only [ptrTo, oxq, ↓reduceIte, simprocAttr, gR_some]
      refine wpC_exit ?_
      simp only [ptrTo, oxq, ↓reduceIte, simprocAttr, gR_some]
      refine wpC_ret (out_ret ?_)
      simp only [ptrTo, oxq, ↓reduceIte, simprocAttr, gR_some]
      have hwe : w = e := by omega
      subst hwe
      obtain ⟨q1, q2⟩ := sym_end o (A1 := A.take w) (A2 := A.drop w) (y := y) (by rw [List.take_append_drop]; exact hA) (by
        rcases Nat.eq_zero_or_pos w with h0' | h0'
        · exact .inl (by rw [h0']; rfl)
        · obtain ⟨t, rfl⟩ : ∃ t, w = t + 1 := ⟨w - 1, by omega⟩
          have ht : t < A.length := by omega
          exact .inr ⟨A.take t, A[t], List.take_succ_eq_append_getElem ht, hlo t _ rfl (List.getElem?_eq_getElem ht)⟩) (by
        by_cases hwB : w < A.length
        · exact .inr ⟨A[w], A.drop (w + 1), List.drop_eq_getElem_cons hwB, hhi _ (List.getElem?_eq_getElem hwB)⟩
        · exact .inl (List.drop_eq_nil_of_le (by omega)))
      rw [List.take_append_drop] at q2
      refine hk _ _ q1 q2 ?_
      rw [hL2] at s2
      simpa using s2
end Go.Proofs.Cd

namespace Go.Proofs.Cd
open Go Go.Ox
set_option maxRecDepth 100000
set_option maxHeartbeats 4000000
theorem at_len {α : Type} (P : List α) (x : α) (R : List α) (k : Nat) (hk : k = P.length) : (P ++ x :: R)[k]? = some x := by subst hk; simp
theorem symMerge_at {h0 : AHeap} {F : List Asn} {lt : Rwc → Rwc → Bool} {ke : Rwc → Int} (o : KOrd lt ke) (g : Nat) (u : Value) (hcmp : CmpAt g u lt h0 F) (a : Option Addr) (c n : Nat) (hl : n < 1000000000) : ∀ (N : Nat) (U A B V L : List Rwc) (_ : A.length + B.length = N) (eL : L = U ++ (A ++ (B ++ V))) (hA0 : 0 < A.length) (hB0 : 0 < B.length) (hA : SrtL lt A) (hB : SrtL lt B) (p m q : Int) (ep : p = (U.length : Int)) (em : m = ((U.length + A.length : Nat) : Int)) (eq : q = ((U.length + A.length + B.length : Nat) : Int)) (h : AHeap) (hn : n = L.length) (s : St h0 h (wn rcell 3 63 a c L :: F)) (K : Value → AHeap → Prop)
    (hk : ∀ h' X', SrtL lt X' → Sim ke (A ++ B) X' → St h0 h' (wn rcell 3 63 a c (U ++ (X' ++ V)) :: F) → K (.tuple #[]) h'),
    wpF Tryz.prog (.fn 108) [.slice a n c, .int .i64 p, .int .i64 m, .int .i64 q, cfun g u] h K := by
  intro N
  induction N using Nat.strongRecOn with
  | ind N ih =>
  intro U A B V L hN eL hA0 hB0 hA hB p m q ep em eq h hn s K hk
  by_cases hA1 : A.length = 1
  · obtain ⟨x, rfl⟩ := List.length_eq_one_iff.1 hA1
    exact sym_first o g u hcmp U B V L x eL hB p m q ep em (by rw [eq]; simp) a c n h hn hl s K hk
  by_cases hB1 : B.length = 1
  · obtain ⟨y, rfl⟩ := List.length_eq_one_iff.1 hB1
    exact sym_last o g u hcmp U A V L y eL hA hA1 p m q ep em (by rw [eq]; simp) a c n h hn hl s K hk
  have hnn : n = U.length + A.length + B.length + V.length := by rw [hn, eL]; simp; omega
  subst ep eq em
  obtain ⟨M, eM⟩ : ∃ M, M = U.length + A.length := ⟨_, rfl⟩
  rw [← eM]
  obtain ⟨Q, eQ⟩ : ∃ Q, Q = M + B.length := ⟨_, rfl⟩
  rw [← eQ]
  obtain ⟨D, eD⟩ : ∃ D, D = (U.length + Q) / 2 := ⟨_, rfl⟩
  obtain ⟨S, eS⟩ : ∃ S, S = D + M := ⟨_, rfl⟩
  have w1 : IntKind.i64.wrap ((M : Int) - (U.length : Int)) = (A.length : Int) := by rw [wrap_i64 (by omega) (by omega)]; omega
  have w2 : IntKind.i64.wrap ((Q : Int) - (M : Int)) = (B.length : Int) := by rw [wrap_i64 (by omega) (by omega)]; omega
  refine wpF_fun 220 [] Tryz.func108 rfl rfl rfl rfl ?_
  refine wpC_seq (sr fun LL hLL => ?_)
  simp only [ptrTo, oxq, ↓reduceIte, simprocAttr, gR_some, w1, eq_false (show ¬ (A.length : Int) = 1 by omega)]
  refine hLL _ _ ?_
  refine wpC_if ?_
  simp only [ptrTo, oxq, ↓reduceIte, simprocAttr, gR_some]
  refine wpC_skip ?_
  simp only [ptrTo, oxq, ↓reduceIte, simprocAttr, gR_some]
  refine fg25 (fun R => ?_)
  refine wpC_seq (sr fun LL hLL => ?_)
  simp only [ptrTo, oxq, ↓reduceIte, simprocAttr, gR_some, w2, eq_false (show ¬ (B.length : Int) = 1 by omega)]
  refine hLL _ _ ?_
  refine wpC_if ?_
  simp only [ptrTo, oxq, ↓reduceIte, simprocAttr, gR_some]
  refine wpC_skip ?_
  simp only [ptrTo, oxq, ↓reduceIte, simprocAttr, gR_some]
  refine fg25 (fun R => ?_)
  refine sr (fun LL hLL => ?_)
  simp only [ptrTo, oxq, ↓reduceIte, simprocAttr, gR_some, show IntKind.i64.wrap ((U.length : Int) + (Q : Int)) = ((U.length + Q : Nat) : Int) by rw [wrap_i64 (by omega) (by omega)]; omega]
  refine hLL _ _ ?_
  simp only [halfu (show U.length + Q < 9223372036854775807 by omega), halfw (show U.length + Q < 9223372036854775807 by omega), ← eD]
  refine sr (fun LL hLL => ?_)
  simp only [ptrTo, oxq, ↓reduceIte, simprocAttr, gR_some, show IntKind.i64.wrap ((D : Int) + (M : Int)) = (S : Int) by rw [wrap_i64 (by omega) (by omega)]; omega]
  refine hLL _ _ ?_
  refine sr (fun LL hLL => ?_)
  simp only [ptrTo, oxq, ↓reduceIte, simprocAttr, gR_some]
  refine hLL _ _ ?_
  refine fg25 (fun R => ?_)
  refine sm (fun T h' => ∃ (s0 r0 : Nat) (u5 u6 u7 u8 u9 u10 u11 u12 u13 u14 u15 u16 u17 u22 u23 u24 : Value) (R : List Value), (D < M ∧ s0 + Q = S ∧ r0 = D ∨ M ≤ D ∧ s0 = U.length ∧ r0 = M) ∧ St h0 h' (wn rcell 3 63 a c L :: F) ∧
    T = .slice a n c :: .int .i64 U.length :: .int .i64 M :: .int .i64 Q :: cfun g u :: u5 :: u6 :: u7 :: u8 :: u9 :: u10 :: u11 :: u12 :: u13 :: u14 :: u15 :: u16 :: u17 :: .int .i64 D :: .int .i64 S :: .int .i64 s0 :: .int .i64 r0 :: u22 :: u23 :: u24 :: R) ?_ ?_
  · by_cases hDM : D < M
    · refine sr (fun LL hLL => ?_)
      simp only [ptrTo, oxq, ↓reduceIte, simprocAttr, gR_some, eq_true (show (D : Int) < (M : Int) by omega)]
      refine hLL _ _ ?_
      refine wpC_if ?_
      simp only [ptrTo, oxq, ↓reduceIte, simprocAttr, gR_some]
      refine sr (fun LL hLL => ?_)
      simp only [ptrTo, oxq, ↓reduceIte, simprocAttr, gR_some, show IntKind.i64.wrap ((S : Int) - (Q : Int)) = ((S - Q : Nat) : Int) by rw [wrap_i64 (by omega) (by omega)]; omega]
      refine hLL _ _ ?_
      refine rg (fun LL hLL => ?_)
      simp only [ptrTo, oxq, ↓reduceIte, simprocAttr, gR_some]
      refine hLL _ _ ?_
      simp only [ptrTo, oxq, ↓reduceIte, simprocAttr, gR_some]
      exact ⟨S - Q, D, _, _, _, _, _, _, _, _, _, _, _, _, _, _, _, _, _, .inl ⟨hDM, by omega, rfl⟩, s, rfl⟩
    · refine sr (fun LL hLL => ?_)
      simp only [ptrTo, oxq, ↓reduceIte, simprocAttr, gR_some, eq_false (show ¬ (D : Int) < (M : Int) by omega)]
      refine hLL _ _ ?_
      refine wpC_if ?_
      simp only [ptrTo, oxq, ↓reduceIte, simprocAttr, gR_some]
      refine sr (fun LL hLL => ?_)
      simp only [ptrTo, oxq, ↓reduceIte, simprocAttr, gR_some]
      refine hLL _ _ ?_
      refine rg (fun LL hLL => ?_)
      simp only [ptrTo, oxq, ↓reduceIte, simprocAttr, gR_some]
      refine hLL _ _ ?_
      simp only [ptrTo, oxq, ↓reduceIte, simprocAttr, gR_some]
      exact ⟨U.length, M, _, _, _, _, _, _, _, _, _, _, _, _, _, _, _, _, _, .inr ⟨by omega, rfl, rfl⟩, s, rfl⟩
  rintro T h1 ⟨s0, r0, u5, u6, u7, u8, u9, u10, u11, u12, u13, u14, u15, u16, u17, u22, u23, u24, R, hsr, s1, rfl⟩
  refine sr (fun LL hLL => ?_)
  simp only [ptrTo, oxq, ↓reduceIte, simprocAttr, gR_some, show IntKind.i64.wrap ((S : Int) - 1) = ((S - 1 : Nat) : Int) by rw [wrap_i64 (by omega) (by omega)]; omega]
  refine hLL _ _ ?_
  refine fg25 (fun R => ?_)
  refine wpC_seq (wpC_block ?_)
  refine wpC_loop (fun k T h' => ∃ (i j : Nat) (u5 u6 u7 u8 u9 u10 u11 u12 u13 u14 u15 u16 u17 u23 u24 : Value) (R : List Value), s0 ≤ i ∧ i ≤ j ∧ j ≤ r0 ∧ (∀ t x y, t + 1 = i → s0 < i → L[t]? = some x → L[S - 1 - t]? = some y → lt y x = false) ∧ (∀ x y, j < r0 → L[j]? = some x → L[S - 1 - j]? = some y → lt y x = true) ∧ k + i = j ∧ St h0 h' (wn rcell 3 63 a c L :: F) ∧
    T = .slice a n c :: .int .i64 U.length :: .int .i64 M :: .int .i64 Q :: cfun g u :: u5 :: u6 :: u7 :: u8 :: u9 :: u10 :: u11 :: u12 :: u13 :: u14 :: u15 :: u16 :: u17 :: .int .i64 D :: .int .i64 S :: .int .i64 i :: .int .i64 j :: .int .i64 ((S - 1 : Nat) : Int) :: u23 :: u24 :: R) ?_ (r0 - s0) _ _ ⟨s0, r0, _, _, _, _, _, _, _, _, _, _, _, _, _, _, _, R, by omega, by omega, by omega, by intros; omega, by intros; omega, by omega, s1, rfl⟩
  clear s1
  rintro k T h' ⟨i, j, u5, u6, u7, u8, u9, u10, u11, u12, u13, u14, u15, u16, u17, u23, u24, R, h0i, hij, hjr, hlo, hhi, hk', s1, rfl⟩
  by_cases hc : i < j
  · refine wpC_seq (sr fun LL hLL => ?_)
    simp only [ptrTo, oxq, ↓reduceIte, simprocAttr, gR_some, eq_true (show (i : Int) < (j : Int) by omega)]
    refine hLL _ _ ?_
    refine wpC_if ?_
    simp only [ptrTo, oxq, ↓reduceIte, simprocAttr, gR_some]
    refine wpC_skip ?_
    simp only [ptrTo, oxq, ↓reduceIte, simprocAttr, gR_some]
    refine fg25 (fun R => ?_)
    refine wpC_block ?_
    obtain ⟨t, et⟩ : ∃ t, t = (i + j) / 2 := ⟨_, rfl⟩
    refine sr (fun LL hLL => ?_)
    simp only [ptrTo, oxq, ↓reduceIte, simprocAttr, gR_some, show IntKind.i64.wrap ((i : Int) + (j : Int)) = ((i + j : Nat) : Int) by rw [wrap_i64 (by omega) (by omega)]; omega]
    refine hLL _ _ ?_
    simp only [halfu (show i + j < 9223372036854775807 by omega), halfw (show i + j < 9223372036854775807 by omega), ← et]
    obtain ⟨v, ev⟩ : ∃ v, v = S - 1 - t := ⟨_, rfl⟩
    have wv : IntKind.i64.wrap (((S - 1 : Nat) : Int) - (t : Int)) = (v : Int) := by rw [wrap_i64 (by omega) (by omega)]; omega
    have htl : t < L.length := by omega
    have hvl : v < L.length := by omega
    obtain ⟨x, ex⟩ : ∃ x, x = L[t] := ⟨_, rfl⟩
    obtain ⟨y, ey⟩ : ∃ y, y = L[v] := ⟨_, rfl⟩
    obtain ⟨b, rfl, hcc, s3⟩ := s1.wn_out (.inl (by rintro rfl; simp at htl))
    have gb := s3.get
    have rt := flat_row rcell.len L t htl
    have rv := flat_row rcell.len L v hvl
    rw [← ex] at rt
    rw [← ey] at rv
    have lt' := flat_le rcell.len L t htl
    have lv := flat_le rcell.len L v hvl
    refine su [some 158, some 159, some 160, some 161, some 162, some 163, some 164, some 165, some 166, some 167, some 168, some 169, some 170, some 171] 14 [0, 0, 0, 0, 12, 30, 62, 0, 0, 384, 896, 2047, 4095, 8191] (by rfl) (by rfl) (by decide +kernel) (by decide +kernel) (by decide +kernel) (fun LL hLL => ?_)
    simp only [ptrTo, pend, pend0, Pd.old, pendU, pendU0, oxq, Nat.testBit, ↓reduceIte, simprocAttr, gR_held, wv, ixF (show t < n by omega), ixF (show v < n by omega), gb, rt, rv, lt', lv, rcell.vq]
    refine hcmp [_] y x _ _ s3 fun h4 r' s4 hr' => ?_
    by_cases hlt : lt y x = true
    · simp only [ptrTo, pend, pend0, Pd.old, pendU, pendU0, oxq, Nat.testBit, ↓reduceIte, simprocAttr, gR_held, eq_true (hr'.2 hlt)]
      refine hLL _ _ ?_
      refine wpC_if ?_
      simp only [ptrTo, oxq, ↓reduceIte, simprocAttr, gR_some]
      refine rg (fun LL hLL => ?_)
      simp only [ptrTo, oxq, ↓reduceIte, simprocAttr, gR_some]
      refine hLL _ _ ?_
      simp only [ptrTo, oxq, ↓reduceIte, simprocAttr, gR_some]
      exact ⟨t - i, by omega, i, t, _, _, _, _, _, _, _, _, _, _, _, _, _, _, _, _, h0i, by omega, by omega, hlo, fun x' y' _ h1 h2 => by
        rw [List.getElem?_eq_getElem htl, ← ex] at h1
        rw [← ev, List.getElem?_eq_getElem hvl, ← ey] at h2
        cases h1; cases h2; exact hlt, by omega, s4.wn_in (by simpa using hcc), rfl⟩
    · simp only [ptrTo, pend, pend0, Pd.old, pendU, pendU0, oxq, Nat.testBit, ↓reduceIte, simprocAttr, gR_held, eq_false (fun hh => hlt (hr'.1 hh))]
      refine hLL _ _ ?_
      refine wpC_if ?_
      simp only [ptrTo, oxq, ↓reduceIte, simprocAttr, gR_some]
      refine rg (fun LL hLL => ?_)
      simp only [ptrTo, oxq, ↓reduceIte, simprocAttr, gR_some, wsucc (show t < 9223372036854775807 by omega)]
      refine hLL _ _ ?_
      simp only [ptrTo, oxq, ↓reduceIte, simprocAttr, gR_some]
      exact ⟨j - (t + 1), by omega, t + 1, j, _, _, _, _, _, _, _, _, _, _, _, _, _, _, _, _, by omega, by omega, by omega, fun t' x' y' h0' _ h1 h2 => by
        obtain rfl : t' = t := by omega
        rw [List.getElem?_eq_getElem htl, ← ex] at h1
        rw [← ev, List.getElem?_eq_getElem hvl, ← ey] at h2
        cases h1; cases h2; simpa using hlt, hhi, by omega, s4.wn_in (by simpa using hcc), rfl⟩
  refine wpC_seq (sr fun LL hLL => ?_)
  simp only [ptrTo, oxq, ↓reduceIte, simprocAttr, gR_some, eq_false (show ¬ (i : Int) < (j : Int) by omega)]
  refine hLL _ _ ?_
  refine wpC_if ?_
  simp only [ptrTo, oxq, ↓reduceIte, simprocAttr, gR_some]
  refine wpC_exit ?_
  simp only [ptrTo, oxq, ↓reduceIte, simprocAttr, gR_some]
  refine fg25 (fun R => ?_)
  obtain rfl : j = i := by omega
  obtain ⟨E, eE⟩ : ∃ E, E = S - j := ⟨_, rfl⟩
  refine sr (fun LL hLL => ?_)
  simp only [ptrTo, oxq, ↓reduceIte, simprocAttr, gR_some, show IntKind.i64.wrap ((S : Int) - (j : Int)) = (E : Int) by rw [wrap_i64 (by omega) (by omega)]; omega]
  refine hLL _ _ ?_
  refine fg25 (fun R => ?_)
  obtain ⟨A1, A2, eA, lA⟩ := split_at A (j - U.length) (by omega)
  obtain ⟨B1, B2, eB, lB⟩ := split_at B (E - M) (by omega)
  have lA' : A.length = A1.length + A2.length := by rw [eA]; simp
  have lB' : B.length = B1.length + B2.length := by rw [eB]; simp
  refine sm (fun T h' => ∃ (u5 u6 u7 u8 u9 u10 u11 u12 u13 u14 u15 u16 u17 u21 u22 u23 : Value) (R : List Value), St h0 h' (wn rcell 3 63 a c (U ++ (A1 ++ (B1 ++ (A2 ++ (B2 ++ V))))) :: F) ∧
    T = .slice a n c :: .int .i64 U.length :: .int .i64 M :: .int .i64 Q :: cfun g u :: u5 :: u6 :: u7 :: u8 :: u9 :: u10 :: u11 :: u12 :: u13 :: u14 :: u15 :: u16 :: u17 :: .int .i64 D :: .int .i64 S :: .int .i64 j :: u21 :: u22 :: u23 :: .int .i64 E :: R) ?_ ?_
  · by_cases g1 : j < M
    · by_cases g2 : M < E
      · refine sr (fun LL hLL => ?_)
        simp only [ptrTo, oxq, ↓reduceIte, simprocAttr, gR_some, eq_true (show (j : Int) < (M : Int) by omega), eq_true (show (M : Int) < (E : Int) by omega)]
        refine hLL _ _ ?_
        refine wpC_if ?_
        simp only [ptrTo, oxq, ↓reduceIte, simprocAttr, gR_some]
        refine rg (fun LL hLL => ?_)
        simp only [ptrTo, oxq, ↓reduceIte, simprocAttr, gR_some]
        refine rotate_at (U ++ A1) A2 B1 (B2 ++ V) L (by rw [eL, eA, eB]; simp) (by omega) (by omega) _ _ _ (by simp; omega) (by simp; omega) (by simp; omega) a c n _ _ hn hl s1 _ fun h2 s2 => ?_
        refine hLL _ _ ?_
        simp only [ptrTo, oxq, ↓reduceIte, simprocAttr, gR_some]
        exact ⟨_, _, _, _, _, _, _, _, _, _, _, _, _, _, _, _, _, by simpa using s2, rfl⟩
      · have : B1 = [] := List.length_eq_zero_iff.1 (by omega)
        refine sr (fun LL hLL => ?_)
        simp only [ptrTo, oxq, ↓reduceIte, simprocAttr, gR_some, eq_true (show (j : Int) < (M : Int) by omega), eq_false (show ¬ (M : Int) < (E : Int) by omega)]
        refine hLL _ _ ?_
        refine wpC_if ?_
        simp only [ptrTo, oxq, ↓reduceIte, simprocAttr, gR_some]
        refine wpC_skip ?_
        simp only [ptrTo, oxq, ↓reduceIte, simprocAttr, gR_some]
        exact ⟨_, _, _, _, _, _, _, _, _, _, _, _, _, _, _, _, _, by rw [eL, eA, eB, this] at s1; rw [this]; simpa using s1, rfl⟩
    · have : A2 = [] := List.length_eq_zero_iff.1 (by omega)
      refine sr (fun LL hLL => ?_)
      simp only [ptrTo, oxq, ↓reduceIte, simprocAttr, gR_some, eq_false (show ¬ (j : Int) < (M : Int) by omega)]
      refine hLL _ _ ?_
      refine wpC_if ?_
      simp only [ptrTo, oxq, ↓reduceIte, simprocAttr, gR_some]
      refine wpC_skip ?_
      simp only [ptrTo, oxq, ↓reduceIte, simprocAttr, gR_some]
      exact ⟨_, _, _, _, _, _, _, _, _, _, _, _, _, _, _, _, _, by rw [eL, eA, eB, this] at s1; rw [this]; simpa using s1, rfl⟩
  rintro T h2 ⟨u5, u6, u7, u8, u9, u10, u11, u12, u13, u14, u15, u16, u17, u21, u22, u23, R, s2, rfl⟩
  clear s1
  have hA12 : SrtL lt (A1 ++ A2) := by rw [← eA]; exact hA
  have hB12 : SrtL lt (B1 ++ B2) := by rw [← eB]; exact hB
  obtain ⟨sA1, sA2, _⟩ := List.pairwise_append.1 hA12
  obtain ⟨sB1, sB2, _⟩ := List.pairwise_append.1 hB12
  refine sm (fun T h' => ∃ (X : List Rwc) (u5 u6 u7 u8 u9 u10 u11 u12 u13 u14 u15 u16 u17 u21 u22 u23 : Value) (R : List Value), SrtL lt X ∧ Sim ke (A1 ++ B1) X ∧ St h0 h' (wn rcell 3 63 a c (U ++ (X ++ (A2 ++ (B2 ++ V)))) :: F) ∧
    T = .slice a n c :: .int .i64 U.length :: .int .i64 M :: .int .i64 Q :: cfun g u :: u5 :: u6 :: u7 :: u8 :: u9 :: u10 :: u11 :: u12 :: u13 :: u14 :: u15 :: u16 :: u17 :: .int .i64 D :: .int .i64 S :: .int .i64 j :: u21 :: u22 :: u23 :: .int .i64 E :: R) ?_ ?_
  · by_cases g1 : U.length < j
    · by_cases g2 : j < D
      · refine sr (fun LL hLL => ?_)
        simp only [ptrTo, oxq, ↓reduceIte, simprocAttr, gR_some, eq_true (show (U.length : Int) < (j : Int) by omega), eq_true (show (j : Int) < (D : Int) by omega)]
        refine hLL _ _ ?_
        refine wpC_if ?_
        simp only [ptrTo, oxq, ↓reduceIte, simprocAttr, gR_some]
        refine rg (fun LL hLL => ?_)
        simp only [ptrTo, oxq, ↓reduceIte, simprocAttr, gR_some]
        refine ih (A1.length + B1.length) (by omega) U A1 B1 (A2 ++ (B2 ++ V)) _ rfl rfl (by omega) (by omega) sA1 sB1 _ _ _ rfl (by omega) (by omega) _ (by simp; omega) s2 _ fun h3 X hX sX s3 => ?_
        refine hLL _ _ ?_
        simp only [ptrTo, oxq, ↓reduceIte, simprocAttr, gR_some]
        exact ⟨X, _, _, _, _, _, _, _, _, _, _, _, _, _, _, _, _, _, hX, sX, s3, rfl⟩
      · have : B1 = [] := List.length_eq_zero_iff.1 (by omega)
        refine sr (fun LL hLL => ?_)
        simp only [ptrTo, oxq, ↓reduceIte, simprocAttr, gR_some, eq_true (show (U.length : Int) < (j : Int) by omega), eq_false (show ¬ (j : Int) < (D : Int) by omega)]
        refine hLL _ _ ?_
        refine wpC_if ?_
        simp only [ptrTo, oxq, ↓reduceIte, simprocAttr, gR_some]
        refine wpC_skip ?_
        simp only [ptrTo, oxq, ↓reduceIte, simprocAttr, gR_some]
        exact ⟨A1, _, _, _, _, _, _, _, _, _, _, _, _, _, _, _, _, _, sA1, by rw [this, List.append_nil]; exact .refl _, by rw [this] at s2; simpa using s2, rfl⟩
    · have : A1 = [] := List.length_eq_zero_iff.1 (by omega)
      refine sr (fun LL hLL => ?_)
      simp only [ptrTo, oxq, ↓reduceIte, simprocAttr, gR_some, eq_false (show ¬ (U.length : Int) < (j : Int) by omega)]
      refine hLL _ _ ?_
      refine wpC_if ?_
      simp only [ptrTo, oxq, ↓reduceIte, simprocAttr, gR_some]
      refine wpC_skip ?_
      simp only [ptrTo, oxq, ↓reduceIte, simprocAttr, gR_some]
      exact ⟨B1, _, _, _, _, _, _, _, _, _, _, _, _, _, _, _, _, _, sB1, by rw [this, List.nil_append]; exact .refl _, by rw [this] at s2; simpa using s2, rfl⟩
  rintro T h3 ⟨X, u5, u6, u7, u8, u9, u10, u11, u12, u13, u14, u15, u16, u17, u21, u22, u23, R, hX, sX, s3, rfl⟩
  clear s2
  have lX : X.length = A1.length + B1.length := by rw [← sX.len]; simp
  have b1 : A1 = [] ∨ B2 = [] ∨ ∃ S x y T, A1 = S ++ [x] ∧ B2 = y :: T ∧ lt y x = false := by
    rcases List.eq_nil_or_concat A1 with h | ⟨S', x, h⟩
    · exact .inl h
    rcases B2 with _ | ⟨y, T⟩
    · exact .inr (.inl rfl)
    have lh : A1.length = S'.length + 1 := by rw [h]; simp
    simp only [List.length_cons] at lB'
    refine .inr (.inr ⟨S', x, y, T, by simpa using h, rfl, hlo (j - 1) x y (by omega) (by omega) ?_ ?_⟩)
    · rw [eL, eA, h, show U ++ (S'.concat x ++ A2 ++ (B ++ V)) = (U ++ S') ++ x :: (A2 ++ (B ++ V)) by simp]
      exact at_len _ _ _ _ (by simp; omega)
    · rw [eL, eB, show U ++ (A ++ (B1 ++ y :: T ++ V)) = (U ++ (A ++ B1)) ++ y :: (T ++ V) by simp]
      exact at_len _ _ _ _ (by simp; omega)
  have b2 : B1 = [] ∨ A2 = [] ∨ ∃ S y x T, B1 = S ++ [y] ∧ A2 = x :: T ∧ lt y x = true := by
    rcases List.eq_nil_or_concat B1 with h | ⟨S', y, h⟩
    · exact .inl h
    rcases A2 with _ | ⟨x, T⟩
    · exact .inr (.inl rfl)
    have lh : B1.length = S'.length + 1 := by rw [h]; simp
    simp only [List.length_cons] at lA'
    refine .inr (.inr ⟨S', y, x, T, by simpa using h, rfl, hhi x y (by omega) ?_ ?_⟩)
    · rw [eL, eA, show U ++ (A1 ++ x :: T ++ (B ++ V)) = (U ++ A1) ++ x :: (T ++ (B ++ V)) by simp]
      exact at_len _ _ _ _ (by simp; omega)
    · rw [eL, eB, h, show U ++ (A ++ (S'.concat y ++ B2 ++ V)) = (U ++ (A ++ S')) ++ y :: (B2 ++ V) by simp]
      exact at_len _ _ _ _ (by simp; omega)
  have fin : ∀ (Y : List Rwc) (h' : AHeap), SrtL lt Y → Sim ke (A2 ++ B2) Y → St h0 h' (wn rcell 3 63 a c (U ++ (X ++ (Y ++ V))) :: F) → K (.tuple #[]) h' := fun Y h' hY sY s4 => by
    obtain ⟨q1, q2⟩ := sym_all o hA12 hB12 b1 b2 hX sX hY sY
    rw [← eA, ← eB] at q2
    exact hk h' (X ++ Y) q1 q2 (by simpa using s4)
  by_cases g1 : D < E
  · by_cases g2 : E < Q
    · refine sr (fun LL hLL => ?_)
      simp only [ptrTo, oxq, ↓reduceIte, simprocAttr, gR_some, eq_true (show (D : Int) < (E : Int) by omega), eq_true (show (E : Int) < (Q : Int) by omega)]
      refine hLL _ _ ?_
      refine wpC_if ?_
      simp only [ptrTo, oxq, ↓reduceIte, simprocAttr, gR_some]
      refine rg (fun LL hLL => ?_)
      simp only [ptrTo, oxq, ↓reduceIte, simprocAttr, gR_some]
      refine ih (A2.length + B2.length) (by omega) (U ++ X) A2 B2 V _ rfl (by simp) (by omega) (by omega) sA2 sB2 _ _ _ (by simp; omega) (by simp; omega) (by simp; omega) _ (by simp; omega) s3 _ fun h4 Y hY sY s4 => ?_
      refine hLL _ _ ?_
      refine out_normal ?_
      simp only [ptrTo, oxq, ↓reduceIte, simprocAttr, gR_some]
      exact fin Y _ hY sY (by simpa using s4)
    · have : B2 = [] := List.length_eq_zero_iff.1 (by omega)
      refine sr (fun LL hLL => ?_)
      simp only [ptrTo, oxq, ↓reduceIte, simprocAttr, gR_some, eq_true (show (D : Int) < (E : Int) by omega), eq_false (show ¬ (E : Int) < (Q : Int) by omega)]
      refine hLL _ _ ?_
      refine wpC_if ?_
      simp only [ptrTo, oxq, ↓reduceIte, simprocAttr, gR_some]
      refine wpC_skip ?_
      refine out_normal ?_
      simp only [ptrTo, oxq, ↓reduceIte, simprocAttr, gR_some]
      exact fin A2 _ sA2 (by rw [this, List.append_nil]; exact .refl _) (by rw [this] at s3; simpa using s3)
  · have : A2 = [] := List.length_eq_zero_iff.1 (by omega)
    refine sr (fun LL hLL => ?_)
    simp only [ptrTo, oxq, ↓reduceIte, simprocAttr, gR_some, eq_false (show ¬ (D : Int) < (E : Int) by omega)]
    refine hLL _ _ ?_
    refine wpC_if ?_
    simp only [ptrTo, oxq, ↓reduceIte, simprocAttr, gR_some]
    refine wpC_skip ?_
    refine out_normal ?_
    simp only [ptrTo, oxq, ↓reduceIte, simprocAttr, gR_some]
    exact fin B2 _ sB2 (by rw [this, List.nil_append]; exact .refl _) (by rw [this] at s3; simpa using s3)
end Go.Proofs.Cd

namespace Go.Ox
section
variable {α : Type} {lt : α → α → Bool}
/-- Blocks of w, each in order, the last one maybe shorter. -/
inductive Blk (lt : α → α → Bool) (w : Nat) : List α → Prop
  | last (L : List α) (hl : L.length ≤ w) (hs : SrtL lt L) : Blk lt w L
  | cons (B L : List α) (hl : B.length = w) (hs : SrtL lt B) (h : Blk lt w L) : Blk lt w (B ++ L)
/-- Whole blocks of w, each in order. -/
inductive FBlk (lt : α → α → Bool) (w : Nat) : List α → Prop
  | nil : FBlk lt w []
  | snoc (P B : List α) (h : FBlk lt w P) (hl : B.length = w) (hs : SrtL lt B) : FBlk lt w (P ++ B)
theorem FBlk.app {w : Nat} {P T : List α} (h : FBlk lt w P) (hT : Blk lt w T) : Blk lt w (P ++ T) := by
  induction h generalizing T with
  | nil => simpa using hT
  | snoc P B _ hl hs ih => rw [List.append_assoc]; exact ih (.cons B T hl hs hT)
theorem Blk.srt {w : Nat} {R : List α} (h : Blk lt w R) (hl : R.length ≤ w) : SrtL lt R := by
  cases h with
  | last _ _ hs => exact hs
  | cons B L hB hs _ =>
    have : L = [] := List.length_eq_zero_iff.1 (by simp at hl; omega)
    rw [this, List.append_nil]; exact hs
theorem Blk.head {w : Nat} {R : List α} (h : Blk lt w R) (hl : w ≤ R.length) : ∃ B R', R = B ++ R' ∧ B.length = w ∧ SrtL lt B ∧ Blk lt w R' := by
  cases h with
  | last _ hl' hs => exact ⟨R, [], by simp, by omega, hs, .last [] (by simp) (by simp [SrtL])⟩
  | cons B L hB hs h => exact ⟨B, L, rfl, hB, hs, h⟩
end
end Go.Ox

namespace Go.Proofs.Cd
open Go Go.Ox
set_option maxRecDepth 100000
set_option maxHeartbeats 4000000
theorem stable_at {h0 : AHeap} {F : List Asn} {lt : Rwc → Rwc → Bool} {ke : Rwc → Int} (o : KOrd lt ke) (g : Nat) (u : Value) (hcmp : CmpAt g u lt h0 F) (X : List Rwc) (a : Option Addr) (c n : Nat) (h : AHeap) (hn : n = X.length) (hl : n < 1000000000) (s : St h0 h (wn rcell 3 63 a c X :: F)) (K : Value → AHeap → Prop)
    (hk : ∀ h' X', SrtL lt X' → Sim ke X X' → St h0 h' (wn rcell 3 63 a c X' :: F) → K (.tuple #[]) h') :
    wpF Tryz.prog (.fn 100) [.slice a n c, .int .i64 n, cfun g u] h K := by
  refine wpF_fun 63 [] Tryz.func100 rfl rfl rfl rfl ?_
  refine sr (fun LL hLL => ?_)
  simp only [ptrTo, oxq, ↓reduceIte, simprocAttr, gR_some]
  refine hLL _ _ ?_
  refine sr (fun LL hLL => ?_)
  simp only [ptrTo, oxq, ↓reduceIte, simprocAttr, gR_some]
  refine hLL _ _ ?_
  refine fg10 (fun R => ?_)
  refine wpC_seq (wpC_block ?_)
  refine wpC_loop (fun k T h' => ∃ (i : Nat) (P Z L : List Rwc) (u3 u4 u5 u9 : Value) (R : List Value), L = P ++ Z ∧ P.length = i ∧ Z = X.drop i ∧ i ≤ n ∧ FBlk lt 20 P ∧ Sim ke (X.take i) P ∧ k + i = n ∧ St h0 h' (wn rcell 3 63 a c L :: F) ∧
    T = .slice a n c :: .int .i64 n :: cfun g u :: u3 :: u4 :: u5 :: .int .i64 20 :: .int .i64 i :: .int .i64 ((i + 20 : Nat) : Int) :: u9 :: R) ?_ n _ _ ⟨0, [], X, X, _, _, _, _, R, rfl, rfl, rfl, by omega, .nil, .refl _, rfl, s, rfl⟩
  rintro k T h' ⟨i, P, Z, L, u3, u4, u5, u9, R, hL, hP, hZ, hin, hF, hS, hki, s1, rfl⟩
  have lZ : Z.length = n - i := by rw [hZ, hn]; simp
  have lL : L.length = n := by rw [hL]; simp; omega
  by_cases hc : i + 20 ≤ n
  · refine wpC_seq (sr fun LL hLL => ?_)
    simp only [ptrTo, oxq, ↓reduceIte, simprocAttr, gR_some, eq_true (show ((i + 20 : Nat) : Int) ≤ (n : Int) by omega)]
    refine hLL _ _ ?_
    refine wpC_if ?_
    simp only [ptrTo, oxq, ↓reduceIte, simprocAttr, gR_some]
    refine wpC_skip ?_
    simp only [ptrTo, oxq, ↓reduceIte, simprocAttr, gR_some]
    refine fg10 (fun R => ?_)
    refine wpC_block ?_
    obtain ⟨B, Z', eZ, lB⟩ := split_at Z 20 (by omega)
    refine sr (fun LL hLL => ?_)
    simp only [ptrTo, oxq, ↓reduceIte, simprocAttr, gR_some]
    refine insertion_at o g u hcmp P B Z' L (by rw [hL, eZ]) _ _ (by rw [hP]) (by rw [hP, lB]) a c n _ lL.symm hl s1 _ fun h2 B' hB sB s2 => ?_
    refine hLL _ _ ?_
    refine sr (fun LL hLL => ?_)
    simp only [ptrTo, oxq, ↓reduceIte, simprocAttr, gR_some]
    refine hLL _ _ ?_
    refine rg (fun LL hLL => ?_)
    simp only [ptrTo, oxq, ↓reduceIte, simprocAttr, gR_some, show IntKind.i64.wrap (((i + 20 : Nat) : Int) + 20) = ((i + 20 + 20 : Nat) : Int) by rw [wrap_i64 (by omega) (by omega)]; omega]
    refine hLL _ _ ?_
    simp only [ptrTo, oxq, ↓reduceIte, simprocAttr, gR_some]
    have lB' : B'.length = 20 := by rw [← sB.len]; exact lB
    have eT : X.take (i + 20) = X.take i ++ B := by rw [List.take_add, ← hZ, eZ, ← lB, List.take_left]
    exact ⟨k - 20, by omega, i + 20, P ++ B', Z', P ++ (B' ++ Z'), _, _, _, _, _, by simp, by simp; omega, by rw [← List.drop_drop, ← hZ, eZ, ← lB, List.drop_left], hc, hF.snoc _ _ lB' hB, by rw [eT]; exact hS.append sB, by omega, s2, rfl⟩
  refine wpC_seq (sr fun LL hLL => ?_)
  simp only [ptrTo, oxq, ↓reduceIte, simprocAttr, gR_some, eq_false (show ¬ ((i + 20 : Nat) : Int) ≤ (n : Int) by omega)]
  refine hLL _ _ ?_
  refine wpC_if ?_
  simp only [ptrTo, oxq, ↓reduceIte, simprocAttr, gR_some]
  refine wpC_exit ?_
  simp only [ptrTo, oxq, ↓reduceIte, simprocAttr, gR_some]
  refine fg10 (fun R => ?_)
  refine sr (fun LL hLL => ?_)
  simp only [ptrTo, oxq, ↓reduceIte, simprocAttr, gR_some]
  refine insertion_at o g u hcmp P Z [] L (by rw [hL]; simp) _ _ (by rw [hP]) (by rw [hP, lZ]; omega) a c n _ lL.symm hl s1 _ fun h2 Z' hZ' sZ s2 => ?_
  refine hLL _ _ ?_
  refine fg10 (fun R => ?_)
  have hblk : Blk lt 20 (P ++ Z') := hF.app (.last Z' (by rw [← sZ.len]; omega) hZ')
  have hsim : Sim ke X (P ++ Z') := by
    have := hS.append sZ
    rwa [hZ, List.take_append_drop] at this
  rw [List.append_nil] at s2
  refine wpC_block ?_
  refine wpC_loop (fun k T h' => ∃ (w : Nat) (L : List Rwc) (u3 u4 u5 u7 u8 u9 : Value) (R : List Value), 20 ≤ w ∧ w ≤ 2 * n + 20 ∧ k = n - w ∧ Blk lt w L ∧ Sim ke X L ∧ St h0 h' (wn rcell 3 63 a c L :: F) ∧
    T = .slice a n c :: .int .i64 n :: cfun g u :: u3 :: u4 :: u5 :: .int .i64 w :: u7 :: u8 :: u9 :: R) ?_ (n - 20) _ _ ⟨20, P ++ Z', _, _, _, _, _, _, _, by omega, by omega, rfl, hblk, hsim, s2, rfl⟩
  clear s1 s2 hblk hsim hF hS hL
  rintro k T h' ⟨w, L, u3, u4, u5, u7, u8, u9, R, hw20, hwn, hk1, hblk, hsim, s1, rfl⟩
  have lL : L.length = n := by rw [← hsim.len, hn]
  by_cases hc : w < n
  · refine wpC_seq (sr fun LL hLL => ?_)
    simp only [ptrTo, oxq, ↓reduceIte, simprocAttr, gR_some, eq_true (show (w : Int) < (n : Int) by omega)]
    refine hLL _ _ ?_
    refine wpC_if ?_
    simp only [ptrTo, oxq, ↓reduceIte, simprocAttr, gR_some]
    refine wpC_skip ?_
    simp only [ptrTo, oxq, ↓reduceIte, simprocAttr, gR_some]
    refine fg10 (fun R => ?_)
    refine wpC_block ?_
    refine sr (fun LL hLL => ?_)
    simp only [ptrTo, oxq, ↓reduceIte, simprocAttr, gR_some, show IntKind.i64.wrap (2 * (w : Int)) = ((2 * w : Nat) : Int) by rw [wrap_i64 (by omega) (by omega)]; omega]
    refine hLL _ _ ?_
    refine fg10 (fun R => ?_)
    refine wpC_seq (wpC_block ?_)
    refine wpC_loop (fun k2 T h' => ∃ (i : Nat) (P Z L : List Rwc) (u3 u4 u5 u9 : Value) (R : List Value), L = P ++ Z ∧ P.length = i ∧ i ≤ n ∧ FBlk lt (2 * w) P ∧ Blk lt w Z ∧ Sim ke X L ∧ k2 = n - i ∧ St h0 h' (wn rcell 3 63 a c L :: F) ∧
      T = .slice a n c :: .int .i64 n :: cfun g u :: u3 :: u4 :: u5 :: .int .i64 w :: .int .i64 i :: .int .i64 ((i + 2 * w : Nat) : Int) :: u9 :: R) ?_ n _ _ ⟨0, [], L, L, _, _, _, _, R, rfl, rfl, by omega, .nil, hblk, hsim, rfl, s1, by rw [Nat.zero_add]; rfl⟩
    clear s1 hblk hsim lL
    rintro k2 T h' ⟨i, P, Z, L, u3, u4, u5, u9, R, hL, hP, hin, hF, hblk, hsim, hk2, s1, rfl⟩
    have lL : L.length = n := by rw [← hsim.len, hn]
    have lZ : Z.length = n - i := by have := congrArg List.length hL; simp at this; omega
    have wiw : IntKind.i64.wrap ((i : Int) + (w : Int)) = ((i + w : Nat) : Int) := by rw [wrap_i64 (by omega) (by omega)]; omega
    by_cases hd : i + 2 * w ≤ n
    · refine wpC_seq (sr fun LL hLL => ?_)
      simp only [ptrTo, oxq, ↓reduceIte, simprocAttr, gR_some, eq_true (show ((i + 2 * w : Nat) : Int) ≤ (n : Int) by omega)]
      refine hLL _ _ ?_
      refine wpC_if ?_
      simp only [ptrTo, oxq, ↓reduceIte, simprocAttr, gR_some]
      refine wpC_skip ?_
      simp only [ptrTo, oxq, ↓reduceIte, simprocAttr, gR_some]
      refine fg10 (fun R => ?_)
      refine wpC_block ?_
      obtain ⟨B1, Z1, e1, l1, q1, hb1⟩ := hblk.head (by omega)
      have lZ1 : Z.length = B1.length + Z1.length := by rw [e1]; simp
      obtain ⟨B2, Z2, e2, l2, q2, hb2⟩ := hb1.head (by omega)
      refine sr (fun LL hLL => ?_)
      simp only [ptrTo, oxq, ↓reduceIte, simprocAttr, gR_some, wiw]
      refine symMerge_at o g u hcmp a c n hl _ P B1 B2 Z2 L rfl (by rw [hL, e1, e2]) (by omega) (by omega) q1 q2 _ _ _ (by rw [hP]) (by rw [hP, l1]) (by rw [hP, l1, l2]; omega) _ lL.symm s1 _ fun h2 Y hY sY s2 => ?_
      refine hLL _ _ ?_
      refine sr (fun LL hLL => ?_)
      simp only [ptrTo, oxq, ↓reduceIte, simprocAttr, gR_some]
      refine hLL _ _ ?_
      refine rg (fun LL hLL => ?_)
      simp only [ptrTo, oxq, ↓reduceIte, simprocAttr, gR_some, show IntKind.i64.wrap (2 * (w : Int)) = ((2 * w : Nat) : Int) by rw [wrap_i64 (by omega) (by omega)]; omega, show IntKind.i64.wrap (((i + 2 * w : Nat) : Int) + ((2 * w : Nat) : Int)) = ((i + 2 * w + 2 * w : Nat) : Int) by rw [wrap_i64 (by omega) (by omega)]; omega]
      refine hLL _ _ ?_
      simp only [ptrTo, oxq, ↓reduceIte, simprocAttr, gR_some]
      have lY : Y.length = 2 * w := by rw [← sY.len]; simp; omega
      exact ⟨n - (i + 2 * w), by omega, i + 2 * w, P ++ Y, Z2, P ++ (Y ++ Z2), _, _, _, _, _, by simp, by simp; omega, hd, hF.snoc _ _ lY hY, hb2, by
        refine hsim.trans ?_
        rw [hL, e1, e2, ← List.append_assoc B1]
        exact (Sim.refl P).append (sY.append (.refl Z2)), rfl, s2, rfl⟩
    · refine wpC_seq (sr fun LL hLL => ?_)
      simp only [ptrTo, oxq, ↓reduceIte, simprocAttr, gR_some, eq_false (show ¬ ((i + 2 * w : Nat) : Int) ≤ (n : Int) by omega)]
      refine hLL _ _ ?_
      refine wpC_if ?_
      simp only [ptrTo, oxq, ↓reduceIte, simprocAttr, gR_some]
      refine wpC_exit ?_
      simp only [ptrTo, oxq, ↓reduceIte, simprocAttr, gR_some]
      refine fg10 (fun R => ?_)
      refine sm (fun T h' => ∃ (L : List Rwc) (u3 u4 u5 u7 u8 u9 : Value) (R : List Value), Blk lt (2 * w) L ∧ Sim ke X L ∧ St h0 h' (wn rcell 3 63 a c L :: F) ∧
        T = .slice a n c :: .int .i64 n :: cfun g u :: u3 :: u4 :: u5 :: .int .i64 w :: u7 :: u8 :: u9 :: R) ?_ ?_
      · refine sr (fun LL hLL => ?_)
        simp only [ptrTo, oxq, ↓reduceIte, simprocAttr, gR_some, wiw]
        refine hLL _ _ ?_
        by_cases hm : i + w < n
        · refine sr (fun LL hLL => ?_)
          simp only [ptrTo, oxq, ↓reduceIte, simprocAttr, gR_some, eq_true (show ((i + w : Nat) : Int) < (n : Int) by omega)]
          refine hLL _ _ ?_
          refine wpC_if ?_
          simp only [ptrTo, oxq, ↓reduceIte, simprocAttr, gR_some]
          obtain ⟨B1, Z1, e1, l1, q1, hb1⟩ := hblk.head (by omega)
          have lZ1 : Z.length = B1.length + Z1.length := by rw [e1]; simp
          refine rg (fun LL hLL => ?_)
          simp only [ptrTo, oxq, ↓reduceIte, simprocAttr, gR_some]
          refine symMerge_at o g u hcmp a c n hl _ P B1 Z1 [] L rfl (by rw [hL, e1]; simp) (by omega) (by omega) q1 (hb1.srt (by omega)) _ _ _ (by rw [hP]) (by rw [hP, l1]) (by rw [hP, l1]; omega) _ lL.symm s1 _ fun h2 Y hY sY s2 => ?_
          refine hLL _ _ ?_
          simp only [ptrTo, oxq, ↓reduceIte, simprocAttr, gR_some]
          rw [List.append_nil] at s2
          exact ⟨P ++ Y, _, _, _, _, _, _, _, hF.app (.last Y (by rw [← sY.len]; simp; omega) hY), by
            refine hsim.trans ?_
            rw [hL, e1]
            exact (Sim.refl P).append sY, s2, rfl⟩
        · refine sr (fun LL hLL => ?_)
          simp only [ptrTo, oxq, ↓reduceIte, simprocAttr, gR_some, eq_false (show ¬ ((i + w : Nat) : Int) < (n : Int) by omega)]
          refine hLL _ _ ?_
          refine wpC_if ?_
          simp only [ptrTo, oxq, ↓reduceIte, simprocAttr, gR_some]
          refine wpC_skip ?_
          simp only [ptrTo, oxq, ↓reduceIte, simprocAttr, gR_some]
          exact ⟨L, _, _, _, _, _, _, _, by rw [hL]; exact hF.app (.last Z (by omega) (hblk.srt (by omega))), hsim, s1, rfl⟩
      rintro T h3 ⟨L, u3, u4, u5, u7, u8, u9, R, hb, hs, s3, rfl⟩
      refine rg (fun LL hLL => ?_)
      simp only [ptrTo, oxq, ↓reduceIte, simprocAttr, gR_some, show IntKind.i64.wrap ((w : Int) * 2) = ((2 * w : Nat) : Int) by rw [wrap_i64 (by omega) (by omega)]; omega]
      refine hLL _ _ ?_
      simp only [ptrTo, oxq, ↓reduceIte, simprocAttr, gR_some]
      exact ⟨n - 2 * w, by omega, 2 * w, L, _, _, _, _, _, _, _, by omega, by omega, rfl, hb, hs, s3, rfl⟩
  · refine wpC_seq (sr fun LL hLL => ?_)
    simp only [ptrTo, oxq, ↓reduceIte, simprocAttr, gR_some, eq_false (show ¬ (w : Int) < (n : Int) by omega)]
    refine hLL _ _ ?_
    refine wpC_if ?_
    simp only [ptrTo, oxq, ↓reduceIte, simprocAttr, gR_some]
    refine wpC_exit ?_
    simp only [ptrTo, oxq, ↓reduceIte, simprocAttr, gR_some]
    refine out_normal ?_
    simp only [ptrTo, oxq, ↓reduceIte, simprocAttr, gR_some]
    exact hk _ L (hblk.srt (by omega)) hsim s1
end Go.Proofs.Cd

