/-
 REASONING ABOUT THE ABSTRACT RUN, part 7: slices of structs, as lists of rows; frames; small laws.
-/
import Derived.Test.YtfcajloeknedeaaGreatOxV
set_option linter.unusedSimpArgs false
set_option linter.unusedVariables false
namespace Go.Ox

section
variable {α : Type} {f : α → List Value} {k : Nat}

theorem flat_length (hf : ∀ x, (f x).length = k) (L : List α) : (L.flatMap f).length = L.length * k := by
 induction L with
 | nil => simp
 | cons x L ih => simp [List.flatMap_cons, hf, ih, Nat.succ_mul, Nat.add_comm]

theorem flat_split (L : List α) (i : Nat) (hi : i < L.length) : L.flatMap f = (L.take i).flatMap f ++ (f L[i] ++ (L.drop (i + 1)).flatMap f) := by
 have h1 : L = L.take i ++ (L[i] :: L.drop (i + 1)) := by
  rw [← List.drop_eq_getElem_cons hi, List.take_append_drop]
 conv => lhs; rw [h1]
 rw [List.flatMap_append, List.flatMap_cons]

theorem flat_take_length (hf : ∀ x, (f x).length = k) (L : List α) (i : Nat) (hi : i < L.length) : ((L.take i).flatMap f).length = i * k := by
 rw [flat_length hf, List.length_take, Nat.min_eq_left (by omega)]

theorem flat_get (hf : ∀ x, (f x).length = k) (L : List α) (i j : Nat) (hi : i < L.length) (hj : j < k) : (L.flatMap f)[i * k + j]? = (f L[i])[j]? := by
 have hl := flat_take_length hf L i hi
 rw [flat_split L i hi, List.getElem?_append_right (by omega), hl, Nat.add_sub_cancel_left, List.getElem?_append_left (by rw [hf]; omega)]

theorem flat_row (hf : ∀ x, (f x).length = k) (L : List α) (i : Nat) (hi : i < L.length) : ((L.flatMap f).drop (i * k)).take k = f L[i] := by
 have hl := flat_take_length hf L i hi
 rw [flat_split L i hi, ← hl, List.drop_left, ← hf L[i], List.take_left]

theorem flat_le (hf : ∀ x, (f x).length = k) (L : List α) (i : Nat) (hi : i < L.length) : i * k + k ≤ (L.flatMap f).length := by
 rw [flat_length hf, ← Nat.succ_mul]; exact Nat.mul_le_mul_right k hi

theorem flat_set (L : List α) (i : Nat) (y : α) (hi : i < L.length) : (L.set i y).flatMap f = (L.take i).flatMap f ++ (f y ++ (L.drop (i + 1)).flatMap f) := by
 rw [List.set_eq_take_append_cons_drop, if_pos hi]; simp [List.flatMap_append, List.flatMap_cons]

theorem splice_at (a b c vs : List Value) (h : b.length = vs.length) : splice (a ++ (b ++ c)) a.length vs = a ++ (vs ++ c) := by
 simp only [splice, List.take_left]
 rw [List.drop_append, List.drop_eq_nil_of_le (by omega), List.nil_append, Nat.add_sub_cancel_left, ← h, List.drop_left, List.append_assoc]

theorem flat_store (hf : ∀ x, (f x).length = k) (L : List α) (i : Nat) (y : α) (hi : i < L.length) : splice (L.flatMap f) (i * k) (f y) = (L.set i y).flatMap f := by
 have hl := flat_take_length hf L i hi
 rw [flat_split L i hi, flat_set L i y hi, ← hl, splice_at _ _ _ _ (by rw [hf, hf])]

theorem zeros_flat (z : α) : ∀ n : Nat, aZeros (f z) n = (List.replicate n z).flatMap f
 | 0 => rfl
 | n + 1 => by simp only [aZeros, List.replicate_succ, List.flatMap_cons, zeros_flat z n]
end

/-! ### a struct in the middle of a block -/
theorem get_mid (A R : List Value) (j : Nat) : (A ++ R)[A.length + j]? = R[j]? := by rw [List.getElem?_append_right (by omega), Nat.add_sub_cancel_left]
theorem get_mid0 (A R : List Value) : (A ++ R)[A.length]? = R[0]? := get_mid A R 0
theorem splice_mid (A R vs : List Value) (j : Nat) : splice (A ++ R) (A.length + j) vs = A ++ splice R j vs := by
 simp only [splice, List.take_append, List.drop_append, Nat.add_sub_cancel_left, List.append_assoc, Nat.add_assoc]
 rw [List.take_of_length_le (by omega), List.drop_eq_nil_of_le (by omega), List.nil_append]
theorem splice_mid0 (A R vs : List Value) : splice (A ++ R) A.length vs = A ++ splice R 0 vs := splice_mid A R vs 0
theorem drop_mid (A R : List Value) : (A ++ R).drop A.length = R := List.drop_left
theorem drop_midj (A R : List Value) (j : Nat) : (A ++ R).drop (A.length + j) = R.drop j := by rw [List.drop_append, List.drop_eq_nil_of_le (by omega), List.nil_append, Nat.add_sub_cancel_left]

/-! ### what a piece of the run leaves alone -/
structure Fr (h h' : AHeap) (ex : List Nat) : Prop where
 next : h.next ≤ h'.next
 get : ∀ β, β < h.next → ¬ β ∈ ex → h'.get β = h.get β

theorem Fr.refl (h : AHeap) (ex : List Nat) : Fr h h ex := ⟨Nat.le_refl _, fun _ _ _ => rfl⟩
theorem Fr.trans {h h1 h2 : AHeap} {e1 e2 ex : List Nat} (a : Fr h h1 e1) (b : Fr h1 h2 e2) (s1 : ∀ β, β ∈ e1 → β ∈ ex) (s2 : ∀ β, β < h.next → β ∈ e2 → β ∈ ex) : Fr h h2 ex :=
 ⟨Nat.le_trans a.next b.next, fun β hb hn => by
  rw [b.get β (Nat.lt_of_lt_of_le hb a.next) (fun k => hn (s2 β hb k)), a.get β hb (fun k => hn (s1 β k))]⟩
theorem Fr.push (h : AHeap) (b : ABlk) : Fr h (h.push b) [] := ⟨by simp, fun β hb _ => by simp only [AHeap.get_push]; rw [if_neg (by omega)]⟩
theorem Fr.set (h : AHeap) (β : Nat) (b : ABlk) : Fr h (h.set β b) [β] := ⟨by simp, fun γ _ hn => by simp only [AHeap.get_set]; rw [if_neg (by simpa using hn)]⟩
theorem Fr.to_push {h h1 : AHeap} {ex : List Nat} (a : Fr h h1 ex) (b : ABlk) : Fr h (h1.push b) ex := a.trans (Fr.push h1 b) (fun _ k => k) (fun _ _ k => by cases k)
theorem Fr.to_set {h h1 : AHeap} {ex : List Nat} (a : Fr h h1 ex) {β : Nat} (b : ABlk) (hb : h.next ≤ β ∨ β ∈ ex) : Fr h (h1.set β b) ex := a.trans (Fr.set h1 β b) (fun _ k => k) (fun γ hg k => by
 obtain rfl : γ = β := by simpa using k
 rcases hb with hb | hb
 ·omega
 ·exact hb)
theorem Fr.to_del {h h1 : AHeap} {ex : List Nat} (a : Fr h h1 ex) {β : Nat} (hb : h.next ≤ β ∨ β ∈ ex) : Fr h (h1.del β) ex := ⟨by simpa using a.next, fun γ hg hn => by
 simp only [AHeap.get_del]
 have hne : ¬ γ = β := by
  rcases hb with hb | hb
  ·omega
  ·rintro rfl; exact hn hb
 rw [if_neg hne, a.get γ hg hn]⟩
theorem Fr.weaken {h h1 : AHeap} {e ex : List Nat} (a : Fr h h1 e) (s : ∀ β, β ∈ e → β ∈ ex) : Fr h h1 ex := ⟨a.next, fun β hb hn => a.get β hb fun k => hn (s β k)⟩
theorem Fr.at {h h1 : AHeap} {ex : List Nat} (a : Fr h h1 ex) {β : Nat} {b : ABlk} (hg : h.get β = some b) (hb : β < h.next) (hn : ¬ β ∈ ex) : h1.get β = some b := by rw [a.get β hb hn, hg]

theorem ixF {i n : Nat} (h : i < n) : (0 ≤ (i : Int)) = True ∧ ((i : Int) < (n : Int)) = True ∧ (i : Int).toNat = i := ⟨by simp, by simp; omega, Int.toNat_natCast i⟩
theorem tput_le : ∀ (T : List Value) (k : Nat) (v : Value) (n : Nat), n ≤ T.length ∨ n ≤ k + 1 → n ≤ (tput T k v).length
 | [], 0, v, n, h => by simp [tput] at *; omega
 | [], k + 1, v, 0, h => Nat.zero_le _
 | [], k + 1, v, n + 1, h => by
  have := tput_le [] k v n (by simp at h ⊢; omega)
  simp only [tput, List.length_cons]; omega
 | x :: T, 0, v, n, h => by simp [tput] at *; omega
 | x :: T, k + 1, v, 0, h => Nat.zero_le _
 | x :: T, k + 1, v, n + 1, h => by
  have := tput_le T k v n (by simp at h; omega)
  simp only [tput, List.length_cons]; omega
theorem xp_eq : ∀ (m : Nat) (X : List Value), m ≤ X.length → ∃ Y, X = (List.range m).map (tget X) ++ Y
 | 0, X, _ => ⟨X, rfl⟩
 | m + 1, [], h => by simp at h
 | m + 1, x :: X, h => by
  obtain ⟨Y, hY⟩ := xp_eq m X (by simpa using h)
  refine ⟨Y, ?_⟩
  rw [List.range_succ_eq_map, List.map_cons, List.map_map]
  show x :: X = x :: (List.map (tget (x :: X) ∘ Nat.succ) (List.range m) ++ Y)
  rw [hY]
  congr 2
  apply List.map_congr_left
  intro i hi
  show tget _ i = tget _ (i + 1)
  rw [← hY]; rfl
/-! ### slots given back -/
section
variable {P : Program} [X : Ext P] {sz : Nat} {rnd : Bool} {c : Code} {h : AHeap} {K : AExit → List Value → AHeap → Prop} {R : List Value}
end

/-! ### slices, whole -/
theorem fst_all {h : AHeap} {size n b : Nat} {ro : Bool} {sz : Nat} {c : List Value} {e : TypeId} (hg : h.get b = some (.cells ro sz c e)) (hc : c.length = n * size) : fst h size n (some ⟨b, 0, none⟩) = some c := by
 simp only [fst]
 split
 ·rename_i h0; rw [h0] at hc; rw [List.eq_nil_of_length_eq_zero hc]
 ·rw [load_eq, hg, gCells_eq, if_pos (by omega), List.drop_zero, ← hc, List.take_length]
theorem apF_none {h : AHeap} {size bytes : Nat} {e : TypeId} {a : Addr} {b : Option Addr} {len cap d : Nat} {new : List Value} (h1 : len * bytes ≤ 140737488355328) (h2 : len < 4611686018427387904) (h3 : fst h size 0 b = some new) (h4 : len ≤ (if cap < big then cap else cap - big)) :
  apF h size bytes e (some a) len cap b 0 d = some (.slice (some a) len cap, h) := by
 simp only [apF, Nat.add_zero, h3, h4, if_true]
 rw [if_neg (by omega)]
/-- A slice of rows. -/
def Sl {α : Type} (f : α → List Value) (size : Nat) (e : TypeId) (h : AHeap) (v : Value) (L : List α) : Prop :=
 ∃ a c, v = .slice a L.length c ∧ (L = [] ∨ ∃ b, a = some ⟨b, 0, none⟩ ∧ b < h.next ∧ ∃ ro, h.get b = some (.cells ro size (L.flatMap f) e))
theorem Sl.to {α : Type} {f : α → List Value} {size : Nat} {e : TypeId} {h h' : AHeap} {v : Value} {L : List α} (s : Sl f size e h v L) (hf : Fr h h' []) : Sl f size e h' v L := by
 obtain ⟨a, c, h1, h2⟩ := s
 refine ⟨a, c, h1, ?_⟩
 rcases h2 with h2 | ⟨b, h3, h4, ro, h5⟩
 ·exact .inl h2
 ·exact .inr ⟨b, h3, Nat.lt_of_lt_of_le h4 hf.next, ro, by rw [hf.get b h4 (by simp)]; exact h5⟩
/-- What a list's row is, in its block. -/
theorem flat_get' {α : Type} {f : α → List Value} {k : Nat} (hf : ∀ x, (f x).length = k) (L : List α) (i : Nat) (hi : i < L.length) (hk : 0 < k) : (L.flatMap f)[i * k]? = (f L[i])[0]? := by
 have := flat_get hf L i 0 hi hk
 simpa using this
theorem gC_true (A B : Prop) : gC (some (.bool true)) A B = A := by simp [gC]
theorem gC_false (A B : Prop) : gC (some (.bool false)) A B = B := by simp [gC]
theorem row_get {C r : List Value} {p n j : Nat} (h : (C.drop p).take n = r) (hj : j < n) : C[p + j]? = r[j]? := by
 rw [← h, List.getElem?_take, if_pos hj, List.getElem?_drop]
theorem row_sub {C r : List Value} {p n j m : Nat} (h : (C.drop p).take n = r) (hm : j + m ≤ n) : (C.drop (p + j)).take m = (r.drop j).take m := by
 rw [← h, List.drop_take, List.take_take, List.drop_drop, Nat.min_eq_left (by omega)]
/-! ### regions, with what follows hidden -/
section
variable {P : Program} [X : Ext P] {sz : Nat} {rnd : Bool} {id : Nat} {os : List Oper} {b : Code} {T : List Value} {h : AHeap} {K : AExit → List Value → AHeap → Prop}
theorem sr (hw : ∀ L : List Value → AHeap → Prop, (∀ T h, wpC P sz rnd b T h K → L T h) → gO P sz os.toArray os T h L) : wpC P sz rnd (.seq (.region id os.toArray false) b) T h K := wpC_seqr (hw _ fun _ _ k => k)
theorem rg (hw : ∀ L : List Value → AHeap → Prop, (∀ T h, K .normal T h → L T h) → gO P sz os.toArray os T h L) : wpC P sz rnd (.region id os.toArray false) T h K := wpC_reg (hw _ fun _ _ k => k)
theorem sd (is ms : List Nat) (hi : canon os.toArray = is) (hs : staticOK os.toArray = true) (hms : is.map (fun i => (cms os []).getD i 0) = ms)
  (hw : ∀ L : List Value → AHeap → Prop, (∀ T h, wpC P sz rnd b T h K → L T h) → gT P sz os is ms [] T h L) : wpC P sz rnd (.seq (.region id os.toArray true) b) T h K := wpC_seqd is ms hi hs hms (hw _ fun _ _ k => k)
/-- A piece of code, what holds behind it, and the rest. -/
theorem sm {a b : Code} (Q : List Value → AHeap → Prop) (h1 : wpC P sz rnd a T h (AExit.go Q K)) (h2 : ∀ T h, Q T h → wpC P sz rnd b T h K) : wpC P sz rnd (.seq a b) T h K :=
 wpC_seq (wpC_mono h1 fun e T h k => by cases e <;> first | exact h2 _ _ k | exact k)
theorem dw (is ms : List Nat) (hi : canon os.toArray = is) (hs : staticOK os.toArray = true) (hms : is.map (fun i => (cms os []).getD i 0) = ms)
  (hw : ∀ L : List Value → AHeap → Prop, (∀ T h, K .normal T h → L T h) → gT P sz os is ms [] T h L) : wpC P sz rnd (.region id os.toArray true) T h K := wpC_draw is ms hi hs hms (hw _ fun _ _ k => k)
end
section
variable {P : Program} [X : Ext P] {sz : Nat} {rnd : Bool} {c : Code} {h : AHeap} {K : AExit → List Value → AHeap → Prop} {R : List Value}
theorem xp2 {v0 v1 : Value} (m : Nat) {X : List Value} (hx : m ≤ X.length) (k : ∀ Y, wpC P sz rnd c (v0 :: v1 :: ((List.range m).map (tget X) ++ Y)) h K) : wpC P sz rnd c (v0 :: v1 :: X) h K := by
 obtain ⟨Y, hY⟩ := xp_eq m X hx
 have := k Y
 rw [← hY] at this; exact this
theorem xp5 {v0 v1 v2 v3 v4 : Value} (m : Nat) {X : List Value} (hx : m ≤ X.length) (k : ∀ Y, wpC P sz rnd c (v0 :: v1 :: v2 :: v3 :: v4 :: ((List.range m).map (tget X) ++ Y)) h K) : wpC P sz rnd c (v0 :: v1 :: v2 :: v3 :: v4 :: X) h K := by
 obtain ⟨Y, hY⟩ := xp_eq m X hx
 have := k Y
 rw [← hY] at this; exact this
theorem xp12 {v0 v1 v2 v3 v4 v5 v6 v7 v8 v9 v10 v11 : Value} (m : Nat) {X : List Value} (hx : m ≤ X.length) (k : ∀ Y, wpC P sz rnd c (v0 :: v1 :: v2 :: v3 :: v4 :: v5 :: v6 :: v7 :: v8 :: v9 :: v10 :: v11 :: ((List.range m).map (tget X) ++ Y)) h K) : wpC P sz rnd c (v0 :: v1 :: v2 :: v3 :: v4 :: v5 :: v6 :: v7 :: v8 :: v9 :: v10 :: v11 :: X) h K := by
 obtain ⟨Y, hY⟩ := xp_eq m X hx
 have := k Y
 rw [← hY] at this; exact this
theorem fg3 {v0 v1 v2 : Value} (k : ∀ R, wpC P sz rnd c (v0 :: v1 :: v2 :: R) h K) : wpC P sz rnd c (v0 :: v1 :: v2 :: R) h K := k R
theorem fg4 {v0 v1 v2 v3 : Value} (k : ∀ R, wpC P sz rnd c (v0 :: v1 :: v2 :: v3 :: R) h K) : wpC P sz rnd c (v0 :: v1 :: v2 :: v3 :: R) h K := k R
theorem fg5 {v0 v1 v2 v3 v4 : Value} (k : ∀ R, wpC P sz rnd c (v0 :: v1 :: v2 :: v3 :: v4 :: R) h K) : wpC P sz rnd c (v0 :: v1 :: v2 :: v3 :: v4 :: R) h K := k R
theorem fg6 {v0 v1 v2 v3 v4 v5 : Value} (k : ∀ R, wpC P sz rnd c (v0 :: v1 :: v2 :: v3 :: v4 :: v5 :: R) h K) : wpC P sz rnd c (v0 :: v1 :: v2 :: v3 :: v4 :: v5 :: R) h K := k R
theorem fg7 {v0 v1 v2 v3 v4 v5 v6 : Value} (k : ∀ R, wpC P sz rnd c (v0 :: v1 :: v2 :: v3 :: v4 :: v5 :: v6 :: R) h K) : wpC P sz rnd c (v0 :: v1 :: v2 :: v3 :: v4 :: v5 :: v6 :: R) h K := k R
theorem fg8 {v0 v1 v2 v3 v4 v5 v6 v7 : Value} (k : ∀ R, wpC P sz rnd c (v0 :: v1 :: v2 :: v3 :: v4 :: v5 :: v6 :: v7 :: R) h K) : wpC P sz rnd c (v0 :: v1 :: v2 :: v3 :: v4 :: v5 :: v6 :: v7 :: R) h K := k R
theorem fg9 {v0 v1 v2 v3 v4 v5 v6 v7 v8 : Value} (k : ∀ R, wpC P sz rnd c (v0 :: v1 :: v2 :: v3 :: v4 :: v5 :: v6 :: v7 :: v8 :: R) h K) : wpC P sz rnd c (v0 :: v1 :: v2 :: v3 :: v4 :: v5 :: v6 :: v7 :: v8 :: R) h K := k R
theorem fg10 {v0 v1 v2 v3 v4 v5 v6 v7 v8 v9 : Value} (k : ∀ R, wpC P sz rnd c (v0 :: v1 :: v2 :: v3 :: v4 :: v5 :: v6 :: v7 :: v8 :: v9 :: R) h K) : wpC P sz rnd c (v0 :: v1 :: v2 :: v3 :: v4 :: v5 :: v6 :: v7 :: v8 :: v9 :: R) h K := k R
theorem fg11 {v0 v1 v2 v3 v4 v5 v6 v7 v8 v9 v10 : Value} (k : ∀ R, wpC P sz rnd c (v0 :: v1 :: v2 :: v3 :: v4 :: v5 :: v6 :: v7 :: v8 :: v9 :: v10 :: R) h K) : wpC P sz rnd c (v0 :: v1 :: v2 :: v3 :: v4 :: v5 :: v6 :: v7 :: v8 :: v9 :: v10 :: R) h K := k R
theorem fg12 {v0 v1 v2 v3 v4 v5 v6 v7 v8 v9 v10 v11 : Value} (k : ∀ R, wpC P sz rnd c (v0 :: v1 :: v2 :: v3 :: v4 :: v5 :: v6 :: v7 :: v8 :: v9 :: v10 :: v11 :: R) h K) : wpC P sz rnd c (v0 :: v1 :: v2 :: v3 :: v4 :: v5 :: v6 :: v7 :: v8 :: v9 :: v10 :: v11 :: R) h K := k R
theorem fg16 {v0 v1 v2 v3 v4 v5 v6 v7 v8 v9 v10 v11 v12 v13 v14 v15 : Value} (k : ∀ R, wpC P sz rnd c (v0 :: v1 :: v2 :: v3 :: v4 :: v5 :: v6 :: v7 :: v8 :: v9 :: v10 :: v11 :: v12 :: v13 :: v14 :: v15 :: R) h K) : wpC P sz rnd c (v0 :: v1 :: v2 :: v3 :: v4 :: v5 :: v6 :: v7 :: v8 :: v9 :: v10 :: v11 :: v12 :: v13 :: v14 :: v15 :: R) h K := k R
end
end Go.Ox
