/-
 REASONING ABOUT THE ABSTRACT RUN: slices as lists: one's own (to append to), and any that can be read.
-/
import Derived.Test.YtfcajloeknedeaaGreatOxZ
set_option linter.unusedSimpArgs false
set_option linter.unusedVariables false
namespace Go.Ox
section
variable {α : Type} {f : α → List Value} {k : Nat}

/-- A slice that can be read: some of a block's cells. -/
def Rs {α : Type} (f : α → List Value) (k : Nat) (h : AHeap) (a : Option Addr) (L : List α) : Prop :=
 L = [] ∨ ∃ (b o : Nat) (ro : Bool) (sz : Nat) (C : List Value) (e : TypeId), a = some ⟨b, o, none⟩ ∧ b < h.next ∧ h.get b = some (.cells ro sz C e) ∧ (C.drop o).take (L.length * k) = L.flatMap f ∧ o + L.length * k ≤ C.length
theorem Rs.to {h h' : AHeap} {a : Option Addr} {L : List α} (r : Rs f k h a L) {ex : List Nat} (hf : Fr h h' ex) (hn : ∀ b o s, a = some ⟨b, o, s⟩ → ¬ b ∈ ex) : Rs f k h' a L := by
 rcases r with r | ⟨b, o, ro, sz, C, e, h1, h2, h3, h4, h5⟩
 ·exact .inl r
 ·exact .inr ⟨b, o, ro, sz, C, e, h1, Nat.lt_of_lt_of_le h2 hf.next, hf.at h3 h2 (hn b o none h1), h4, h5⟩
theorem Rs.fr {h h' : AHeap} {a : Option Addr} {L : List α} (r : Rs f k h a L) (hf : Fr h h' []) : Rs f k h' a L := r.to hf fun _ _ _ _ k => by cases k
theorem Rs.nil (h : AHeap) (a : Option Addr) : Rs f k h a [] := .inl rfl
theorem Rs.fst {h : AHeap} {a : Option Addr} {L : List α} (r : Rs f k h a L) (ha : a = none → L = []) : Go.Ox.fst h k L.length a = some (L.flatMap f) := by
 rcases r with rfl | ⟨b, o, ro, sz, C, e, rfl, h2, h3, h4, h5⟩
 ·cases a <;> simp [Go.Ox.fst]
 ·simp only [Go.Ox.fst]
  split
  ·rename_i h0; rw [h0] at h4; rw [← h4]; rfl
  ·rw [load_eq, h3, gCells_eq, if_pos h5, h4]
/-- A row of it. -/
theorem Rs.row {L : List α} {C : List Value} {o : Nat} (hf : ∀ x, (f x).length = k) (h4 : (C.drop o).take (L.length * k) = L.flatMap f) (h5 : o + L.length * k ≤ C.length) (i : Nat) (hi : i < L.length) :
  (C.drop (o + i * k)).take k = f L[i] ∧ o + i * k + k ≤ C.length := by
 have hm : i * k + k ≤ L.length * k := by rw [← Nat.succ_mul]; exact Nat.mul_le_mul_right k hi
 refine ⟨?_, by omega⟩
 rw [row_sub h4 hm, flat_row hf L i hi]
theorem Rs.cell {L : List α} {C : List Value} {o : Nat} (hf : ∀ x, (f x).length = k) (h4 : (C.drop o).take (L.length * k) = L.flatMap f) (h5 : o + L.length * k ≤ C.length) (i : Nat) (hi : i < L.length) (j : Nat) (hj : j < k) :
  C[o + i * k + j]? = (f L[i])[j]? := by
 have := (Rs.row hf h4 h5 i hi).1
 exact row_get this hj
/-- The first ones of it. -/
theorem Rs.take {h : AHeap} {a : Option Addr} {L : List α} (hf : ∀ x, (f x).length = k) (r : Rs f k h a L) (n : Nat) : Rs f k h a (L.take n) := by
 rcases r with rfl | ⟨b, o, ro, sz, C, e, h1, h2, h3, h4, h5⟩
 ·exact .inl (by simp)
 ·have hm : (L.take n).length * k ≤ L.length * k := Nat.mul_le_mul_right k (by simp; omega)
  refine .inr ⟨b, o, ro, sz, C, e, h1, h2, h3, ?_, by omega⟩
  have : (C.drop o).take ((L.take n).length * k) = ((C.drop o).take (L.length * k)).take ((L.take n).length * k) := by
   rw [List.take_take, Nat.min_eq_left hm]
  have e1 : L.flatMap f = (L.take n).flatMap f ++ (L.drop n).flatMap f := by rw [← List.flatMap_append, List.take_append_drop]
  rw [this, h4, e1, ← flat_length hf (L.take n), List.take_left]
/-- .. and what is behind them. -/
theorem Rs.drop {h : AHeap} {b o : Nat} {L : List α} (hf : ∀ x, (f x).length = k) (r : Rs f k h (some ⟨b, o, none⟩) L) (n : Nat) (hn : n ≤ L.length) : Rs f k h (some ⟨b, o + n * k, none⟩) (L.drop n) := by
 rcases r with rfl | ⟨b', o', ro, sz, C, e, h1, h2, h3, h4, h5⟩
 ·exact .inl (by simp)
 ·simp only [Option.some.injEq, Addr.mk.injEq, and_true] at h1
  obtain ⟨rfl, rfl⟩ := h1
  have e1 : L.length * k = n * k + (L.drop n).length * k := by rw [List.length_drop, ← Nat.add_mul]; congr 1; omega
  refine .inr ⟨b, o + n * k, ro, sz, C, e, rfl, h2, h3, ?_, by omega⟩
  rw [row_sub h4 (by omega)]
  have hl := flat_length hf (L.take n)
  rw [List.length_take, Nat.min_eq_left hn] at hl
  have e2 : L.flatMap f = (L.take n).flatMap f ++ (L.drop n).flatMap f := by rw [← List.flatMap_append, List.take_append_drop]
  rw [e2, ← hl, List.drop_left]
  exact List.take_of_length_le (by rw [flat_length hf]; simp)

/-- A slice of one's own: all of its block. B: the block. -/
def Wn {α : Type} (f : α → List Value) (k : Nat) (e : TypeId) (h : AHeap) (a : Option Addr) (c : Nat) (L : List α) (B : List Nat) : Prop :=
 (L = [] ∧ a = none ∧ c = 0 ∧ B = []) ∨ ∃ b, a = some ⟨b, 0, none⟩ ∧ B = [b] ∧ b < h.next ∧ h.get b = some (.cells false k (L.flatMap f) e) ∧ (c = L.length ∨ c = big + L.length)
theorem Wn.to {e : TypeId} {h h' : AHeap} {a : Option Addr} {c : Nat} {L : List α} {B : List Nat} (w : Wn f k e h a c L B) {ex : List Nat} (hf : Fr h h' ex) (hn : ∀ b ∈ B, ¬ b ∈ ex) : Wn f k e h' a c L B := by
 rcases w with w | ⟨b, h1, h2, h3, h4, h5⟩
 ·exact .inl w
 ·exact .inr ⟨b, h1, h2, Nat.lt_of_lt_of_le h3 hf.next, hf.at h4 h3 (hn b (by rw [h2]; simp)), h5⟩
theorem Wn.lt {e : TypeId} {h : AHeap} {a : Option Addr} {c : Nat} {L : List α} {B : List Nat} (w : Wn f k e h a c L B) : ∀ b ∈ B, b < h.next := by
 rcases w with ⟨_, _, _, rfl⟩ | ⟨b, _, rfl, h3, _⟩
 ·simp
 ·simpa using h3
theorem Wn.rs {e : TypeId} {h : AHeap} {a : Option Addr} {c : Nat} {L : List α} {B : List Nat} (hf : ∀ x, (f x).length = k) (w : Wn f k e h a c L B) : Rs f k h a L := by
 rcases w with ⟨h1, _⟩ | ⟨b, h1, h2, h3, h4, h5⟩
 ·exact .inl h1
 ·refine .inr ⟨b, 0, false, k, _, e, h1, h3, h4, ?_, ?_⟩
  ·rw [List.drop_zero, ← flat_length hf L, List.take_length]
  ·rw [flat_length hf]; omega
/-- To append. -/
theorem Wn.app {e : TypeId} {bytes : Nat} {h : AHeap} {a s : Option Addr} {c d : Nat} {L M : List α} {B : List Nat} (hf : ∀ x, (f x).length = k) (hoc : ∀ x : α, (f x).all Value.oneCell' = true)
  (w : Wn f k e h a c L B) (hs : Go.Ox.fst h k M.length s = some (M.flatMap f)) (h1 : (L.length + M.length) * bytes ≤ 140737488355328) (h2 : L.length + M.length < 4611686018427387904) :
  ∃ a' c' h2 B', apF h k bytes e a L.length c s M.length d = some (.slice a' (L ++ M).length c', h2) ∧ Wn f k e h2 a' c' (L ++ M) B' ∧ Fr h h2 B ∧ (∀ β ∈ B', β ∈ B ∨ h.next ≤ β) := by
 have hall : (M.flatMap f).all Value.oneCell' = true := by
  simp only [List.all_eq_true, List.mem_flatMap]
  rintro x ⟨y, _, hx⟩
  exact List.all_eq_true.1 (hoc y) x hx
 have hbig : 4611686018427387904 < big := by simp [big]
 by_cases hM : M.length = 0
 ·obtain rfl := List.eq_nil_of_length_eq_zero hM
  refine ⟨a, c, h, B, ?_, by simpa using w, Fr.refl h B, fun β k => .inl k⟩
  simp only [List.append_nil, List.length_nil] at *
  rcases w with ⟨rfl, rfl, rfl, rfl⟩ | ⟨b, rfl, rfl, w3, w4, w5⟩
  ·exact apF_zero (by simp) hs
  ·exact apF_none h1 (by omega) hs (by rcases w5 with rfl | rfl <;> split <;> omega)
 ·rcases w with ⟨rfl, rfl, rfl, rfl⟩ | ⟨b, rfl, rfl, w3, w4, w5⟩
  ·refine ⟨some ⟨h.next, 0, none⟩, big + M.length, _, [h.next], apF_nil (by simpa using h1) (by simpa using h2) hs hM, .inr ⟨h.next, rfl, rfl, by simp, by simp [AHeap.get_push], .inr (by simp)⟩, Fr.push h _, by simp⟩
  ·have hlen : L.length * k = (L.flatMap f).length := (flat_length hf L).symm
   rcases w5 with rfl | rfl
   ·-- a capacity that is known: a new block
    have hcb : L.length < big := by omega
    have hold : Go.Ox.fst h k L.length (some ⟨b, 0, none⟩) = some (L.flatMap f) := fst_all w4 hlen.symm
    refine ⟨some ⟨h.next, 0, none⟩, big + (L.length + M.length), h.push (.cells false k (L.flatMap f ++ M.flatMap f) e), [h.next], ?_, .inr ⟨h.next, rfl, rfl, by simp, by simp [AHeap.get_push], .inr (by simp)⟩, (Fr.push h _).weaken (by simp), by simp⟩
    simp only [apF, hs, hold, hcb, if_true]
    rw [if_neg (by omega), if_neg (by omega)]
    simp
   ·refine ⟨some ⟨h.next, 0, none⟩, big + (L.length + M.length), _, [h.next], by rw [apF_own h1 h2 hs hM w4 hlen hall, List.length_append], .inr ⟨h.next, rfl, rfl, by simp, by simp [AHeap.get_push], .inr (by simp)⟩, ?_, by simp⟩
    have : Fr h (h.del b) [b] := (Fr.refl h [b]).to_del (.inr (by simp))
    exact this.to_push _
end

/-! ### slices of slices -/
def capN (cap : Nat) : Nat := if cap < big then cap else cap - big
section
variable {P : Program} {h : AHeap} {t e : TypeId} {ti : TypeInfo} {n b o len cap i j : Nat} {kk kj : IntKind}
theorem optB_none (y d : Nat) : optB y d none = some d := rfl
theorem optB_int {y d i : Nat} (hi : i ≤ y) : optB y d (some (.int kk (i : Int))) = some i := by
 simp only [optB, aBound]
 rw [if_pos ⟨by omega, by omega⟩]; simp
theorem sl_to (hu : P.underlying t = some (.slice e)) (hi : P.info? e = some ti) (hc : i ≤ capN cap) (hl : len ≤ capN cap) :
  aSlice P h t (.slice (some ⟨b, o, none⟩) len cap) none (some (.int kk (i : Int))) none = some (.slice (some ⟨b, o, none⟩) i cap) := by
 simp only [aSlice, hu, hi, aSliceS]
 rw [← show capN cap = (if cap < big then cap else cap - big) from rfl, if_neg (by omega)]
 simp only [optB_none, Option.isSome_none, Bool.false_eq_true, if_false, optB_int hc, Bool.false_and, ne_eq, not_true_eq_false, false_and, Nat.zero_mul, Nat.sub_zero, add_none, Nat.add_zero]
theorem sl_from (hu : P.underlying t = some (.slice e)) (hi : P.info? e = some ti) (hn : ti.size = n) (hil : i ≤ len) (hl : len ≤ capN cap) {ro : Bool} {sz : Nat} {C : List Value} {E : TypeId} (hg : h.get b = some (.cells ro sz C E)) (hs : sz = n ∨ sz = 0) :
  aSlice P h t (.slice (some ⟨b, o, none⟩) len cap) (some (.int kk (i : Int))) none none = some (.slice (some ⟨b, o + i * n, none⟩) (len - i) (cap - i)) := by
 simp only [aSlice, hu, hi, aSliceS]
 rw [← show capN cap = (if cap < big then cap else cap - big) from rfl, if_neg (by omega)]
 have hst : ¬ (i ≠ 0 ∧ aStride h b ≠ some n ∧ aStride h b ≠ some 0) := by
  rintro ⟨_, h1, h2⟩
  simp only [aStride, hg] at h1 h2
  rcases hs with rfl | rfl
  ·exact h1 rfl
  ·exact h2 rfl
 simp only [optB_none, Option.isSome_none, Bool.false_eq_true, if_false, Bool.false_and, optB_int hil, add_none, hn]
 rw [if_neg hst]
theorem sl_nil_to (hu : P.underlying t = some (.slice e)) (hi : P.info? e = some ti) : aSlice P h t (.slice none 0 0) none (some (.int kk 0)) none = some (.slice none 0 0) := by
 have h0 : optB 0 0 (some (.int kk 0)) = some 0 := optB_int (kk := kk) (i := 0) (Nat.le_refl 0)
 simp only [aSlice, hu, hi, optB_none, h0, Option.isSome_none, Bool.false_and, Bool.false_eq_true, if_false]
theorem capN_own {c m : Nat} (hm : m < 4611686018427387904) (hc : c = m ∨ c = big + m) : capN c = m := by
 have hb : 4611686018427387904 < big := by simp [big]
 unfold capN
 rcases hc with rfl | rfl <;> split <;> omega
end

/-! ### .. of one's own -/
section
variable {α : Type} {f : α → List Value} {k : Nat} {P : Program} {h : AHeap} {t e : TypeId} {ti : TypeInfo} {a : Option Addr} {c : Nat} {L : List α} {B : List Nat} {E : TypeId}
theorem Wn.cap (w : Wn f k E h a c L B) : Wn f k E h a L.length L B := by
 rcases w with ⟨rfl, rfl, rfl, rfl⟩ | ⟨b, rfl, rfl, w3, w4, w5⟩
 ·exact .inl ⟨rfl, rfl, rfl, rfl⟩
 ·exact .inr ⟨b, rfl, rfl, w3, w4, .inl rfl⟩
end
end Go.Ox
