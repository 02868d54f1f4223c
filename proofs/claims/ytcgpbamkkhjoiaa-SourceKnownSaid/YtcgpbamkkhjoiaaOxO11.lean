/-
  Both sources side by side. CONDITIONS: none.
-/
import Derived.Test.YtcgpbamkkhjoiaaOxO10
set_option linter.unusedSimpArgs false
set_option linter.unusedVariables false
namespace Go.Proofs
open Go Go.Ox
set_option maxRecDepth 100000
set_option maxHeartbeats 2000000
theorem getD_in {α : Type} (l : List α) (d : α) (i : Nat) (h : i < l.length) : l.getD i d = l[i] := by rw [List.getD_eq_getElem?_getD, List.getElem?_eq_getElem h]; rfl
theorem getD_out {α : Type} (l : List α) (d : α) (i : Nat) (h : ¬ i < l.length) : l.getD i d = d := by rw [List.getD_eq_getElem?_getD, List.getElem?_eq_none (by omega)]; rfl
/-- What Next comes to. -/
def NxR (A : List (List Rc)) (V : List Int) (f : Int) (r : Rc) (q : Nat) (b : Bool) (V' : List Int) : Prop :=
  (b = false ∧ r = ⟨0, 0⟩ ∧ q = 0 ∧ V' = V ∧ ∀ j, j < A.length → ¬ has A V (nth0 A.length f j)) ∨
  (b = true ∧ ∃ i, i < A.length ∧ q = nth0 A.length f i ∧ (∀ j, j < i → ¬ has A V (nth0 A.length f j)) ∧ has A V q ∧ (A.getD q [])[(V.getD q 0).toNat]? = some r ∧ V' = V.set q (V.getD q 0 + 1))
theorem Next_one {h0 : AHeap} {F : List Asn} (p : Nat) (A : List (List Rc)) (O : List Int) (f : Int) (h : AHeap) (K : Value → AHeap → Prop) (s : St h0 h (src p A O :: F)) (hl : A.length < 1000000) (hb : ∀ L ∈ A, L.length < 1000000) (hO : O.length = A.length) (hp : ∀ q, 0 ≤ O.getD q 0)
    (hk : ∀ (r : Rc) (q : Nat) (b : Bool) (V' : List Int) h', NxR A O f r q b V' → St h0 h' (src p A V' :: F) → K (.tuple #[.agg r.cells.toArray, .int .i64 q, .bool b]) h') :
    wpF Try.prog (.fn 18) [.pointer (some ⟨p, 0, none⟩), .int .i64 f] h K :=
  Next_any p A O f h K s hl hb hO hp (fun h' k1 k2 => hk ⟨0, 0⟩ 0 false O h' (.inl ⟨rfl, rfl, rfl, rfl, k1⟩) k2)
    (fun i q r h' k1 k2 k3 k4 k5 k6 => hk r q true _ h' (.inr ⟨rfl, i, k1, k2, k3, k4, k5, rfl⟩) k6)
def RxR (B : List (List Rc)) (V : List Int) (f : Int) (r : Rc) (q : Nat) (b : Bool) (B' : List (List Rc)) (V' : List Int) : Prop :=
  (b = false ∧ r = ⟨0, 0⟩ ∧ q = 0 ∧ V' = V ∧ B' = B ∧ ∀ j, j < B.length → B.getD (nth0 B.length f j) [] = []) ∨
  (b = true ∧ ∃ i tl, i < B.length ∧ q = nth0 B.length f i ∧ (∀ j, j < i → B.getD (nth0 B.length f j) [] = []) ∧ B.getD q [] = r :: tl ∧ V' = V.set q (V.getD q 0 + 1) ∧ B' = B.set q tl)
theorem RNext_one {h0 : AHeap} {F : List Asn} (p : Nat) (B : List (List Rc)) (V : List Int) (f : Int) (h : AHeap) (K : Value → AHeap → Prop) (s : St h0 h (srcT 54 p B V :: F)) (hl : B.length < 1000000) (hb : ∀ L ∈ B, L.length < 1000000) (hV : V.length = B.length) (hp : ∀ q, 0 ≤ V.getD q 0 ∧ V.getD q 0 < 1000000)
    (hk : ∀ (r : Rc) (q : Nat) (b : Bool) (B' : List (List Rc)) (V' : List Int) h', RxR B V f r q b B' V' → St h0 h' (srcT 54 p B' V' :: F) → K (.tuple #[.agg r.cells.toArray, .int .i64 q, .bool b]) h') :
    wpF Try.prog (.fn 19) [.pointer (some ⟨p, 0, none⟩), .int .i64 f] h K :=
  RNext_any p B V f h K s hl hb hV hp (fun h' k1 k2 => hk ⟨0, 0⟩ 0 false B V h' (.inl ⟨rfl, rfl, rfl, rfl, rfl, k1⟩) k2)
    (fun i q r tl h' k1 k2 k3 k4 k5 => hk r q true _ _ h' (.inr ⟨rfl, i, tl, k1, k2, k3, k4, rfl, rfl⟩) k5)

/-- Places that may be. -/
structure OkV (A : List (List Rc)) (V : List Int) : Prop where
  len : V.length = A.length
  bd : ∀ q, 0 ≤ V.getD q 0 ∧ V.getD q 0 ≤ ((A.getD q []).length : Int)
theorem OkV.offs (A : List (List Rc)) (O : List Int) : OkV A (offs A O) := by
  refine ⟨offs_len A O, fun q => ?_⟩
  by_cases hq : q < A.length
  · rw [List.getD_eq_getElem?_getD, List.getElem?_eq_getElem (by rw [offs_len]; exact hq), List.getD_eq_getElem?_getD, List.getElem?_eq_getElem hq]
    simp only [Option.getD_some]
    rw [offs_at A O q hq]
    exact clampV_bd _ _
  · rw [List.getD_eq_getElem?_getD, List.getElem?_eq_none (by rw [offs_len]; omega), List.getD_eq_getElem?_getD, List.getElem?_eq_none (by omega)]
    simp
theorem getD_set (V : List Int) (q : Nat) (v : Int) (j : Nat) : (V.set q v).getD j 0 = if j = q ∧ q < V.length then v else V.getD j 0 := by
  simp only [List.getD_eq_getElem?_getD, List.getElem?_set]
  by_cases h : q = j
  · subst h
    by_cases hq : q < V.length
    · simp [hq]
    · simp [hq]
  · rw [if_neg h, if_neg (by intro k; exact h k.1.symm)]
theorem NxR.ok {A : List (List Rc)} {V : List Int} {f : Int} {r : Rc} {q : Nat} {b : Bool} {V' : List Int} (o : OkV A V) (x : NxR A V f r q b V') : OkV A V' := by
  rcases x with ⟨_, _, _, rfl, _⟩ | ⟨_, i, h1, h2, h3, h4, h5, rfl⟩
  · exact o
  · refine ⟨by simpa using o.len, fun j => ?_⟩
    rw [getD_set]
    split
    · rename_i hj
      obtain ⟨rfl, hj2⟩ := hj
      unfold has at h4
      have := o.bd j
      omega
    · exact o.bd j
theorem lefts_getD {A : List (List Rc)} {V : List Int} (q : Nat) : (lefts A V).getD q [] = (A.getD q []).drop (V.getD q 0).toNat := by
  by_cases hq : q < A.length
  · rw [getD_in _ _ _ (by rw [lefts_len]; exact hq), lefts_at A V q hq, getD_in A _ _ hq]
  · rw [getD_out _ _ _ (by rw [lefts_len]; exact hq), getD_out A _ _ hq]; simp
theorem lefts_has {A : List (List Rc)} {V : List Int} (o : OkV A V) (q : Nat) : (lefts A V).getD q [] = [] ↔ ¬ has A V q := by
  rw [lefts_getD, List.drop_eq_nil_iff]
  have := o.bd q
  unfold has
  omega
/-- Both come to the same. -/
theorem both_same {A : List (List Rc)} {V : List Int} {f : Int} {r r' : Rc} {q q' : Nat} {b b' : Bool} {V' V'' : List Int} {B' : List (List Rc)} (o : OkV A V) (x : NxR A V f r q b V') (y : RxR (lefts A V) V f r' q' b' B' V'') :
    r' = r ∧ q' = q ∧ b' = b ∧ V'' = V' ∧ B' = lefts A V' := by
  unfold RxR at y
  rw [lefts_len] at y
  rcases x with ⟨rfl, rfl, rfl, rfl, hx⟩ | ⟨rfl, i, h1, h2, h3, h4, h5, rfl⟩ <;> rcases y with ⟨rfl, rfl, rfl, rfl, rfl, hy⟩ | ⟨rfl, i', tl, k1, k2, k3, k4, rfl, rfl⟩
  · exact ⟨rfl, rfl, rfl, rfl, rfl⟩
  · exfalso
    have := (lefts_has o q').2 (by rw [k2]; exact hx i' k1)
    rw [this] at k4; cases k4
  · exfalso
    have := (lefts_has o q).1 (by rw [h2]; exact hy i h1)
    exact this h4
  · have hii : i' = i := by
      rcases Nat.lt_trichotomy i' i with h | h | h
      · exfalso
        have := (lefts_has o q').2 (by rw [k2]; exact h3 i' h)
        rw [this] at k4; cases k4
      · exact h
      · exfalso
        have := (lefts_has o q).1 (by rw [h2]; exact k3 i h)
        exact this h4
    subst hii
    obtain rfl : q' = q := by rw [h2, k2]
    rw [lefts_getD] at k4
    have hu := o.bd q'
    obtain ⟨u, hu'⟩ : ∃ u : Nat, V.getD q' 0 = (u : Int) := ⟨(V.getD q' 0).toNat, by omega⟩
    rw [hu', Int.toNat_natCast] at h5 k4
    have hul : u < (A.getD q' []).length := by
      unfold has at h4; rw [hu'] at h4; omega
    rw [List.drop_eq_getElem_cons hul] at k4
    obtain ⟨e1, e2⟩ := List.cons.inj k4
    rw [List.getElem?_eq_getElem hul, Option.some.injEq] at h5
    refine ⟨by rw [← e1, h5], rfl, rfl, rfl, ?_⟩
    have hqV : q' < V.length := by rw [o.len, h2]; exact nth0_lt (by omega) _ _
    refine List.ext_getElem (by simp [lefts_len]) fun j hj1 hj2 => ?_
    rw [List.length_set, lefts_len] at hj1
    rw [lefts_at A _ j hj1, getD_set]
    by_cases hj : j = q'
    · subst hj
      rw [List.getElem_set_self, if_pos ⟨rfl, hqV⟩, hu', ← e2]
      rw [getD_in A _ _ (by assumption)]
      congr 1
    · rw [List.getElem_set_ne (by omega), if_neg (by intro k; exact hj k.1), lefts_at A V j hj1]
theorem leftS_take (A : List (List Rc)) (V : List Int) (o : OkV A V) : ∀ i, i ≤ A.length → leftS A V i = ((total ((lefts A V).take i) : Nat) : Int)
  | 0, _ => by simp [leftS, total]
  | i + 1, hi => by
    have hi' : i < A.length := by omega
    rw [leftS, leftS_take A V o i (by omega), total_take (lefts A V) i (by rw [lefts_len]; exact hi'), lefts_at A V i hi']
    have := o.bd i
    have e : (A.getD i []) = A[i] := getD_in A _ _ hi'
    rw [e] at this ⊢
    rw [List.length_drop]
    omega
theorem leftS_eq {A : List (List Rc)} {V : List Int} (o : OkV A V) : leftS A V A.length = ((total (lefts A V) : Nat) : Int) := by
  rw [leftS_take A V o _ (Nat.le_refl _), List.take_of_length_le (by rw [lefts_len]; exact Nat.le_refl _)]
theorem lefts_small {A : List (List Rc)} {V : List Int} {m : Nat} (hb : ∀ L ∈ A, L.length < m) : ∀ L ∈ lefts A V, L.length < m := by
  intro L hL
  obtain ⟨i, hi, rfl⟩ := List.mem_iff_getElem.1 hL
  have hi' : i < A.length := by rw [lefts_len] at hi; exact hi
  rw [lefts_at A V i hi', List.length_drop]
  have := hb _ (List.getElem_mem hi')
  omega
theorem le_sum : ∀ (l : List Nat) (x : Nat), x ∈ l → x ≤ l.sum
  | [], _, h => by cases h
  | y :: l, x, h => by
    rw [List.sum_cons]
    rcases List.mem_cons.1 h with rfl | h
    · omega
    · have := le_sum l x h; omega
theorem total_small {A : List (List Rc)} {m : Nat} (h : total A ≤ m) : ∀ L ∈ A, L.length ≤ m := by
  intro L hL
  have := le_sum (A.map List.length) L.length (List.mem_map_of_mem hL)
  unfold total at h
  omega
end Go.Proofs
