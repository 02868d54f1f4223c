/-
  A part of the proof of MeterResets: what this program's functions do on an abstract heap. CONDITIONS: none.
-/
import Derived.Test.YtbpkinmooliibaaOxM4
set_option linter.unusedSimpArgs false
set_option linter.unusedVariables false
namespace Go.Proofs
open Go Go.Ox
set_option maxRecDepth 100000
set_option maxHeartbeats 2000000
/-- An act of the list that is handed in: its kind, its op, what was done. -/
structure Ac where
  kind : Int
  op : Int
  k : Int
  o : Int
  u : Int
/-- What is not looked at. -/
abbrev top : Value := .chan (some 0)
abbrev tops : List Value := [top, top, top, top, top, top]
def Ac.cells (x : Ac) : List Value := [.int .i64 x.kind, .int .i64 x.op, .int .i64 x.k, .int .i64 x.o, .int .i64 x.u, top, top, top, top, top, top]
theorem Ac.len (x : Ac) : x.cells.length = 11 := rfl
theorem acF (A : List Ac) (i : Nat) (hi : i < A.length) : (A.flatMap Ac.cells)[i * 11]? = some (.int .i64 A[i].kind) ∧ (A.flatMap Ac.cells)[i * 11 + 1]? = some (.int .i64 A[i].op) ∧ (A.flatMap Ac.cells)[i * 11 + 2]? = some (.int .i64 A[i].k) ∧ (A.flatMap Ac.cells)[i * 11 + 2 + 1]? = some (.int .i64 A[i].o) ∧ (A.flatMap Ac.cells)[i * 11 + 2 + 2]? = some (.int .i64 A[i].u) ∧
    ((A.flatMap Ac.cells).drop (i * 11 + 2)).take 9 = [.int .i64 A[i].k, .int .i64 A[i].o, .int .i64 A[i].u, top, top, top, top, top, top] ∧ (i * 11 + 2 + 9 ≤ (A.flatMap Ac.cells).length) = True := by
  refine ⟨flat_get' Ac.len A i hi (by omega), flat_get Ac.len A i 1 hi (by omega), flat_get Ac.len A i 2 hi (by omega), flat_get Ac.len A i 3 hi (by omega), flat_get Ac.len A i 4 hi (by omega), ?_, ?_⟩
  · rw [row_sub (flat_row Ac.len A i hi) (by omega)]; rfl
  · have := flat_le Ac.len A i hi
    exact eq_true (by omega)
def addA (L : List Ms) (x : Ac) : List Ms := addL L x.op x.k x.o x.u

theorem msW (W : List Ms) (o : Nat) (ho : o < W.length) : (W.flatMap Ms.cells)[o * 4]? = some (.int .i64 W[o].a) ∧ (W.flatMap Ms.cells)[o * 4 + 1]? = some (.int .i64 W[o].b) ∧ (W.flatMap Ms.cells)[o * 4 + 2]? = some (.int .i64 W[o].c) ∧ (W.flatMap Ms.cells)[o * 4 + 3]? = some (.int .i64 W[o].d) ∧
    (o * 4 + 1 ≤ (W.flatMap Ms.cells).length) = True ∧ (o * 4 + 1 + 1 ≤ (W.flatMap Ms.cells).length) = True ∧ (o * 4 + 2 + 1 ≤ (W.flatMap Ms.cells).length) = True ∧ (o * 4 + 3 + 1 ≤ (W.flatMap Ms.cells).length) = True ∧ (o * 4 + 4 ≤ (W.flatMap Ms.cells).length) = True := by
  have := flat_le Ms.len W o ho
  exact ⟨flat_get' Ms.len W o ho (by omega), flat_get Ms.len W o 1 ho (by omega), flat_get Ms.len W o 2 ho (by omega), flat_get Ms.len W o 3 ho (by omega), eq_true (by omega), eq_true (by omega), eq_true (by omega), eq_true (by omega), eq_true (by omega)⟩
theorem recW (W : List Ms) (o : Nat) (ho : o < W.length) (u v : Int) : splice (W.flatMap Ms.cells) (o * 4) [.int .i64 (w64 (W[o].a + 1)), .int .i64 (w64 (W[o].b + u)), .int .i64 (w64 (W[o].c + v)), .int .i64 W[o].d] = (W.set o (recM W[o] u v)).flatMap Ms.cells := flat_store Ms.len W o (recM W[o] u v) ho
theorem waitW (W : List Ms) (o : Nat) (ho : o < W.length) : splice (W.flatMap Ms.cells) (o * 4 + 3) [.int .i64 (w64 (W[o].d + 1))] = (W.set o (waitM W[o])).flatMap Ms.cells := flat_put Ms.len W o 3 _ (waitM W[o]) ho (by omega) rfl
theorem addM_comm (k o u k' o' u' : Int) (x : Ms) : addM k o u (addM k' o' u' x) = addM k' o' u' (addM k o u x) := by
  have w : ∀ a b c : Int, w64 (w64 (a + b) + c) = w64 (w64 (a + c) + b) := by
    intro a b c
    simp only [w64, IntKind.wrap, IntKind.bits, IntKind.signed, Bool.true_and, decide_eq_true_eq]
    split <;> split <;> split <;> split <;> omega
  unfold addM
  split <;> split <;> (try split) <;> (try split) <;> simp_all [waitM, recM]
theorem addA_comm (L : List Ms) (x y : Ac) : addA (addA L x) y = addA (addA L y) x := by
  unfold addA
  by_cases hx : 0 ≤ x.op ∧ x.op < L.length
  · by_cases hy : 0 ≤ y.op ∧ y.op < L.length
    · obtain ⟨i, hi⟩ : ∃ i : Nat, x.op = i := ⟨x.op.toNat, by omega⟩
      obtain ⟨j, hj⟩ : ∃ j : Nat, y.op = j := ⟨y.op.toNat, by omega⟩
      rw [hi, hj]
      have h1 : i < L.length := by omega
      have h2 : j < L.length := by omega
      rw [addL_in L i h1, addL_in L j h2, addL_in _ j (by simpa using h2), addL_in _ i (by simpa using h1)]
      by_cases hij : i = j
      · subst hij
        simp only [List.getElem_set_self, List.set_set, addM_comm]
      · rw [List.getElem_set_ne (by omega), List.getElem_set_ne (by omega), List.set_comm _ _ hij]
    · rw [addL_out L y.op _ _ _ hy, addL_out _ y.op _ _ _ (by rw [addL_length]; exact hy)]
  · rw [addL_out L x.op _ _ _ hx, addL_out _ x.op _ _ _ (by rw [addL_length]; exact hx)]
end Go.Proofs
