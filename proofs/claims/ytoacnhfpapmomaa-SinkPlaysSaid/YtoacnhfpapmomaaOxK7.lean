/-
  SinkOnce's body. CONDITIONS: none.
-/
import Derived.Test.YtoacnhfpapmomaaOxK6
import Derived.Test.YtoacnhfpapmomaaOxY
set_option linter.unusedSimpArgs false
set_option linter.unusedVariables false
namespace Go.Proofs
open Go Go.Ox
set_option maxRecDepth 100000
set_option maxHeartbeats 4000000
structure Ak where
  kind : Int
  no : Int
  rc : Rc
def Ak.cells (x : Ak) : List Value := [.int .i64 x.kind, .int .i64 x.no, .int .i64 x.rc.key, .int .i64 x.rc.val]
theorem Ak.len (x : Ak) : x.cells.length = 4 := rfl
theorem akF (A : List Ak) (i : Nat) (hi : i < A.length) : (A.flatMap Ak.cells)[i * 4]? = some (.int .i64 A[i].kind) ∧ (A.flatMap Ak.cells)[i * 4 + 1]? = some (.int .i64 A[i].no) ∧ ((A.flatMap Ak.cells).drop (i * 4 + 2)).take 2 = A[i].rc.cells ∧ (i * 4 + 2 + 2 ≤ (A.flatMap Ak.cells).length) = True := by
  have := flat_le Ak.len A i hi
  refine ⟨flat_get' Ak.len A i hi (by omega), flat_get Ak.len A i 1 hi (by omega), ?_, eq_true (by omega)⟩
  rw [row_sub (flat_row Ak.len A i hi) (by omega)]; rfl
def Arg (A : List Ak) (a : Option Addr) (h : AHeap) : Prop := A = [] ∨ ∃ b, a = some ⟨b, 0, none⟩ ∧ b < h.next ∧ h.get b = some (.cells true 0 (A.flatMap Ak.cells) 31)

structure MI (R : List Rc) (C : List Ct) (last : Option Int) (i : Int) : Prop where
  s : Sorted C
  m : ∀ a b (ha : a < C.length) (hb : b < C.length), a < b → C[a].fin ≤ C[b].fin
  f : ∀ a (ha : a < C.length), C[a].fin ≤ R.length
  n : ∀ a (ha : a < C.length), C[a].no ≤ i
  l : ∀ m, last = some m → m ≤ i
theorem MI.nil (R : List Rc) (last : Option Int) (i : Int) (h : ∀ m, last = some m → m ≤ i) : MI R [] last i := ⟨fun _ _ h => by simp at h, fun _ _ h => by simp at h, fun _ h => by simp at h, fun _ h => by simp at h, h⟩
theorem MI.up {R : List Rc} {C : List Ct} {last : Option Int} {i j : Int} (m : MI R C last i) (h : i ≤ j) : MI R C last j := ⟨m.s, m.m, m.f, fun a ha => by have := m.n a ha; omega, fun q hq => by have := m.l q hq; omega⟩
theorem MI.take {R : List Rc} {C : List Ct} {last : Option Int} {i : Int} (m : MI R C last i) (x : Rc) : MI (R ++ [x]) C last i := ⟨m.s, m.m, fun a ha => by have := m.f a ha; simp; omega, m.n, m.l⟩
theorem MI.cut {R : List Rc} {C : List Ct} {last : Option Int} {i j : Int} (m : MI R C last i) (h : i < j) : MI R (C ++ [⟨j, R.length⟩]) (some j) j := by
  have g : ∀ a (ha : a < (C ++ [(⟨j, R.length⟩ : Ct)]).length), (a < C.length ∧ ∃ h, (C ++ [(⟨j, R.length⟩ : Ct)])[a] = C[a]'h) ∨ (a = C.length ∧ (C ++ [(⟨j, R.length⟩ : Ct)])[a] = ⟨j, R.length⟩) := by
    intro a ha
    by_cases hac : a < C.length
    · exact .inl ⟨hac, hac, List.getElem_append_left hac⟩
    · refine .inr ⟨by simp at ha; omega, ?_⟩
      rw [List.getElem_append_right (by omega)]; simp
  refine ⟨?_, ?_, ?_, ?_, ?_⟩
  · intro a b ha hb hab
    rcases g a ha with ⟨k1, k2, k3⟩ | ⟨k1, k3⟩ <;> rcases g b hb with ⟨q1, q2, q3⟩ | ⟨q1, q3⟩
    · rw [k3, q3]; exact m.s a b k2 q2 hab
    · rw [k3, q3]; have := m.n a k2; show _ < j; omega
    · omega
    · omega
  · intro a b ha hb hab
    rcases g a ha with ⟨k1, k2, k3⟩ | ⟨k1, k3⟩ <;> rcases g b hb with ⟨q1, q2, q3⟩ | ⟨q1, q3⟩
    · rw [k3, q3]; exact m.m a b k2 q2 hab
    · rw [k3, q3]; exact m.f a k2
    · omega
    · omega
  · intro a ha
    rcases g a ha with ⟨k1, k2, k3⟩ | ⟨k1, k3⟩
    · rw [k3]; exact m.f a k2
    · rw [k3]; exact Nat.le_refl _
  · intro a ha
    rcases g a ha with ⟨k1, k2, k3⟩ | ⟨k1, k3⟩
    · rw [k3]; have := m.n a k2; omega
    · rw [k3]; exact Int.le_refl _
  · intro q hq; cases hq; exact Int.le_refl _
theorem MI.above {R : List Rc} {C : List Ct} {last : Option Int} {i j : Int} (m : MI R C last i) (h : i < j) : above last j := fun q hq => by have := m.l q hq; omega
theorem parts_all {R : List Rc} {C : List Ct} {last : Option Int} {i : Int} {n : Nat} (m : MI R C last i) (h : Parts C i n) : n = C.length := by
  obtain ⟨h1, _, h3⟩ := h
  by_cases hn : n < C.length
  · have := h3 n hn (Nat.le_refl _)
    have := m.n n hn
    omega
  · omega
theorem doneC_app (C : List Ct) (c : Ct) : doneC (C ++ [c]) = c.fin := by simp [doneC]
end Go.Proofs
