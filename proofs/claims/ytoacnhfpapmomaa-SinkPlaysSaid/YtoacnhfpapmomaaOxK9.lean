/-
  Sink: lists that are handed in. CONDITIONS: none.
-/
import Derived.Test.YtoacnhfpapmomaaOxK7
set_option linter.unusedSimpArgs false
set_option linter.unusedVariables false
namespace Go.Proofs
open Go Go.Ox
set_option maxRecDepth 100000
def AkR (_ : AHeap) (xs : List Value) (a : Ak) : Prop := xs = a.cells
def RcR (_ : AHeap) (xs : List Value) (a : Rc) : Prop := xs = a.cells
section
variable {H : Type} {enc : TypeId × Value → H} {W : World}
theorem impAk : IsImp enc Try.prog W 31 AkR := by
  refine IsImp.conv (IsImp.flat (n := 9) (s := [true, true, true, true]) (by decide +kernel)) ?_ (fun _ _ _ _ h _ => h)
  rintro h xs ns ⟨rfl, hl, _⟩
  match ns, hl with
  | [a, b, c, d], _ => exact ⟨⟨a, b, ⟨c, d⟩⟩, rfl⟩
theorem impAks : IsImp enc Try.prog W 22 (SlR AkR 31) := IsImp.slice (k := 3) (by rfl) (by rfl) impAk
theorem impRc : IsImp enc Try.prog W 29 RcR := by
  refine IsImp.conv (IsImp.flat (n := 9) (s := [true, true]) (by decide +kernel)) ?_ (fun _ _ _ _ h _ => h)
  rintro h xs ns ⟨rfl, hl, _⟩
  match ns, hl with
  | [a, b], _ => exact ⟨⟨a, b⟩, rfl⟩
theorem impRcs : IsImp enc Try.prog W 32 (SlR RcR 29) := IsImp.slice (k := 1) (by rfl) (by rfl) impRc
theorem impI : IsImp enc Try.prog W 3 (IntR .i64) := IsImp.int (by rfl)
end
theorem rows_flat {α : Type} {f : α → List Value} {A : List α} {rows : List (List Value)} (hl : rows.length = A.length) (hr : ∀ (i : Nat) r x, rows[i]? = some r → A[i]? = some x → r = f x) : rows.flatten = A.flatMap f := by
  have : rows = A.map f := by
    apply List.ext_getElem (by simpa using hl)
    intro i h1 h2
    have := hr i _ _ (List.getElem?_eq_getElem h1) (List.getElem?_eq_getElem (by simpa using h2))
    simpa using this
  rw [this, List.flatMap_def]
theorem acts_arg {h : AHeap} {x : Value} {A : List Ak} (hA : SlR AkR 31 h [x] A) : ∃ a c, x = .slice a A.length c ∧ Arg A a h := by
  obtain ⟨a, cap, h1, _, _, h2, _, _⟩ := hA
  simp only [List.cons.injEq, and_true] at h1
  refine ⟨a, cap, h1, h2.imp id ?_⟩
  rintro ⟨b, rows, h3, h4, h5, h6, h7⟩
  exact ⟨b, h3, h4, by rw [h5, rows_flat (f := Ak.cells) h6 h7]⟩
/-- Records that are handed in. -/
theorem recs_arg {h : AHeap} {x : Value} {A : List Rc} (hA : SlR RcR 29 h [x] A) : ∃ a c, x = .slice a A.length c ∧ A.length ≤ c ∧ c < 9223372036854775808 ∧ (A = [] ∨ ∃ b, a = some ⟨b, 0, none⟩ ∧ b < h.next ∧ h.get b = some (.cells true 0 (A.flatMap Rc.cells) 29)) ∧ (a = none → c = 0) ∧ (∀ x, a = some x → ∃ b, x = ⟨b, 0, none⟩) := by
  obtain ⟨a, cap, h1, q1, q2, h2, q3, q4⟩ := hA
  simp only [List.cons.injEq, and_true] at h1
  refine ⟨a, cap, h1, q1, q2, h2.imp id ?_, q3, q4⟩
  rintro ⟨b, rows, h3, h4, h5, h6, h7⟩
  exact ⟨b, h3, h4, by rw [h5, rows_flat (f := Rc.cells) h6 h7]⟩
theorem arg_sl {h : AHeap} {a : Option Addr} {l ca m : Nat} (hl : l ≤ ca) (hc : ca < 9223372036854775808) (hm : m ≤ l) (h1 : a = none → ca = 0) (h2 : ∀ x, a = some x → ∃ b, x = ⟨b, 0, none⟩) :
    aSlice Try.prog h 32 (.slice a l ca) none (some (.int .i64 (m : Int))) none = some (.slice a m ca) := by
  cases a with
  | none =>
    obtain rfl := h1 rfl
    obtain rfl : l = 0 := by omega
    obtain rfl : m = 0 := by omega
    exact sl_nil_to (by rfl) (by rfl)
  | some x =>
    obtain ⟨b, rfl⟩ := h2 x rfl
    have hb : ca < big := by have : (9223372036854775808 : Nat) < big := by simp [big]
                             omega
    have hcap : capN ca = ca := by unfold capN; rw [if_pos hb]
    exact sl_to (by rfl) (by rfl) (by omega) (by omega)
theorem arg_rs {h : AHeap} {a : Option Addr} {A : List Rc} (hg : A = [] ∨ ∃ b, a = some ⟨b, 0, none⟩ ∧ b < h.next ∧ h.get b = some (.cells true 0 (A.flatMap Rc.cells) 29)) : Rs Rc.cells 2 h a A := by
  rcases hg with hg | ⟨b, h1, h2, h3⟩
  · exact .inl hg
  · refine .inr ⟨b, 0, true, 0, _, 29, h1, h2, h3, ?_, ?_⟩
    · rw [List.drop_zero, ← flat_length Rc.len A, List.take_length]
    · rw [flat_length Rc.len]; omega
theorem SameR_len (L : List Rc) (a b : Option Addr) (c d m : Nat) (hm : L.length = m) (h : AHeap) (K : Value → AHeap → Prop) (ra : Rs Rc.cells 2 h a L) (rb : Rs Rc.cells 2 h b L) (hl : L.length < 1000000) (hk : K (.bool true) h) : wpF Try.prog (.fn 12) [.slice a m c, .slice b m d] h K := by
  subst hm; exact SameR_any L a b c d h K ra rb hl hk
theorem SameI_len (L : List Int) (a b : Option Addr) (c d m : Nat) (hm : L.length = m) (h : AHeap) (K : Value → AHeap → Prop) (ra : Rs icell 1 h a L) (rb : Rs icell 1 h b L) (hl : L.length < 1000000) (hk : K (.bool true) h) : wpF Try.prog (.fn 22) [.slice a m c, .slice b m d] h K := by
  subst hm; exact SameI_any L a b c d h K ra rb hl hk
/-- A slice that was just built. -/
theorem built_rs {α : Type} {f : α → List Value} {k : Nat} {h : AHeap} {b : Nat} {ro : Bool} {sz : Nat} {C : List Value} {e : TypeId} {L : List α} (hf : ∀ x, (f x).length = k) (hb : b < h.next) (hg : h.get b = some (.cells ro sz C e)) (hC : C = L.flatMap f) : Rs f k h (some ⟨b, 0, none⟩) L := by
  subst hC
  refine .inr ⟨b, 0, ro, sz, _, e, rfl, hb, hg, ?_, ?_⟩
  · rw [List.drop_zero, ← flat_length hf L, List.take_length]
  · rw [flat_length hf]; omega
end Go.Proofs
