/-
 FROM THE ABSTRACT RUN TO THE MACHINE'S: closed calls.
-/
import Derived.Test.YtfcajloeknedeaaGreatOxM
set_option linter.unusedSimpArgs false
set_option linter.unusedVariables false
namespace Go.Ox
variable {D : Prop}
open Go.RowKit

def h0 : AHeap := ⟨fun _ => none, 0⟩
def ρ0 : Emb := fun _ => none

theorem HR.none (w : World) : HR ρ0 h0 w :=
 ⟨fun _ _ => rfl, fun _ _ => rfl, (fun β e k => by cases k), (fun β e b k => by cases k), (fun β γ e f b c k => by cases k)⟩

theorem Step.below {ρ ρ' : Emb} {h h' : AHeap} {w w' : World} (st : Step D ρ ρ' h h' w w') (hno : ∀ B, ¬ Own ρ h B) : Below w.heap.size w w' :=
 ⟨st.os, st.tape, st.output, st.size, fun k hk => st.frame k hk (hno k)⟩

def isTrue (r : Option (Value × AHeap)) : Bool := match r with
 | some (.bool true, _) => true
 | _ => false

theorem isTrue_spec {r : Option (Value × AHeap)} (h : isTrue r = true) : ∃ h', r = some (.bool true, h') := by
 unfold isTrue at h
 split at h
 ·exact ⟨_, rfl⟩
 ·cases h

theorem named_of {P : Program} (h : P.funcs.toList.all (fun fn => !(fn.name == "runtime.NumGoroutine")) = true) : Named P := by
 intro g fn hg
 rw [List.all_eq_true] at h
 have := h fn (by
  rw [Array.mem_toList_iff]
  exact Array.mem_of_getElem? hg)
 simpa using this

theorem closed_calls {P : Program} [Ext P] (hP : Named P) (hm : P.follows .mixedOrders = true) {n : Nat} {f : FuncId} (h : isTrue (aCall P n (.fn f) [] h0) = true) (w : World) :
  Calls P f #[] w fun e w' => e = .returned (.bool true) ∧ Below w.heap.size w w' := by
 obtain ⟨h', hr⟩ := isTrue_spec h
 obtain ⟨_, hc⟩ := aCall_sound hP hm n (.fn f) [] h0 _ _ hr
 refine (hc ρ0 #[] w trivial (HR.none w)).mono ?_
 rintro e w' ⟨x, ρ', rfl, hv, st⟩
 rw [hv.bool_inv]
 exact ⟨rfl, st.below fun B ⟨β, e, b, k, _⟩ => by cases k⟩
end Go.Ox
