/-
  A part of the proof of MeterResets: what this program's functions do on an abstract heap. CONDITIONS: none.
-/
import Derived.Test.YtbpkinmooliibaaOxM5
set_option linter.unusedSimpArgs false
set_option linter.unusedVariables false
namespace Go.Proofs
open Go Go.Ox
set_option maxRecDepth 100000
set_option maxHeartbeats 2000000
/-- A meter at p, with its measures at b. -/
structure Mt (h : AHeap) (p b : Nat) (L : List Ms) : Prop where
  ptr : h.get p = some (.cells false 0 [.slice (some ⟨b, 0, none⟩) L.length L.length] 49)
  row : h.get b = some (.cells false 4 (L.flatMap Ms.cells) 37)
  lp : p < h.next
  lb : b < h.next
theorem Mt.to {h h' : AHeap} {p b : Nat} {L : List Ms} (m : Mt h p b L) {ex : List Nat} (f : Fr h h' ex) (h1 : ¬ p ∈ ex) (h2 : ¬ b ∈ ex) : Mt h' p b L :=
  ⟨f.at m.ptr m.lp h1, f.at m.row m.lb h2, Nat.lt_of_lt_of_le m.lp f.next, Nat.lt_of_lt_of_le m.lb f.next⟩
theorem Mt.upd {h h' : AHeap} {p b : Nat} {L L' : List Ms} (m : Mt h p b L) (f : Fr h h' [b]) (hr : h'.get b = some (.cells false 4 (L'.flatMap Ms.cells) 37)) (hl : L'.length = L.length) (hpb : p ≠ b) : Mt h' p b L' :=
  ⟨by rw [hl]; exact f.at m.ptr m.lp (by simpa using hpb), hr, Nat.lt_of_lt_of_le m.lp f.next, Nat.lt_of_lt_of_le m.lb f.next⟩

theorem New_mt (n : Int) (m : Nat) (hm : (if 0 < (if 12 < n then 12 else n) then (if 12 < n then 12 else n) else 0) = (m : Int)) (hm' : m ≤ 12) (h : AHeap) (K : Value → AHeap → Prop)
    (hk : ∀ p b h', Fr h h' [] → h.next ≤ p → h.next ≤ b → p ≠ b → Mt h' p b (List.replicate m zM) → K (.pointer (some ⟨p, 0, none⟩)) h') : wpF Try.prog (.fn 7) [.int .i64 n] h K := by
  refine new_any n m hm hm' h K ?_
  have hz := zeros_flat (f := Ms.cells) zM m
  rw [show Ms.cells zM = [.int .i64 0, .int .i64 0, .int .i64 0, .int .i64 0] from rfl] at hz
  rw [hz]
  refine hk (h.next + 1) h.next _ ((Fr.push h _).to_push _) (by omega) (by omega) (by omega) ⟨?_, ?_, by simp, by simp; omega⟩
  · simp only [AHeap.get_set, AHeap.get_push, AHeap.get_del, AHeap.next_set, AHeap.next_push, AHeap.next_del, if_true, List.length_replicate]
  · have n1 : (h.next = h.next + 1) = False := by simp
    simp only [AHeap.get_set, AHeap.get_push, AHeap.get_del, AHeap.next_set, AHeap.next_push, AHeap.next_del, n1, if_true, if_false]

theorem Add_mt (p b : Nat) (L : List Ms) (x : Ac) (h : AHeap) (K : Value → AHeap → Prop) (m : Mt h p b L) (hpb : p ≠ b)
    (hk : ∀ h', Fr h h' [b] → Mt h' p b (addA L x) → K (.tuple #[]) h') : wpF Try.prog (.fn 8) [.pointer (some ⟨p, 0, none⟩), .int .i64 x.op, .agg (.int .i64 x.k :: .int .i64 x.o :: .int .i64 x.u :: tops).toArray] h K :=
  Add_any p b L x.op x.k x.o x.u tops rfl rfl h K m.ptr m.row m.lp m.lb fun h' f1 f2 => hk h' f1 (m.upd f1 f2 (addL_length ..) hpb)

def foldA (L : List Ms) (A : List Ac) : List Ms := A.foldl addA L
theorem foldA_length : ∀ (A : List Ac) (L : List Ms), (foldA L A).length = L.length
  | [], _ => rfl
  | x :: A, L => by
    show (foldA (addA L x) A).length = _
    rw [foldA_length A]; exact addL_length ..
theorem foldA_take (L : List Ms) (A : List Ac) (i : Nat) (hi : i < A.length) : foldA L (A.take (i + 1)) = addA (foldA L (A.take i)) A[i] := by
  simp only [foldA]
  rw [List.take_succ_eq_append_getElem hi, List.foldl_append]; rfl
theorem foldA_perm {A B : List Ac} (h : A.Perm B) (L : List Ms) : foldA L A = foldA L B := by
  refine h.foldl_eq' (fun x _ y _ z => ?_) L
  exact addA_comm z y x |>.symm ▸ rfl
end Go.Proofs
