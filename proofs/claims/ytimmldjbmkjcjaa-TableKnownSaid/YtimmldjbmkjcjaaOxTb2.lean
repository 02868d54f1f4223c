/-
  Sorted keys: what slices.SortedFunc over maps.Keys does at the machine. CONDITIONS: none.
-/
import Derived.Test.YtimmldjbmkjcjaaOxLyT
import Derived.Test.YtimmldjbmkjcjaaOxTb1
import Derived.Test.YtimmldjbmkjcjaaOxSo
import Derived.Test.YtimmldjbmkjcjaaChecked
import Derived.Shelf.SlSortCmp.NoneTotal
import Derived.Shelf.SlIterI.Collect
import Derived.RangeFuncBound
import Derived.WalkKit
set_option linter.unusedSimpArgs false
set_option linter.unusedVariables false
namespace Go.Proofs
open Go Go.Ox Go.RowKit Go.Maps Go.Sort Go.Shelf
theorem tNamed : Named Try.prog := named_of (by decide +kernel)
def skNo : SkNo := ⟨22, 31, 24, 21, 3⟩
theorem swoGk (g : Int) : SWO (ltOf (gkCmp g)) := by
  refine ⟨fun x => ?_, fun x y z h1 h2 => ?_, fun x y z h1 h2 => ?_⟩
  · simp only [ltOf, decide_eq_false_iff_not, gkCmp_neg]; omega
  · simp only [ltOf, decide_eq_true_eq, gkCmp_neg] at *; omega
  · simp only [ltOf, decide_eq_false_iff_not, gkCmp_neg] at *; omega
theorem totGk (g x y : Int) (h1 : ltOf (gkCmp g) x y = false) (h2 : ltOf (gkCmp g) y x = false) : x = y := by
  simp only [ltOf, decide_eq_false_iff_not, gkCmp_neg] at *; omega
theorem wpGk (g a b : Int) : @wpF Try.prog (noExt Try.prog) (.fn 24) [.int .i64 a, .int .i64 b, .pointer (some ⟨0, 0, none⟩)] (ordH 21 g) (fun v _ => v = .int .i64 (gkCmp g a b)) :=
  @in2_ok (noExt Try.prog) (fun f _ => ⟨rfl, rfl⟩) a b g 0 1 2 _ ⟨⟨_, _, _, rfl⟩, ⟨_, _, _, rfl⟩, ⟨_, _, _, _, rfl⟩⟩ _ fun _ _ => rfl
set_option maxRecDepth 100000 in
set_option maxHeartbeats 2000000 in
theorem skSays : SkSays Try.prog skNo := by
  intro w Bm b nn b7 o7 b3 o3 bt ot g D ow hBm hm hown hmax
  show Calls Try.prog 22 #[.func (.func 31) #[] #[.pointer (some ⟨Bm, 0, none⟩)], .func (.func 24) #[] #[.pointer (some ⟨b7, o7, none⟩)]] w _
  refine (callsIn_wide (n := 6)).1 ?_
  have hN : Maps.size D ≤ maxLen := by
    have : (17592186044416 : Nat) ≤ maxLen := by decide
    omega
  have hseq : SeqGives Fence.wide 3 Try.prog 31 #[.pointer (some ⟨Bm, 0, none⟩)] encZ (fun ss => ss.Perm (intKeys D)) (Maps.size D) w :=
    AnyZI.keys_gives (ρ := Try.keys1L_ren) Try.keys1L Fence.wide _ trivial rfl (by omega) Bm b nn D w hBm hm hown
  have cC := AnyZI.collect_in (ρ := Try.collectL_ren) Try.collectL Fence.wide 5 trivial trivial rfl (by omega) 31 #[.pointer (some ⟨Bm, 0, none⟩)] trivial (enters_of Try.func31 (by kernel_rfl) rfl) _ _ hN (by omega) w hseq.bounded
  change CallsIn _ _ Try.prog 29 _ _ _ at cC
  have hfC : Fence.wide.fn 29 := trivial
  have hfS : Fence.wide.fn 30 := trivial
  refine callsIn_of_wp Try.func22 rfl trivial ?_ rfl
  simp only [Try.ntmps22, List.size_toArray, List.length_cons, List.length_nil, Nat.reduceAdd, Nat.reduceSub, Array.replicate_succ, Array.replicate_zero, List.push_toArray, List.append_toArray, List.nil_append, List.cons_append]
  gi_wp2_with (gi_at_call 29; refine cC.mono ?_; rintro e W ⟨v, ss, rfl, ⟨hS, hlen⟩, hrow, hnil, hb⟩)
  have hrow3 : W.ownsRow w.heap.size 3 1 v ss.length (ss.map encZ) := hrow
  rcases hrow.2 with ⟨rfl, hz⟩ | ⟨gb, cap, cur, rfl, hbase, hgb, r1, r2, r3, r4⟩
  · have hss : ss = [] := List.eq_nil_of_length_eq_zero hz
    subst hss
    have cN : ∀ W', CallsIn Fence.wide 5 Try.prog 30 #[.slice none 0 0, .func (.func 24) #[] #[.pointer (some ⟨b7, o7, none⟩)]] W' fun e w' => e = .returned (.tuple #[]) ∧ w' = W' := fun W' =>
      callsIn_wide.2 (AnyF.slices_SortFunc_none (ρ := Try.sortL_ren) { Try.sortL with } none 0 _ W')
    gi_wp2_with (gi_at_call 30; refine (cN _).mono ?_; rintro e w' ⟨rfl, rfl⟩)
    go_ret
    exact ⟨.slice none 0 0, [], rfl, hS, hrow3, by simp, hb⟩
  · have hH : Holds (Value.int .i64) W gb 0 ss.toArray := holds_of_blockI hgb (by simpa [encZ] using r4)
    have hgl : gb < W.heap.size := (Array.getElem?_eq_some_iff.1 hgb).1
    have hsz : ss.toArray.size < 4611686018427387904 := by
      simp; omega
    have hlt := ow.lt
    have ow' := ow.keep (hb.block b7 hlt.1) (hb.block b3 hlt.2.1) (hb.block bt hlt.2.2)
    have hcmp := cmp_lays tNamed (Checked.mixed Try.checked) (gc := 24) (wpGk g) ow' gb 0 ss.toArray.size (by omega) (by omega) (by omega)
    have cS : CallsIn Fence.wide 5 Try.prog 30 #[.slice (some ⟨gb, 0, none⟩) ss.length cap, .func (.func 24) #[] #[.pointer (some ⟨b7, o7, none⟩)]] W _ :=
      callsIn_wide.2 (Any.slices_SortFunc_total (ρ := Try.sortL_ren) Try.sortL (Value.int .i64) (fun _ => rfl) (gkCmp g) (swoGk g) 24 #[.pointer (some ⟨b7, o7, none⟩)] gb 0 cap ss.toArray W (enters_of Try.func24 (by kernel_rfl) rfl) hcmp hH hgl hsz (totGk g))
    gi_wp2_with (gi_at_call 30; refine cS.mono ?_; rintro e w' ⟨rfl, nn', os, rfl⟩)
    go_ret
    exact ⟨_, ss, rfl, hS, by rw [← keySort_merge]; exact ownsRow_sortedI (by simp) hbase hgb r1 r2 r3, hnil, hb.grown (grownBy_sortedI _) hb.size (fun j hj => by cases hj; exact hbase)⟩
theorem skUnder : Try.prog.underlying skNo.T = some (.int .i64) := Try.underlying3
theorem skBody : hasBody Try.prog skNo.s = true := by rfl
theorem skNext (f : FuncId) (args : List Value) (h : AHeap) (v : Value) (h' : AHeap) (hs : skApp skNo f args h = some (v, h')) : h.next ≤ h'.next := by
  obtain ⟨_, bm, b7, _, hr⟩ := skApp_inv hs
  obtain ⟨r, b3, bt, es, L, g, m, Tm, r7, r3, rt, s7, s3, st, T7, T3, Tt, _, _, _, _, _, _, _, _, h9⟩ := skRun_inv hr
  have := skOut_next skNo.T g L h
  rw [← h9] at this
  exact this
@[reducible] def skExt : Ext Try.prog := { fs := [], body := fun _ k => (by cases k), ok := fun _ k => (by cases k), xs := [skNo.s], app := skApp skNo, xnext := skNext, xok := skApp_ok skBody skUnder skSays }
end Go.Proofs
