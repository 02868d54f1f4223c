/-
  A part of the proof of SourceKnown: what this program's functions do on an abstract heap. CONDITIONS: none.
-/
import Derived.Test.YtcgpbamkkhjoiaaProg
import Derived.Test.YtcgpbamkkhjoiaaOxW
set_option linter.unusedSimpArgs false
set_option linter.unusedVariables false
namespace Go.Proofs
open Go Go.Ox
set_option maxRecDepth 100000
theorem al_3 : alc Try.prog 3 = some (.cells false 0 [.int .i64 0] 3, ptrTo) := congrArg id (by rfl)
theorem al_4 : alc Try.prog 4 = some (.cells false 0 [.bool false] 4, ptrTo) := congrArg id (by rfl)
theorem al_37 : alc Try.prog 37 = some (.cells false 0 [.int .i64 0, .int .i64 0] 37, ptrTo) := congrArg id (by rfl)
theorem ap_22 {h : AHeap} (a b : Option Addr) (l c m d : Nat) : aAppend Try.prog h 22 (.slice a l c) (.slice b m d) = apF h 1 24 46 a l c b m d := aAppend_s (by rfl) (by rfl) (by rfl) (by rfl) (by rfl)
theorem ap_23 {h : AHeap} (a b : Option Addr) (l c m d : Nat) : aAppend Try.prog h 23 (.slice a l c) (.slice b m d) = apF h 1 8 3 a l c b m d := aAppend_s (by rfl) (by rfl) (by rfl) (by rfl) (by rfl)
theorem ap_46 {h : AHeap} (a b : Option Addr) (l c m d : Nat) : aAppend Try.prog h 46 (.slice a l c) (.slice b m d) = apF h 2 16 37 a l c b m d := aAppend_s (by rfl) (by rfl) (by rfl) (by rfl) (by rfl)
theorem ba_22_22 {h : AHeap} (ts : List TypeId) (x y : Value) : aBuiltin Try.prog h .append (22 :: 22 :: ts).toArray [x, y] = aAppend Try.prog h 22 x y := bi_append 22 22 ts x y (by rfl)
theorem ba_23_23 {h : AHeap} (ts : List TypeId) (x y : Value) : aBuiltin Try.prog h .append (23 :: 23 :: ts).toArray [x, y] = aAppend Try.prog h 23 x y := bi_append 23 23 ts x y (by rfl)
theorem ba_46_46 {h : AHeap} (ts : List TypeId) (x y : Value) : aBuiltin Try.prog h .append (46 :: 46 :: ts).toArray [x, y] = aAppend Try.prog h 46 x y := bi_append 46 46 ts x y (by rfl)
theorem bd_37 (ps : List (Nat × Value)) : aBuild Try.prog 37 ps = bdF (aFill (lk [(0, 1), (1, 1)]) [.int .i64 0, .int .i64 0] ps) := aBuild_of (by rfl) (by rfl) (by rfl) ps
theorem bd_52 (ps : List (Nat × Value)) : aBuild Try.prog 52 ps = bdF (aFill (lk [(0, 1), (1, 1)]) [.slice none 0 0, .slice none 0 0] ps) := aBuild_of (by rfl) (by rfl) (by rfl) ps
theorem bd_54 (ps : List (Nat × Value)) : aBuild Try.prog 54 ps = bdF (aFill (lk [(0, 1), (1, 1)]) [.slice none 0 0, .slice none 0 0] ps) := aBuild_of (by rfl) (by rfl) (by rfl) ps
theorem bs_22 (m : Nat) (ps : List (Nat × Value)) : bBuildSlice Try.prog 22 m ps = bsF 1 46 m (aFill (fun j => some (j * 1, 1)) (aZeros [.slice none 0 0] m) ps) := bBuildSlice_s (by rfl) (by rfl) (by rfl) (by rfl)
theorem bs_23 (m : Nat) (ps : List (Nat × Value)) : bBuildSlice Try.prog 23 m ps = bsF 1 3 m (aFill (fun j => some (j * 1, 1)) (aZeros [.int .i64 0] m) ps) := bBuildSlice_s (by rfl) (by rfl) (by rfl) (by rfl)
theorem bs_46 (m : Nat) (ps : List (Nat × Value)) : bBuildSlice Try.prog 46 m ps = bsF 2 37 m (aFill (fun j => some (j * 2, 2)) (aZeros [.int .i64 0, .int .i64 0] m) ps) := bBuildSlice_s (by rfl) (by rfl) (by rfl) (by rfl)
-- bool eq 4
theorem eq_23_eql_s (x y : Operand) (a : Addr) (l c : Nat) : aBin Try.prog .eql 23 x y (.slice (some a) l c) (.slice none 0 0) = some (.bool false) := congrArg id (by rfl)
theorem eq_23_eql_n (x y : Operand) (l c : Nat) : aBin Try.prog .eql 23 x y (.slice none l c) (.slice none 0 0) = some (.bool true) := congrArg id (by rfl)
theorem eq_23_neq_s (x y : Operand) (a : Addr) (l c : Nat) : aBin Try.prog .neq 23 x y (.slice (some a) l c) (.slice none 0 0) = some (.bool true) := congrArg id (by rfl)
theorem eq_23_neq_n (x y : Operand) (l c : Nat) : aBin Try.prog .neq 23 x y (.slice none l c) (.slice none 0 0) = some (.bool false) := congrArg id (by rfl)
theorem eq_28_eql_s (x y : Operand) (a : Addr) : aBin Try.prog .eql 28 x y (.pointer (some a)) (.pointer none) = some (.bool false) := congrArg id (by rfl)
theorem eq_28_eql_n (x y : Operand) : aBin Try.prog .eql 28 x y (.pointer none) (.pointer none) = some (.bool true) := congrArg id (by rfl)
theorem eq_28_neq_s (x y : Operand) (a : Addr) : aBin Try.prog .neq 28 x y (.pointer (some a)) (.pointer none) = some (.bool true) := congrArg id (by rfl)
theorem eq_28_neq_n (x y : Operand) : aBin Try.prog .neq 28 x y (.pointer none) (.pointer none) = some (.bool false) := congrArg id (by rfl)
-- eq of another type 37
theorem eq_46_eql_s (x y : Operand) (a : Addr) (l c : Nat) : aBin Try.prog .eql 46 x y (.slice (some a) l c) (.slice none 0 0) = some (.bool false) := congrArg id (by rfl)
theorem eq_46_eql_n (x y : Operand) (l c : Nat) : aBin Try.prog .eql 46 x y (.slice none l c) (.slice none 0 0) = some (.bool true) := congrArg id (by rfl)
theorem eq_46_neq_s (x y : Operand) (a : Addr) (l c : Nat) : aBin Try.prog .neq 46 x y (.slice (some a) l c) (.slice none 0 0) = some (.bool true) := congrArg id (by rfl)
theorem eq_46_neq_n (x y : Operand) (l c : Nat) : aBin Try.prog .neq 46 x y (.slice none l c) (.slice none 0 0) = some (.bool false) := congrArg id (by rfl)
theorem fa_52_0 (b o : Nat) : aField Try.prog 52 0 (.pointer (some ⟨b, o, none⟩)) = some (.pointer (some ⟨b, o, none⟩)) := congrArg id (by rfl)
theorem fa_52_1 (b o : Nat) : aField Try.prog 52 1 (.pointer (some ⟨b, o, none⟩)) = some (.pointer (some ⟨b, o + 1, none⟩)) := congrArg id (by rfl)
theorem fa_54_0 (b o : Nat) : aField Try.prog 54 0 (.pointer (some ⟨b, o, none⟩)) = some (.pointer (some ⟨b, o, none⟩)) := congrArg id (by rfl)
theorem fa_54_1 (b o : Nat) : aField Try.prog 54 1 (.pointer (some ⟨b, o, none⟩)) = some (.pointer (some ⟨b, o + 1, none⟩)) := congrArg id (by rfl)
theorem ia_22 (b o len cap : Nat) (k : IntKind) (i : Int) : aIndexAddr Try.prog 22 (.slice (some ⟨b, o, none⟩) len cap) (.int k i) = if 0 ≤ i ∧ i < len then some (.pointer (some ⟨b, o + i.toNat * 1, none⟩)) else none := aIndexAddr_s (by rfl) (by rfl) (by rfl)
theorem ia_23 (b o len cap : Nat) (k : IntKind) (i : Int) : aIndexAddr Try.prog 23 (.slice (some ⟨b, o, none⟩) len cap) (.int k i) = if 0 ≤ i ∧ i < len then some (.pointer (some ⟨b, o + i.toNat * 1, none⟩)) else none := aIndexAddr_s (by rfl) (by rfl) (by rfl)
theorem ia_46 (b o len cap : Nat) (k : IntKind) (i : Int) : aIndexAddr Try.prog 46 (.slice (some ⟨b, o, none⟩) len cap) (.int k i) = if 0 ≤ i ∧ i < len then some (.pointer (some ⟨b, o + i.toNat * 2, none⟩)) else none := aIndexAddr_s (by rfl) (by rfl) (by rfl)
theorem ld_3 {h : AHeap} (b off : Nat) : aLoad Try.prog h 3 ⟨b, off, none⟩ = gCell off (h.get b) := aLoad_s (by rfl) (by rfl) b off
theorem ld_4 {h : AHeap} (b off : Nat) : aLoad Try.prog h 4 ⟨b, off, none⟩ = gCell off (h.get b) := aLoad_s (by rfl) (by rfl) b off
theorem ld_22 {h : AHeap} (b off : Nat) : aLoad Try.prog h 22 ⟨b, off, none⟩ = gCell off (h.get b) := aLoad_s (by rfl) (by rfl) b off
theorem ld_23 {h : AHeap} (b off : Nat) : aLoad Try.prog h 23 ⟨b, off, none⟩ = gCell off (h.get b) := aLoad_s (by rfl) (by rfl) b off
theorem ld_28 {h : AHeap} (b off : Nat) : aLoad Try.prog h 28 ⟨b, off, none⟩ = gCell off (h.get b) := aLoad_s (by rfl) (by rfl) b off
theorem ld_37 {h : AHeap} (b off : Nat) : aLoad Try.prog h 37 ⟨b, off, none⟩ = (gCells off 2 (h.get b)).map fun xs => .agg xs.toArray := aLoad_a (by rfl) (by rfl) (by rfl) (by rfl) b off
theorem ld_46 {h : AHeap} (b off : Nat) : aLoad Try.prog h 46 ⟨b, off, none⟩ = gCell off (h.get b) := aLoad_s (by rfl) (by rfl) b off
theorem ln_22 {h : AHeap} (a : Option Addr) (m c : Nat) : aLen Try.prog h 22 (.slice a m c) = some (.int .i64 m) := congrArg id (by rfl)
theorem ln_23 {h : AHeap} (a : Option Addr) (m c : Nat) : aLen Try.prog h 23 (.slice a m c) = some (.int .i64 m) := congrArg id (by rfl)
theorem ln_46 {h : AHeap} (a : Option Addr) (m c : Nat) : aLen Try.prog h 46 (.slice a m c) = some (.int .i64 m) := congrArg id (by rfl)
theorem ms_22 (k k' : IntKind) (l c : Int) : bMakeSlice Try.prog 22 (.int k l) (.int k' c) = msF 1 24 [.slice none 0 0] 46 l c := bMakeSlice_s (by rfl) (by rfl) (by rfl) (by rfl) (by rfl)
theorem ms_23 (k k' : IntKind) (l c : Int) : bMakeSlice Try.prog 23 (.int k l) (.int k' c) = msF 1 8 [.int .i64 0] 3 l c := bMakeSlice_s (by rfl) (by rfl) (by rfl) (by rfl) (by rfl)
-- sl 22
-- sl 23
theorem st_3 {h : AHeap} (a : Addr) (v : Value) : aStore Try.prog h 3 a v = stN h a v.cells 1 := aStore_n (by rfl) (by rfl) a v
theorem st_4 {h : AHeap} (a : Addr) (v : Value) : aStore Try.prog h 4 a v = stN h a v.cells 1 := aStore_n (by rfl) (by rfl) a v
theorem st_22 {h : AHeap} (a : Addr) (v : Value) : aStore Try.prog h 22 a v = stN h a v.cells 1 := aStore_n (by rfl) (by rfl) a v
theorem st_23 {h : AHeap} (a : Addr) (v : Value) : aStore Try.prog h 23 a v = stN h a v.cells 1 := aStore_n (by rfl) (by rfl) a v
theorem st_37 {h : AHeap} (a : Addr) (v : Value) : aStore Try.prog h 37 a v = stN h a v.cells 2 := aStore_n (by rfl) (by rfl) a v
theorem st_46 {h : AHeap} (a : Addr) (v : Value) : aStore Try.prog h 46 a v = stN h a v.cells 1 := aStore_n (by rfl) (by rfl) a v
-- NAMES al_3, al_4, al_37, ap_22, ap_23, ap_46, ba_22_22, ba_23_23, ba_46_46, bd_37, bd_52, bd_54, bs_22, bs_23, bs_46, eq_23_eql_s, eq_23_eql_n, eq_23_neq_s, eq_23_neq_n, eq_28_eql_s, eq_28_eql_n, eq_28_neq_s, eq_28_neq_n, eq_46_eql_s, eq_46_eql_n, eq_46_neq_s, eq_46_neq_n, fa_52_0, fa_52_1, fa_54_0, fa_54_1, ia_22, ia_23, ia_46, ld_3, ld_4, ld_22, ld_23, ld_28, ld_37, ld_46, ln_22, ln_23, ln_46, ms_22, ms_23, st_3, st_4, st_22, st_23, st_37, st_46
theorem oxTy0 : type_of% (And.intro (And.intro (And.intro (And.intro (And.intro (@al_3) (@al_4)) (And.intro (@al_37) (@ap_22))) (And.intro (And.intro (@ap_23) (@ap_46)) (And.intro (@ba_22_22) (@ba_23_23)))) (And.intro (And.intro (And.intro (@ba_46_46) (@bd_37)) (And.intro (@bd_52) (@bd_54))) (And.intro (And.intro (@bs_22) (@bs_23)) (And.intro (@bs_46) (@eq_23_eql_s))))) (And.intro (And.intro (And.intro (And.intro (@eq_23_eql_n) (@eq_23_neq_s)) (And.intro (@eq_23_neq_n) (@eq_28_eql_s))) (And.intro (And.intro (@eq_28_eql_n) (@eq_28_neq_s)) (And.intro (@eq_28_neq_n) (@eq_46_eql_s)))) (And.intro (And.intro (And.intro (@eq_46_eql_n) (@eq_46_neq_s)) (And.intro (@eq_46_neq_n) (@fa_52_0))) (And.intro (And.intro (@fa_52_1) (@fa_54_0)) (And.intro (@fa_54_1) (@ia_22)))))) := And.intro (And.intro (And.intro (And.intro (And.intro (@al_3) (@al_4)) (And.intro (@al_37) (@ap_22))) (And.intro (And.intro (@ap_23) (@ap_46)) (And.intro (@ba_22_22) (@ba_23_23)))) (And.intro (And.intro (And.intro (@ba_46_46) (@bd_37)) (And.intro (@bd_52) (@bd_54))) (And.intro (And.intro (@bs_22) (@bs_23)) (And.intro (@bs_46) (@eq_23_eql_s))))) (And.intro (And.intro (And.intro (And.intro (@eq_23_eql_n) (@eq_23_neq_s)) (And.intro (@eq_23_neq_n) (@eq_28_eql_s))) (And.intro (And.intro (@eq_28_eql_n) (@eq_28_neq_s)) (And.intro (@eq_28_neq_n) (@eq_46_eql_s)))) (And.intro (And.intro (And.intro (@eq_46_eql_n) (@eq_46_neq_s)) (And.intro (@eq_46_neq_n) (@fa_52_0))) (And.intro (And.intro (@fa_52_1) (@fa_54_0)) (And.intro (@fa_54_1) (@ia_22)))))
theorem oxTy1 : type_of% (And.intro (And.intro (And.intro (And.intro (@ia_23) (@ia_46)) (And.intro (@ld_3) (And.intro (@ld_4) (@ld_22)))) (And.intro (And.intro (@ld_23) (@ld_28)) (And.intro (@ld_37) (And.intro (@ld_46) (@ln_22))))) (And.intro (And.intro (And.intro (@ln_23) (@ln_46)) (And.intro (@ms_22) (And.intro (@ms_23) (@st_3)))) (And.intro (And.intro (@st_4) (@st_22)) (And.intro (@st_23) (And.intro (@st_37) (@st_46)))))) := And.intro (And.intro (And.intro (And.intro (@ia_23) (@ia_46)) (And.intro (@ld_3) (And.intro (@ld_4) (@ld_22)))) (And.intro (And.intro (@ld_23) (@ld_28)) (And.intro (@ld_37) (And.intro (@ld_46) (@ln_22))))) (And.intro (And.intro (And.intro (@ln_23) (@ln_46)) (And.intro (@ms_22) (And.intro (@ms_23) (@st_3)))) (And.intro (And.intro (@st_4) (@st_22)) (And.intro (@st_23) (And.intro (@st_37) (@st_46)))))
end Go.Proofs
