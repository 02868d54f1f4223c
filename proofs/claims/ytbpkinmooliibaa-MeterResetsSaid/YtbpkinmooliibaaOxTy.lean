/-
  A part of the proof of MeterResets: what this program's functions do on an abstract heap. CONDITIONS: none.
-/
import Derived.Test.YtbpkinmooliibaaProg
import Derived.Test.YtbpkinmooliibaaOxW
set_option linter.unusedSimpArgs false
set_option linter.unusedVariables false
namespace Go.Proofs
open Go Go.Ox
set_option maxRecDepth 100000
theorem al_37 : alc Try.prog 37 = some (.cells false 0 [.int .i64 0, .int .i64 0, .int .i64 0, .int .i64 0] 37, ptrTo) := congrArg id (by rfl)
theorem ap_25 {h : AHeap} (a b : Option Addr) (l c m d : Nat) : aAppend Try.prog h 25 (.slice a l c) (.slice b m d) = apF h 4 32 37 a l c b m d := aAppend_s (by rfl) (by rfl) (by rfl) (by rfl) (by rfl)
theorem ba_25_25 {h : AHeap} (ts : List TypeId) (x y : Value) : aBuiltin Try.prog h .append (25 :: 25 :: ts).toArray [x, y] = aAppend Try.prog h 25 x y := bi_append 25 25 ts x y (by rfl)
theorem bd_33 (ps : List (Nat × Value)) : aBuild Try.prog 33 ps = bdF (aFill (lk [(0, 1), (1, 1), (2, 1), (3, 1), (4, 5)]) [.int .i64 0, .int .i64 0, .int .i64 0, .bool false, .int .i64 0, .int .i64 0, .slice none 0 0, .slice none 0 0, .slice none 0 0] ps) := aBuild_of (by rfl) (by rfl) (by rfl) ps
theorem bd_37 (ps : List (Nat × Value)) : aBuild Try.prog 37 ps = bdF (aFill (lk [(0, 1), (1, 1), (2, 1), (3, 1)]) [.int .i64 0, .int .i64 0, .int .i64 0, .int .i64 0] ps) := aBuild_of (by rfl) (by rfl) (by rfl) ps
theorem bd_49 (ps : List (Nat × Value)) : aBuild Try.prog 49 ps = bdF (aFill (lk [(0, 1)]) [.slice none 0 0] ps) := aBuild_of (by rfl) (by rfl) (by rfl) ps
theorem bd_56 (ps : List (Nat × Value)) : aBuild Try.prog 56 ps = bdF (aFill (lk [(0, 1)]) [.slice none 0 0] ps) := aBuild_of (by rfl) (by rfl) (by rfl) ps
theorem bs_25 (m : Nat) (ps : List (Nat × Value)) : bBuildSlice Try.prog 25 m ps = bsF 4 37 m (aFill (fun j => some (j * 4, 4)) (aZeros [.int .i64 0, .int .i64 0, .int .i64 0, .int .i64 0] m) ps) := bBuildSlice_s (by rfl) (by rfl) (by rfl) (by rfl)
theorem bs_27 (m : Nat) (ps : List (Nat × Value)) : bBuildSlice Try.prog 27 m ps = bsF 1 3 m (aFill (fun j => some (j * 1, 1)) (aZeros [.int .i64 0] m) ps) := bBuildSlice_s (by rfl) (by rfl) (by rfl) (by rfl)
theorem cl_25 {h : AHeap} (b o m c : Nat) : aClear Try.prog h 25 (.slice (some ⟨b, o, none⟩) m c) = if m = 0 then some h else gPut h b o (aZeros [.int .i64 0, .int .i64 0, .int .i64 0, .int .i64 0] m) (h.get b) := aClear_s (by rfl) (by rfl)
theorem bc_25 {h : AHeap} (ts : List TypeId) (x : Value) : aBuiltin Try.prog h .clear (25 :: ts).toArray [x] = un (aClear Try.prog h 25 x) := bi_clear 25 ts x (by rfl)
theorem eq_23_eql_s (x y : Operand) (a : Addr) : aBin Try.prog .eql 23 x y (.pointer (some a)) (.pointer none) = some (.bool false) := congrArg id (by rfl)
theorem eq_23_eql_n (x y : Operand) : aBin Try.prog .eql 23 x y (.pointer none) (.pointer none) = some (.bool true) := congrArg id (by rfl)
theorem eq_23_neq_s (x y : Operand) (a : Addr) : aBin Try.prog .neq 23 x y (.pointer (some a)) (.pointer none) = some (.bool true) := congrArg id (by rfl)
theorem eq_23_neq_n (x y : Operand) : aBin Try.prog .neq 23 x y (.pointer none) (.pointer none) = some (.bool false) := congrArg id (by rfl)
theorem eq_25_eql_s (x y : Operand) (a : Addr) (l c : Nat) : aBin Try.prog .eql 25 x y (.slice (some a) l c) (.slice none 0 0) = some (.bool false) := congrArg id (by rfl)
theorem eq_25_eql_n (x y : Operand) (l c : Nat) : aBin Try.prog .eql 25 x y (.slice none l c) (.slice none 0 0) = some (.bool true) := congrArg id (by rfl)
theorem eq_25_neq_s (x y : Operand) (a : Addr) (l c : Nat) : aBin Try.prog .neq 25 x y (.slice (some a) l c) (.slice none 0 0) = some (.bool true) := congrArg id (by rfl)
theorem eq_25_neq_n (x y : Operand) (l c : Nat) : aBin Try.prog .neq 25 x y (.slice none l c) (.slice none 0 0) = some (.bool false) := congrArg id (by rfl)
-- eq of another type 37
theorem eq_50_eql_s (x y : Operand) (f : Fn) (a b : Array Value) : aBin Try.prog .eql 50 x y (.func f a b) .nilFunc = some (.bool false) := congrArg id (by rfl)
theorem eq_50_eql_n (x y : Operand) : aBin Try.prog .eql 50 x y .nilFunc .nilFunc = some (.bool true) := congrArg id (by rfl)
theorem eq_50_neq_s (x y : Operand) (f : Fn) (a b : Array Value) : aBin Try.prog .neq 50 x y (.func f a b) .nilFunc = some (.bool true) := congrArg id (by rfl)
theorem eq_50_neq_n (x y : Operand) : aBin Try.prog .neq 50 x y .nilFunc .nilFunc = some (.bool false) := congrArg id (by rfl)
theorem fa_33_0 (b o : Nat) : aField Try.prog 33 0 (.pointer (some ⟨b, o, none⟩)) = some (.pointer (some ⟨b, o, none⟩)) := congrArg id (by rfl)
theorem fa_33_1 (b o : Nat) : aField Try.prog 33 1 (.pointer (some ⟨b, o, none⟩)) = some (.pointer (some ⟨b, o + 1, none⟩)) := congrArg id (by rfl)
theorem fa_33_2 (b o : Nat) : aField Try.prog 33 2 (.pointer (some ⟨b, o, none⟩)) = some (.pointer (some ⟨b, o + 2, none⟩)) := congrArg id (by rfl)
theorem fa_33_3 (b o : Nat) : aField Try.prog 33 3 (.pointer (some ⟨b, o, none⟩)) = some (.pointer (some ⟨b, o + 3, none⟩)) := congrArg id (by rfl)
theorem fa_33_4 (b o : Nat) : aField Try.prog 33 4 (.pointer (some ⟨b, o, none⟩)) = some (.pointer (some ⟨b, o + 4, none⟩)) := congrArg id (by rfl)
theorem fa_35_0 (b o : Nat) : aField Try.prog 35 0 (.pointer (some ⟨b, o, none⟩)) = some (.pointer (some ⟨b, o, none⟩)) := congrArg id (by rfl)
theorem fa_35_1 (b o : Nat) : aField Try.prog 35 1 (.pointer (some ⟨b, o, none⟩)) = some (.pointer (some ⟨b, o + 1, none⟩)) := congrArg id (by rfl)
theorem fa_35_2 (b o : Nat) : aField Try.prog 35 2 (.pointer (some ⟨b, o, none⟩)) = some (.pointer (some ⟨b, o + 2, none⟩)) := congrArg id (by rfl)
theorem fa_37_0 (b o : Nat) : aField Try.prog 37 0 (.pointer (some ⟨b, o, none⟩)) = some (.pointer (some ⟨b, o, none⟩)) := congrArg id (by rfl)
theorem fa_37_1 (b o : Nat) : aField Try.prog 37 1 (.pointer (some ⟨b, o, none⟩)) = some (.pointer (some ⟨b, o + 1, none⟩)) := congrArg id (by rfl)
theorem fa_37_2 (b o : Nat) : aField Try.prog 37 2 (.pointer (some ⟨b, o, none⟩)) = some (.pointer (some ⟨b, o + 2, none⟩)) := congrArg id (by rfl)
theorem fa_37_3 (b o : Nat) : aField Try.prog 37 3 (.pointer (some ⟨b, o, none⟩)) = some (.pointer (some ⟨b, o + 3, none⟩)) := congrArg id (by rfl)
theorem fa_49_0 (b o : Nat) : aField Try.prog 49 0 (.pointer (some ⟨b, o, none⟩)) = some (.pointer (some ⟨b, o, none⟩)) := congrArg id (by rfl)
theorem fa_56_0 (b o : Nat) : aField Try.prog 56 0 (.pointer (some ⟨b, o, none⟩)) = some (.pointer (some ⟨b, o, none⟩)) := congrArg id (by rfl)
theorem ia_22 (b o len cap : Nat) (k : IntKind) (i : Int) : aIndexAddr Try.prog 22 (.slice (some ⟨b, o, none⟩) len cap) (.int k i) = if 0 ≤ i ∧ i < len then some (.pointer (some ⟨b, o + i.toNat * 11, none⟩)) else none := aIndexAddr_s (by rfl) (by rfl) (by rfl)
theorem ia_25 (b o len cap : Nat) (k : IntKind) (i : Int) : aIndexAddr Try.prog 25 (.slice (some ⟨b, o, none⟩) len cap) (.int k i) = if 0 ≤ i ∧ i < len then some (.pointer (some ⟨b, o + i.toNat * 4, none⟩)) else none := aIndexAddr_s (by rfl) (by rfl) (by rfl)
theorem ia_27 (b o len cap : Nat) (k : IntKind) (i : Int) : aIndexAddr Try.prog 27 (.slice (some ⟨b, o, none⟩) len cap) (.int k i) = if 0 ≤ i ∧ i < len then some (.pointer (some ⟨b, o + i.toNat * 1, none⟩)) else none := aIndexAddr_s (by rfl) (by rfl) (by rfl)
theorem ld_3 {h : AHeap} (b off : Nat) : aLoad Try.prog h 3 ⟨b, off, none⟩ = gCell off (h.get b) := aLoad_s (by rfl) (by rfl) b off
theorem ld_25 {h : AHeap} (b off : Nat) : aLoad Try.prog h 25 ⟨b, off, none⟩ = gCell off (h.get b) := aLoad_s (by rfl) (by rfl) b off
theorem ld_33 {h : AHeap} (b off : Nat) : aLoad Try.prog h 33 ⟨b, off, none⟩ = (gCells off 9 (h.get b)).map fun xs => .agg xs.toArray := aLoad_a (by rfl) (by rfl) (by rfl) (by rfl) b off
theorem ld_37 {h : AHeap} (b off : Nat) : aLoad Try.prog h 37 ⟨b, off, none⟩ = (gCells off 4 (h.get b)).map fun xs => .agg xs.toArray := aLoad_a (by rfl) (by rfl) (by rfl) (by rfl) b off
theorem lk_51 {h : AHeap} (r : Nat) (k : IntKind) (m : Int) (ok : Bool) : aLookup Try.prog h 51 (.map (some r)) (.int k m) ok = lkF (.nilFunc) ok (mF k m (h.get r)) := aLookup_m (by rfl) (by rfl) (by rfl) (by rfl) (by rfl)
theorem lk_51n {h : AHeap} (k : IntKind) (m : Int) (ok : Bool) : aLookup Try.prog h 51 (.map none) (.int k m) ok = lkF (.nilFunc) ok (some none) := aLookup_n (by rfl) (by rfl) (by rfl) (by rfl) (by rfl)
theorem ln_22 {h : AHeap} (a : Option Addr) (m c : Nat) : aLen Try.prog h 22 (.slice a m c) = some (.int .i64 m) := congrArg id (by rfl)
theorem ln_25 {h : AHeap} (a : Option Addr) (m c : Nat) : aLen Try.prog h 25 (.slice a m c) = some (.int .i64 m) := congrArg id (by rfl)
theorem ln_27 {h : AHeap} (a : Option Addr) (m c : Nat) : aLen Try.prog h 27 (.slice a m c) = some (.int .i64 m) := congrArg id (by rfl)
-- mm 51
theorem ms_25 (k k' : IntKind) (l c : Int) : bMakeSlice Try.prog 25 (.int k l) (.int k' c) = msF 4 32 [.int .i64 0, .int .i64 0, .int .i64 0, .int .i64 0] 37 l c := bMakeSlice_s (by rfl) (by rfl) (by rfl) (by rfl) (by rfl)
theorem mu_51 {h : AHeap} (r : Nat) (k : IntKind) (m : Int) (y : Value) : aMapSet Try.prog h 51 (.map (some r)) (.int k m) y = muF h r k m y (h.get r) := aMapSet_m (by rfl) (by rfl)
theorem st_3 {h : AHeap} (a : Addr) (v : Value) : aStore Try.prog h 3 a v = stN h a v.cells 1 := aStore_n (by rfl) (by rfl) a v
theorem st_25 {h : AHeap} (a : Addr) (v : Value) : aStore Try.prog h 25 a v = stN h a v.cells 1 := aStore_n (by rfl) (by rfl) a v
theorem st_37 {h : AHeap} (a : Addr) (v : Value) : aStore Try.prog h 37 a v = stN h a v.cells 4 := aStore_n (by rfl) (by rfl) a v
-- NAMES al_37, ap_25, ba_25_25, bd_33, bd_37, bd_49, bd_56, bs_25, bs_27, cl_25, bc_25, eq_23_eql_s, eq_23_eql_n, eq_23_neq_s, eq_23_neq_n, eq_25_eql_s, eq_25_eql_n, eq_25_neq_s, eq_25_neq_n, eq_50_eql_s, eq_50_eql_n, eq_50_neq_s, eq_50_neq_n, fa_33_0, fa_33_1, fa_33_2, fa_33_3, fa_33_4, fa_35_0, fa_35_1, fa_35_2, fa_37_0, fa_37_1, fa_37_2, fa_37_3, fa_49_0, fa_56_0, ia_22, ia_25, ia_27, ld_3, ld_25, ld_33, ld_37, lk_51, lk_51n, ln_22, ln_25, ln_27, ms_25, mu_51, st_3, st_25, st_37
theorem oxTy0 : type_of% (And.intro (And.intro (And.intro (And.intro (And.intro (@al_37) (@ap_25)) (And.intro (@ba_25_25) (@bd_33))) (And.intro (And.intro (@bd_37) (@bd_49)) (And.intro (@bd_56) (@bs_25)))) (And.intro (And.intro (And.intro (@bs_27) (@cl_25)) (And.intro (@bc_25) (@eq_23_eql_s))) (And.intro (And.intro (@eq_23_eql_n) (@eq_23_neq_s)) (And.intro (@eq_23_neq_n) (@eq_25_eql_s))))) (And.intro (And.intro (And.intro (And.intro (@eq_25_eql_n) (@eq_25_neq_s)) (And.intro (@eq_25_neq_n) (@eq_50_eql_s))) (And.intro (And.intro (@eq_50_eql_n) (@eq_50_neq_s)) (And.intro (@eq_50_neq_n) (@fa_33_0)))) (And.intro (And.intro (And.intro (@fa_33_1) (@fa_33_2)) (And.intro (@fa_33_3) (@fa_33_4))) (And.intro (And.intro (@fa_35_0) (@fa_35_1)) (And.intro (@fa_35_2) (@fa_37_0)))))) := And.intro (And.intro (And.intro (And.intro (And.intro (@al_37) (@ap_25)) (And.intro (@ba_25_25) (@bd_33))) (And.intro (And.intro (@bd_37) (@bd_49)) (And.intro (@bd_56) (@bs_25)))) (And.intro (And.intro (And.intro (@bs_27) (@cl_25)) (And.intro (@bc_25) (@eq_23_eql_s))) (And.intro (And.intro (@eq_23_eql_n) (@eq_23_neq_s)) (And.intro (@eq_23_neq_n) (@eq_25_eql_s))))) (And.intro (And.intro (And.intro (And.intro (@eq_25_eql_n) (@eq_25_neq_s)) (And.intro (@eq_25_neq_n) (@eq_50_eql_s))) (And.intro (And.intro (@eq_50_eql_n) (@eq_50_neq_s)) (And.intro (@eq_50_neq_n) (@fa_33_0)))) (And.intro (And.intro (And.intro (@fa_33_1) (@fa_33_2)) (And.intro (@fa_33_3) (@fa_33_4))) (And.intro (And.intro (@fa_35_0) (@fa_35_1)) (And.intro (@fa_35_2) (@fa_37_0)))))
theorem oxTy1 : type_of% (And.intro (And.intro (And.intro (And.intro (@fa_37_1) (@fa_37_2)) (And.intro (@fa_37_3) (And.intro (@fa_49_0) (@fa_56_0)))) (And.intro (And.intro (@ia_22) (And.intro (@ia_25) (@ia_27))) (And.intro (@ld_3) (And.intro (@ld_25) (@ld_33))))) (And.intro (And.intro (And.intro (@ld_37) (@lk_51)) (And.intro (@lk_51n) (And.intro (@ln_22) (@ln_25)))) (And.intro (And.intro (@ln_27) (And.intro (@ms_25) (@mu_51))) (And.intro (@st_3) (And.intro (@st_25) (@st_37)))))) := And.intro (And.intro (And.intro (And.intro (@fa_37_1) (@fa_37_2)) (And.intro (@fa_37_3) (And.intro (@fa_49_0) (@fa_56_0)))) (And.intro (And.intro (@ia_22) (And.intro (@ia_25) (@ia_27))) (And.intro (@ld_3) (And.intro (@ld_25) (@ld_33))))) (And.intro (And.intro (And.intro (@ld_37) (@lk_51)) (And.intro (@lk_51n) (And.intro (@ln_22) (@ln_25)))) (And.intro (And.intro (@ln_27) (And.intro (@ms_25) (@mu_51))) (And.intro (@st_3) (And.intro (@st_25) (@st_37)))))
end Go.Proofs
