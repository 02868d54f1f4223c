/-
  A part of the proof of SinkPlays: what this program's functions do on an abstract heap. CONDITIONS: none.
-/
import Derived.Test.YtoacnhfpapmomaaProg
import Derived.Test.YtoacnhfpapmomaaOxW
set_option linter.unusedSimpArgs false
set_option linter.unusedVariables false
namespace Go.Proofs
open Go Go.Ox
set_option maxRecDepth 100000
theorem al_29 : alc Try.prog 29 = some (.cells false 0 [.int .i64 0, .int .i64 0] 29, ptrTo) := congrArg id (by rfl)
theorem al_56 : alc Try.prog 56 = some (.cells false 0 [.int .i64 0, .int .i64 0] 56, ptrTo) := congrArg id (by rfl)
theorem ap_32 {h : AHeap} (a b : Option Addr) (l c m d : Nat) : aAppend Try.prog h 32 (.slice a l c) (.slice b m d) = apF h 2 16 29 a l c b m d := aAppend_s (by rfl) (by rfl) (by rfl) (by rfl) (by rfl)
theorem ap_38 {h : AHeap} (a b : Option Addr) (l c m d : Nat) : aAppend Try.prog h 38 (.slice a l c) (.slice b m d) = apF h 1 8 3 a l c b m d := aAppend_s (by rfl) (by rfl) (by rfl) (by rfl) (by rfl)
theorem ap_47 {h : AHeap} (a b : Option Addr) (l c m d : Nat) : aAppend Try.prog h 47 (.slice a l c) (.slice b m d) = apF h 2 16 56 a l c b m d := aAppend_s (by rfl) (by rfl) (by rfl) (by rfl) (by rfl)
theorem ap_51 {h : AHeap} (a b : Option Addr) (l c m d : Nat) : aAppend Try.prog h 51 (.slice a l c) (.slice b m d) = apF h 2 32 59 a l c b m d := aAppend_s (by rfl) (by rfl) (by rfl) (by rfl) (by rfl)
theorem ba_32_32 {h : AHeap} (ts : List TypeId) (x y : Value) : aBuiltin Try.prog h .append (32 :: 32 :: ts).toArray [x, y] = aAppend Try.prog h 32 x y := bi_append 32 32 ts x y (by rfl)
theorem ba_38_38 {h : AHeap} (ts : List TypeId) (x y : Value) : aBuiltin Try.prog h .append (38 :: 38 :: ts).toArray [x, y] = aAppend Try.prog h 38 x y := bi_append 38 38 ts x y (by rfl)
theorem ba_47_47 {h : AHeap} (ts : List TypeId) (x y : Value) : aBuiltin Try.prog h .append (47 :: 47 :: ts).toArray [x, y] = aAppend Try.prog h 47 x y := bi_append 47 47 ts x y (by rfl)
theorem ba_51_51 {h : AHeap} (ts : List TypeId) (x y : Value) : aBuiltin Try.prog h .append (51 :: 51 :: ts).toArray [x, y] = aAppend Try.prog h 51 x y := bi_append 51 51 ts x y (by rfl)
theorem bd_29 (ps : List (Nat × Value)) : aBuild Try.prog 29 ps = bdF (aFill (lk [(0, 1), (1, 1)]) [.int .i64 0, .int .i64 0] ps) := aBuild_of (by rfl) (by rfl) (by rfl) ps
theorem bd_50 (ps : List (Nat × Value)) : aBuild Try.prog 50 ps = bdF (aFill (lk [(0, 1), (1, 1), (2, 1)]) [.slice none 0 0, .slice none 0 0, .pointer none] ps) := aBuild_of (by rfl) (by rfl) (by rfl) ps
theorem bd_53 (ps : List (Nat × Value)) : aBuild Try.prog 53 ps = bdF (aFill (lk [(0, 1), (1, 1), (2, 1), (3, 1)]) [.slice none 0 0, .slice none 0 0, .int .i64 0, .bool false] ps) := aBuild_of (by rfl) (by rfl) (by rfl) ps
theorem bd_56 (ps : List (Nat × Value)) : aBuild Try.prog 56 ps = bdF (aFill (lk [(0, 1), (1, 1)]) [.int .i64 0, .int .i64 0] ps) := aBuild_of (by rfl) (by rfl) (by rfl) ps
theorem bd_59 (ps : List (Nat × Value)) : aBuild Try.prog 59 ps = bdF (aFill (lk [(0, 1), (1, 1)]) [.int .i64 0, .slice none 0 0] ps) := aBuild_of (by rfl) (by rfl) (by rfl) ps
theorem bs_32 (m : Nat) (ps : List (Nat × Value)) : bBuildSlice Try.prog 32 m ps = bsF 2 29 m (aFill (fun j => some (j * 2, 2)) (aZeros [.int .i64 0, .int .i64 0] m) ps) := bBuildSlice_s (by rfl) (by rfl) (by rfl) (by rfl)
theorem bs_38 (m : Nat) (ps : List (Nat × Value)) : bBuildSlice Try.prog 38 m ps = bsF 1 3 m (aFill (fun j => some (j * 1, 1)) (aZeros [.int .i64 0] m) ps) := bBuildSlice_s (by rfl) (by rfl) (by rfl) (by rfl)
theorem bs_47 (m : Nat) (ps : List (Nat × Value)) : bBuildSlice Try.prog 47 m ps = bsF 2 56 m (aFill (fun j => some (j * 2, 2)) (aZeros [.int .i64 0, .int .i64 0] m) ps) := bBuildSlice_s (by rfl) (by rfl) (by rfl) (by rfl)
theorem bs_51 (m : Nat) (ps : List (Nat × Value)) : bBuildSlice Try.prog 51 m ps = bsF 2 59 m (aFill (fun j => some (j * 2, 2)) (aZeros [.int .i64 0, .slice none 0 0] m) ps) := bBuildSlice_s (by rfl) (by rfl) (by rfl) (by rfl)
theorem eq_23_eql_s (x y : Operand) (a : Addr) : aBin Try.prog .eql 23 x y (.pointer (some a)) (.pointer none) = some (.bool false) := congrArg id (by rfl)
theorem eq_23_eql_n (x y : Operand) : aBin Try.prog .eql 23 x y (.pointer none) (.pointer none) = some (.bool true) := congrArg id (by rfl)
theorem eq_23_neq_s (x y : Operand) (a : Addr) : aBin Try.prog .neq 23 x y (.pointer (some a)) (.pointer none) = some (.bool true) := congrArg id (by rfl)
theorem eq_23_neq_n (x y : Operand) : aBin Try.prog .neq 23 x y (.pointer none) (.pointer none) = some (.bool false) := congrArg id (by rfl)
-- eq of another type 29
theorem eq_32_eql_s (x y : Operand) (a : Addr) (l c : Nat) : aBin Try.prog .eql 32 x y (.slice (some a) l c) (.slice none 0 0) = some (.bool false) := congrArg id (by rfl)
theorem eq_32_eql_n (x y : Operand) (l c : Nat) : aBin Try.prog .eql 32 x y (.slice none l c) (.slice none 0 0) = some (.bool true) := congrArg id (by rfl)
theorem eq_32_neq_s (x y : Operand) (a : Addr) (l c : Nat) : aBin Try.prog .neq 32 x y (.slice (some a) l c) (.slice none 0 0) = some (.bool true) := congrArg id (by rfl)
theorem eq_32_neq_n (x y : Operand) (l c : Nat) : aBin Try.prog .neq 32 x y (.slice none l c) (.slice none 0 0) = some (.bool false) := congrArg id (by rfl)
theorem eq_47_eql_s (x y : Operand) (a : Addr) (l c : Nat) : aBin Try.prog .eql 47 x y (.slice (some a) l c) (.slice none 0 0) = some (.bool false) := congrArg id (by rfl)
theorem eq_47_eql_n (x y : Operand) (l c : Nat) : aBin Try.prog .eql 47 x y (.slice none l c) (.slice none 0 0) = some (.bool true) := congrArg id (by rfl)
theorem eq_47_neq_s (x y : Operand) (a : Addr) (l c : Nat) : aBin Try.prog .neq 47 x y (.slice (some a) l c) (.slice none 0 0) = some (.bool true) := congrArg id (by rfl)
theorem eq_47_neq_n (x y : Operand) (l c : Nat) : aBin Try.prog .neq 47 x y (.slice none l c) (.slice none 0 0) = some (.bool false) := congrArg id (by rfl)
theorem eq_48_eql_s (x y : Operand) (a : Addr) : aBin Try.prog .eql 48 x y (.pointer (some a)) (.pointer none) = some (.bool false) := congrArg id (by rfl)
theorem eq_48_eql_n (x y : Operand) : aBin Try.prog .eql 48 x y (.pointer none) (.pointer none) = some (.bool true) := congrArg id (by rfl)
theorem eq_48_neq_s (x y : Operand) (a : Addr) : aBin Try.prog .neq 48 x y (.pointer (some a)) (.pointer none) = some (.bool true) := congrArg id (by rfl)
theorem eq_48_neq_n (x y : Operand) : aBin Try.prog .neq 48 x y (.pointer none) (.pointer none) = some (.bool false) := congrArg id (by rfl)
theorem fa_31_0 (b o : Nat) : aField Try.prog 31 0 (.pointer (some ⟨b, o, none⟩)) = some (.pointer (some ⟨b, o, none⟩)) := congrArg id (by rfl)
theorem fa_31_1 (b o : Nat) : aField Try.prog 31 1 (.pointer (some ⟨b, o, none⟩)) = some (.pointer (some ⟨b, o + 1, none⟩)) := congrArg id (by rfl)
theorem fa_31_2 (b o : Nat) : aField Try.prog 31 2 (.pointer (some ⟨b, o, none⟩)) = some (.pointer (some ⟨b, o + 2, none⟩)) := congrArg id (by rfl)
theorem fa_50_0 (b o : Nat) : aField Try.prog 50 0 (.pointer (some ⟨b, o, none⟩)) = some (.pointer (some ⟨b, o, none⟩)) := congrArg id (by rfl)
theorem fa_50_1 (b o : Nat) : aField Try.prog 50 1 (.pointer (some ⟨b, o, none⟩)) = some (.pointer (some ⟨b, o + 1, none⟩)) := congrArg id (by rfl)
theorem fa_50_2 (b o : Nat) : aField Try.prog 50 2 (.pointer (some ⟨b, o, none⟩)) = some (.pointer (some ⟨b, o + 2, none⟩)) := congrArg id (by rfl)
theorem fa_53_0 (b o : Nat) : aField Try.prog 53 0 (.pointer (some ⟨b, o, none⟩)) = some (.pointer (some ⟨b, o, none⟩)) := congrArg id (by rfl)
theorem fa_53_1 (b o : Nat) : aField Try.prog 53 1 (.pointer (some ⟨b, o, none⟩)) = some (.pointer (some ⟨b, o + 1, none⟩)) := congrArg id (by rfl)
theorem fa_53_2 (b o : Nat) : aField Try.prog 53 2 (.pointer (some ⟨b, o, none⟩)) = some (.pointer (some ⟨b, o + 2, none⟩)) := congrArg id (by rfl)
theorem fa_53_3 (b o : Nat) : aField Try.prog 53 3 (.pointer (some ⟨b, o, none⟩)) = some (.pointer (some ⟨b, o + 3, none⟩)) := congrArg id (by rfl)
theorem fa_56_0 (b o : Nat) : aField Try.prog 56 0 (.pointer (some ⟨b, o, none⟩)) = some (.pointer (some ⟨b, o, none⟩)) := congrArg id (by rfl)
theorem fa_56_1 (b o : Nat) : aField Try.prog 56 1 (.pointer (some ⟨b, o, none⟩)) = some (.pointer (some ⟨b, o + 1, none⟩)) := congrArg id (by rfl)
theorem fa_59_0 (b o : Nat) : aField Try.prog 59 0 (.pointer (some ⟨b, o, none⟩)) = some (.pointer (some ⟨b, o, none⟩)) := congrArg id (by rfl)
theorem fa_59_1 (b o : Nat) : aField Try.prog 59 1 (.pointer (some ⟨b, o, none⟩)) = some (.pointer (some ⟨b, o + 1, none⟩)) := congrArg id (by rfl)
theorem ia_22 (b o len cap : Nat) (k : IntKind) (i : Int) : aIndexAddr Try.prog 22 (.slice (some ⟨b, o, none⟩) len cap) (.int k i) = if 0 ≤ i ∧ i < len then some (.pointer (some ⟨b, o + i.toNat * 4, none⟩)) else none := aIndexAddr_s (by rfl) (by rfl) (by rfl)
theorem ia_32 (b o len cap : Nat) (k : IntKind) (i : Int) : aIndexAddr Try.prog 32 (.slice (some ⟨b, o, none⟩) len cap) (.int k i) = if 0 ≤ i ∧ i < len then some (.pointer (some ⟨b, o + i.toNat * 2, none⟩)) else none := aIndexAddr_s (by rfl) (by rfl) (by rfl)
theorem ia_38 (b o len cap : Nat) (k : IntKind) (i : Int) : aIndexAddr Try.prog 38 (.slice (some ⟨b, o, none⟩) len cap) (.int k i) = if 0 ≤ i ∧ i < len then some (.pointer (some ⟨b, o + i.toNat * 1, none⟩)) else none := aIndexAddr_s (by rfl) (by rfl) (by rfl)
theorem ia_47 (b o len cap : Nat) (k : IntKind) (i : Int) : aIndexAddr Try.prog 47 (.slice (some ⟨b, o, none⟩) len cap) (.int k i) = if 0 ≤ i ∧ i < len then some (.pointer (some ⟨b, o + i.toNat * 2, none⟩)) else none := aIndexAddr_s (by rfl) (by rfl) (by rfl)
theorem ia_51 (b o len cap : Nat) (k : IntKind) (i : Int) : aIndexAddr Try.prog 51 (.slice (some ⟨b, o, none⟩) len cap) (.int k i) = if 0 ≤ i ∧ i < len then some (.pointer (some ⟨b, o + i.toNat * 2, none⟩)) else none := aIndexAddr_s (by rfl) (by rfl) (by rfl)
theorem ld_3 {h : AHeap} (b off : Nat) : aLoad Try.prog h 3 ⟨b, off, none⟩ = gCell off (h.get b) := aLoad_s (by rfl) (by rfl) b off
theorem ld_4 {h : AHeap} (b off : Nat) : aLoad Try.prog h 4 ⟨b, off, none⟩ = gCell off (h.get b) := aLoad_s (by rfl) (by rfl) b off
theorem ld_29 {h : AHeap} (b off : Nat) : aLoad Try.prog h 29 ⟨b, off, none⟩ = (gCells off 2 (h.get b)).map fun xs => .agg xs.toArray := aLoad_a (by rfl) (by rfl) (by rfl) (by rfl) b off
theorem ld_32 {h : AHeap} (b off : Nat) : aLoad Try.prog h 32 ⟨b, off, none⟩ = gCell off (h.get b) := aLoad_s (by rfl) (by rfl) b off
theorem ld_47 {h : AHeap} (b off : Nat) : aLoad Try.prog h 47 ⟨b, off, none⟩ = gCell off (h.get b) := aLoad_s (by rfl) (by rfl) b off
theorem ld_48 {h : AHeap} (b off : Nat) : aLoad Try.prog h 48 ⟨b, off, none⟩ = gCell off (h.get b) := aLoad_s (by rfl) (by rfl) b off
theorem ld_51 {h : AHeap} (b off : Nat) : aLoad Try.prog h 51 ⟨b, off, none⟩ = gCell off (h.get b) := aLoad_s (by rfl) (by rfl) b off
theorem ld_56 {h : AHeap} (b off : Nat) : aLoad Try.prog h 56 ⟨b, off, none⟩ = (gCells off 2 (h.get b)).map fun xs => .agg xs.toArray := aLoad_a (by rfl) (by rfl) (by rfl) (by rfl) b off
theorem ld_59 {h : AHeap} (b off : Nat) : aLoad Try.prog h 59 ⟨b, off, none⟩ = (gCells off 2 (h.get b)).map fun xs => .agg xs.toArray := aLoad_a (by rfl) (by rfl) (by rfl) (by rfl) b off
theorem ln_22 {h : AHeap} (a : Option Addr) (m c : Nat) : aLen Try.prog h 22 (.slice a m c) = some (.int .i64 m) := congrArg id (by rfl)
theorem ln_32 {h : AHeap} (a : Option Addr) (m c : Nat) : aLen Try.prog h 32 (.slice a m c) = some (.int .i64 m) := congrArg id (by rfl)
theorem ln_38 {h : AHeap} (a : Option Addr) (m c : Nat) : aLen Try.prog h 38 (.slice a m c) = some (.int .i64 m) := congrArg id (by rfl)
theorem ln_47 {h : AHeap} (a : Option Addr) (m c : Nat) : aLen Try.prog h 47 (.slice a m c) = some (.int .i64 m) := congrArg id (by rfl)
theorem ln_51 {h : AHeap} (a : Option Addr) (m c : Nat) : aLen Try.prog h 51 (.slice a m c) = some (.int .i64 m) := congrArg id (by rfl)
-- sl 32
-- sl 47
theorem st_3 {h : AHeap} (a : Addr) (v : Value) : aStore Try.prog h 3 a v = stN h a v.cells 1 := aStore_n (by rfl) (by rfl) a v
theorem st_4 {h : AHeap} (a : Addr) (v : Value) : aStore Try.prog h 4 a v = stN h a v.cells 1 := aStore_n (by rfl) (by rfl) a v
theorem st_29 {h : AHeap} (a : Addr) (v : Value) : aStore Try.prog h 29 a v = stN h a v.cells 2 := aStore_n (by rfl) (by rfl) a v
theorem st_32 {h : AHeap} (a : Addr) (v : Value) : aStore Try.prog h 32 a v = stN h a v.cells 1 := aStore_n (by rfl) (by rfl) a v
theorem st_47 {h : AHeap} (a : Addr) (v : Value) : aStore Try.prog h 47 a v = stN h a v.cells 1 := aStore_n (by rfl) (by rfl) a v
theorem st_48 {h : AHeap} (a : Addr) (v : Value) : aStore Try.prog h 48 a v = stN h a v.cells 1 := aStore_n (by rfl) (by rfl) a v
theorem st_51 {h : AHeap} (a : Addr) (v : Value) : aStore Try.prog h 51 a v = stN h a v.cells 1 := aStore_n (by rfl) (by rfl) a v
theorem st_56 {h : AHeap} (a : Addr) (v : Value) : aStore Try.prog h 56 a v = stN h a v.cells 2 := aStore_n (by rfl) (by rfl) a v
-- NAMES al_29, al_56, ap_32, ap_38, ap_47, ap_51, ba_32_32, ba_38_38, ba_47_47, ba_51_51, bd_29, bd_50, bd_53, bd_56, bd_59, bs_32, bs_38, bs_47, bs_51, eq_23_eql_s, eq_23_eql_n, eq_23_neq_s, eq_23_neq_n, eq_32_eql_s, eq_32_eql_n, eq_32_neq_s, eq_32_neq_n, eq_47_eql_s, eq_47_eql_n, eq_47_neq_s, eq_47_neq_n, eq_48_eql_s, eq_48_eql_n, eq_48_neq_s, eq_48_neq_n, fa_31_0, fa_31_1, fa_31_2, fa_50_0, fa_50_1, fa_50_2, fa_53_0, fa_53_1, fa_53_2, fa_53_3, fa_56_0, fa_56_1, fa_59_0, fa_59_1, ia_22, ia_32, ia_38, ia_47, ia_51, ld_3, ld_4, ld_29, ld_32, ld_47, ld_48, ld_51, ld_56, ld_59, ln_22, ln_32, ln_38, ln_47, ln_51, st_3, st_4, st_29, st_32, st_47, st_48, st_51, st_56
theorem oxTy0 : type_of% (And.intro (And.intro (And.intro (And.intro (And.intro (@al_29) (@al_56)) (And.intro (@ap_32) (@ap_38))) (And.intro (And.intro (@ap_47) (@ap_51)) (And.intro (@ba_32_32) (@ba_38_38)))) (And.intro (And.intro (And.intro (@ba_47_47) (@ba_51_51)) (And.intro (@bd_29) (@bd_50))) (And.intro (And.intro (@bd_53) (@bd_56)) (And.intro (@bd_59) (@bs_32))))) (And.intro (And.intro (And.intro (And.intro (@bs_38) (@bs_47)) (And.intro (@bs_51) (@eq_23_eql_s))) (And.intro (And.intro (@eq_23_eql_n) (@eq_23_neq_s)) (And.intro (@eq_23_neq_n) (@eq_32_eql_s)))) (And.intro (And.intro (And.intro (@eq_32_eql_n) (@eq_32_neq_s)) (And.intro (@eq_32_neq_n) (@eq_47_eql_s))) (And.intro (And.intro (@eq_47_eql_n) (@eq_47_neq_s)) (And.intro (@eq_47_neq_n) (@eq_48_eql_s)))))) := And.intro (And.intro (And.intro (And.intro (And.intro (@al_29) (@al_56)) (And.intro (@ap_32) (@ap_38))) (And.intro (And.intro (@ap_47) (@ap_51)) (And.intro (@ba_32_32) (@ba_38_38)))) (And.intro (And.intro (And.intro (@ba_47_47) (@ba_51_51)) (And.intro (@bd_29) (@bd_50))) (And.intro (And.intro (@bd_53) (@bd_56)) (And.intro (@bd_59) (@bs_32))))) (And.intro (And.intro (And.intro (And.intro (@bs_38) (@bs_47)) (And.intro (@bs_51) (@eq_23_eql_s))) (And.intro (And.intro (@eq_23_eql_n) (@eq_23_neq_s)) (And.intro (@eq_23_neq_n) (@eq_32_eql_s)))) (And.intro (And.intro (And.intro (@eq_32_eql_n) (@eq_32_neq_s)) (And.intro (@eq_32_neq_n) (@eq_47_eql_s))) (And.intro (And.intro (@eq_47_eql_n) (@eq_47_neq_s)) (And.intro (@eq_47_neq_n) (@eq_48_eql_s)))))
theorem oxTy1 : type_of% (And.intro (And.intro (And.intro (And.intro (And.intro (@eq_48_eql_n) (@eq_48_neq_s)) (And.intro (@eq_48_neq_n) (@fa_31_0))) (And.intro (And.intro (@fa_31_1) (@fa_31_2)) (And.intro (@fa_50_0) (@fa_50_1)))) (And.intro (And.intro (And.intro (@fa_50_2) (@fa_53_0)) (And.intro (@fa_53_1) (@fa_53_2))) (And.intro (And.intro (@fa_53_3) (@fa_56_0)) (And.intro (@fa_56_1) (@fa_59_0))))) (And.intro (And.intro (And.intro (And.intro (@fa_59_1) (@ia_22)) (And.intro (@ia_32) (@ia_38))) (And.intro (And.intro (@ia_47) (@ia_51)) (And.intro (@ld_3) (@ld_4)))) (And.intro (And.intro (And.intro (@ld_29) (@ld_32)) (And.intro (@ld_47) (@ld_48))) (And.intro (And.intro (@ld_51) (@ld_56)) (And.intro (@ld_59) (@ln_22)))))) := And.intro (And.intro (And.intro (And.intro (And.intro (@eq_48_eql_n) (@eq_48_neq_s)) (And.intro (@eq_48_neq_n) (@fa_31_0))) (And.intro (And.intro (@fa_31_1) (@fa_31_2)) (And.intro (@fa_50_0) (@fa_50_1)))) (And.intro (And.intro (And.intro (@fa_50_2) (@fa_53_0)) (And.intro (@fa_53_1) (@fa_53_2))) (And.intro (And.intro (@fa_53_3) (@fa_56_0)) (And.intro (@fa_56_1) (@fa_59_0))))) (And.intro (And.intro (And.intro (And.intro (@fa_59_1) (@ia_22)) (And.intro (@ia_32) (@ia_38))) (And.intro (And.intro (@ia_47) (@ia_51)) (And.intro (@ld_3) (@ld_4)))) (And.intro (And.intro (And.intro (@ld_29) (@ld_32)) (And.intro (@ld_47) (@ld_48))) (And.intro (And.intro (@ld_51) (@ld_56)) (And.intro (@ld_59) (@ln_22)))))
theorem oxTy2 : type_of% (And.intro (And.intro (And.intro (@ln_32) (And.intro (@ln_38) (@ln_47))) (And.intro (@ln_51) (And.intro (@st_3) (@st_4)))) (And.intro (And.intro (@st_29) (And.intro (@st_32) (@st_47))) (And.intro (@st_48) (And.intro (@st_51) (@st_56))))) := And.intro (And.intro (And.intro (@ln_32) (And.intro (@ln_38) (@ln_47))) (And.intro (@ln_51) (And.intro (@st_3) (@st_4)))) (And.intro (And.intro (@st_29) (And.intro (@st_32) (@st_47))) (And.intro (@st_48) (And.intro (@st_51) (@st_56))))
end Go.Proofs
