/-
 A part of the proof of CoordKnown: what this program's functions do on an abstract heap. CONDITIONS: none.
-/
import Derived.Test.YtfcajloeknedeaaGreatProg
import Derived.Test.YtfcajloeknedeaaGreatOxW
set_option linter.unusedSimpArgs false
set_option linter.unusedVariables false
namespace Go.Proofs
open Go Go.Ox
set_option maxRecDepth 100000
theorem al_3 : alc Tryz.prog 3 = some (.cells false 0 [.int .i64 0] 3, ptrTo) := congrArg id (by rfl)
theorem al_24 : alc Tryz.prog 24 = some (.cells false 0 [.int .i64 0, .slice none 0 0] 24, ptrTo) := congrArg id (by rfl)
theorem al_25 : alc Tryz.prog 25 = some (.cells false 0 [.slice none 0 0] 25, ptrTo) := congrArg id (by rfl)
theorem al_33 : alc Tryz.prog 33 = some (.cells false 0 [.int .i64 0, .int .i64 0, .slice none 0 0, .slice none 0 0, .slice none 0 0] 33, ptrTo) := congrArg id (by rfl)
theorem al_35 : alc Tryz.prog 35 = some (.cells false 0 [.int .i64 0, .int .i64 0, .int .i64 0, .int .i64 0, .bool false, .int .i64 0, .int .i64 0, .slice none 0 0, .slice none 0 0, .slice none 0 0] 35, ptrTo) := congrArg id (by rfl)
theorem al_37 : alc Tryz.prog 37 = some (.cells false 0 [.slice none 0 0] 37, ptrTo) := congrArg id (by rfl)
theorem al_48 : alc Tryz.prog 48 = some (.cells false 0 [.int .i64 0, .slice none 0 0, .slice none 0 0, .slice none 0 0, .slice none 0 0] 48, ptrTo) := congrArg id (by rfl)
theorem al_52 : alc Tryz.prog 52 = some (.cells false 0 [.int .i64 0, .int .i64 0] 52, ptrTo) := congrArg id (by rfl)
theorem al_56 : alc Tryz.prog 56 = some (.cells false 0 [.int .i64 0, .slice none 0 0, .int .i64 0, .int .i64 0, .int .i64 0, .int .i64 0, .int .i64 0, .int .i64 0] 56, ptrTo) := congrArg id (by rfl)
theorem al_61 : alc Tryz.prog 61 = some (.cells false 0 [.int .i64 0, .int .i64 0] 61, ptrTo) := congrArg id (by rfl)
theorem al_63 : alc Tryz.prog 63 = some (.cells false 0 [.int .i64 0, .int .i64 0, .int .i64 0] 63, ptrTo) := congrArg id (by rfl)
theorem al_65 : alc Tryz.prog 65 = some (.cells false 0 [.int .i64 0, .int .i64 0] 65, ptrTo) := congrArg id (by rfl)
theorem al_124 : alc Tryz.prog 124 = some (.cells false 0 [.nilFunc] 124, ptrTo) := congrArg id (by rfl)
theorem al_139 : alc Tryz.prog 139 = some (.cells false 0 [.nilFunc] 139, ptrTo) := congrArg id (by rfl)
theorem al_178 : alc Tryz.prog 178 = some (.cells false 0 [.int .u64 0] 178, ptrTo) := congrArg id (by rfl)
theorem ap_25 {h : AHeap} (a b : Option Addr) (l c m d : Nat) : aAppend Tryz.prog h 25 (.slice a l c) (.slice b m d) = apF h 1 8 3 a l c b m d := aAppend_s (by rfl) (by rfl) (by rfl) (by rfl) (by rfl)
theorem ap_26 {h : AHeap} (a b : Option Addr) (l c m d : Nat) : aAppend Tryz.prog h 26 (.slice a l c) (.slice b m d) = apF h 5 88 33 a l c b m d := aAppend_s (by rfl) (by rfl) (by rfl) (by rfl) (by rfl)
theorem ap_30 {h : AHeap} (a b : Option Addr) (l c m d : Nat) : aAppend Tryz.prog h 30 (.slice a l c) (.slice b m d) = apF h 3 24 63 a l c b m d := aAppend_s (by rfl) (by rfl) (by rfl) (by rfl) (by rfl)
theorem ap_31 {h : AHeap} (a b : Option Addr) (l c m d : Nat) : aAppend Tryz.prog h 31 (.slice a l c) (.slice b m d) = apF h 2 16 65 a l c b m d := aAppend_s (by rfl) (by rfl) (by rfl) (by rfl) (by rfl)
theorem ap_36 {h : AHeap} (a b : Option Addr) (l c m d : Nat) : aAppend Tryz.prog h 36 (.slice a l c) (.slice b m d) = apF h 10 128 35 a l c b m d := aAppend_s (by rfl) (by rfl) (by rfl) (by rfl) (by rfl)
theorem ap_37 {h : AHeap} (a b : Option Addr) (l c m d : Nat) : aAppend Tryz.prog h 37 (.slice a l c) (.slice b m d) = apF h 2 16 52 a l c b m d := aAppend_s (by rfl) (by rfl) (by rfl) (by rfl) (by rfl)
theorem ap_44 {h : AHeap} (a b : Option Addr) (l c m d : Nat) : aAppend Tryz.prog h 44 (.slice a l c) (.slice b m d) = apF h 1 24 25 a l c b m d := aAppend_s (by rfl) (by rfl) (by rfl) (by rfl) (by rfl)
theorem ap_45 {h : AHeap} (a b : Option Addr) (l c m d : Nat) : aAppend Tryz.prog h 45 (.slice a l c) (.slice b m d) = apF h 1 24 30 a l c b m d := aAppend_s (by rfl) (by rfl) (by rfl) (by rfl) (by rfl)
theorem ap_46 {h : AHeap} (a b : Option Addr) (l c m d : Nat) : aAppend Tryz.prog h 46 (.slice a l c) (.slice b m d) = apF h 1 24 31 a l c b m d := aAppend_s (by rfl) (by rfl) (by rfl) (by rfl) (by rfl)
theorem ba_25_25 {h : AHeap} (ts : List TypeId) (x y : Value) : aBuiltin Tryz.prog h .append (25 :: 25 :: ts).toArray [x, y] = aAppend Tryz.prog h 25 x y := bi_append 25 25 ts x y (by rfl)
theorem ba_26_26 {h : AHeap} (ts : List TypeId) (x y : Value) : aBuiltin Tryz.prog h .append (26 :: 26 :: ts).toArray [x, y] = aAppend Tryz.prog h 26 x y := bi_append 26 26 ts x y (by rfl)
theorem ba_30_30 {h : AHeap} (ts : List TypeId) (x y : Value) : aBuiltin Tryz.prog h .append (30 :: 30 :: ts).toArray [x, y] = aAppend Tryz.prog h 30 x y := bi_append 30 30 ts x y (by rfl)
theorem ba_31_31 {h : AHeap} (ts : List TypeId) (x y : Value) : aBuiltin Tryz.prog h .append (31 :: 31 :: ts).toArray [x, y] = aAppend Tryz.prog h 31 x y := bi_append 31 31 ts x y (by rfl)
theorem ba_36_36 {h : AHeap} (ts : List TypeId) (x y : Value) : aBuiltin Tryz.prog h .append (36 :: 36 :: ts).toArray [x, y] = aAppend Tryz.prog h 36 x y := bi_append 36 36 ts x y (by rfl)
theorem ba_37_37 {h : AHeap} (ts : List TypeId) (x y : Value) : aBuiltin Tryz.prog h .append (37 :: 37 :: ts).toArray [x, y] = aAppend Tryz.prog h 37 x y := bi_append 37 37 ts x y (by rfl)
theorem ba_44_44 {h : AHeap} (ts : List TypeId) (x y : Value) : aBuiltin Tryz.prog h .append (44 :: 44 :: ts).toArray [x, y] = aAppend Tryz.prog h 44 x y := bi_append 44 44 ts x y (by rfl)
theorem ba_45_45 {h : AHeap} (ts : List TypeId) (x y : Value) : aBuiltin Tryz.prog h .append (45 :: 45 :: ts).toArray [x, y] = aAppend Tryz.prog h 45 x y := bi_append 45 45 ts x y (by rfl)
theorem ba_46_46 {h : AHeap} (ts : List TypeId) (x y : Value) : aBuiltin Tryz.prog h .append (46 :: 46 :: ts).toArray [x, y] = aAppend Tryz.prog h 46 x y := bi_append 46 46 ts x y (by rfl)
theorem bd_24 (ps : List (Nat × Value)) : aBuild Tryz.prog 24 ps = bdF (aFill (lk [(0, 1), (1, 1)]) [.int .i64 0, .slice none 0 0] ps) := aBuild_of (by rfl) (by rfl) (by rfl) ps
theorem bd_33 (ps : List (Nat × Value)) : aBuild Tryz.prog 33 ps = bdF (aFill (lk [(0, 1), (1, 1), (2, 1), (3, 1), (4, 1)]) [.int .i64 0, .int .i64 0, .slice none 0 0, .slice none 0 0, .slice none 0 0] ps) := aBuild_of (by rfl) (by rfl) (by rfl) ps
theorem bd_35 (ps : List (Nat × Value)) : aBuild Tryz.prog 35 ps = bdF (aFill (lk [(0, 1), (1, 1), (2, 1), (3, 1), (4, 1), (5, 5)]) [.int .i64 0, .int .i64 0, .int .i64 0, .int .i64 0, .bool false, .int .i64 0, .int .i64 0, .slice none 0 0, .slice none 0 0, .slice none 0 0] ps) := aBuild_of (by rfl) (by rfl) (by rfl) ps
theorem bd_48 (ps : List (Nat × Value)) : aBuild Tryz.prog 48 ps = bdF (aFill (lk [(0, 1), (1, 1), (2, 1), (3, 1), (4, 1)]) [.int .i64 0, .slice none 0 0, .slice none 0 0, .slice none 0 0, .slice none 0 0] ps) := aBuild_of (by rfl) (by rfl) (by rfl) ps
theorem bd_52 (ps : List (Nat × Value)) : aBuild Tryz.prog 52 ps = bdF (aFill (lk [(0, 1), (1, 1)]) [.int .i64 0, .int .i64 0] ps) := aBuild_of (by rfl) (by rfl) (by rfl) ps
theorem bd_54 (ps : List (Nat × Value)) : aBuild Tryz.prog 54 ps = bdF (aFill (lk [(0, 1), (1, 1), (2, 1)]) [.int .i64 0, .int .i64 0, .int .i64 0] ps) := aBuild_of (by rfl) (by rfl) (by rfl) ps
theorem bd_56 (ps : List (Nat × Value)) : aBuild Tryz.prog 56 ps = bdF (aFill (lk [(0, 1), (1, 1), (2, 3), (5, 1), (6, 1), (7, 1)]) [.int .i64 0, .slice none 0 0, .int .i64 0, .int .i64 0, .int .i64 0, .int .i64 0, .int .i64 0, .int .i64 0] ps) := aBuild_of (by rfl) (by rfl) (by rfl) ps
theorem bd_61 (ps : List (Nat × Value)) : aBuild Tryz.prog 61 ps = bdF (aFill (lk [(0, 1), (1, 1)]) [.int .i64 0, .int .i64 0] ps) := aBuild_of (by rfl) (by rfl) (by rfl) ps
theorem bd_63 (ps : List (Nat × Value)) : aBuild Tryz.prog 63 ps = bdF (aFill (lk [(0, 1), (1, 2)]) [.int .i64 0, .int .i64 0, .int .i64 0] ps) := aBuild_of (by rfl) (by rfl) (by rfl) ps
theorem bd_65 (ps : List (Nat × Value)) : aBuild Tryz.prog 65 ps = bdF (aFill (lk [(0, 1), (1, 1)]) [.int .i64 0, .int .i64 0] ps) := aBuild_of (by rfl) (by rfl) (by rfl) ps
theorem bd_81 (ps : List (Nat × Value)) : aBuild Tryz.prog 81 ps = bdF (aFill (lk [(0, 1), (1, 1), (2, 1), (3, 1), (4, 1), (5, 1), (6, 1)]) [.bool false, .int .i64 0, .int .i64 0, .bool false, .int .i64 0, .map none, .map none] ps) := aBuild_of (by rfl) (by rfl) (by rfl) ps
theorem bd_119 (ps : List (Nat × Value)) : aBuild Tryz.prog 119 ps = bdF (aFill (lk [(0, 1), (1, 1)]) [.int .i64 0, .map none] ps) := aBuild_of (by rfl) (by rfl) (by rfl) ps
theorem bd_123 (ps : List (Nat × Value)) : aBuild Tryz.prog 123 ps = bdF (aFill (lk [(0, 1), (1, 1), (2, 1), (3, 1), (4, 1), (5, 1)]) [.bool false, .int .i64 0, .int .i64 0, .int .i64 0, .bool false, .slice none 0 0] ps) := aBuild_of (by rfl) (by rfl) (by rfl) ps
theorem bs_22 (m : Nat) (ps : List (Nat × Value)) : bBuildSlice Tryz.prog 22 m ps = bsF 8 56 m (aFill (fun j => some (j * 8, 8)) (aZeros [.int .i64 0, .slice none 0 0, .int .i64 0, .int .i64 0, .int .i64 0, .int .i64 0, .int .i64 0, .int .i64 0] m) ps) := bBuildSlice_s (by rfl) (by rfl) (by rfl) (by rfl)
theorem bs_25 (m : Nat) (ps : List (Nat × Value)) : bBuildSlice Tryz.prog 25 m ps = bsF 1 3 m (aFill (fun j => some (j * 1, 1)) (aZeros [.int .i64 0] m) ps) := bBuildSlice_s (by rfl) (by rfl) (by rfl) (by rfl)
theorem bs_26 (m : Nat) (ps : List (Nat × Value)) : bBuildSlice Tryz.prog 26 m ps = bsF 5 33 m (aFill (fun j => some (j * 5, 5)) (aZeros [.int .i64 0, .int .i64 0, .slice none 0 0, .slice none 0 0, .slice none 0 0] m) ps) := bBuildSlice_s (by rfl) (by rfl) (by rfl) (by rfl)
theorem bs_30 (m : Nat) (ps : List (Nat × Value)) : bBuildSlice Tryz.prog 30 m ps = bsF 3 63 m (aFill (fun j => some (j * 3, 3)) (aZeros [.int .i64 0, .int .i64 0, .int .i64 0] m) ps) := bBuildSlice_s (by rfl) (by rfl) (by rfl) (by rfl)
theorem bs_31 (m : Nat) (ps : List (Nat × Value)) : bBuildSlice Tryz.prog 31 m ps = bsF 2 65 m (aFill (fun j => some (j * 2, 2)) (aZeros [.int .i64 0, .int .i64 0] m) ps) := bBuildSlice_s (by rfl) (by rfl) (by rfl) (by rfl)
theorem bs_36 (m : Nat) (ps : List (Nat × Value)) : bBuildSlice Tryz.prog 36 m ps = bsF 10 35 m (aFill (fun j => some (j * 10, 10)) (aZeros [.int .i64 0, .int .i64 0, .int .i64 0, .int .i64 0, .bool false, .int .i64 0, .int .i64 0, .slice none 0 0, .slice none 0 0, .slice none 0 0] m) ps) := bBuildSlice_s (by rfl) (by rfl) (by rfl) (by rfl)
theorem bs_37 (m : Nat) (ps : List (Nat × Value)) : bBuildSlice Tryz.prog 37 m ps = bsF 2 52 m (aFill (fun j => some (j * 2, 2)) (aZeros [.int .i64 0, .int .i64 0] m) ps) := bBuildSlice_s (by rfl) (by rfl) (by rfl) (by rfl)
theorem bs_44 (m : Nat) (ps : List (Nat × Value)) : bBuildSlice Tryz.prog 44 m ps = bsF 1 25 m (aFill (fun j => some (j * 1, 1)) (aZeros [.slice none 0 0] m) ps) := bBuildSlice_s (by rfl) (by rfl) (by rfl) (by rfl)
theorem bs_45 (m : Nat) (ps : List (Nat × Value)) : bBuildSlice Tryz.prog 45 m ps = bsF 1 30 m (aFill (fun j => some (j * 1, 1)) (aZeros [.slice none 0 0] m) ps) := bBuildSlice_s (by rfl) (by rfl) (by rfl) (by rfl)
theorem bs_46 (m : Nat) (ps : List (Nat × Value)) : bBuildSlice Tryz.prog 46 m ps = bsF 1 31 m (aFill (fun j => some (j * 1, 1)) (aZeros [.slice none 0 0] m) ps) := bBuildSlice_s (by rfl) (by rfl) (by rfl) (by rfl)
theorem cl_25 {h : AHeap} (b o m c : Nat) : aClear Tryz.prog h 25 (.slice (some ⟨b, o, none⟩) m c) = if m = 0 then some h else gPut h b o (aZeros [.int .i64 0] m) (h.get b) := aClear_s (by rfl) (by rfl)
theorem bc_25 {h : AHeap} (ts : List TypeId) (x : Value) : aBuiltin Tryz.prog h .clear (25 :: ts).toArray [x] = un (aClear Tryz.prog h 25 x) := bi_clear 25 ts x (by rfl)
-- dl 78
-- dl 117
-- bool eq 4
theorem eq_25_eql_s (x y : Operand) (a : Addr) (l c : Nat) : aBin Tryz.prog .eql 25 x y (.slice (some a) l c) (.slice none 0 0) = some (.bool false) := congrArg id (by rfl)
theorem eq_25_eql_n (x y : Operand) (l c : Nat) : aBin Tryz.prog .eql 25 x y (.slice none l c) (.slice none 0 0) = some (.bool true) := congrArg id (by rfl)
theorem eq_25_neq_s (x y : Operand) (a : Addr) (l c : Nat) : aBin Tryz.prog .neq 25 x y (.slice (some a) l c) (.slice none 0 0) = some (.bool true) := congrArg id (by rfl)
theorem eq_25_neq_n (x y : Operand) (l c : Nat) : aBin Tryz.prog .neq 25 x y (.slice none l c) (.slice none 0 0) = some (.bool false) := congrArg id (by rfl)
theorem eq_30_eql_s (x y : Operand) (a : Addr) (l c : Nat) : aBin Tryz.prog .eql 30 x y (.slice (some a) l c) (.slice none 0 0) = some (.bool false) := congrArg id (by rfl)
theorem eq_30_eql_n (x y : Operand) (l c : Nat) : aBin Tryz.prog .eql 30 x y (.slice none l c) (.slice none 0 0) = some (.bool true) := congrArg id (by rfl)
theorem eq_30_neq_s (x y : Operand) (a : Addr) (l c : Nat) : aBin Tryz.prog .neq 30 x y (.slice (some a) l c) (.slice none 0 0) = some (.bool true) := congrArg id (by rfl)
theorem eq_30_neq_n (x y : Operand) (l c : Nat) : aBin Tryz.prog .neq 30 x y (.slice none l c) (.slice none 0 0) = some (.bool false) := congrArg id (by rfl)
theorem eq_31_eql_s (x y : Operand) (a : Addr) (l c : Nat) : aBin Tryz.prog .eql 31 x y (.slice (some a) l c) (.slice none 0 0) = some (.bool false) := congrArg id (by rfl)
theorem eq_31_eql_n (x y : Operand) (l c : Nat) : aBin Tryz.prog .eql 31 x y (.slice none l c) (.slice none 0 0) = some (.bool true) := congrArg id (by rfl)
theorem eq_31_neq_s (x y : Operand) (a : Addr) (l c : Nat) : aBin Tryz.prog .neq 31 x y (.slice (some a) l c) (.slice none 0 0) = some (.bool true) := congrArg id (by rfl)
theorem eq_31_neq_n (x y : Operand) (l c : Nat) : aBin Tryz.prog .neq 31 x y (.slice none l c) (.slice none 0 0) = some (.bool false) := congrArg id (by rfl)
theorem eq_39_eql_s (x y : Operand) (a : Addr) : aBin Tryz.prog .eql 39 x y (.pointer (some a)) (.pointer none) = some (.bool false) := congrArg id (by rfl)
theorem eq_39_eql_n (x y : Operand) : aBin Tryz.prog .eql 39 x y (.pointer none) (.pointer none) = some (.bool true) := congrArg id (by rfl)
theorem eq_39_neq_s (x y : Operand) (a : Addr) : aBin Tryz.prog .neq 39 x y (.pointer (some a)) (.pointer none) = some (.bool true) := congrArg id (by rfl)
theorem eq_39_neq_n (x y : Operand) : aBin Tryz.prog .neq 39 x y (.pointer none) (.pointer none) = some (.bool false) := congrArg id (by rfl)
-- eq of another type 54
-- eq of another type 61
-- eq of another type 63
-- eq of another type 65
theorem eq_86_eql_s (x y : Operand) (a : Addr) : aBin Tryz.prog .eql 86 x y (.pointer (some a)) (.pointer none) = some (.bool false) := congrArg id (by rfl)
theorem eq_86_eql_n (x y : Operand) : aBin Tryz.prog .eql 86 x y (.pointer none) (.pointer none) = some (.bool true) := congrArg id (by rfl)
theorem eq_86_neq_s (x y : Operand) (a : Addr) : aBin Tryz.prog .neq 86 x y (.pointer (some a)) (.pointer none) = some (.bool true) := congrArg id (by rfl)
theorem eq_86_neq_n (x y : Operand) : aBin Tryz.prog .neq 86 x y (.pointer none) (.pointer none) = some (.bool false) := congrArg id (by rfl)
theorem eq_114_eql_s (x y : Operand) (f : Fn) (a b : Array Value) : aBin Tryz.prog .eql 114 x y (.func f a b) .nilFunc = some (.bool false) := congrArg id (by rfl)
theorem eq_114_eql_n (x y : Operand) : aBin Tryz.prog .eql 114 x y .nilFunc .nilFunc = some (.bool true) := congrArg id (by rfl)
theorem eq_114_neq_s (x y : Operand) (f : Fn) (a b : Array Value) : aBin Tryz.prog .neq 114 x y (.func f a b) .nilFunc = some (.bool true) := congrArg id (by rfl)
theorem eq_114_neq_n (x y : Operand) : aBin Tryz.prog .neq 114 x y .nilFunc .nilFunc = some (.bool false) := congrArg id (by rfl)
theorem eq_144_eql_s (x y : Operand) (f : Fn) (a b : Array Value) : aBin Tryz.prog .eql 144 x y (.func f a b) .nilFunc = some (.bool false) := congrArg id (by rfl)
theorem eq_144_eql_n (x y : Operand) : aBin Tryz.prog .eql 144 x y .nilFunc .nilFunc = some (.bool true) := congrArg id (by rfl)
theorem eq_144_neq_s (x y : Operand) (f : Fn) (a b : Array Value) : aBin Tryz.prog .neq 144 x y (.func f a b) .nilFunc = some (.bool true) := congrArg id (by rfl)
theorem eq_144_neq_n (x y : Operand) : aBin Tryz.prog .neq 144 x y .nilFunc .nilFunc = some (.bool false) := congrArg id (by rfl)
theorem fa_24_0 (b o : Nat) : aField Tryz.prog 24 0 (.pointer (some ⟨b, o, none⟩)) = some (.pointer (some ⟨b, o, none⟩)) := congrArg id (by rfl)
theorem fa_24_1 (b o : Nat) : aField Tryz.prog 24 1 (.pointer (some ⟨b, o, none⟩)) = some (.pointer (some ⟨b, o + 1, none⟩)) := congrArg id (by rfl)
theorem fa_33_0 (b o : Nat) : aField Tryz.prog 33 0 (.pointer (some ⟨b, o, none⟩)) = some (.pointer (some ⟨b, o, none⟩)) := congrArg id (by rfl)
theorem fa_33_1 (b o : Nat) : aField Tryz.prog 33 1 (.pointer (some ⟨b, o, none⟩)) = some (.pointer (some ⟨b, o + 1, none⟩)) := congrArg id (by rfl)
theorem fa_33_2 (b o : Nat) : aField Tryz.prog 33 2 (.pointer (some ⟨b, o, none⟩)) = some (.pointer (some ⟨b, o + 2, none⟩)) := congrArg id (by rfl)
theorem fa_33_3 (b o : Nat) : aField Tryz.prog 33 3 (.pointer (some ⟨b, o, none⟩)) = some (.pointer (some ⟨b, o + 3, none⟩)) := congrArg id (by rfl)
theorem fa_33_4 (b o : Nat) : aField Tryz.prog 33 4 (.pointer (some ⟨b, o, none⟩)) = some (.pointer (some ⟨b, o + 4, none⟩)) := congrArg id (by rfl)
theorem fa_35_0 (b o : Nat) : aField Tryz.prog 35 0 (.pointer (some ⟨b, o, none⟩)) = some (.pointer (some ⟨b, o, none⟩)) := congrArg id (by rfl)
theorem fa_35_1 (b o : Nat) : aField Tryz.prog 35 1 (.pointer (some ⟨b, o, none⟩)) = some (.pointer (some ⟨b, o + 1, none⟩)) := congrArg id (by rfl)
theorem fa_35_2 (b o : Nat) : aField Tryz.prog 35 2 (.pointer (some ⟨b, o, none⟩)) = some (.pointer (some ⟨b, o + 2, none⟩)) := congrArg id (by rfl)
theorem fa_35_3 (b o : Nat) : aField Tryz.prog 35 3 (.pointer (some ⟨b, o, none⟩)) = some (.pointer (some ⟨b, o + 3, none⟩)) := congrArg id (by rfl)
theorem fa_35_4 (b o : Nat) : aField Tryz.prog 35 4 (.pointer (some ⟨b, o, none⟩)) = some (.pointer (some ⟨b, o + 4, none⟩)) := congrArg id (by rfl)
theorem fa_35_5 (b o : Nat) : aField Tryz.prog 35 5 (.pointer (some ⟨b, o, none⟩)) = some (.pointer (some ⟨b, o + 5, none⟩)) := congrArg id (by rfl)
theorem fa_48_0 (b o : Nat) : aField Tryz.prog 48 0 (.pointer (some ⟨b, o, none⟩)) = some (.pointer (some ⟨b, o, none⟩)) := congrArg id (by rfl)
theorem fa_48_1 (b o : Nat) : aField Tryz.prog 48 1 (.pointer (some ⟨b, o, none⟩)) = some (.pointer (some ⟨b, o + 1, none⟩)) := congrArg id (by rfl)
theorem fa_48_2 (b o : Nat) : aField Tryz.prog 48 2 (.pointer (some ⟨b, o, none⟩)) = some (.pointer (some ⟨b, o + 2, none⟩)) := congrArg id (by rfl)
theorem fa_48_3 (b o : Nat) : aField Tryz.prog 48 3 (.pointer (some ⟨b, o, none⟩)) = some (.pointer (some ⟨b, o + 3, none⟩)) := congrArg id (by rfl)
theorem fa_48_4 (b o : Nat) : aField Tryz.prog 48 4 (.pointer (some ⟨b, o, none⟩)) = some (.pointer (some ⟨b, o + 4, none⟩)) := congrArg id (by rfl)
theorem fa_52_0 (b o : Nat) : aField Tryz.prog 52 0 (.pointer (some ⟨b, o, none⟩)) = some (.pointer (some ⟨b, o, none⟩)) := congrArg id (by rfl)
theorem fa_52_1 (b o : Nat) : aField Tryz.prog 52 1 (.pointer (some ⟨b, o, none⟩)) = some (.pointer (some ⟨b, o + 1, none⟩)) := congrArg id (by rfl)
theorem fa_54_0 (b o : Nat) : aField Tryz.prog 54 0 (.pointer (some ⟨b, o, none⟩)) = some (.pointer (some ⟨b, o, none⟩)) := congrArg id (by rfl)
theorem fa_54_1 (b o : Nat) : aField Tryz.prog 54 1 (.pointer (some ⟨b, o, none⟩)) = some (.pointer (some ⟨b, o + 1, none⟩)) := congrArg id (by rfl)
theorem fa_54_2 (b o : Nat) : aField Tryz.prog 54 2 (.pointer (some ⟨b, o, none⟩)) = some (.pointer (some ⟨b, o + 2, none⟩)) := congrArg id (by rfl)
theorem fa_56_0 (b o : Nat) : aField Tryz.prog 56 0 (.pointer (some ⟨b, o, none⟩)) = some (.pointer (some ⟨b, o, none⟩)) := congrArg id (by rfl)
theorem fa_56_1 (b o : Nat) : aField Tryz.prog 56 1 (.pointer (some ⟨b, o, none⟩)) = some (.pointer (some ⟨b, o + 1, none⟩)) := congrArg id (by rfl)
theorem fa_56_2 (b o : Nat) : aField Tryz.prog 56 2 (.pointer (some ⟨b, o, none⟩)) = some (.pointer (some ⟨b, o + 2, none⟩)) := congrArg id (by rfl)
theorem fa_56_3 (b o : Nat) : aField Tryz.prog 56 3 (.pointer (some ⟨b, o, none⟩)) = some (.pointer (some ⟨b, o + 5, none⟩)) := congrArg id (by rfl)
theorem fa_56_4 (b o : Nat) : aField Tryz.prog 56 4 (.pointer (some ⟨b, o, none⟩)) = some (.pointer (some ⟨b, o + 6, none⟩)) := congrArg id (by rfl)
theorem fa_56_5 (b o : Nat) : aField Tryz.prog 56 5 (.pointer (some ⟨b, o, none⟩)) = some (.pointer (some ⟨b, o + 7, none⟩)) := congrArg id (by rfl)
theorem fa_63_0 (b o : Nat) : aField Tryz.prog 63 0 (.pointer (some ⟨b, o, none⟩)) = some (.pointer (some ⟨b, o, none⟩)) := congrArg id (by rfl)
theorem fa_63_1 (b o : Nat) : aField Tryz.prog 63 1 (.pointer (some ⟨b, o, none⟩)) = some (.pointer (some ⟨b, o + 1, none⟩)) := congrArg id (by rfl)
theorem fa_81_0 (b o : Nat) : aField Tryz.prog 81 0 (.pointer (some ⟨b, o, none⟩)) = some (.pointer (some ⟨b, o, none⟩)) := congrArg id (by rfl)
theorem fa_81_1 (b o : Nat) : aField Tryz.prog 81 1 (.pointer (some ⟨b, o, none⟩)) = some (.pointer (some ⟨b, o + 1, none⟩)) := congrArg id (by rfl)
theorem fa_81_2 (b o : Nat) : aField Tryz.prog 81 2 (.pointer (some ⟨b, o, none⟩)) = some (.pointer (some ⟨b, o + 2, none⟩)) := congrArg id (by rfl)
theorem fa_81_3 (b o : Nat) : aField Tryz.prog 81 3 (.pointer (some ⟨b, o, none⟩)) = some (.pointer (some ⟨b, o + 3, none⟩)) := congrArg id (by rfl)
theorem fa_81_4 (b o : Nat) : aField Tryz.prog 81 4 (.pointer (some ⟨b, o, none⟩)) = some (.pointer (some ⟨b, o + 4, none⟩)) := congrArg id (by rfl)
theorem fa_81_5 (b o : Nat) : aField Tryz.prog 81 5 (.pointer (some ⟨b, o, none⟩)) = some (.pointer (some ⟨b, o + 5, none⟩)) := congrArg id (by rfl)
theorem fa_81_6 (b o : Nat) : aField Tryz.prog 81 6 (.pointer (some ⟨b, o, none⟩)) = some (.pointer (some ⟨b, o + 6, none⟩)) := congrArg id (by rfl)
theorem fa_119_0 (b o : Nat) : aField Tryz.prog 119 0 (.pointer (some ⟨b, o, none⟩)) = some (.pointer (some ⟨b, o, none⟩)) := congrArg id (by rfl)
theorem fa_119_1 (b o : Nat) : aField Tryz.prog 119 1 (.pointer (some ⟨b, o, none⟩)) = some (.pointer (some ⟨b, o + 1, none⟩)) := congrArg id (by rfl)
theorem fa_123_0 (b o : Nat) : aField Tryz.prog 123 0 (.pointer (some ⟨b, o, none⟩)) = some (.pointer (some ⟨b, o, none⟩)) := congrArg id (by rfl)
theorem fa_123_1 (b o : Nat) : aField Tryz.prog 123 1 (.pointer (some ⟨b, o, none⟩)) = some (.pointer (some ⟨b, o + 1, none⟩)) := congrArg id (by rfl)
theorem fa_123_2 (b o : Nat) : aField Tryz.prog 123 2 (.pointer (some ⟨b, o, none⟩)) = some (.pointer (some ⟨b, o + 2, none⟩)) := congrArg id (by rfl)
theorem fa_123_3 (b o : Nat) : aField Tryz.prog 123 3 (.pointer (some ⟨b, o, none⟩)) = some (.pointer (some ⟨b, o + 3, none⟩)) := congrArg id (by rfl)
theorem fa_123_4 (b o : Nat) : aField Tryz.prog 123 4 (.pointer (some ⟨b, o, none⟩)) = some (.pointer (some ⟨b, o + 4, none⟩)) := congrArg id (by rfl)
theorem fa_123_5 (b o : Nat) : aField Tryz.prog 123 5 (.pointer (some ⟨b, o, none⟩)) = some (.pointer (some ⟨b, o + 5, none⟩)) := congrArg id (by rfl)
theorem ia_22 (b o len cap : Nat) (k : IntKind) (i : Int) : aIndexAddr Tryz.prog 22 (.slice (some ⟨b, o, none⟩) len cap) (.int k i) = if 0 ≤ i ∧ i < len then some (.pointer (some ⟨b, o + i.toNat * 8, none⟩)) else none := aIndexAddr_s (by rfl) (by rfl) (by rfl)
theorem ia_25 (b o len cap : Nat) (k : IntKind) (i : Int) : aIndexAddr Tryz.prog 25 (.slice (some ⟨b, o, none⟩) len cap) (.int k i) = if 0 ≤ i ∧ i < len then some (.pointer (some ⟨b, o + i.toNat * 1, none⟩)) else none := aIndexAddr_s (by rfl) (by rfl) (by rfl)
theorem ia_26 (b o len cap : Nat) (k : IntKind) (i : Int) : aIndexAddr Tryz.prog 26 (.slice (some ⟨b, o, none⟩) len cap) (.int k i) = if 0 ≤ i ∧ i < len then some (.pointer (some ⟨b, o + i.toNat * 5, none⟩)) else none := aIndexAddr_s (by rfl) (by rfl) (by rfl)
theorem ia_30 (b o len cap : Nat) (k : IntKind) (i : Int) : aIndexAddr Tryz.prog 30 (.slice (some ⟨b, o, none⟩) len cap) (.int k i) = if 0 ≤ i ∧ i < len then some (.pointer (some ⟨b, o + i.toNat * 3, none⟩)) else none := aIndexAddr_s (by rfl) (by rfl) (by rfl)
theorem ia_31 (b o len cap : Nat) (k : IntKind) (i : Int) : aIndexAddr Tryz.prog 31 (.slice (some ⟨b, o, none⟩) len cap) (.int k i) = if 0 ≤ i ∧ i < len then some (.pointer (some ⟨b, o + i.toNat * 2, none⟩)) else none := aIndexAddr_s (by rfl) (by rfl) (by rfl)
theorem ia_36 (b o len cap : Nat) (k : IntKind) (i : Int) : aIndexAddr Tryz.prog 36 (.slice (some ⟨b, o, none⟩) len cap) (.int k i) = if 0 ≤ i ∧ i < len then some (.pointer (some ⟨b, o + i.toNat * 10, none⟩)) else none := aIndexAddr_s (by rfl) (by rfl) (by rfl)
theorem ia_37 (b o len cap : Nat) (k : IntKind) (i : Int) : aIndexAddr Tryz.prog 37 (.slice (some ⟨b, o, none⟩) len cap) (.int k i) = if 0 ≤ i ∧ i < len then some (.pointer (some ⟨b, o + i.toNat * 2, none⟩)) else none := aIndexAddr_s (by rfl) (by rfl) (by rfl)
theorem ia_44 (b o len cap : Nat) (k : IntKind) (i : Int) : aIndexAddr Tryz.prog 44 (.slice (some ⟨b, o, none⟩) len cap) (.int k i) = if 0 ≤ i ∧ i < len then some (.pointer (some ⟨b, o + i.toNat * 1, none⟩)) else none := aIndexAddr_s (by rfl) (by rfl) (by rfl)
theorem ia_45 (b o len cap : Nat) (k : IntKind) (i : Int) : aIndexAddr Tryz.prog 45 (.slice (some ⟨b, o, none⟩) len cap) (.int k i) = if 0 ≤ i ∧ i < len then some (.pointer (some ⟨b, o + i.toNat * 1, none⟩)) else none := aIndexAddr_s (by rfl) (by rfl) (by rfl)
theorem ia_46 (b o len cap : Nat) (k : IntKind) (i : Int) : aIndexAddr Tryz.prog 46 (.slice (some ⟨b, o, none⟩) len cap) (.int k i) = if 0 ≤ i ∧ i < len then some (.pointer (some ⟨b, o + i.toNat * 1, none⟩)) else none := aIndexAddr_s (by rfl) (by rfl) (by rfl)
theorem ia_83 (b o len cap : Nat) (k : IntKind) (i : Int) : aIndexAddr Tryz.prog 83 (.slice (some ⟨b, o, none⟩) len cap) (.int k i) = if 0 ≤ i ∧ i < len then some (.pointer (some ⟨b, o + i.toNat * 1, none⟩)) else none := aIndexAddr_s (by rfl) (by rfl) (by rfl)
-- ix 9
theorem ld_3 {h : AHeap} (b off : Nat) : aLoad Tryz.prog h 3 ⟨b, off, none⟩ = gCell off (h.get b) := aLoad_s (by rfl) (by rfl) b off
theorem ld_4 {h : AHeap} (b off : Nat) : aLoad Tryz.prog h 4 ⟨b, off, none⟩ = gCell off (h.get b) := aLoad_s (by rfl) (by rfl) b off
theorem ld_22 {h : AHeap} (b off : Nat) : aLoad Tryz.prog h 22 ⟨b, off, none⟩ = gCell off (h.get b) := aLoad_s (by rfl) (by rfl) b off
theorem ld_24 {h : AHeap} (b off : Nat) : aLoad Tryz.prog h 24 ⟨b, off, none⟩ = (gCells off 2 (h.get b)).map fun xs => .agg xs.toArray := aLoad_a (by rfl) (by rfl) (by rfl) (by rfl) b off
theorem ld_25 {h : AHeap} (b off : Nat) : aLoad Tryz.prog h 25 ⟨b, off, none⟩ = gCell off (h.get b) := aLoad_s (by rfl) (by rfl) b off
theorem ld_26 {h : AHeap} (b off : Nat) : aLoad Tryz.prog h 26 ⟨b, off, none⟩ = gCell off (h.get b) := aLoad_s (by rfl) (by rfl) b off
theorem ld_30 {h : AHeap} (b off : Nat) : aLoad Tryz.prog h 30 ⟨b, off, none⟩ = gCell off (h.get b) := aLoad_s (by rfl) (by rfl) b off
theorem ld_31 {h : AHeap} (b off : Nat) : aLoad Tryz.prog h 31 ⟨b, off, none⟩ = gCell off (h.get b) := aLoad_s (by rfl) (by rfl) b off
theorem ld_33 {h : AHeap} (b off : Nat) : aLoad Tryz.prog h 33 ⟨b, off, none⟩ = (gCells off 5 (h.get b)).map fun xs => .agg xs.toArray := aLoad_a (by rfl) (by rfl) (by rfl) (by rfl) b off
theorem ld_35 {h : AHeap} (b off : Nat) : aLoad Tryz.prog h 35 ⟨b, off, none⟩ = (gCells off 10 (h.get b)).map fun xs => .agg xs.toArray := aLoad_a (by rfl) (by rfl) (by rfl) (by rfl) b off
theorem ld_37 {h : AHeap} (b off : Nat) : aLoad Tryz.prog h 37 ⟨b, off, none⟩ = gCell off (h.get b) := aLoad_s (by rfl) (by rfl) b off
theorem ld_44 {h : AHeap} (b off : Nat) : aLoad Tryz.prog h 44 ⟨b, off, none⟩ = gCell off (h.get b) := aLoad_s (by rfl) (by rfl) b off
theorem ld_45 {h : AHeap} (b off : Nat) : aLoad Tryz.prog h 45 ⟨b, off, none⟩ = gCell off (h.get b) := aLoad_s (by rfl) (by rfl) b off
theorem ld_46 {h : AHeap} (b off : Nat) : aLoad Tryz.prog h 46 ⟨b, off, none⟩ = gCell off (h.get b) := aLoad_s (by rfl) (by rfl) b off
theorem ld_48 {h : AHeap} (b off : Nat) : aLoad Tryz.prog h 48 ⟨b, off, none⟩ = (gCells off 5 (h.get b)).map fun xs => .agg xs.toArray := aLoad_a (by rfl) (by rfl) (by rfl) (by rfl) b off
theorem ld_52 {h : AHeap} (b off : Nat) : aLoad Tryz.prog h 52 ⟨b, off, none⟩ = (gCells off 2 (h.get b)).map fun xs => .agg xs.toArray := aLoad_a (by rfl) (by rfl) (by rfl) (by rfl) b off
theorem ld_54 {h : AHeap} (b off : Nat) : aLoad Tryz.prog h 54 ⟨b, off, none⟩ = (gCells off 3 (h.get b)).map fun xs => .agg xs.toArray := aLoad_a (by rfl) (by rfl) (by rfl) (by rfl) b off
theorem ld_56 {h : AHeap} (b off : Nat) : aLoad Tryz.prog h 56 ⟨b, off, none⟩ = (gCells off 8 (h.get b)).map fun xs => .agg xs.toArray := aLoad_a (by rfl) (by rfl) (by rfl) (by rfl) b off
theorem ld_61 {h : AHeap} (b off : Nat) : aLoad Tryz.prog h 61 ⟨b, off, none⟩ = (gCells off 2 (h.get b)).map fun xs => .agg xs.toArray := aLoad_a (by rfl) (by rfl) (by rfl) (by rfl) b off
theorem ld_63 {h : AHeap} (b off : Nat) : aLoad Tryz.prog h 63 ⟨b, off, none⟩ = (gCells off 3 (h.get b)).map fun xs => .agg xs.toArray := aLoad_a (by rfl) (by rfl) (by rfl) (by rfl) b off
theorem ld_65 {h : AHeap} (b off : Nat) : aLoad Tryz.prog h 65 ⟨b, off, none⟩ = (gCells off 2 (h.get b)).map fun xs => .agg xs.toArray := aLoad_a (by rfl) (by rfl) (by rfl) (by rfl) b off
theorem ld_78 {h : AHeap} (b off : Nat) : aLoad Tryz.prog h 78 ⟨b, off, none⟩ = gCell off (h.get b) := aLoad_s (by rfl) (by rfl) b off
theorem ld_79 {h : AHeap} (b off : Nat) : aLoad Tryz.prog h 79 ⟨b, off, none⟩ = gCell off (h.get b) := aLoad_s (by rfl) (by rfl) b off
theorem ld_86 {h : AHeap} (b off : Nat) : aLoad Tryz.prog h 86 ⟨b, off, none⟩ = gCell off (h.get b) := aLoad_s (by rfl) (by rfl) b off
theorem ld_117 {h : AHeap} (b off : Nat) : aLoad Tryz.prog h 117 ⟨b, off, none⟩ = gCell off (h.get b) := aLoad_s (by rfl) (by rfl) b off
theorem ld_124 {h : AHeap} (b off : Nat) : aLoad Tryz.prog h 124 ⟨b, off, none⟩ = gCell off (h.get b) := aLoad_s (by rfl) (by rfl) b off
theorem ld_139 {h : AHeap} (b off : Nat) : aLoad Tryz.prog h 139 ⟨b, off, none⟩ = gCell off (h.get b) := aLoad_s (by rfl) (by rfl) b off
theorem ld_178 {h : AHeap} (b off : Nat) : aLoad Tryz.prog h 178 ⟨b, off, none⟩ = gCell off (h.get b) := aLoad_s (by rfl) (by rfl) b off
theorem lk_78 {h : AHeap} (r : Nat) (k : IntKind) (m : Int) (ok : Bool) : aLookup Tryz.prog h 78 (.map (some r)) (.int k m) ok = lkF (.int .i64 0) ok (mF k m (h.get r)) := aLookup_m (by rfl) (by rfl) (by rfl) (by rfl) (by rfl)
theorem lk_78n {h : AHeap} (k : IntKind) (m : Int) (ok : Bool) : aLookup Tryz.prog h 78 (.map none) (.int k m) ok = lkF (.int .i64 0) ok (some none) := aLookup_n (by rfl) (by rfl) (by rfl) (by rfl) (by rfl)
theorem lk_79 {h : AHeap} (r : Nat) (k : IntKind) (m : Int) (ok : Bool) : aLookup Tryz.prog h 79 (.map (some r)) (.int k m) ok = lkF (.agg #[.int .i64 0, .int .i64 0, .slice none 0 0, .slice none 0 0, .slice none 0 0]) ok (mF k m (h.get r)) := aLookup_m (by rfl) (by rfl) (by rfl) (by rfl) (by rfl)
theorem lk_79n {h : AHeap} (k : IntKind) (m : Int) (ok : Bool) : aLookup Tryz.prog h 79 (.map none) (.int k m) ok = lkF (.agg #[.int .i64 0, .int .i64 0, .slice none 0 0, .slice none 0 0, .slice none 0 0]) ok (some none) := aLookup_n (by rfl) (by rfl) (by rfl) (by rfl) (by rfl)
theorem lk_117 {h : AHeap} (r : Nat) (k : IntKind) (m : Int) (ok : Bool) : aLookup Tryz.prog h 117 (.map (some r)) (.int k m) ok = lkF (.agg #[.int .i64 0, .int .i64 0]) ok (mF k m (h.get r)) := aLookup_m (by rfl) (by rfl) (by rfl) (by rfl) (by rfl)
theorem lk_117n {h : AHeap} (k : IntKind) (m : Int) (ok : Bool) : aLookup Tryz.prog h 117 (.map none) (.int k m) ok = lkF (.agg #[.int .i64 0, .int .i64 0]) ok (some none) := aLookup_n (by rfl) (by rfl) (by rfl) (by rfl) (by rfl)
theorem ln_22 {h : AHeap} (a : Option Addr) (m c : Nat) : aLen Tryz.prog h 22 (.slice a m c) = some (.int .i64 m) := congrArg id (by rfl)
theorem ln_25 {h : AHeap} (a : Option Addr) (m c : Nat) : aLen Tryz.prog h 25 (.slice a m c) = some (.int .i64 m) := congrArg id (by rfl)
theorem ln_26 {h : AHeap} (a : Option Addr) (m c : Nat) : aLen Tryz.prog h 26 (.slice a m c) = some (.int .i64 m) := congrArg id (by rfl)
theorem ln_30 {h : AHeap} (a : Option Addr) (m c : Nat) : aLen Tryz.prog h 30 (.slice a m c) = some (.int .i64 m) := congrArg id (by rfl)
theorem ln_31 {h : AHeap} (a : Option Addr) (m c : Nat) : aLen Tryz.prog h 31 (.slice a m c) = some (.int .i64 m) := congrArg id (by rfl)
theorem ln_36 {h : AHeap} (a : Option Addr) (m c : Nat) : aLen Tryz.prog h 36 (.slice a m c) = some (.int .i64 m) := congrArg id (by rfl)
theorem ln_37 {h : AHeap} (a : Option Addr) (m c : Nat) : aLen Tryz.prog h 37 (.slice a m c) = some (.int .i64 m) := congrArg id (by rfl)
theorem ln_44 {h : AHeap} (a : Option Addr) (m c : Nat) : aLen Tryz.prog h 44 (.slice a m c) = some (.int .i64 m) := congrArg id (by rfl)
theorem ln_45 {h : AHeap} (a : Option Addr) (m c : Nat) : aLen Tryz.prog h 45 (.slice a m c) = some (.int .i64 m) := congrArg id (by rfl)
theorem ln_46 {h : AHeap} (a : Option Addr) (m c : Nat) : aLen Tryz.prog h 46 (.slice a m c) = some (.int .i64 m) := congrArg id (by rfl)
theorem ln_78 {h : AHeap} (r : Nat) : aLen Tryz.prog h 78 (.map (some r)) = lnM (h.get r) := aLen_m (by rfl)
theorem ln_83 {h : AHeap} (a : Option Addr) (m c : Nat) : aLen Tryz.prog h 83 (.slice a m c) = some (.int .i64 m) := congrArg id (by rfl)
-- mm 78
-- mm 79
-- mm 117
theorem ms_25 (k k' : IntKind) (l c : Int) : bMakeSlice Tryz.prog 25 (.int k l) (.int k' c) = msF 1 8 [.int .i64 0] 3 l c := bMakeSlice_s (by rfl) (by rfl) (by rfl) (by rfl) (by rfl)
theorem ms_44 (k k' : IntKind) (l c : Int) : bMakeSlice Tryz.prog 44 (.int k l) (.int k' c) = msF 1 24 [.slice none 0 0] 25 l c := bMakeSlice_s (by rfl) (by rfl) (by rfl) (by rfl) (by rfl)
theorem ms_45 (k k' : IntKind) (l c : Int) : bMakeSlice Tryz.prog 45 (.int k l) (.int k' c) = msF 1 24 [.slice none 0 0] 30 l c := bMakeSlice_s (by rfl) (by rfl) (by rfl) (by rfl) (by rfl)
theorem ms_46 (k k' : IntKind) (l c : Int) : bMakeSlice Tryz.prog 46 (.int k l) (.int k' c) = msF 1 24 [.slice none 0 0] 31 l c := bMakeSlice_s (by rfl) (by rfl) (by rfl) (by rfl) (by rfl)
theorem ms_83 (k k' : IntKind) (l c : Int) : bMakeSlice Tryz.prog 83 (.int k l) (.int k' c) = msF 1 24 [.slice none 0 0] 26 l c := bMakeSlice_s (by rfl) (by rfl) (by rfl) (by rfl) (by rfl)
theorem mu_78 {h : AHeap} (r : Nat) (k : IntKind) (m : Int) (y : Value) : aMapSet Tryz.prog h 78 (.map (some r)) (.int k m) y = muF h r k m y (h.get r) := aMapSet_m (by rfl) (by rfl)
theorem mu_79 {h : AHeap} (r : Nat) (k : IntKind) (m : Int) (y : Value) : aMapSet Tryz.prog h 79 (.map (some r)) (.int k m) y = muF h r k m y (h.get r) := aMapSet_m (by rfl) (by rfl)
theorem mu_117 {h : AHeap} (r : Nat) (k : IntKind) (m : Int) (y : Value) : aMapSet Tryz.prog h 117 (.map (some r)) (.int k m) y = muF h r k m y (h.get r) := aMapSet_m (by rfl) (by rfl)
-- sl 25
-- sl 30
-- sl 31
theorem st_3 {h : AHeap} (a : Addr) (v : Value) : aStore Tryz.prog h 3 a v = stN h a v.cells 1 := aStore_n (by rfl) (by rfl) a v
theorem st_4 {h : AHeap} (a : Addr) (v : Value) : aStore Tryz.prog h 4 a v = stN h a v.cells 1 := aStore_n (by rfl) (by rfl) a v
theorem st_24 {h : AHeap} (a : Addr) (v : Value) : aStore Tryz.prog h 24 a v = stN h a v.cells 2 := aStore_n (by rfl) (by rfl) a v
theorem st_25 {h : AHeap} (a : Addr) (v : Value) : aStore Tryz.prog h 25 a v = stN h a v.cells 1 := aStore_n (by rfl) (by rfl) a v
theorem st_26 {h : AHeap} (a : Addr) (v : Value) : aStore Tryz.prog h 26 a v = stN h a v.cells 1 := aStore_n (by rfl) (by rfl) a v
theorem st_30 {h : AHeap} (a : Addr) (v : Value) : aStore Tryz.prog h 30 a v = stN h a v.cells 1 := aStore_n (by rfl) (by rfl) a v
theorem st_31 {h : AHeap} (a : Addr) (v : Value) : aStore Tryz.prog h 31 a v = stN h a v.cells 1 := aStore_n (by rfl) (by rfl) a v
theorem st_33 {h : AHeap} (a : Addr) (v : Value) : aStore Tryz.prog h 33 a v = stN h a v.cells 5 := aStore_n (by rfl) (by rfl) a v
theorem st_35 {h : AHeap} (a : Addr) (v : Value) : aStore Tryz.prog h 35 a v = stN h a v.cells 10 := aStore_n (by rfl) (by rfl) a v
theorem st_37 {h : AHeap} (a : Addr) (v : Value) : aStore Tryz.prog h 37 a v = stN h a v.cells 1 := aStore_n (by rfl) (by rfl) a v
theorem st_44 {h : AHeap} (a : Addr) (v : Value) : aStore Tryz.prog h 44 a v = stN h a v.cells 1 := aStore_n (by rfl) (by rfl) a v
theorem st_45 {h : AHeap} (a : Addr) (v : Value) : aStore Tryz.prog h 45 a v = stN h a v.cells 1 := aStore_n (by rfl) (by rfl) a v
theorem st_46 {h : AHeap} (a : Addr) (v : Value) : aStore Tryz.prog h 46 a v = stN h a v.cells 1 := aStore_n (by rfl) (by rfl) a v
theorem st_48 {h : AHeap} (a : Addr) (v : Value) : aStore Tryz.prog h 48 a v = stN h a v.cells 5 := aStore_n (by rfl) (by rfl) a v
theorem st_52 {h : AHeap} (a : Addr) (v : Value) : aStore Tryz.prog h 52 a v = stN h a v.cells 2 := aStore_n (by rfl) (by rfl) a v
theorem st_56 {h : AHeap} (a : Addr) (v : Value) : aStore Tryz.prog h 56 a v = stN h a v.cells 8 := aStore_n (by rfl) (by rfl) a v
theorem st_61 {h : AHeap} (a : Addr) (v : Value) : aStore Tryz.prog h 61 a v = stN h a v.cells 2 := aStore_n (by rfl) (by rfl) a v
theorem st_63 {h : AHeap} (a : Addr) (v : Value) : aStore Tryz.prog h 63 a v = stN h a v.cells 3 := aStore_n (by rfl) (by rfl) a v
theorem st_65 {h : AHeap} (a : Addr) (v : Value) : aStore Tryz.prog h 65 a v = stN h a v.cells 2 := aStore_n (by rfl) (by rfl) a v
theorem st_81 {h : AHeap} (a : Addr) (v : Value) : aStore Tryz.prog h 81 a v = stN h a v.cells 7 := aStore_n (by rfl) (by rfl) a v
theorem st_124 {h : AHeap} (a : Addr) (v : Value) : aStore Tryz.prog h 124 a v = stN h a v.cells 1 := aStore_n (by rfl) (by rfl) a v
theorem st_139 {h : AHeap} (a : Addr) (v : Value) : aStore Tryz.prog h 139 a v = stN h a v.cells 1 := aStore_n (by rfl) (by rfl) a v
theorem st_178 {h : AHeap} (a : Addr) (v : Value) : aStore Tryz.prog h 178 a v = stN h a v.cells 1 := aStore_n (by rfl) (by rfl) a v
-- NAMES al_3, al_24, al_25, al_33, al_35, al_37, al_48, al_52, al_56, al_61, al_63, al_65, al_124, al_139, al_178, ap_25, ap_26, ap_30, ap_31, ap_36, ap_37, ap_44, ap_45, ap_46, ba_25_25, ba_26_26, ba_30_30, ba_31_31, ba_36_36, ba_37_37, ba_44_44, ba_45_45, ba_46_46, bd_24, bd_33, bd_35, bd_48, bd_52, bd_54, bd_56, bd_61, bd_63, bd_65, bd_81, bd_119, bd_123, bs_22, bs_25, bs_26, bs_30, bs_31, bs_36, bs_37, bs_44, bs_45, bs_46, cl_25, bc_25, eq_25_eql_s, eq_25_eql_n, eq_25_neq_s, eq_25_neq_n, eq_30_eql_s, eq_30_eql_n, eq_30_neq_s, eq_30_neq_n, eq_31_eql_s, eq_31_eql_n, eq_31_neq_s, eq_31_neq_n, eq_39_eql_s, eq_39_eql_n, eq_39_neq_s, eq_39_neq_n, eq_86_eql_s, eq_86_eql_n, eq_86_neq_s, eq_86_neq_n, eq_114_eql_s, eq_114_eql_n, eq_114_neq_s, eq_114_neq_n, eq_144_eql_s, eq_144_eql_n, eq_144_neq_s, eq_144_neq_n, fa_24_0, fa_24_1, fa_33_0, fa_33_1, fa_33_2, fa_33_3, fa_33_4, fa_35_0, fa_35_1, fa_35_2, fa_35_3, fa_35_4, fa_35_5, fa_48_0, fa_48_1, fa_48_2, fa_48_3, fa_48_4, fa_52_0, fa_52_1, fa_54_0, fa_54_1, fa_54_2, fa_56_0, fa_56_1, fa_56_2, fa_56_3, fa_56_4, fa_56_5, fa_63_0, fa_63_1, fa_81_0, fa_81_1, fa_81_2, fa_81_3, fa_81_4, fa_81_5, fa_81_6, fa_119_0, fa_119_1, fa_123_0, fa_123_1, fa_123_2, fa_123_3, fa_123_4, fa_123_5, ia_22, ia_25, ia_26, ia_30, ia_31, ia_36, ia_37, ia_44, ia_45, ia_46, ia_83, ld_3, ld_4, ld_22, ld_24, ld_25, ld_26, ld_30, ld_31, ld_33, ld_35, ld_37, ld_44, ld_45, ld_46, ld_48, ld_52, ld_54, ld_56, ld_61, ld_63, ld_65, ld_78, ld_79, ld_86, ld_117, ld_124, ld_139, ld_178, lk_78, lk_78n, lk_79, lk_79n, lk_117, lk_117n, ln_22, ln_25, ln_26, ln_30, ln_31, ln_36, ln_37, ln_44, ln_45, ln_46, ln_78, ln_83, ms_25, ms_44, ms_45, ms_46, ms_83, mu_78, mu_79, mu_117, st_3, st_4, st_24, st_25, st_26, st_30, st_31, st_33, st_35, st_37, st_44, st_45, st_46, st_48, st_52, st_56, st_61, st_63, st_65, st_81, st_124, st_139, st_178
theorem oxTy0 : type_of% (And.intro (And.intro (And.intro (And.intro (And.intro (@al_3) (@al_24)) (And.intro (@al_25) (@al_33))) (And.intro (And.intro (@al_35) (@al_37)) (And.intro (@al_48) (@al_52)))) (And.intro (And.intro (And.intro (@al_56) (@al_61)) (And.intro (@al_63) (@al_65))) (And.intro (And.intro (@al_124) (@al_139)) (And.intro (@al_178) (@ap_25))))) (And.intro (And.intro (And.intro (And.intro (@ap_26) (@ap_30)) (And.intro (@ap_31) (@ap_36))) (And.intro (And.intro (@ap_37) (@ap_44)) (And.intro (@ap_45) (@ap_46)))) (And.intro (And.intro (And.intro (@ba_25_25) (@ba_26_26)) (And.intro (@ba_30_30) (@ba_31_31))) (And.intro (And.intro (@ba_36_36) (@ba_37_37)) (And.intro (@ba_44_44) (@ba_45_45)))))) := And.intro (And.intro (And.intro (And.intro (And.intro (@al_3) (@al_24)) (And.intro (@al_25) (@al_33))) (And.intro (And.intro (@al_35) (@al_37)) (And.intro (@al_48) (@al_52)))) (And.intro (And.intro (And.intro (@al_56) (@al_61)) (And.intro (@al_63) (@al_65))) (And.intro (And.intro (@al_124) (@al_139)) (And.intro (@al_178) (@ap_25))))) (And.intro (And.intro (And.intro (And.intro (@ap_26) (@ap_30)) (And.intro (@ap_31) (@ap_36))) (And.intro (And.intro (@ap_37) (@ap_44)) (And.intro (@ap_45) (@ap_46)))) (And.intro (And.intro (And.intro (@ba_25_25) (@ba_26_26)) (And.intro (@ba_30_30) (@ba_31_31))) (And.intro (And.intro (@ba_36_36) (@ba_37_37)) (And.intro (@ba_44_44) (@ba_45_45)))))
theorem oxTy1 : type_of% (And.intro (And.intro (And.intro (And.intro (And.intro (@ba_46_46) (@bd_24)) (And.intro (@bd_33) (@bd_35))) (And.intro (And.intro (@bd_48) (@bd_52)) (And.intro (@bd_54) (@bd_56)))) (And.intro (And.intro (And.intro (@bd_61) (@bd_63)) (And.intro (@bd_65) (@bd_81))) (And.intro (And.intro (@bd_119) (@bd_123)) (And.intro (@bs_22) (@bs_25))))) (And.intro (And.intro (And.intro (And.intro (@bs_26) (@bs_30)) (And.intro (@bs_31) (@bs_36))) (And.intro (And.intro (@bs_37) (@bs_44)) (And.intro (@bs_45) (@bs_46)))) (And.intro (And.intro (And.intro (@cl_25) (@bc_25)) (And.intro (@eq_25_eql_s) (@eq_25_eql_n))) (And.intro (And.intro (@eq_25_neq_s) (@eq_25_neq_n)) (And.intro (@eq_30_eql_s) (@eq_30_eql_n)))))) := And.intro (And.intro (And.intro (And.intro (And.intro (@ba_46_46) (@bd_24)) (And.intro (@bd_33) (@bd_35))) (And.intro (And.intro (@bd_48) (@bd_52)) (And.intro (@bd_54) (@bd_56)))) (And.intro (And.intro (And.intro (@bd_61) (@bd_63)) (And.intro (@bd_65) (@bd_81))) (And.intro (And.intro (@bd_119) (@bd_123)) (And.intro (@bs_22) (@bs_25))))) (And.intro (And.intro (And.intro (And.intro (@bs_26) (@bs_30)) (And.intro (@bs_31) (@bs_36))) (And.intro (And.intro (@bs_37) (@bs_44)) (And.intro (@bs_45) (@bs_46)))) (And.intro (And.intro (And.intro (@cl_25) (@bc_25)) (And.intro (@eq_25_eql_s) (@eq_25_eql_n))) (And.intro (And.intro (@eq_25_neq_s) (@eq_25_neq_n)) (And.intro (@eq_30_eql_s) (@eq_30_eql_n)))))
theorem oxTy2 : type_of% (And.intro (And.intro (And.intro (And.intro (And.intro (@eq_30_neq_s) (@eq_30_neq_n)) (And.intro (@eq_31_eql_s) (@eq_31_eql_n))) (And.intro (And.intro (@eq_31_neq_s) (@eq_31_neq_n)) (And.intro (@eq_39_eql_s) (@eq_39_eql_n)))) (And.intro (And.intro (And.intro (@eq_39_neq_s) (@eq_39_neq_n)) (And.intro (@eq_86_eql_s) (@eq_86_eql_n))) (And.intro (And.intro (@eq_86_neq_s) (@eq_86_neq_n)) (And.intro (@eq_114_eql_s) (@eq_114_eql_n))))) (And.intro (And.intro (And.intro (And.intro (@eq_114_neq_s) (@eq_114_neq_n)) (And.intro (@eq_144_eql_s) (@eq_144_eql_n))) (And.intro (And.intro (@eq_144_neq_s) (@eq_144_neq_n)) (And.intro (@fa_24_0) (@fa_24_1)))) (And.intro (And.intro (And.intro (@fa_33_0) (@fa_33_1)) (And.intro (@fa_33_2) (@fa_33_3))) (And.intro (And.intro (@fa_33_4) (@fa_35_0)) (And.intro (@fa_35_1) (@fa_35_2)))))) := And.intro (And.intro (And.intro (And.intro (And.intro (@eq_30_neq_s) (@eq_30_neq_n)) (And.intro (@eq_31_eql_s) (@eq_31_eql_n))) (And.intro (And.intro (@eq_31_neq_s) (@eq_31_neq_n)) (And.intro (@eq_39_eql_s) (@eq_39_eql_n)))) (And.intro (And.intro (And.intro (@eq_39_neq_s) (@eq_39_neq_n)) (And.intro (@eq_86_eql_s) (@eq_86_eql_n))) (And.intro (And.intro (@eq_86_neq_s) (@eq_86_neq_n)) (And.intro (@eq_114_eql_s) (@eq_114_eql_n))))) (And.intro (And.intro (And.intro (And.intro (@eq_114_neq_s) (@eq_114_neq_n)) (And.intro (@eq_144_eql_s) (@eq_144_eql_n))) (And.intro (And.intro (@eq_144_neq_s) (@eq_144_neq_n)) (And.intro (@fa_24_0) (@fa_24_1)))) (And.intro (And.intro (And.intro (@fa_33_0) (@fa_33_1)) (And.intro (@fa_33_2) (@fa_33_3))) (And.intro (And.intro (@fa_33_4) (@fa_35_0)) (And.intro (@fa_35_1) (@fa_35_2)))))
theorem oxTy3 : type_of% (And.intro (And.intro (And.intro (And.intro (And.intro (@fa_35_3) (@fa_35_4)) (And.intro (@fa_35_5) (@fa_48_0))) (And.intro (And.intro (@fa_48_1) (@fa_48_2)) (And.intro (@fa_48_3) (@fa_48_4)))) (And.intro (And.intro (And.intro (@fa_52_0) (@fa_52_1)) (And.intro (@fa_54_0) (@fa_54_1))) (And.intro (And.intro (@fa_54_2) (@fa_56_0)) (And.intro (@fa_56_1) (@fa_56_2))))) (And.intro (And.intro (And.intro (And.intro (@fa_56_3) (@fa_56_4)) (And.intro (@fa_56_5) (@fa_63_0))) (And.intro (And.intro (@fa_63_1) (@fa_81_0)) (And.intro (@fa_81_1) (@fa_81_2)))) (And.intro (And.intro (And.intro (@fa_81_3) (@fa_81_4)) (And.intro (@fa_81_5) (@fa_81_6))) (And.intro (And.intro (@fa_119_0) (@fa_119_1)) (And.intro (@fa_123_0) (@fa_123_1)))))) := And.intro (And.intro (And.intro (And.intro (And.intro (@fa_35_3) (@fa_35_4)) (And.intro (@fa_35_5) (@fa_48_0))) (And.intro (And.intro (@fa_48_1) (@fa_48_2)) (And.intro (@fa_48_3) (@fa_48_4)))) (And.intro (And.intro (And.intro (@fa_52_0) (@fa_52_1)) (And.intro (@fa_54_0) (@fa_54_1))) (And.intro (And.intro (@fa_54_2) (@fa_56_0)) (And.intro (@fa_56_1) (@fa_56_2))))) (And.intro (And.intro (And.intro (And.intro (@fa_56_3) (@fa_56_4)) (And.intro (@fa_56_5) (@fa_63_0))) (And.intro (And.intro (@fa_63_1) (@fa_81_0)) (And.intro (@fa_81_1) (@fa_81_2)))) (And.intro (And.intro (And.intro (@fa_81_3) (@fa_81_4)) (And.intro (@fa_81_5) (@fa_81_6))) (And.intro (And.intro (@fa_119_0) (@fa_119_1)) (And.intro (@fa_123_0) (@fa_123_1)))))
theorem oxTy4 : type_of% (And.intro (And.intro (And.intro (And.intro (And.intro (@fa_123_2) (@fa_123_3)) (And.intro (@fa_123_4) (@fa_123_5))) (And.intro (And.intro (@ia_22) (@ia_25)) (And.intro (@ia_26) (@ia_30)))) (And.intro (And.intro (And.intro (@ia_31) (@ia_36)) (And.intro (@ia_37) (@ia_44))) (And.intro (And.intro (@ia_45) (@ia_46)) (And.intro (@ia_83) (@ld_3))))) (And.intro (And.intro (And.intro (And.intro (@ld_4) (@ld_22)) (And.intro (@ld_24) (@ld_25))) (And.intro (And.intro (@ld_26) (@ld_30)) (And.intro (@ld_31) (@ld_33)))) (And.intro (And.intro (And.intro (@ld_35) (@ld_37)) (And.intro (@ld_44) (@ld_45))) (And.intro (And.intro (@ld_46) (@ld_48)) (And.intro (@ld_52) (@ld_54)))))) := And.intro (And.intro (And.intro (And.intro (And.intro (@fa_123_2) (@fa_123_3)) (And.intro (@fa_123_4) (@fa_123_5))) (And.intro (And.intro (@ia_22) (@ia_25)) (And.intro (@ia_26) (@ia_30)))) (And.intro (And.intro (And.intro (@ia_31) (@ia_36)) (And.intro (@ia_37) (@ia_44))) (And.intro (And.intro (@ia_45) (@ia_46)) (And.intro (@ia_83) (@ld_3))))) (And.intro (And.intro (And.intro (And.intro (@ld_4) (@ld_22)) (And.intro (@ld_24) (@ld_25))) (And.intro (And.intro (@ld_26) (@ld_30)) (And.intro (@ld_31) (@ld_33)))) (And.intro (And.intro (And.intro (@ld_35) (@ld_37)) (And.intro (@ld_44) (@ld_45))) (And.intro (And.intro (@ld_46) (@ld_48)) (And.intro (@ld_52) (@ld_54)))))
theorem oxTy5 : type_of% (And.intro (And.intro (And.intro (And.intro (And.intro (@ld_56) (@ld_61)) (And.intro (@ld_63) (@ld_65))) (And.intro (And.intro (@ld_78) (@ld_79)) (And.intro (@ld_86) (@ld_117)))) (And.intro (And.intro (And.intro (@ld_124) (@ld_139)) (And.intro (@ld_178) (@lk_78))) (And.intro (And.intro (@lk_78n) (@lk_79)) (And.intro (@lk_79n) (@lk_117))))) (And.intro (And.intro (And.intro (And.intro (@lk_117n) (@ln_22)) (And.intro (@ln_25) (@ln_26))) (And.intro (And.intro (@ln_30) (@ln_31)) (And.intro (@ln_36) (@ln_37)))) (And.intro (And.intro (And.intro (@ln_44) (@ln_45)) (And.intro (@ln_46) (@ln_78))) (And.intro (And.intro (@ln_83) (@ms_25)) (And.intro (@ms_44) (@ms_45)))))) := And.intro (And.intro (And.intro (And.intro (And.intro (@ld_56) (@ld_61)) (And.intro (@ld_63) (@ld_65))) (And.intro (And.intro (@ld_78) (@ld_79)) (And.intro (@ld_86) (@ld_117)))) (And.intro (And.intro (And.intro (@ld_124) (@ld_139)) (And.intro (@ld_178) (@lk_78))) (And.intro (And.intro (@lk_78n) (@lk_79)) (And.intro (@lk_79n) (@lk_117))))) (And.intro (And.intro (And.intro (And.intro (@lk_117n) (@ln_22)) (And.intro (@ln_25) (@ln_26))) (And.intro (And.intro (@ln_30) (@ln_31)) (And.intro (@ln_36) (@ln_37)))) (And.intro (And.intro (And.intro (@ln_44) (@ln_45)) (And.intro (@ln_46) (@ln_78))) (And.intro (And.intro (@ln_83) (@ms_25)) (And.intro (@ms_44) (@ms_45)))))
theorem oxTy6 : type_of% (And.intro (And.intro (And.intro (And.intro (@ms_46) (And.intro (@ms_83) (@mu_78))) (And.intro (And.intro (@mu_79) (@mu_117)) (And.intro (@st_3) (@st_4)))) (And.intro (And.intro (@st_24) (And.intro (@st_25) (@st_26))) (And.intro (And.intro (@st_30) (@st_31)) (And.intro (@st_33) (@st_35))))) (And.intro (And.intro (And.intro (@st_37) (And.intro (@st_44) (@st_45))) (And.intro (And.intro (@st_46) (@st_48)) (And.intro (@st_52) (@st_56)))) (And.intro (And.intro (@st_61) (And.intro (@st_63) (@st_65))) (And.intro (And.intro (@st_81) (@st_124)) (And.intro (@st_139) (@st_178)))))) := And.intro (And.intro (And.intro (And.intro (@ms_46) (And.intro (@ms_83) (@mu_78))) (And.intro (And.intro (@mu_79) (@mu_117)) (And.intro (@st_3) (@st_4)))) (And.intro (And.intro (@st_24) (And.intro (@st_25) (@st_26))) (And.intro (And.intro (@st_30) (@st_31)) (And.intro (@st_33) (@st_35))))) (And.intro (And.intro (And.intro (@st_37) (And.intro (@st_44) (@st_45))) (And.intro (And.intro (@st_46) (@st_48)) (And.intro (@st_52) (@st_56)))) (And.intro (And.intro (@st_61) (And.intro (@st_63) (@st_65))) (And.intro (And.intro (@st_81) (@st_124)) (And.intro (@st_139) (@st_178)))))
theorem oxq : type_of% (And.intro (And.intro (And.intro (And.intro (@oxA0) (@oxA1)) (And.intro (@oxA2) (And.intro (@oxA3) (@oxA4)))) (And.intro (And.intro (@oxA5) (@oxA6)) (And.intro (@oxA7) (And.intro (@oxA8) (@oxA9))))) (And.intro (And.intro (And.intro (@oxA10) (@oxL0)) (And.intro (@oxL1) (And.intro (@oxTy0) (@oxTy1)))) (And.intro (And.intro (@oxTy2) (@oxTy3)) (And.intro (@oxTy4) (And.intro (@oxTy5) (@oxTy6)))))) := And.intro (And.intro (And.intro (And.intro (@oxA0) (@oxA1)) (And.intro (@oxA2) (And.intro (@oxA3) (@oxA4)))) (And.intro (And.intro (@oxA5) (@oxA6)) (And.intro (@oxA7) (And.intro (@oxA8) (@oxA9))))) (And.intro (And.intro (And.intro (@oxA10) (@oxL0)) (And.intro (@oxL1) (And.intro (@oxTy0) (@oxTy1)))) (And.intro (And.intro (@oxTy2) (@oxTy3)) (And.intro (@oxTy4) (And.intro (@oxTy5) (@oxTy6)))))
theorem oxs : type_of% (And.intro @oxq @gR_some) := And.intro @oxq @gR_some
theorem oxh : type_of% (And.intro @oxq @gR_held) := And.intro @oxq @gR_held
theorem oxf : type_of% (And.intro (And.intro (And.intro (@List.filterMap_cons.{0,0}) (@List.filterMap_nil.{0,0})) (And.intro (@List.getElem?_cons_succ.{0}) (@List.getElem?_cons_zero.{0}))) (And.intro (And.intro (@List.drop_succ_cons.{0}) (@List.drop_zero.{0})) (And.intro (@List.cons_append.{0}) (@List.nil_append.{0})))) := And.intro (And.intro (And.intro (@List.filterMap_cons.{0,0}) (@List.filterMap_nil.{0,0})) (And.intro (@List.getElem?_cons_succ.{0}) (@List.getElem?_cons_zero.{0}))) (And.intro (And.intro (@List.drop_succ_cons.{0}) (@List.drop_zero.{0})) (And.intro (@List.cons_append.{0}) (@List.nil_append.{0})))
theorem oxd : type_of% (And.intro (And.intro (@ptrTo.eq_1) (And.intro (@pend.eq_1) (@pend0.eq_1))) (And.intro (And.intro (@Pd.old.eq_1) (@pendU.eq_1)) (And.intro (@pendU0.eq_1) (@Nat.testBit.eq_1)))) := And.intro (And.intro (@ptrTo.eq_1) (And.intro (@pend.eq_1) (@pend0.eq_1))) (And.intro (And.intro (@Pd.old.eq_1) (@pendU.eq_1)) (And.intro (@pendU0.eq_1) (@Nat.testBit.eq_1)))
theorem oxz : type_of% (And.intro @oxd @oxs) := And.intro @oxd @oxs
theorem oxk : type_of% (And.intro @oxd @oxh) := And.intro @oxd @oxh
end Go.Proofs
