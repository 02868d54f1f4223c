/-
  A part of the proof of CoordWaits: what this program's functions do on an abstract heap. CONDITIONS: none.
-/
import Derived.Test.YtfcajloeknedeaaProg
import Derived.Test.YtfcajloeknedeaaOxW
set_option linter.unusedSimpArgs false
set_option linter.unusedVariables false
namespace Go.Proofs
open Go Go.Ox
set_option maxRecDepth 100000
theorem al_22 : alc Try.prog 22 = some (.cells false 0 [.slice none 0 0] 22, ptrTo) := congrArg id (by rfl)
theorem al_33 : alc Try.prog 33 = some (.cells false 0 [.int .i64 0, .int .i64 0, .slice none 0 0, .slice none 0 0, .slice none 0 0] 33, ptrTo) := congrArg id (by rfl)
theorem al_39 : alc Try.prog 39 = some (.cells false 0 [.int .i64 0, .slice none 0 0] 39, ptrTo) := congrArg id (by rfl)
theorem al_46 : alc Try.prog 46 = some (.cells false 0 [.slice none 0 0] 46, ptrTo) := congrArg id (by rfl)
theorem al_53 : alc Try.prog 53 = some (.cells false 0 [.int .i64 0, .slice none 0 0, .slice none 0 0, .slice none 0 0, .slice none 0 0] 53, ptrTo) := congrArg id (by rfl)
theorem al_80 : alc Try.prog 80 = some (.cells false 0 [.int .i64 0, .int .i64 0] 80, ptrTo) := congrArg id (by rfl)
theorem al_90 : alc Try.prog 90 = some (.cells false 0 [.int .i64 0, .slice none 0 0, .int .i64 0, .int .i64 0, .int .i64 0, .int .i64 0, .int .i64 0, .int .i64 0] 90, ptrTo) := congrArg id (by rfl)
theorem al_113 : alc Try.prog 113 = some (.cells false 0 [.nilFunc] 113, ptrTo) := congrArg id (by rfl)
theorem ap_22 {h : AHeap} (a b : Option Addr) (l c m d : Nat) : aAppend Try.prog h 22 (.slice a l c) (.slice b m d) = apF h 1 8 3 a l c b m d := aAppend_s (by rfl) (by rfl) (by rfl) (by rfl) (by rfl)
theorem ap_30 {h : AHeap} (a b : Option Addr) (l c m d : Nat) : aAppend Try.prog h 30 (.slice a l c) (.slice b m d) = apF h 3 24 66 a l c b m d := aAppend_s (by rfl) (by rfl) (by rfl) (by rfl) (by rfl)
theorem ap_31 {h : AHeap} (a b : Option Addr) (l c m d : Nat) : aAppend Try.prog h 31 (.slice a l c) (.slice b m d) = apF h 2 16 68 a l c b m d := aAppend_s (by rfl) (by rfl) (by rfl) (by rfl) (by rfl)
theorem ap_40 {h : AHeap} (a b : Option Addr) (l c m d : Nat) : aAppend Try.prog h 40 (.slice a l c) (.slice b m d) = apF h 5 88 33 a l c b m d := aAppend_s (by rfl) (by rfl) (by rfl) (by rfl) (by rfl)
theorem ap_46 {h : AHeap} (a b : Option Addr) (l c m d : Nat) : aAppend Try.prog h 46 (.slice a l c) (.slice b m d) = apF h 2 16 80 a l c b m d := aAppend_s (by rfl) (by rfl) (by rfl) (by rfl) (by rfl)
theorem ap_50 {h : AHeap} (a b : Option Addr) (l c m d : Nat) : aAppend Try.prog h 50 (.slice a l c) (.slice b m d) = apF h 1 24 30 a l c b m d := aAppend_s (by rfl) (by rfl) (by rfl) (by rfl) (by rfl)
theorem ap_51 {h : AHeap} (a b : Option Addr) (l c m d : Nat) : aAppend Try.prog h 51 (.slice a l c) (.slice b m d) = apF h 1 24 31 a l c b m d := aAppend_s (by rfl) (by rfl) (by rfl) (by rfl) (by rfl)
theorem ba_22_22 {h : AHeap} (ts : List TypeId) (x y : Value) : aBuiltin Try.prog h .append (22 :: 22 :: ts).toArray [x, y] = aAppend Try.prog h 22 x y := bi_append 22 22 ts x y (by rfl)
theorem ba_30_30 {h : AHeap} (ts : List TypeId) (x y : Value) : aBuiltin Try.prog h .append (30 :: 30 :: ts).toArray [x, y] = aAppend Try.prog h 30 x y := bi_append 30 30 ts x y (by rfl)
theorem ba_31_31 {h : AHeap} (ts : List TypeId) (x y : Value) : aBuiltin Try.prog h .append (31 :: 31 :: ts).toArray [x, y] = aAppend Try.prog h 31 x y := bi_append 31 31 ts x y (by rfl)
theorem ba_40_40 {h : AHeap} (ts : List TypeId) (x y : Value) : aBuiltin Try.prog h .append (40 :: 40 :: ts).toArray [x, y] = aAppend Try.prog h 40 x y := bi_append 40 40 ts x y (by rfl)
theorem ba_46_46 {h : AHeap} (ts : List TypeId) (x y : Value) : aBuiltin Try.prog h .append (46 :: 46 :: ts).toArray [x, y] = aAppend Try.prog h 46 x y := bi_append 46 46 ts x y (by rfl)
theorem ba_50_50 {h : AHeap} (ts : List TypeId) (x y : Value) : aBuiltin Try.prog h .append (50 :: 50 :: ts).toArray [x, y] = aAppend Try.prog h 50 x y := bi_append 50 50 ts x y (by rfl)
theorem ba_51_51 {h : AHeap} (ts : List TypeId) (x y : Value) : aBuiltin Try.prog h .append (51 :: 51 :: ts).toArray [x, y] = aAppend Try.prog h 51 x y := bi_append 51 51 ts x y (by rfl)
theorem bd_33 (ps : List (Nat × Value)) : aBuild Try.prog 33 ps = bdF (aFill (lk [(0, 1), (1, 1), (2, 1), (3, 1), (4, 1)]) [.int .i64 0, .int .i64 0, .slice none 0 0, .slice none 0 0, .slice none 0 0] ps) := aBuild_of (by rfl) (by rfl) (by rfl) ps
theorem bd_39 (ps : List (Nat × Value)) : aBuild Try.prog 39 ps = bdF (aFill (lk [(0, 1), (1, 1)]) [.int .i64 0, .slice none 0 0] ps) := aBuild_of (by rfl) (by rfl) (by rfl) ps
theorem bd_45 (ps : List (Nat × Value)) : aBuild Try.prog 45 ps = bdF (aFill (lk [(0, 1), (1, 1), (2, 1), (3, 1), (4, 1), (5, 5)]) [.int .i64 0, .int .i64 0, .int .i64 0, .int .i64 0, .bool false, .int .i64 0, .int .i64 0, .slice none 0 0, .slice none 0 0, .slice none 0 0] ps) := aBuild_of (by rfl) (by rfl) (by rfl) ps
theorem bd_53 (ps : List (Nat × Value)) : aBuild Try.prog 53 ps = bdF (aFill (lk [(0, 1), (1, 1), (2, 1), (3, 1), (4, 1)]) [.int .i64 0, .slice none 0 0, .slice none 0 0, .slice none 0 0, .slice none 0 0] ps) := aBuild_of (by rfl) (by rfl) (by rfl) ps
theorem bd_62 (ps : List (Nat × Value)) : aBuild Try.prog 62 ps = bdF (aFill (lk [(0, 1), (1, 1), (2, 1), (3, 1), (4, 1), (5, 1), (6, 1)]) [.bool false, .int .i64 0, .int .i64 0, .bool false, .int .i64 0, .map none, .map none] ps) := aBuild_of (by rfl) (by rfl) (by rfl) ps
theorem bd_64 (ps : List (Nat × Value)) : aBuild Try.prog 64 ps = bdF (aFill (lk [(0, 1), (1, 1)]) [.int .i64 0, .int .i64 0] ps) := aBuild_of (by rfl) (by rfl) (by rfl) ps
theorem bd_66 (ps : List (Nat × Value)) : aBuild Try.prog 66 ps = bdF (aFill (lk [(0, 1), (1, 2)]) [.int .i64 0, .int .i64 0, .int .i64 0] ps) := aBuild_of (by rfl) (by rfl) (by rfl) ps
theorem bd_68 (ps : List (Nat × Value)) : aBuild Try.prog 68 ps = bdF (aFill (lk [(0, 1), (1, 1)]) [.int .i64 0, .int .i64 0] ps) := aBuild_of (by rfl) (by rfl) (by rfl) ps
theorem bd_80 (ps : List (Nat × Value)) : aBuild Try.prog 80 ps = bdF (aFill (lk [(0, 1), (1, 1)]) [.int .i64 0, .int .i64 0] ps) := aBuild_of (by rfl) (by rfl) (by rfl) ps
theorem bd_88 (ps : List (Nat × Value)) : aBuild Try.prog 88 ps = bdF (aFill (lk [(0, 1), (1, 1), (2, 1)]) [.int .i64 0, .int .i64 0, .int .i64 0] ps) := aBuild_of (by rfl) (by rfl) (by rfl) ps
theorem bd_90 (ps : List (Nat × Value)) : aBuild Try.prog 90 ps = bdF (aFill (lk [(0, 1), (1, 1), (2, 3), (5, 1), (6, 1), (7, 1)]) [.int .i64 0, .slice none 0 0, .int .i64 0, .int .i64 0, .int .i64 0, .int .i64 0, .int .i64 0, .int .i64 0] ps) := aBuild_of (by rfl) (by rfl) (by rfl) ps
theorem bs_22 (m : Nat) (ps : List (Nat × Value)) : bBuildSlice Try.prog 22 m ps = bsF 1 3 m (aFill (fun j => some (j * 1, 1)) (aZeros [.int .i64 0] m) ps) := bBuildSlice_s (by rfl) (by rfl) (by rfl) (by rfl)
theorem bs_30 (m : Nat) (ps : List (Nat × Value)) : bBuildSlice Try.prog 30 m ps = bsF 3 66 m (aFill (fun j => some (j * 3, 3)) (aZeros [.int .i64 0, .int .i64 0, .int .i64 0] m) ps) := bBuildSlice_s (by rfl) (by rfl) (by rfl) (by rfl)
theorem bs_31 (m : Nat) (ps : List (Nat × Value)) : bBuildSlice Try.prog 31 m ps = bsF 2 68 m (aFill (fun j => some (j * 2, 2)) (aZeros [.int .i64 0, .int .i64 0] m) ps) := bBuildSlice_s (by rfl) (by rfl) (by rfl) (by rfl)
theorem bs_37 (m : Nat) (ps : List (Nat × Value)) : bBuildSlice Try.prog 37 m ps = bsF 8 90 m (aFill (fun j => some (j * 8, 8)) (aZeros [.int .i64 0, .slice none 0 0, .int .i64 0, .int .i64 0, .int .i64 0, .int .i64 0, .int .i64 0, .int .i64 0] m) ps) := bBuildSlice_s (by rfl) (by rfl) (by rfl) (by rfl)
theorem bs_40 (m : Nat) (ps : List (Nat × Value)) : bBuildSlice Try.prog 40 m ps = bsF 5 33 m (aFill (fun j => some (j * 5, 5)) (aZeros [.int .i64 0, .int .i64 0, .slice none 0 0, .slice none 0 0, .slice none 0 0] m) ps) := bBuildSlice_s (by rfl) (by rfl) (by rfl) (by rfl)
theorem bs_43 (m : Nat) (ps : List (Nat × Value)) : bBuildSlice Try.prog 43 m ps = bsF 10 45 m (aFill (fun j => some (j * 10, 10)) (aZeros [.int .i64 0, .int .i64 0, .int .i64 0, .int .i64 0, .bool false, .int .i64 0, .int .i64 0, .slice none 0 0, .slice none 0 0, .slice none 0 0] m) ps) := bBuildSlice_s (by rfl) (by rfl) (by rfl) (by rfl)
theorem bs_46 (m : Nat) (ps : List (Nat × Value)) : bBuildSlice Try.prog 46 m ps = bsF 2 80 m (aFill (fun j => some (j * 2, 2)) (aZeros [.int .i64 0, .int .i64 0] m) ps) := bBuildSlice_s (by rfl) (by rfl) (by rfl) (by rfl)
theorem bs_49 (m : Nat) (ps : List (Nat × Value)) : bBuildSlice Try.prog 49 m ps = bsF 1 22 m (aFill (fun j => some (j * 1, 1)) (aZeros [.slice none 0 0] m) ps) := bBuildSlice_s (by rfl) (by rfl) (by rfl) (by rfl)
theorem bs_50 (m : Nat) (ps : List (Nat × Value)) : bBuildSlice Try.prog 50 m ps = bsF 1 30 m (aFill (fun j => some (j * 1, 1)) (aZeros [.slice none 0 0] m) ps) := bBuildSlice_s (by rfl) (by rfl) (by rfl) (by rfl)
theorem bs_51 (m : Nat) (ps : List (Nat × Value)) : bBuildSlice Try.prog 51 m ps = bsF 1 31 m (aFill (fun j => some (j * 1, 1)) (aZeros [.slice none 0 0] m) ps) := bBuildSlice_s (by rfl) (by rfl) (by rfl) (by rfl)
-- dl 59
-- bool eq 4
theorem eq_22_eql_s (x y : Operand) (a : Addr) (l c : Nat) : aBin Try.prog .eql 22 x y (.slice (some a) l c) (.slice none 0 0) = some (.bool false) := congrArg id (by rfl)
theorem eq_22_eql_n (x y : Operand) (l c : Nat) : aBin Try.prog .eql 22 x y (.slice none l c) (.slice none 0 0) = some (.bool true) := congrArg id (by rfl)
theorem eq_22_neq_s (x y : Operand) (a : Addr) (l c : Nat) : aBin Try.prog .neq 22 x y (.slice (some a) l c) (.slice none 0 0) = some (.bool true) := congrArg id (by rfl)
theorem eq_22_neq_n (x y : Operand) (l c : Nat) : aBin Try.prog .neq 22 x y (.slice none l c) (.slice none 0 0) = some (.bool false) := congrArg id (by rfl)
theorem eq_23_eql_s (x y : Operand) (a : Addr) : aBin Try.prog .eql 23 x y (.pointer (some a)) (.pointer none) = some (.bool false) := congrArg id (by rfl)
theorem eq_23_eql_n (x y : Operand) : aBin Try.prog .eql 23 x y (.pointer none) (.pointer none) = some (.bool true) := congrArg id (by rfl)
theorem eq_23_neq_s (x y : Operand) (a : Addr) : aBin Try.prog .neq 23 x y (.pointer (some a)) (.pointer none) = some (.bool true) := congrArg id (by rfl)
theorem eq_23_neq_n (x y : Operand) : aBin Try.prog .neq 23 x y (.pointer none) (.pointer none) = some (.bool false) := congrArg id (by rfl)
theorem eq_30_eql_s (x y : Operand) (a : Addr) (l c : Nat) : aBin Try.prog .eql 30 x y (.slice (some a) l c) (.slice none 0 0) = some (.bool false) := congrArg id (by rfl)
theorem eq_30_eql_n (x y : Operand) (l c : Nat) : aBin Try.prog .eql 30 x y (.slice none l c) (.slice none 0 0) = some (.bool true) := congrArg id (by rfl)
theorem eq_30_neq_s (x y : Operand) (a : Addr) (l c : Nat) : aBin Try.prog .neq 30 x y (.slice (some a) l c) (.slice none 0 0) = some (.bool true) := congrArg id (by rfl)
theorem eq_30_neq_n (x y : Operand) (l c : Nat) : aBin Try.prog .neq 30 x y (.slice none l c) (.slice none 0 0) = some (.bool false) := congrArg id (by rfl)
theorem eq_31_eql_s (x y : Operand) (a : Addr) (l c : Nat) : aBin Try.prog .eql 31 x y (.slice (some a) l c) (.slice none 0 0) = some (.bool false) := congrArg id (by rfl)
theorem eq_31_eql_n (x y : Operand) (l c : Nat) : aBin Try.prog .eql 31 x y (.slice none l c) (.slice none 0 0) = some (.bool true) := congrArg id (by rfl)
theorem eq_31_neq_s (x y : Operand) (a : Addr) (l c : Nat) : aBin Try.prog .neq 31 x y (.slice (some a) l c) (.slice none 0 0) = some (.bool true) := congrArg id (by rfl)
theorem eq_31_neq_n (x y : Operand) (l c : Nat) : aBin Try.prog .neq 31 x y (.slice none l c) (.slice none 0 0) = some (.bool false) := congrArg id (by rfl)
-- eq of another type 66
-- eq of another type 68
-- eq of another type 88
theorem eq_102_eql_s (x y : Operand) (f : Fn) (a b : Array Value) : aBin Try.prog .eql 102 x y (.func f a b) .nilFunc = some (.bool false) := congrArg id (by rfl)
theorem eq_102_eql_n (x y : Operand) : aBin Try.prog .eql 102 x y .nilFunc .nilFunc = some (.bool true) := congrArg id (by rfl)
theorem eq_102_neq_s (x y : Operand) (f : Fn) (a b : Array Value) : aBin Try.prog .neq 102 x y (.func f a b) .nilFunc = some (.bool true) := congrArg id (by rfl)
theorem eq_102_neq_n (x y : Operand) : aBin Try.prog .neq 102 x y .nilFunc .nilFunc = some (.bool false) := congrArg id (by rfl)
theorem eq_118_eql_s (x y : Operand) (f : Fn) (a b : Array Value) : aBin Try.prog .eql 118 x y (.func f a b) .nilFunc = some (.bool false) := congrArg id (by rfl)
theorem eq_118_eql_n (x y : Operand) : aBin Try.prog .eql 118 x y .nilFunc .nilFunc = some (.bool true) := congrArg id (by rfl)
theorem eq_118_neq_s (x y : Operand) (f : Fn) (a b : Array Value) : aBin Try.prog .neq 118 x y (.func f a b) .nilFunc = some (.bool true) := congrArg id (by rfl)
theorem eq_118_neq_n (x y : Operand) : aBin Try.prog .neq 118 x y .nilFunc .nilFunc = some (.bool false) := congrArg id (by rfl)
theorem fa_33_0 (b o : Nat) : aField Try.prog 33 0 (.pointer (some ⟨b, o, none⟩)) = some (.pointer (some ⟨b, o, none⟩)) := congrArg id (by rfl)
theorem fa_33_1 (b o : Nat) : aField Try.prog 33 1 (.pointer (some ⟨b, o, none⟩)) = some (.pointer (some ⟨b, o + 1, none⟩)) := congrArg id (by rfl)
theorem fa_33_2 (b o : Nat) : aField Try.prog 33 2 (.pointer (some ⟨b, o, none⟩)) = some (.pointer (some ⟨b, o + 2, none⟩)) := congrArg id (by rfl)
theorem fa_33_3 (b o : Nat) : aField Try.prog 33 3 (.pointer (some ⟨b, o, none⟩)) = some (.pointer (some ⟨b, o + 3, none⟩)) := congrArg id (by rfl)
theorem fa_33_4 (b o : Nat) : aField Try.prog 33 4 (.pointer (some ⟨b, o, none⟩)) = some (.pointer (some ⟨b, o + 4, none⟩)) := congrArg id (by rfl)
theorem fa_39_0 (b o : Nat) : aField Try.prog 39 0 (.pointer (some ⟨b, o, none⟩)) = some (.pointer (some ⟨b, o, none⟩)) := congrArg id (by rfl)
theorem fa_39_1 (b o : Nat) : aField Try.prog 39 1 (.pointer (some ⟨b, o, none⟩)) = some (.pointer (some ⟨b, o + 1, none⟩)) := congrArg id (by rfl)
theorem fa_45_0 (b o : Nat) : aField Try.prog 45 0 (.pointer (some ⟨b, o, none⟩)) = some (.pointer (some ⟨b, o, none⟩)) := congrArg id (by rfl)
theorem fa_45_1 (b o : Nat) : aField Try.prog 45 1 (.pointer (some ⟨b, o, none⟩)) = some (.pointer (some ⟨b, o + 1, none⟩)) := congrArg id (by rfl)
theorem fa_45_2 (b o : Nat) : aField Try.prog 45 2 (.pointer (some ⟨b, o, none⟩)) = some (.pointer (some ⟨b, o + 2, none⟩)) := congrArg id (by rfl)
theorem fa_45_3 (b o : Nat) : aField Try.prog 45 3 (.pointer (some ⟨b, o, none⟩)) = some (.pointer (some ⟨b, o + 3, none⟩)) := congrArg id (by rfl)
theorem fa_45_4 (b o : Nat) : aField Try.prog 45 4 (.pointer (some ⟨b, o, none⟩)) = some (.pointer (some ⟨b, o + 4, none⟩)) := congrArg id (by rfl)
theorem fa_45_5 (b o : Nat) : aField Try.prog 45 5 (.pointer (some ⟨b, o, none⟩)) = some (.pointer (some ⟨b, o + 5, none⟩)) := congrArg id (by rfl)
theorem fa_53_0 (b o : Nat) : aField Try.prog 53 0 (.pointer (some ⟨b, o, none⟩)) = some (.pointer (some ⟨b, o, none⟩)) := congrArg id (by rfl)
theorem fa_53_1 (b o : Nat) : aField Try.prog 53 1 (.pointer (some ⟨b, o, none⟩)) = some (.pointer (some ⟨b, o + 1, none⟩)) := congrArg id (by rfl)
theorem fa_53_2 (b o : Nat) : aField Try.prog 53 2 (.pointer (some ⟨b, o, none⟩)) = some (.pointer (some ⟨b, o + 2, none⟩)) := congrArg id (by rfl)
theorem fa_53_3 (b o : Nat) : aField Try.prog 53 3 (.pointer (some ⟨b, o, none⟩)) = some (.pointer (some ⟨b, o + 3, none⟩)) := congrArg id (by rfl)
theorem fa_53_4 (b o : Nat) : aField Try.prog 53 4 (.pointer (some ⟨b, o, none⟩)) = some (.pointer (some ⟨b, o + 4, none⟩)) := congrArg id (by rfl)
theorem fa_62_0 (b o : Nat) : aField Try.prog 62 0 (.pointer (some ⟨b, o, none⟩)) = some (.pointer (some ⟨b, o, none⟩)) := congrArg id (by rfl)
theorem fa_62_1 (b o : Nat) : aField Try.prog 62 1 (.pointer (some ⟨b, o, none⟩)) = some (.pointer (some ⟨b, o + 1, none⟩)) := congrArg id (by rfl)
theorem fa_62_2 (b o : Nat) : aField Try.prog 62 2 (.pointer (some ⟨b, o, none⟩)) = some (.pointer (some ⟨b, o + 2, none⟩)) := congrArg id (by rfl)
theorem fa_62_3 (b o : Nat) : aField Try.prog 62 3 (.pointer (some ⟨b, o, none⟩)) = some (.pointer (some ⟨b, o + 3, none⟩)) := congrArg id (by rfl)
theorem fa_62_4 (b o : Nat) : aField Try.prog 62 4 (.pointer (some ⟨b, o, none⟩)) = some (.pointer (some ⟨b, o + 4, none⟩)) := congrArg id (by rfl)
theorem fa_62_5 (b o : Nat) : aField Try.prog 62 5 (.pointer (some ⟨b, o, none⟩)) = some (.pointer (some ⟨b, o + 5, none⟩)) := congrArg id (by rfl)
theorem fa_62_6 (b o : Nat) : aField Try.prog 62 6 (.pointer (some ⟨b, o, none⟩)) = some (.pointer (some ⟨b, o + 6, none⟩)) := congrArg id (by rfl)
theorem fa_66_0 (b o : Nat) : aField Try.prog 66 0 (.pointer (some ⟨b, o, none⟩)) = some (.pointer (some ⟨b, o, none⟩)) := congrArg id (by rfl)
theorem fa_66_1 (b o : Nat) : aField Try.prog 66 1 (.pointer (some ⟨b, o, none⟩)) = some (.pointer (some ⟨b, o + 1, none⟩)) := congrArg id (by rfl)
theorem fa_80_0 (b o : Nat) : aField Try.prog 80 0 (.pointer (some ⟨b, o, none⟩)) = some (.pointer (some ⟨b, o, none⟩)) := congrArg id (by rfl)
theorem fa_80_1 (b o : Nat) : aField Try.prog 80 1 (.pointer (some ⟨b, o, none⟩)) = some (.pointer (some ⟨b, o + 1, none⟩)) := congrArg id (by rfl)
theorem fa_88_0 (b o : Nat) : aField Try.prog 88 0 (.pointer (some ⟨b, o, none⟩)) = some (.pointer (some ⟨b, o, none⟩)) := congrArg id (by rfl)
theorem fa_88_1 (b o : Nat) : aField Try.prog 88 1 (.pointer (some ⟨b, o, none⟩)) = some (.pointer (some ⟨b, o + 1, none⟩)) := congrArg id (by rfl)
theorem fa_88_2 (b o : Nat) : aField Try.prog 88 2 (.pointer (some ⟨b, o, none⟩)) = some (.pointer (some ⟨b, o + 2, none⟩)) := congrArg id (by rfl)
theorem fa_90_0 (b o : Nat) : aField Try.prog 90 0 (.pointer (some ⟨b, o, none⟩)) = some (.pointer (some ⟨b, o, none⟩)) := congrArg id (by rfl)
theorem fa_90_1 (b o : Nat) : aField Try.prog 90 1 (.pointer (some ⟨b, o, none⟩)) = some (.pointer (some ⟨b, o + 1, none⟩)) := congrArg id (by rfl)
theorem fa_90_2 (b o : Nat) : aField Try.prog 90 2 (.pointer (some ⟨b, o, none⟩)) = some (.pointer (some ⟨b, o + 2, none⟩)) := congrArg id (by rfl)
theorem fa_90_3 (b o : Nat) : aField Try.prog 90 3 (.pointer (some ⟨b, o, none⟩)) = some (.pointer (some ⟨b, o + 5, none⟩)) := congrArg id (by rfl)
theorem fa_90_4 (b o : Nat) : aField Try.prog 90 4 (.pointer (some ⟨b, o, none⟩)) = some (.pointer (some ⟨b, o + 6, none⟩)) := congrArg id (by rfl)
theorem fa_90_5 (b o : Nat) : aField Try.prog 90 5 (.pointer (some ⟨b, o, none⟩)) = some (.pointer (some ⟨b, o + 7, none⟩)) := congrArg id (by rfl)
theorem ia_22 (b o len cap : Nat) (k : IntKind) (i : Int) : aIndexAddr Try.prog 22 (.slice (some ⟨b, o, none⟩) len cap) (.int k i) = if 0 ≤ i ∧ i < len then some (.pointer (some ⟨b, o + i.toNat * 1, none⟩)) else none := aIndexAddr_s (by rfl) (by rfl) (by rfl)
theorem ia_28 (b o len cap : Nat) (k : IntKind) (i : Int) : aIndexAddr Try.prog 28 (.slice (some ⟨b, o, none⟩) len cap) (.int k i) = if 0 ≤ i ∧ i < len then some (.pointer (some ⟨b, o + i.toNat * 1, none⟩)) else none := aIndexAddr_s (by rfl) (by rfl) (by rfl)
theorem ia_30 (b o len cap : Nat) (k : IntKind) (i : Int) : aIndexAddr Try.prog 30 (.slice (some ⟨b, o, none⟩) len cap) (.int k i) = if 0 ≤ i ∧ i < len then some (.pointer (some ⟨b, o + i.toNat * 3, none⟩)) else none := aIndexAddr_s (by rfl) (by rfl) (by rfl)
theorem ia_31 (b o len cap : Nat) (k : IntKind) (i : Int) : aIndexAddr Try.prog 31 (.slice (some ⟨b, o, none⟩) len cap) (.int k i) = if 0 ≤ i ∧ i < len then some (.pointer (some ⟨b, o + i.toNat * 2, none⟩)) else none := aIndexAddr_s (by rfl) (by rfl) (by rfl)
theorem ia_37 (b o len cap : Nat) (k : IntKind) (i : Int) : aIndexAddr Try.prog 37 (.slice (some ⟨b, o, none⟩) len cap) (.int k i) = if 0 ≤ i ∧ i < len then some (.pointer (some ⟨b, o + i.toNat * 8, none⟩)) else none := aIndexAddr_s (by rfl) (by rfl) (by rfl)
theorem ia_40 (b o len cap : Nat) (k : IntKind) (i : Int) : aIndexAddr Try.prog 40 (.slice (some ⟨b, o, none⟩) len cap) (.int k i) = if 0 ≤ i ∧ i < len then some (.pointer (some ⟨b, o + i.toNat * 5, none⟩)) else none := aIndexAddr_s (by rfl) (by rfl) (by rfl)
theorem ia_43 (b o len cap : Nat) (k : IntKind) (i : Int) : aIndexAddr Try.prog 43 (.slice (some ⟨b, o, none⟩) len cap) (.int k i) = if 0 ≤ i ∧ i < len then some (.pointer (some ⟨b, o + i.toNat * 10, none⟩)) else none := aIndexAddr_s (by rfl) (by rfl) (by rfl)
theorem ia_46 (b o len cap : Nat) (k : IntKind) (i : Int) : aIndexAddr Try.prog 46 (.slice (some ⟨b, o, none⟩) len cap) (.int k i) = if 0 ≤ i ∧ i < len then some (.pointer (some ⟨b, o + i.toNat * 2, none⟩)) else none := aIndexAddr_s (by rfl) (by rfl) (by rfl)
theorem ia_49 (b o len cap : Nat) (k : IntKind) (i : Int) : aIndexAddr Try.prog 49 (.slice (some ⟨b, o, none⟩) len cap) (.int k i) = if 0 ≤ i ∧ i < len then some (.pointer (some ⟨b, o + i.toNat * 1, none⟩)) else none := aIndexAddr_s (by rfl) (by rfl) (by rfl)
theorem ia_50 (b o len cap : Nat) (k : IntKind) (i : Int) : aIndexAddr Try.prog 50 (.slice (some ⟨b, o, none⟩) len cap) (.int k i) = if 0 ≤ i ∧ i < len then some (.pointer (some ⟨b, o + i.toNat * 1, none⟩)) else none := aIndexAddr_s (by rfl) (by rfl) (by rfl)
theorem ia_51 (b o len cap : Nat) (k : IntKind) (i : Int) : aIndexAddr Try.prog 51 (.slice (some ⟨b, o, none⟩) len cap) (.int k i) = if 0 ≤ i ∧ i < len then some (.pointer (some ⟨b, o + i.toNat * 1, none⟩)) else none := aIndexAddr_s (by rfl) (by rfl) (by rfl)
theorem ia_82 (b o len cap : Nat) (k : IntKind) (i : Int) : aIndexAddr Try.prog 82 (.slice (some ⟨b, o, none⟩) len cap) (.int k i) = if 0 ≤ i ∧ i < len then some (.pointer (some ⟨b, o + i.toNat * 1, none⟩)) else none := aIndexAddr_s (by rfl) (by rfl) (by rfl)
theorem ld_3 {h : AHeap} (b off : Nat) : aLoad Try.prog h 3 ⟨b, off, none⟩ = gCell off (h.get b) := aLoad_s (by rfl) (by rfl) b off
theorem ld_4 {h : AHeap} (b off : Nat) : aLoad Try.prog h 4 ⟨b, off, none⟩ = gCell off (h.get b) := aLoad_s (by rfl) (by rfl) b off
theorem ld_22 {h : AHeap} (b off : Nat) : aLoad Try.prog h 22 ⟨b, off, none⟩ = gCell off (h.get b) := aLoad_s (by rfl) (by rfl) b off
theorem ld_30 {h : AHeap} (b off : Nat) : aLoad Try.prog h 30 ⟨b, off, none⟩ = gCell off (h.get b) := aLoad_s (by rfl) (by rfl) b off
theorem ld_31 {h : AHeap} (b off : Nat) : aLoad Try.prog h 31 ⟨b, off, none⟩ = gCell off (h.get b) := aLoad_s (by rfl) (by rfl) b off
theorem ld_33 {h : AHeap} (b off : Nat) : aLoad Try.prog h 33 ⟨b, off, none⟩ = (gCells off 5 (h.get b)).map fun xs => .agg xs.toArray := aLoad_a (by rfl) (by rfl) (by rfl) (by rfl) b off
theorem ld_37 {h : AHeap} (b off : Nat) : aLoad Try.prog h 37 ⟨b, off, none⟩ = gCell off (h.get b) := aLoad_s (by rfl) (by rfl) b off
theorem ld_39 {h : AHeap} (b off : Nat) : aLoad Try.prog h 39 ⟨b, off, none⟩ = (gCells off 2 (h.get b)).map fun xs => .agg xs.toArray := aLoad_a (by rfl) (by rfl) (by rfl) (by rfl) b off
theorem ld_40 {h : AHeap} (b off : Nat) : aLoad Try.prog h 40 ⟨b, off, none⟩ = gCell off (h.get b) := aLoad_s (by rfl) (by rfl) b off
theorem ld_46 {h : AHeap} (b off : Nat) : aLoad Try.prog h 46 ⟨b, off, none⟩ = gCell off (h.get b) := aLoad_s (by rfl) (by rfl) b off
theorem ld_49 {h : AHeap} (b off : Nat) : aLoad Try.prog h 49 ⟨b, off, none⟩ = gCell off (h.get b) := aLoad_s (by rfl) (by rfl) b off
theorem ld_50 {h : AHeap} (b off : Nat) : aLoad Try.prog h 50 ⟨b, off, none⟩ = gCell off (h.get b) := aLoad_s (by rfl) (by rfl) b off
theorem ld_51 {h : AHeap} (b off : Nat) : aLoad Try.prog h 51 ⟨b, off, none⟩ = gCell off (h.get b) := aLoad_s (by rfl) (by rfl) b off
theorem ld_53 {h : AHeap} (b off : Nat) : aLoad Try.prog h 53 ⟨b, off, none⟩ = (gCells off 5 (h.get b)).map fun xs => .agg xs.toArray := aLoad_a (by rfl) (by rfl) (by rfl) (by rfl) b off
theorem ld_59 {h : AHeap} (b off : Nat) : aLoad Try.prog h 59 ⟨b, off, none⟩ = gCell off (h.get b) := aLoad_s (by rfl) (by rfl) b off
theorem ld_60 {h : AHeap} (b off : Nat) : aLoad Try.prog h 60 ⟨b, off, none⟩ = gCell off (h.get b) := aLoad_s (by rfl) (by rfl) b off
theorem ld_66 {h : AHeap} (b off : Nat) : aLoad Try.prog h 66 ⟨b, off, none⟩ = (gCells off 3 (h.get b)).map fun xs => .agg xs.toArray := aLoad_a (by rfl) (by rfl) (by rfl) (by rfl) b off
theorem ld_68 {h : AHeap} (b off : Nat) : aLoad Try.prog h 68 ⟨b, off, none⟩ = (gCells off 2 (h.get b)).map fun xs => .agg xs.toArray := aLoad_a (by rfl) (by rfl) (by rfl) (by rfl) b off
theorem ld_80 {h : AHeap} (b off : Nat) : aLoad Try.prog h 80 ⟨b, off, none⟩ = (gCells off 2 (h.get b)).map fun xs => .agg xs.toArray := aLoad_a (by rfl) (by rfl) (by rfl) (by rfl) b off
theorem ld_88 {h : AHeap} (b off : Nat) : aLoad Try.prog h 88 ⟨b, off, none⟩ = (gCells off 3 (h.get b)).map fun xs => .agg xs.toArray := aLoad_a (by rfl) (by rfl) (by rfl) (by rfl) b off
theorem ld_90 {h : AHeap} (b off : Nat) : aLoad Try.prog h 90 ⟨b, off, none⟩ = (gCells off 8 (h.get b)).map fun xs => .agg xs.toArray := aLoad_a (by rfl) (by rfl) (by rfl) (by rfl) b off
theorem ld_113 {h : AHeap} (b off : Nat) : aLoad Try.prog h 113 ⟨b, off, none⟩ = gCell off (h.get b) := aLoad_s (by rfl) (by rfl) b off
theorem lk_59 {h : AHeap} (r : Nat) (k : IntKind) (m : Int) (ok : Bool) : aLookup Try.prog h 59 (.map (some r)) (.int k m) ok = lkF (.int .i64 0) ok (mF k m (h.get r)) := aLookup_m (by rfl) (by rfl) (by rfl) (by rfl) (by rfl)
theorem lk_59n {h : AHeap} (k : IntKind) (m : Int) (ok : Bool) : aLookup Try.prog h 59 (.map none) (.int k m) ok = lkF (.int .i64 0) ok (some none) := aLookup_n (by rfl) (by rfl) (by rfl) (by rfl) (by rfl)
theorem lk_60 {h : AHeap} (r : Nat) (k : IntKind) (m : Int) (ok : Bool) : aLookup Try.prog h 60 (.map (some r)) (.int k m) ok = lkF (.agg #[.int .i64 0, .int .i64 0, .slice none 0 0, .slice none 0 0, .slice none 0 0]) ok (mF k m (h.get r)) := aLookup_m (by rfl) (by rfl) (by rfl) (by rfl) (by rfl)
theorem lk_60n {h : AHeap} (k : IntKind) (m : Int) (ok : Bool) : aLookup Try.prog h 60 (.map none) (.int k m) ok = lkF (.agg #[.int .i64 0, .int .i64 0, .slice none 0 0, .slice none 0 0, .slice none 0 0]) ok (some none) := aLookup_n (by rfl) (by rfl) (by rfl) (by rfl) (by rfl)
theorem ln_22 {h : AHeap} (a : Option Addr) (m c : Nat) : aLen Try.prog h 22 (.slice a m c) = some (.int .i64 m) := congrArg id (by rfl)
theorem ln_30 {h : AHeap} (a : Option Addr) (m c : Nat) : aLen Try.prog h 30 (.slice a m c) = some (.int .i64 m) := congrArg id (by rfl)
theorem ln_31 {h : AHeap} (a : Option Addr) (m c : Nat) : aLen Try.prog h 31 (.slice a m c) = some (.int .i64 m) := congrArg id (by rfl)
theorem ln_37 {h : AHeap} (a : Option Addr) (m c : Nat) : aLen Try.prog h 37 (.slice a m c) = some (.int .i64 m) := congrArg id (by rfl)
theorem ln_40 {h : AHeap} (a : Option Addr) (m c : Nat) : aLen Try.prog h 40 (.slice a m c) = some (.int .i64 m) := congrArg id (by rfl)
theorem ln_43 {h : AHeap} (a : Option Addr) (m c : Nat) : aLen Try.prog h 43 (.slice a m c) = some (.int .i64 m) := congrArg id (by rfl)
theorem ln_46 {h : AHeap} (a : Option Addr) (m c : Nat) : aLen Try.prog h 46 (.slice a m c) = some (.int .i64 m) := congrArg id (by rfl)
theorem ln_49 {h : AHeap} (a : Option Addr) (m c : Nat) : aLen Try.prog h 49 (.slice a m c) = some (.int .i64 m) := congrArg id (by rfl)
theorem ln_50 {h : AHeap} (a : Option Addr) (m c : Nat) : aLen Try.prog h 50 (.slice a m c) = some (.int .i64 m) := congrArg id (by rfl)
theorem ln_51 {h : AHeap} (a : Option Addr) (m c : Nat) : aLen Try.prog h 51 (.slice a m c) = some (.int .i64 m) := congrArg id (by rfl)
theorem ln_59 {h : AHeap} (r : Nat) : aLen Try.prog h 59 (.map (some r)) = lnM (h.get r) := aLen_m (by rfl)
theorem ln_82 {h : AHeap} (a : Option Addr) (m c : Nat) : aLen Try.prog h 82 (.slice a m c) = some (.int .i64 m) := congrArg id (by rfl)
-- mm 59
-- mm 60
theorem ms_22 (k k' : IntKind) (l c : Int) : bMakeSlice Try.prog 22 (.int k l) (.int k' c) = msF 1 8 [.int .i64 0] 3 l c := bMakeSlice_s (by rfl) (by rfl) (by rfl) (by rfl) (by rfl)
theorem ms_28 (k k' : IntKind) (l c : Int) : bMakeSlice Try.prog 28 (.int k l) (.int k' c) = msF 1 1 [.bool false] 4 l c := bMakeSlice_s (by rfl) (by rfl) (by rfl) (by rfl) (by rfl)
theorem ms_49 (k k' : IntKind) (l c : Int) : bMakeSlice Try.prog 49 (.int k l) (.int k' c) = msF 1 24 [.slice none 0 0] 22 l c := bMakeSlice_s (by rfl) (by rfl) (by rfl) (by rfl) (by rfl)
theorem ms_50 (k k' : IntKind) (l c : Int) : bMakeSlice Try.prog 50 (.int k l) (.int k' c) = msF 1 24 [.slice none 0 0] 30 l c := bMakeSlice_s (by rfl) (by rfl) (by rfl) (by rfl) (by rfl)
theorem ms_51 (k k' : IntKind) (l c : Int) : bMakeSlice Try.prog 51 (.int k l) (.int k' c) = msF 1 24 [.slice none 0 0] 31 l c := bMakeSlice_s (by rfl) (by rfl) (by rfl) (by rfl) (by rfl)
theorem ms_82 (k k' : IntKind) (l c : Int) : bMakeSlice Try.prog 82 (.int k l) (.int k' c) = msF 1 24 [.slice none 0 0] 40 l c := bMakeSlice_s (by rfl) (by rfl) (by rfl) (by rfl) (by rfl)
theorem mu_59 {h : AHeap} (r : Nat) (k : IntKind) (m : Int) (y : Value) : aMapSet Try.prog h 59 (.map (some r)) (.int k m) y = muF h r k m y (h.get r) := aMapSet_m (by rfl) (by rfl)
theorem mu_60 {h : AHeap} (r : Nat) (k : IntKind) (m : Int) (y : Value) : aMapSet Try.prog h 60 (.map (some r)) (.int k m) y = muF h r k m y (h.get r) := aMapSet_m (by rfl) (by rfl)
-- sl 22
-- sl 30
-- sl 31
theorem st_3 {h : AHeap} (a : Addr) (v : Value) : aStore Try.prog h 3 a v = stN h a v.cells 1 := aStore_n (by rfl) (by rfl) a v
theorem st_4 {h : AHeap} (a : Addr) (v : Value) : aStore Try.prog h 4 a v = stN h a v.cells 1 := aStore_n (by rfl) (by rfl) a v
theorem st_22 {h : AHeap} (a : Addr) (v : Value) : aStore Try.prog h 22 a v = stN h a v.cells 1 := aStore_n (by rfl) (by rfl) a v
theorem st_30 {h : AHeap} (a : Addr) (v : Value) : aStore Try.prog h 30 a v = stN h a v.cells 1 := aStore_n (by rfl) (by rfl) a v
theorem st_31 {h : AHeap} (a : Addr) (v : Value) : aStore Try.prog h 31 a v = stN h a v.cells 1 := aStore_n (by rfl) (by rfl) a v
theorem st_33 {h : AHeap} (a : Addr) (v : Value) : aStore Try.prog h 33 a v = stN h a v.cells 5 := aStore_n (by rfl) (by rfl) a v
theorem st_39 {h : AHeap} (a : Addr) (v : Value) : aStore Try.prog h 39 a v = stN h a v.cells 2 := aStore_n (by rfl) (by rfl) a v
theorem st_40 {h : AHeap} (a : Addr) (v : Value) : aStore Try.prog h 40 a v = stN h a v.cells 1 := aStore_n (by rfl) (by rfl) a v
theorem st_46 {h : AHeap} (a : Addr) (v : Value) : aStore Try.prog h 46 a v = stN h a v.cells 1 := aStore_n (by rfl) (by rfl) a v
theorem st_53 {h : AHeap} (a : Addr) (v : Value) : aStore Try.prog h 53 a v = stN h a v.cells 5 := aStore_n (by rfl) (by rfl) a v
theorem st_62 {h : AHeap} (a : Addr) (v : Value) : aStore Try.prog h 62 a v = stN h a v.cells 7 := aStore_n (by rfl) (by rfl) a v
theorem st_66 {h : AHeap} (a : Addr) (v : Value) : aStore Try.prog h 66 a v = stN h a v.cells 3 := aStore_n (by rfl) (by rfl) a v
theorem st_68 {h : AHeap} (a : Addr) (v : Value) : aStore Try.prog h 68 a v = stN h a v.cells 2 := aStore_n (by rfl) (by rfl) a v
theorem st_80 {h : AHeap} (a : Addr) (v : Value) : aStore Try.prog h 80 a v = stN h a v.cells 2 := aStore_n (by rfl) (by rfl) a v
theorem st_90 {h : AHeap} (a : Addr) (v : Value) : aStore Try.prog h 90 a v = stN h a v.cells 8 := aStore_n (by rfl) (by rfl) a v
theorem st_113 {h : AHeap} (a : Addr) (v : Value) : aStore Try.prog h 113 a v = stN h a v.cells 1 := aStore_n (by rfl) (by rfl) a v
-- NAMES al_22, al_33, al_39, al_46, al_53, al_80, al_90, al_113, ap_22, ap_30, ap_31, ap_40, ap_46, ap_50, ap_51, ba_22_22, ba_30_30, ba_31_31, ba_40_40, ba_46_46, ba_50_50, ba_51_51, bd_33, bd_39, bd_45, bd_53, bd_62, bd_64, bd_66, bd_68, bd_80, bd_88, bd_90, bs_22, bs_30, bs_31, bs_37, bs_40, bs_43, bs_46, bs_49, bs_50, bs_51, eq_22_eql_s, eq_22_eql_n, eq_22_neq_s, eq_22_neq_n, eq_23_eql_s, eq_23_eql_n, eq_23_neq_s, eq_23_neq_n, eq_30_eql_s, eq_30_eql_n, eq_30_neq_s, eq_30_neq_n, eq_31_eql_s, eq_31_eql_n, eq_31_neq_s, eq_31_neq_n, eq_102_eql_s, eq_102_eql_n, eq_102_neq_s, eq_102_neq_n, eq_118_eql_s, eq_118_eql_n, eq_118_neq_s, eq_118_neq_n, fa_33_0, fa_33_1, fa_33_2, fa_33_3, fa_33_4, fa_39_0, fa_39_1, fa_45_0, fa_45_1, fa_45_2, fa_45_3, fa_45_4, fa_45_5, fa_53_0, fa_53_1, fa_53_2, fa_53_3, fa_53_4, fa_62_0, fa_62_1, fa_62_2, fa_62_3, fa_62_4, fa_62_5, fa_62_6, fa_66_0, fa_66_1, fa_80_0, fa_80_1, fa_88_0, fa_88_1, fa_88_2, fa_90_0, fa_90_1, fa_90_2, fa_90_3, fa_90_4, fa_90_5, ia_22, ia_28, ia_30, ia_31, ia_37, ia_40, ia_43, ia_46, ia_49, ia_50, ia_51, ia_82, ld_3, ld_4, ld_22, ld_30, ld_31, ld_33, ld_37, ld_39, ld_40, ld_46, ld_49, ld_50, ld_51, ld_53, ld_59, ld_60, ld_66, ld_68, ld_80, ld_88, ld_90, ld_113, lk_59, lk_59n, lk_60, lk_60n, ln_22, ln_30, ln_31, ln_37, ln_40, ln_43, ln_46, ln_49, ln_50, ln_51, ln_59, ln_82, ms_22, ms_28, ms_49, ms_50, ms_51, ms_82, mu_59, mu_60, st_3, st_4, st_22, st_30, st_31, st_33, st_39, st_40, st_46, st_53, st_62, st_66, st_68, st_80, st_90, st_113
theorem oxTy0 : type_of% (And.intro (And.intro (And.intro (And.intro (And.intro (@al_22) (@al_33)) (And.intro (@al_39) (@al_46))) (And.intro (And.intro (@al_53) (@al_80)) (And.intro (@al_90) (@al_113)))) (And.intro (And.intro (And.intro (@ap_22) (@ap_30)) (And.intro (@ap_31) (@ap_40))) (And.intro (And.intro (@ap_46) (@ap_50)) (And.intro (@ap_51) (@ba_22_22))))) (And.intro (And.intro (And.intro (And.intro (@ba_30_30) (@ba_31_31)) (And.intro (@ba_40_40) (@ba_46_46))) (And.intro (And.intro (@ba_50_50) (@ba_51_51)) (And.intro (@bd_33) (@bd_39)))) (And.intro (And.intro (And.intro (@bd_45) (@bd_53)) (And.intro (@bd_62) (@bd_64))) (And.intro (And.intro (@bd_66) (@bd_68)) (And.intro (@bd_80) (@bd_88)))))) := And.intro (And.intro (And.intro (And.intro (And.intro (@al_22) (@al_33)) (And.intro (@al_39) (@al_46))) (And.intro (And.intro (@al_53) (@al_80)) (And.intro (@al_90) (@al_113)))) (And.intro (And.intro (And.intro (@ap_22) (@ap_30)) (And.intro (@ap_31) (@ap_40))) (And.intro (And.intro (@ap_46) (@ap_50)) (And.intro (@ap_51) (@ba_22_22))))) (And.intro (And.intro (And.intro (And.intro (@ba_30_30) (@ba_31_31)) (And.intro (@ba_40_40) (@ba_46_46))) (And.intro (And.intro (@ba_50_50) (@ba_51_51)) (And.intro (@bd_33) (@bd_39)))) (And.intro (And.intro (And.intro (@bd_45) (@bd_53)) (And.intro (@bd_62) (@bd_64))) (And.intro (And.intro (@bd_66) (@bd_68)) (And.intro (@bd_80) (@bd_88)))))
theorem oxTy1 : type_of% (And.intro (And.intro (And.intro (And.intro (And.intro (@bd_90) (@bs_22)) (And.intro (@bs_30) (@bs_31))) (And.intro (And.intro (@bs_37) (@bs_40)) (And.intro (@bs_43) (@bs_46)))) (And.intro (And.intro (And.intro (@bs_49) (@bs_50)) (And.intro (@bs_51) (@eq_22_eql_s))) (And.intro (And.intro (@eq_22_eql_n) (@eq_22_neq_s)) (And.intro (@eq_22_neq_n) (@eq_23_eql_s))))) (And.intro (And.intro (And.intro (And.intro (@eq_23_eql_n) (@eq_23_neq_s)) (And.intro (@eq_23_neq_n) (@eq_30_eql_s))) (And.intro (And.intro (@eq_30_eql_n) (@eq_30_neq_s)) (And.intro (@eq_30_neq_n) (@eq_31_eql_s)))) (And.intro (And.intro (And.intro (@eq_31_eql_n) (@eq_31_neq_s)) (And.intro (@eq_31_neq_n) (@eq_102_eql_s))) (And.intro (And.intro (@eq_102_eql_n) (@eq_102_neq_s)) (And.intro (@eq_102_neq_n) (@eq_118_eql_s)))))) := And.intro (And.intro (And.intro (And.intro (And.intro (@bd_90) (@bs_22)) (And.intro (@bs_30) (@bs_31))) (And.intro (And.intro (@bs_37) (@bs_40)) (And.intro (@bs_43) (@bs_46)))) (And.intro (And.intro (And.intro (@bs_49) (@bs_50)) (And.intro (@bs_51) (@eq_22_eql_s))) (And.intro (And.intro (@eq_22_eql_n) (@eq_22_neq_s)) (And.intro (@eq_22_neq_n) (@eq_23_eql_s))))) (And.intro (And.intro (And.intro (And.intro (@eq_23_eql_n) (@eq_23_neq_s)) (And.intro (@eq_23_neq_n) (@eq_30_eql_s))) (And.intro (And.intro (@eq_30_eql_n) (@eq_30_neq_s)) (And.intro (@eq_30_neq_n) (@eq_31_eql_s)))) (And.intro (And.intro (And.intro (@eq_31_eql_n) (@eq_31_neq_s)) (And.intro (@eq_31_neq_n) (@eq_102_eql_s))) (And.intro (And.intro (@eq_102_eql_n) (@eq_102_neq_s)) (And.intro (@eq_102_neq_n) (@eq_118_eql_s)))))
theorem oxTy2 : type_of% (And.intro (And.intro (And.intro (And.intro (And.intro (@eq_118_eql_n) (@eq_118_neq_s)) (And.intro (@eq_118_neq_n) (@fa_33_0))) (And.intro (And.intro (@fa_33_1) (@fa_33_2)) (And.intro (@fa_33_3) (@fa_33_4)))) (And.intro (And.intro (And.intro (@fa_39_0) (@fa_39_1)) (And.intro (@fa_45_0) (@fa_45_1))) (And.intro (And.intro (@fa_45_2) (@fa_45_3)) (And.intro (@fa_45_4) (@fa_45_5))))) (And.intro (And.intro (And.intro (And.intro (@fa_53_0) (@fa_53_1)) (And.intro (@fa_53_2) (@fa_53_3))) (And.intro (And.intro (@fa_53_4) (@fa_62_0)) (And.intro (@fa_62_1) (@fa_62_2)))) (And.intro (And.intro (And.intro (@fa_62_3) (@fa_62_4)) (And.intro (@fa_62_5) (@fa_62_6))) (And.intro (And.intro (@fa_66_0) (@fa_66_1)) (And.intro (@fa_80_0) (@fa_80_1)))))) := And.intro (And.intro (And.intro (And.intro (And.intro (@eq_118_eql_n) (@eq_118_neq_s)) (And.intro (@eq_118_neq_n) (@fa_33_0))) (And.intro (And.intro (@fa_33_1) (@fa_33_2)) (And.intro (@fa_33_3) (@fa_33_4)))) (And.intro (And.intro (And.intro (@fa_39_0) (@fa_39_1)) (And.intro (@fa_45_0) (@fa_45_1))) (And.intro (And.intro (@fa_45_2) (@fa_45_3)) (And.intro (@fa_45_4) (@fa_45_5))))) (And.intro (And.intro (And.intro (And.intro (@fa_53_0) (@fa_53_1)) (And.intro (@fa_53_2) (@fa_53_3))) (And.intro (And.intro (@fa_53_4) (@fa_62_0)) (And.intro (@fa_62_1) (@fa_62_2)))) (And.intro (And.intro (And.intro (@fa_62_3) (@fa_62_4)) (And.intro (@fa_62_5) (@fa_62_6))) (And.intro (And.intro (@fa_66_0) (@fa_66_1)) (And.intro (@fa_80_0) (@fa_80_1)))))
theorem oxTy3 : type_of% (And.intro (And.intro (And.intro (And.intro (And.intro (@fa_88_0) (@fa_88_1)) (And.intro (@fa_88_2) (@fa_90_0))) (And.intro (And.intro (@fa_90_1) (@fa_90_2)) (And.intro (@fa_90_3) (@fa_90_4)))) (And.intro (And.intro (And.intro (@fa_90_5) (@ia_22)) (And.intro (@ia_28) (@ia_30))) (And.intro (And.intro (@ia_31) (@ia_37)) (And.intro (@ia_40) (@ia_43))))) (And.intro (And.intro (And.intro (And.intro (@ia_46) (@ia_49)) (And.intro (@ia_50) (@ia_51))) (And.intro (And.intro (@ia_82) (@ld_3)) (And.intro (@ld_4) (@ld_22)))) (And.intro (And.intro (And.intro (@ld_30) (@ld_31)) (And.intro (@ld_33) (@ld_37))) (And.intro (And.intro (@ld_39) (@ld_40)) (And.intro (@ld_46) (@ld_49)))))) := And.intro (And.intro (And.intro (And.intro (And.intro (@fa_88_0) (@fa_88_1)) (And.intro (@fa_88_2) (@fa_90_0))) (And.intro (And.intro (@fa_90_1) (@fa_90_2)) (And.intro (@fa_90_3) (@fa_90_4)))) (And.intro (And.intro (And.intro (@fa_90_5) (@ia_22)) (And.intro (@ia_28) (@ia_30))) (And.intro (And.intro (@ia_31) (@ia_37)) (And.intro (@ia_40) (@ia_43))))) (And.intro (And.intro (And.intro (And.intro (@ia_46) (@ia_49)) (And.intro (@ia_50) (@ia_51))) (And.intro (And.intro (@ia_82) (@ld_3)) (And.intro (@ld_4) (@ld_22)))) (And.intro (And.intro (And.intro (@ld_30) (@ld_31)) (And.intro (@ld_33) (@ld_37))) (And.intro (And.intro (@ld_39) (@ld_40)) (And.intro (@ld_46) (@ld_49)))))
theorem oxTy4 : type_of% (And.intro (And.intro (And.intro (And.intro (And.intro (@ld_50) (@ld_51)) (And.intro (@ld_53) (@ld_59))) (And.intro (And.intro (@ld_60) (@ld_66)) (And.intro (@ld_68) (@ld_80)))) (And.intro (And.intro (And.intro (@ld_88) (@ld_90)) (And.intro (@ld_113) (@lk_59))) (And.intro (And.intro (@lk_59n) (@lk_60)) (And.intro (@lk_60n) (@ln_22))))) (And.intro (And.intro (And.intro (And.intro (@ln_30) (@ln_31)) (And.intro (@ln_37) (@ln_40))) (And.intro (And.intro (@ln_43) (@ln_46)) (And.intro (@ln_49) (@ln_50)))) (And.intro (And.intro (And.intro (@ln_51) (@ln_59)) (And.intro (@ln_82) (@ms_22))) (And.intro (And.intro (@ms_28) (@ms_49)) (And.intro (@ms_50) (@ms_51)))))) := And.intro (And.intro (And.intro (And.intro (And.intro (@ld_50) (@ld_51)) (And.intro (@ld_53) (@ld_59))) (And.intro (And.intro (@ld_60) (@ld_66)) (And.intro (@ld_68) (@ld_80)))) (And.intro (And.intro (And.intro (@ld_88) (@ld_90)) (And.intro (@ld_113) (@lk_59))) (And.intro (And.intro (@lk_59n) (@lk_60)) (And.intro (@lk_60n) (@ln_22))))) (And.intro (And.intro (And.intro (And.intro (@ln_30) (@ln_31)) (And.intro (@ln_37) (@ln_40))) (And.intro (And.intro (@ln_43) (@ln_46)) (And.intro (@ln_49) (@ln_50)))) (And.intro (And.intro (And.intro (@ln_51) (@ln_59)) (And.intro (@ln_82) (@ms_22))) (And.intro (And.intro (@ms_28) (@ms_49)) (And.intro (@ms_50) (@ms_51)))))
theorem oxTy5 : type_of% (And.intro (And.intro (And.intro (And.intro (@ms_82) (@mu_59)) (And.intro (@mu_60) (@st_3))) (And.intro (And.intro (@st_4) (@st_22)) (And.intro (@st_30) (And.intro (@st_31) (@st_33))))) (And.intro (And.intro (And.intro (@st_39) (@st_40)) (And.intro (@st_46) (And.intro (@st_53) (@st_62)))) (And.intro (And.intro (@st_66) (@st_68)) (And.intro (@st_80) (And.intro (@st_90) (@st_113)))))) := And.intro (And.intro (And.intro (And.intro (@ms_82) (@mu_59)) (And.intro (@mu_60) (@st_3))) (And.intro (And.intro (@st_4) (@st_22)) (And.intro (@st_30) (And.intro (@st_31) (@st_33))))) (And.intro (And.intro (And.intro (@st_39) (@st_40)) (And.intro (@st_46) (And.intro (@st_53) (@st_62)))) (And.intro (And.intro (@st_66) (@st_68)) (And.intro (@st_80) (And.intro (@st_90) (@st_113)))))
end Go.Proofs
