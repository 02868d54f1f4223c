/-
 A part of the proof of RescaleKnown: what this program's functions do on an abstract heap. CONDITIONS: none.
-/
import Derived.Test.YtcnlilnkbhefbaaGreatProg
import Derived.Test.YtcnlilnkbhefbaaGreatOxW
set_option linter.unusedSimpArgs false
set_option linter.unusedVariables false
namespace Go.Proofs
open Go Go.Ox
set_option maxRecDepth 100000
theorem al_3 : alc Tryz.prog 3 = some (.cells false 0 [.int .i64 0] 3, ptrTo) := congrArg id (by rfl)
theorem al_24 : alc Tryz.prog 24 = some (.cells false 0 [.int .i64 0, .slice none 0 0] 24, ptrTo) := congrArg id (by rfl)
theorem al_30 : alc Tryz.prog 30 = some (.cells false 0 [.int .i64 0, .slice none 0 0, .slice none 0 0, .slice none 0 0, .slice none 0 0] 30, ptrTo) := congrArg id (by rfl)
theorem al_50 : alc Tryz.prog 50 = some (.cells false 0 [.int .i64 0, .int .i64 0] 50, ptrTo) := congrArg id (by rfl)
theorem al_52 : alc Tryz.prog 52 = some (.cells false 0 [.int .i64 0, .int .i64 0, .int .i64 0] 52, ptrTo) := congrArg id (by rfl)
theorem al_69 : alc Tryz.prog 69 = some (.cells false 0 [.int .i64 0, .slice none 0 0, .int .i64 0, .int .i64 0, .int .i64 0, .int .i64 0, .int .i64 0, .int .i64 0] 69, ptrTo) := congrArg id (by rfl)
theorem al_72 : alc Tryz.prog 72 = some (.cells false 0 [.slice none 0 0] 72, ptrTo) := congrArg id (by rfl)
theorem al_75 : alc Tryz.prog 75 = some (.cells false 0 [.int .i64 0, .int .i64 0, .int .i64 0, .int .i64 0] 75, ptrTo) := congrArg id (by rfl)
theorem al_90 : alc Tryz.prog 90 = some (.cells false 0 [.int .i64 0, .int .i64 0, .int .i64 0, .int .i64 0, .int .i64 0] 90, ptrTo) := congrArg id (by rfl)
theorem al_92 : alc Tryz.prog 92 = some (.cells false 0 [.nilFunc] 92, ptrTo) := congrArg id (by rfl)
theorem al_114 : alc Tryz.prog 114 = some (.cells false 0 [.int .i64 0, .int .i64 0] 114, ptrTo) := congrArg id (by rfl)
theorem al_115 : alc Tryz.prog 115 = some (.cells false 0 [.nilFunc] 115, ptrTo) := congrArg id (by rfl)
theorem al_130 : alc Tryz.prog 130 = some (.cells false 0 [.int .i64 0, .int .i64 0] 130, ptrTo) := congrArg id (by rfl)
theorem al_162 : alc Tryz.prog 162 = some (.cells false 0 [.int .u64 0] 162, ptrTo) := congrArg id (by rfl)
theorem ap_22 {h : AHeap} (a b : Option Addr) (l c m d : Nat) : aAppend Tryz.prog h 22 (.slice a l c) (.slice b m d) = apF h 8 80 69 a l c b m d := aAppend_s (by rfl) (by rfl) (by rfl) (by rfl) (by rfl)
theorem ap_25 {h : AHeap} (a b : Option Addr) (l c m d : Nat) : aAppend Tryz.prog h 25 (.slice a l c) (.slice b m d) = apF h 1 8 3 a l c b m d := aAppend_s (by rfl) (by rfl) (by rfl) (by rfl) (by rfl)
theorem ap_26 {h : AHeap} (a b : Option Addr) (l c m d : Nat) : aAppend Tryz.prog h 26 (.slice a l c) (.slice b m d) = apF h 1 24 25 a l c b m d := aAppend_s (by rfl) (by rfl) (by rfl) (by rfl) (by rfl)
theorem ap_27 {h : AHeap} (a b : Option Addr) (l c m d : Nat) : aAppend Tryz.prog h 27 (.slice a l c) (.slice b m d) = apF h 1 24 48 a l c b m d := aAppend_s (by rfl) (by rfl) (by rfl) (by rfl) (by rfl)
theorem ap_28 {h : AHeap} (a b : Option Addr) (l c m d : Nat) : aAppend Tryz.prog h 28 (.slice a l c) (.slice b m d) = apF h 1 24 110 a l c b m d := aAppend_s (by rfl) (by rfl) (by rfl) (by rfl) (by rfl)
theorem ap_48 {h : AHeap} (a b : Option Addr) (l c m d : Nat) : aAppend Tryz.prog h 48 (.slice a l c) (.slice b m d) = apF h 3 24 52 a l c b m d := aAppend_s (by rfl) (by rfl) (by rfl) (by rfl) (by rfl)
theorem ap_63 {h : AHeap} (a b : Option Addr) (l c m d : Nat) : aAppend Tryz.prog h 63 (.slice a l c) (.slice b m d) = apF h 5 56 77 a l c b m d := aAppend_s (by rfl) (by rfl) (by rfl) (by rfl) (by rfl)
theorem ap_72 {h : AHeap} (a b : Option Addr) (l c m d : Nat) : aAppend Tryz.prog h 72 (.slice a l c) (.slice b m d) = apF h 4 32 75 a l c b m d := aAppend_s (by rfl) (by rfl) (by rfl) (by rfl) (by rfl)
theorem ap_79 {h : AHeap} (a b : Option Addr) (l c m d : Nat) : aAppend Tryz.prog h 79 (.slice a l c) (.slice b m d) = apF h 1 24 83 a l c b m d := aAppend_s (by rfl) (by rfl) (by rfl) (by rfl) (by rfl)
theorem ap_80 {h : AHeap} (a b : Option Addr) (l c m d : Nat) : aAppend Tryz.prog h 80 (.slice a l c) (.slice b m d) = apF h 5 40 90 a l c b m d := aAppend_s (by rfl) (by rfl) (by rfl) (by rfl) (by rfl)
theorem ap_83 {h : AHeap} (a b : Option Addr) (l c m d : Nat) : aAppend Tryz.prog h 83 (.slice a l c) (.slice b m d) = apF h 1 8 85 a l c b m d := aAppend_s (by rfl) (by rfl) (by rfl) (by rfl) (by rfl)
theorem ap_110 {h : AHeap} (a b : Option Addr) (l c m d : Nat) : aAppend Tryz.prog h 110 (.slice a l c) (.slice b m d) = apF h 2 16 130 a l c b m d := aAppend_s (by rfl) (by rfl) (by rfl) (by rfl) (by rfl)
theorem ba_110_110 {h : AHeap} (ts : List TypeId) (x y : Value) : aBuiltin Tryz.prog h .append (110 :: 110 :: ts).toArray [x, y] = aAppend Tryz.prog h 110 x y := bi_append 110 110 ts x y (by rfl)
theorem ba_22_22 {h : AHeap} (ts : List TypeId) (x y : Value) : aBuiltin Tryz.prog h .append (22 :: 22 :: ts).toArray [x, y] = aAppend Tryz.prog h 22 x y := bi_append 22 22 ts x y (by rfl)
theorem ba_25_25 {h : AHeap} (ts : List TypeId) (x y : Value) : aBuiltin Tryz.prog h .append (25 :: 25 :: ts).toArray [x, y] = aAppend Tryz.prog h 25 x y := bi_append 25 25 ts x y (by rfl)
theorem ba_26_26 {h : AHeap} (ts : List TypeId) (x y : Value) : aBuiltin Tryz.prog h .append (26 :: 26 :: ts).toArray [x, y] = aAppend Tryz.prog h 26 x y := bi_append 26 26 ts x y (by rfl)
theorem ba_27_27 {h : AHeap} (ts : List TypeId) (x y : Value) : aBuiltin Tryz.prog h .append (27 :: 27 :: ts).toArray [x, y] = aAppend Tryz.prog h 27 x y := bi_append 27 27 ts x y (by rfl)
theorem ba_28_28 {h : AHeap} (ts : List TypeId) (x y : Value) : aBuiltin Tryz.prog h .append (28 :: 28 :: ts).toArray [x, y] = aAppend Tryz.prog h 28 x y := bi_append 28 28 ts x y (by rfl)
theorem ba_48_48 {h : AHeap} (ts : List TypeId) (x y : Value) : aBuiltin Tryz.prog h .append (48 :: 48 :: ts).toArray [x, y] = aAppend Tryz.prog h 48 x y := bi_append 48 48 ts x y (by rfl)
theorem ba_63_63 {h : AHeap} (ts : List TypeId) (x y : Value) : aBuiltin Tryz.prog h .append (63 :: 63 :: ts).toArray [x, y] = aAppend Tryz.prog h 63 x y := bi_append 63 63 ts x y (by rfl)
theorem ba_72_72 {h : AHeap} (ts : List TypeId) (x y : Value) : aBuiltin Tryz.prog h .append (72 :: 72 :: ts).toArray [x, y] = aAppend Tryz.prog h 72 x y := bi_append 72 72 ts x y (by rfl)
theorem ba_79_79 {h : AHeap} (ts : List TypeId) (x y : Value) : aBuiltin Tryz.prog h .append (79 :: 79 :: ts).toArray [x, y] = aAppend Tryz.prog h 79 x y := bi_append 79 79 ts x y (by rfl)
theorem ba_80_80 {h : AHeap} (ts : List TypeId) (x y : Value) : aBuiltin Tryz.prog h .append (80 :: 80 :: ts).toArray [x, y] = aAppend Tryz.prog h 80 x y := bi_append 80 80 ts x y (by rfl)
theorem ba_83_83 {h : AHeap} (ts : List TypeId) (x y : Value) : aBuiltin Tryz.prog h .append (83 :: 83 :: ts).toArray [x, y] = aAppend Tryz.prog h 83 x y := bi_append 83 83 ts x y (by rfl)
theorem bd_24 (ps : List (Nat × Value)) : aBuild Tryz.prog 24 ps = bdF (aFill (lk [(0, 1), (1, 1)]) [.int .i64 0, .slice none 0 0] ps) := aBuild_of (by rfl) (by rfl) (by rfl) ps
theorem bd_30 (ps : List (Nat × Value)) : aBuild Tryz.prog 30 ps = bdF (aFill (lk [(0, 1), (1, 1), (2, 1), (3, 1), (4, 1)]) [.int .i64 0, .slice none 0 0, .slice none 0 0, .slice none 0 0, .slice none 0 0] ps) := aBuild_of (by rfl) (by rfl) (by rfl) ps
theorem bd_50 (ps : List (Nat × Value)) : aBuild Tryz.prog 50 ps = bdF (aFill (lk [(0, 1), (1, 1)]) [.int .i64 0, .int .i64 0] ps) := aBuild_of (by rfl) (by rfl) (by rfl) ps
theorem bd_52 (ps : List (Nat × Value)) : aBuild Tryz.prog 52 ps = bdF (aFill (lk [(0, 1), (1, 2)]) [.int .i64 0, .int .i64 0, .int .i64 0] ps) := aBuild_of (by rfl) (by rfl) (by rfl) ps
theorem bd_65 (ps : List (Nat × Value)) : aBuild Tryz.prog 65 ps = bdF (aFill (lk [(0, 1), (1, 1), (2, 1), (3, 1), (4, 1)]) [.int .i64 0, .slice none 0 0, .slice none 0 0, .slice none 0 0, .slice none 0 0] ps) := aBuild_of (by rfl) (by rfl) (by rfl) ps
theorem bd_67 (ps : List (Nat × Value)) : aBuild Tryz.prog 67 ps = bdF (aFill (lk [(0, 1), (1, 1), (2, 1)]) [.int .i64 0, .int .i64 0, .int .i64 0] ps) := aBuild_of (by rfl) (by rfl) (by rfl) ps
theorem bd_69 (ps : List (Nat × Value)) : aBuild Tryz.prog 69 ps = bdF (aFill (lk [(0, 1), (1, 1), (2, 3), (5, 1), (6, 1), (7, 1)]) [.int .i64 0, .slice none 0 0, .int .i64 0, .int .i64 0, .int .i64 0, .int .i64 0, .int .i64 0, .int .i64 0] ps) := aBuild_of (by rfl) (by rfl) (by rfl) ps
theorem bd_75 (ps : List (Nat × Value)) : aBuild Tryz.prog 75 ps = bdF (aFill (lk [(0, 1), (1, 1), (2, 1), (3, 1)]) [.int .i64 0, .int .i64 0, .int .i64 0, .int .i64 0] ps) := aBuild_of (by rfl) (by rfl) (by rfl) ps
theorem bd_77 (ps : List (Nat × Value)) : aBuild Tryz.prog 77 ps = bdF (aFill (lk [(0, 4), (4, 1)]) [.int .i64 0, .int .i64 0, .int .i64 0, .int .i64 0, .slice none 0 0] ps) := aBuild_of (by rfl) (by rfl) (by rfl) ps
theorem bd_82 (ps : List (Nat × Value)) : aBuild Tryz.prog 82 ps = bdF (aFill (lk [(0, 2), (2, 5), (7, 1), (8, 1), (9, 1)]) [.int .i64 0, .slice none 0 0, .int .i64 0, .slice none 0 0, .slice none 0 0, .slice none 0 0, .slice none 0 0, .slice none 0 0, .slice none 0 0, .slice none 0 0] ps) := aBuild_of (by rfl) (by rfl) (by rfl) ps
theorem bd_90 (ps : List (Nat × Value)) : aBuild Tryz.prog 90 ps = bdF (aFill (lk [(0, 1), (1, 4)]) [.int .i64 0, .int .i64 0, .int .i64 0, .int .i64 0, .int .i64 0] ps) := aBuild_of (by rfl) (by rfl) (by rfl) ps
theorem bd_120 (ps : List (Nat × Value)) : aBuild Tryz.prog 120 ps = bdF (aFill (lk [(0, 1), (1, 1)]) [.int .i64 0, .slice none 0 0] ps) := aBuild_of (by rfl) (by rfl) (by rfl) ps
theorem bd_130 (ps : List (Nat × Value)) : aBuild Tryz.prog 130 ps = bdF (aFill (lk [(0, 1), (1, 1)]) [.int .i64 0, .int .i64 0] ps) := aBuild_of (by rfl) (by rfl) (by rfl) ps
theorem bd_133 (ps : List (Nat × Value)) : aBuild Tryz.prog 133 ps = bdF (aFill (lk [(0, 1), (1, 1)]) [.int .i64 0, .map none] ps) := aBuild_of (by rfl) (by rfl) (by rfl) ps
theorem bs_22 (m : Nat) (ps : List (Nat × Value)) : bBuildSlice Tryz.prog 22 m ps = bsF 8 69 m (aFill (fun j => some (j * 8, 8)) (aZeros [.int .i64 0, .slice none 0 0, .int .i64 0, .int .i64 0, .int .i64 0, .int .i64 0, .int .i64 0, .int .i64 0] m) ps) := bBuildSlice_s (by rfl) (by rfl) (by rfl) (by rfl)
theorem bs_25 (m : Nat) (ps : List (Nat × Value)) : bBuildSlice Tryz.prog 25 m ps = bsF 1 3 m (aFill (fun j => some (j * 1, 1)) (aZeros [.int .i64 0] m) ps) := bBuildSlice_s (by rfl) (by rfl) (by rfl) (by rfl)
theorem bs_26 (m : Nat) (ps : List (Nat × Value)) : bBuildSlice Tryz.prog 26 m ps = bsF 1 25 m (aFill (fun j => some (j * 1, 1)) (aZeros [.slice none 0 0] m) ps) := bBuildSlice_s (by rfl) (by rfl) (by rfl) (by rfl)
theorem bs_27 (m : Nat) (ps : List (Nat × Value)) : bBuildSlice Tryz.prog 27 m ps = bsF 1 48 m (aFill (fun j => some (j * 1, 1)) (aZeros [.slice none 0 0] m) ps) := bBuildSlice_s (by rfl) (by rfl) (by rfl) (by rfl)
theorem bs_28 (m : Nat) (ps : List (Nat × Value)) : bBuildSlice Tryz.prog 28 m ps = bsF 1 110 m (aFill (fun j => some (j * 1, 1)) (aZeros [.slice none 0 0] m) ps) := bBuildSlice_s (by rfl) (by rfl) (by rfl) (by rfl)
theorem bs_48 (m : Nat) (ps : List (Nat × Value)) : bBuildSlice Tryz.prog 48 m ps = bsF 3 52 m (aFill (fun j => some (j * 3, 3)) (aZeros [.int .i64 0, .int .i64 0, .int .i64 0] m) ps) := bBuildSlice_s (by rfl) (by rfl) (by rfl) (by rfl)
theorem bs_63 (m : Nat) (ps : List (Nat × Value)) : bBuildSlice Tryz.prog 63 m ps = bsF 5 77 m (aFill (fun j => some (j * 5, 5)) (aZeros [.int .i64 0, .int .i64 0, .int .i64 0, .int .i64 0, .slice none 0 0] m) ps) := bBuildSlice_s (by rfl) (by rfl) (by rfl) (by rfl)
theorem bs_72 (m : Nat) (ps : List (Nat × Value)) : bBuildSlice Tryz.prog 72 m ps = bsF 4 75 m (aFill (fun j => some (j * 4, 4)) (aZeros [.int .i64 0, .int .i64 0, .int .i64 0, .int .i64 0] m) ps) := bBuildSlice_s (by rfl) (by rfl) (by rfl) (by rfl)
theorem bs_79 (m : Nat) (ps : List (Nat × Value)) : bBuildSlice Tryz.prog 79 m ps = bsF 1 83 m (aFill (fun j => some (j * 1, 1)) (aZeros [.slice none 0 0] m) ps) := bBuildSlice_s (by rfl) (by rfl) (by rfl) (by rfl)
theorem bs_80 (m : Nat) (ps : List (Nat × Value)) : bBuildSlice Tryz.prog 80 m ps = bsF 5 90 m (aFill (fun j => some (j * 5, 5)) (aZeros [.int .i64 0, .int .i64 0, .int .i64 0, .int .i64 0, .int .i64 0] m) ps) := bBuildSlice_s (by rfl) (by rfl) (by rfl) (by rfl)
theorem bs_83 (m : Nat) (ps : List (Nat × Value)) : bBuildSlice Tryz.prog 83 m ps = bsF 1 85 m (aFill (fun j => some (j * 1, 1)) (aZeros [.pointer none] m) ps) := bBuildSlice_s (by rfl) (by rfl) (by rfl) (by rfl)
theorem bs_110 (m : Nat) (ps : List (Nat × Value)) : bBuildSlice Tryz.prog 110 m ps = bsF 2 130 m (aFill (fun j => some (j * 2, 2)) (aZeros [.int .i64 0, .int .i64 0] m) ps) := bBuildSlice_s (by rfl) (by rfl) (by rfl) (by rfl)
theorem cl_25 {h : AHeap} (b o m c : Nat) : aClear Tryz.prog h 25 (.slice (some ⟨b, o, none⟩) m c) = if m = 0 then some h else gPut h b o (aZeros [.int .i64 0] m) (h.get b) := aClear_s (by rfl) (by rfl)
theorem bc_25 {h : AHeap} (ts : List TypeId) (x : Value) : aBuiltin Tryz.prog h .clear (25 :: ts).toArray [x] = un (aClear Tryz.prog h 25 x) := bi_clear 25 ts x (by rfl)
-- dl 131
-- bool eq 4
theorem eq_25_eql_s (x y : Operand) (a : Addr) (l c : Nat) : aBin Tryz.prog .eql 25 x y (.slice (some a) l c) (.slice none 0 0) = some (.bool false) := congrArg id (by rfl)
theorem eq_25_eql_n (x y : Operand) (l c : Nat) : aBin Tryz.prog .eql 25 x y (.slice none l c) (.slice none 0 0) = some (.bool true) := congrArg id (by rfl)
theorem eq_25_neq_s (x y : Operand) (a : Addr) (l c : Nat) : aBin Tryz.prog .neq 25 x y (.slice (some a) l c) (.slice none 0 0) = some (.bool true) := congrArg id (by rfl)
theorem eq_25_neq_n (x y : Operand) (l c : Nat) : aBin Tryz.prog .neq 25 x y (.slice none l c) (.slice none 0 0) = some (.bool false) := congrArg id (by rfl)
theorem eq_36_eql_s (x y : Operand) (a : Addr) : aBin Tryz.prog .eql 36 x y (.pointer (some a)) (.pointer none) = some (.bool false) := congrArg id (by rfl)
theorem eq_36_eql_n (x y : Operand) : aBin Tryz.prog .eql 36 x y (.pointer none) (.pointer none) = some (.bool true) := congrArg id (by rfl)
theorem eq_36_neq_s (x y : Operand) (a : Addr) : aBin Tryz.prog .neq 36 x y (.pointer (some a)) (.pointer none) = some (.bool true) := congrArg id (by rfl)
theorem eq_36_neq_n (x y : Operand) : aBin Tryz.prog .neq 36 x y (.pointer none) (.pointer none) = some (.bool false) := congrArg id (by rfl)
-- eq of another type 50
-- eq of another type 52
-- eq of another type 67
-- eq of another type 114
-- eq of another type 130
theorem fa_24_0 (b o : Nat) : aField Tryz.prog 24 0 (.pointer (some ⟨b, o, none⟩)) = some (.pointer (some ⟨b, o, none⟩)) := congrArg id (by rfl)
theorem fa_24_1 (b o : Nat) : aField Tryz.prog 24 1 (.pointer (some ⟨b, o, none⟩)) = some (.pointer (some ⟨b, o + 1, none⟩)) := congrArg id (by rfl)
theorem fa_30_0 (b o : Nat) : aField Tryz.prog 30 0 (.pointer (some ⟨b, o, none⟩)) = some (.pointer (some ⟨b, o, none⟩)) := congrArg id (by rfl)
theorem fa_30_1 (b o : Nat) : aField Tryz.prog 30 1 (.pointer (some ⟨b, o, none⟩)) = some (.pointer (some ⟨b, o + 1, none⟩)) := congrArg id (by rfl)
theorem fa_30_2 (b o : Nat) : aField Tryz.prog 30 2 (.pointer (some ⟨b, o, none⟩)) = some (.pointer (some ⟨b, o + 2, none⟩)) := congrArg id (by rfl)
theorem fa_30_3 (b o : Nat) : aField Tryz.prog 30 3 (.pointer (some ⟨b, o, none⟩)) = some (.pointer (some ⟨b, o + 3, none⟩)) := congrArg id (by rfl)
theorem fa_30_4 (b o : Nat) : aField Tryz.prog 30 4 (.pointer (some ⟨b, o, none⟩)) = some (.pointer (some ⟨b, o + 4, none⟩)) := congrArg id (by rfl)
theorem fa_52_0 (b o : Nat) : aField Tryz.prog 52 0 (.pointer (some ⟨b, o, none⟩)) = some (.pointer (some ⟨b, o, none⟩)) := congrArg id (by rfl)
theorem fa_52_1 (b o : Nat) : aField Tryz.prog 52 1 (.pointer (some ⟨b, o, none⟩)) = some (.pointer (some ⟨b, o + 1, none⟩)) := congrArg id (by rfl)
theorem fa_65_0 (b o : Nat) : aField Tryz.prog 65 0 (.pointer (some ⟨b, o, none⟩)) = some (.pointer (some ⟨b, o, none⟩)) := congrArg id (by rfl)
theorem fa_65_1 (b o : Nat) : aField Tryz.prog 65 1 (.pointer (some ⟨b, o, none⟩)) = some (.pointer (some ⟨b, o + 1, none⟩)) := congrArg id (by rfl)
theorem fa_65_2 (b o : Nat) : aField Tryz.prog 65 2 (.pointer (some ⟨b, o, none⟩)) = some (.pointer (some ⟨b, o + 2, none⟩)) := congrArg id (by rfl)
theorem fa_65_3 (b o : Nat) : aField Tryz.prog 65 3 (.pointer (some ⟨b, o, none⟩)) = some (.pointer (some ⟨b, o + 3, none⟩)) := congrArg id (by rfl)
theorem fa_65_4 (b o : Nat) : aField Tryz.prog 65 4 (.pointer (some ⟨b, o, none⟩)) = some (.pointer (some ⟨b, o + 4, none⟩)) := congrArg id (by rfl)
theorem fa_67_0 (b o : Nat) : aField Tryz.prog 67 0 (.pointer (some ⟨b, o, none⟩)) = some (.pointer (some ⟨b, o, none⟩)) := congrArg id (by rfl)
theorem fa_67_1 (b o : Nat) : aField Tryz.prog 67 1 (.pointer (some ⟨b, o, none⟩)) = some (.pointer (some ⟨b, o + 1, none⟩)) := congrArg id (by rfl)
theorem fa_67_2 (b o : Nat) : aField Tryz.prog 67 2 (.pointer (some ⟨b, o, none⟩)) = some (.pointer (some ⟨b, o + 2, none⟩)) := congrArg id (by rfl)
theorem fa_69_0 (b o : Nat) : aField Tryz.prog 69 0 (.pointer (some ⟨b, o, none⟩)) = some (.pointer (some ⟨b, o, none⟩)) := congrArg id (by rfl)
theorem fa_69_1 (b o : Nat) : aField Tryz.prog 69 1 (.pointer (some ⟨b, o, none⟩)) = some (.pointer (some ⟨b, o + 1, none⟩)) := congrArg id (by rfl)
theorem fa_69_2 (b o : Nat) : aField Tryz.prog 69 2 (.pointer (some ⟨b, o, none⟩)) = some (.pointer (some ⟨b, o + 2, none⟩)) := congrArg id (by rfl)
theorem fa_69_3 (b o : Nat) : aField Tryz.prog 69 3 (.pointer (some ⟨b, o, none⟩)) = some (.pointer (some ⟨b, o + 5, none⟩)) := congrArg id (by rfl)
theorem fa_69_4 (b o : Nat) : aField Tryz.prog 69 4 (.pointer (some ⟨b, o, none⟩)) = some (.pointer (some ⟨b, o + 6, none⟩)) := congrArg id (by rfl)
theorem fa_69_5 (b o : Nat) : aField Tryz.prog 69 5 (.pointer (some ⟨b, o, none⟩)) = some (.pointer (some ⟨b, o + 7, none⟩)) := congrArg id (by rfl)
theorem fa_75_0 (b o : Nat) : aField Tryz.prog 75 0 (.pointer (some ⟨b, o, none⟩)) = some (.pointer (some ⟨b, o, none⟩)) := congrArg id (by rfl)
theorem fa_75_1 (b o : Nat) : aField Tryz.prog 75 1 (.pointer (some ⟨b, o, none⟩)) = some (.pointer (some ⟨b, o + 1, none⟩)) := congrArg id (by rfl)
theorem fa_75_2 (b o : Nat) : aField Tryz.prog 75 2 (.pointer (some ⟨b, o, none⟩)) = some (.pointer (some ⟨b, o + 2, none⟩)) := congrArg id (by rfl)
theorem fa_75_3 (b o : Nat) : aField Tryz.prog 75 3 (.pointer (some ⟨b, o, none⟩)) = some (.pointer (some ⟨b, o + 3, none⟩)) := congrArg id (by rfl)
theorem fa_77_0 (b o : Nat) : aField Tryz.prog 77 0 (.pointer (some ⟨b, o, none⟩)) = some (.pointer (some ⟨b, o, none⟩)) := congrArg id (by rfl)
theorem fa_77_1 (b o : Nat) : aField Tryz.prog 77 1 (.pointer (some ⟨b, o, none⟩)) = some (.pointer (some ⟨b, o + 4, none⟩)) := congrArg id (by rfl)
theorem fa_82_0 (b o : Nat) : aField Tryz.prog 82 0 (.pointer (some ⟨b, o, none⟩)) = some (.pointer (some ⟨b, o, none⟩)) := congrArg id (by rfl)
theorem fa_82_1 (b o : Nat) : aField Tryz.prog 82 1 (.pointer (some ⟨b, o, none⟩)) = some (.pointer (some ⟨b, o + 2, none⟩)) := congrArg id (by rfl)
theorem fa_82_2 (b o : Nat) : aField Tryz.prog 82 2 (.pointer (some ⟨b, o, none⟩)) = some (.pointer (some ⟨b, o + 7, none⟩)) := congrArg id (by rfl)
theorem fa_82_3 (b o : Nat) : aField Tryz.prog 82 3 (.pointer (some ⟨b, o, none⟩)) = some (.pointer (some ⟨b, o + 8, none⟩)) := congrArg id (by rfl)
theorem fa_82_4 (b o : Nat) : aField Tryz.prog 82 4 (.pointer (some ⟨b, o, none⟩)) = some (.pointer (some ⟨b, o + 9, none⟩)) := congrArg id (by rfl)
theorem fa_90_0 (b o : Nat) : aField Tryz.prog 90 0 (.pointer (some ⟨b, o, none⟩)) = some (.pointer (some ⟨b, o, none⟩)) := congrArg id (by rfl)
theorem fa_90_1 (b o : Nat) : aField Tryz.prog 90 1 (.pointer (some ⟨b, o, none⟩)) = some (.pointer (some ⟨b, o + 1, none⟩)) := congrArg id (by rfl)
theorem fa_120_0 (b o : Nat) : aField Tryz.prog 120 0 (.pointer (some ⟨b, o, none⟩)) = some (.pointer (some ⟨b, o, none⟩)) := congrArg id (by rfl)
theorem fa_120_1 (b o : Nat) : aField Tryz.prog 120 1 (.pointer (some ⟨b, o, none⟩)) = some (.pointer (some ⟨b, o + 1, none⟩)) := congrArg id (by rfl)
theorem fa_133_0 (b o : Nat) : aField Tryz.prog 133 0 (.pointer (some ⟨b, o, none⟩)) = some (.pointer (some ⟨b, o, none⟩)) := congrArg id (by rfl)
theorem fa_133_1 (b o : Nat) : aField Tryz.prog 133 1 (.pointer (some ⟨b, o, none⟩)) = some (.pointer (some ⟨b, o + 1, none⟩)) := congrArg id (by rfl)
theorem ia_22 (b o len cap : Nat) (k : IntKind) (i : Int) : aIndexAddr Tryz.prog 22 (.slice (some ⟨b, o, none⟩) len cap) (.int k i) = if 0 ≤ i ∧ i < len then some (.pointer (some ⟨b, o + i.toNat * 8, none⟩)) else none := aIndexAddr_s (by rfl) (by rfl) (by rfl)
theorem ia_25 (b o len cap : Nat) (k : IntKind) (i : Int) : aIndexAddr Tryz.prog 25 (.slice (some ⟨b, o, none⟩) len cap) (.int k i) = if 0 ≤ i ∧ i < len then some (.pointer (some ⟨b, o + i.toNat * 1, none⟩)) else none := aIndexAddr_s (by rfl) (by rfl) (by rfl)
theorem ia_26 (b o len cap : Nat) (k : IntKind) (i : Int) : aIndexAddr Tryz.prog 26 (.slice (some ⟨b, o, none⟩) len cap) (.int k i) = if 0 ≤ i ∧ i < len then some (.pointer (some ⟨b, o + i.toNat * 1, none⟩)) else none := aIndexAddr_s (by rfl) (by rfl) (by rfl)
theorem ia_27 (b o len cap : Nat) (k : IntKind) (i : Int) : aIndexAddr Tryz.prog 27 (.slice (some ⟨b, o, none⟩) len cap) (.int k i) = if 0 ≤ i ∧ i < len then some (.pointer (some ⟨b, o + i.toNat * 1, none⟩)) else none := aIndexAddr_s (by rfl) (by rfl) (by rfl)
theorem ia_28 (b o len cap : Nat) (k : IntKind) (i : Int) : aIndexAddr Tryz.prog 28 (.slice (some ⟨b, o, none⟩) len cap) (.int k i) = if 0 ≤ i ∧ i < len then some (.pointer (some ⟨b, o + i.toNat * 1, none⟩)) else none := aIndexAddr_s (by rfl) (by rfl) (by rfl)
theorem ia_48 (b o len cap : Nat) (k : IntKind) (i : Int) : aIndexAddr Tryz.prog 48 (.slice (some ⟨b, o, none⟩) len cap) (.int k i) = if 0 ≤ i ∧ i < len then some (.pointer (some ⟨b, o + i.toNat * 3, none⟩)) else none := aIndexAddr_s (by rfl) (by rfl) (by rfl)
theorem ia_62 (b o len cap : Nat) (k : IntKind) (i : Int) : aIndexAddr Tryz.prog 62 (.slice (some ⟨b, o, none⟩) len cap) (.int k i) = if 0 ≤ i ∧ i < len then some (.pointer (some ⟨b, o + i.toNat * 1, none⟩)) else none := aIndexAddr_s (by rfl) (by rfl) (by rfl)
theorem ia_63 (b o len cap : Nat) (k : IntKind) (i : Int) : aIndexAddr Tryz.prog 63 (.slice (some ⟨b, o, none⟩) len cap) (.int k i) = if 0 ≤ i ∧ i < len then some (.pointer (some ⟨b, o + i.toNat * 5, none⟩)) else none := aIndexAddr_s (by rfl) (by rfl) (by rfl)
theorem ia_70 (b o len cap : Nat) (k : IntKind) (i : Int) : aIndexAddr Tryz.prog 70 (.slice (some ⟨b, o, none⟩) len cap) (.int k i) = if 0 ≤ i ∧ i < len then some (.pointer (some ⟨b, o + i.toNat * 1, none⟩)) else none := aIndexAddr_s (by rfl) (by rfl) (by rfl)
theorem ia_72 (b o len cap : Nat) (k : IntKind) (i : Int) : aIndexAddr Tryz.prog 72 (.slice (some ⟨b, o, none⟩) len cap) (.int k i) = if 0 ≤ i ∧ i < len then some (.pointer (some ⟨b, o + i.toNat * 4, none⟩)) else none := aIndexAddr_s (by rfl) (by rfl) (by rfl)
theorem ia_79 (b o len cap : Nat) (k : IntKind) (i : Int) : aIndexAddr Tryz.prog 79 (.slice (some ⟨b, o, none⟩) len cap) (.int k i) = if 0 ≤ i ∧ i < len then some (.pointer (some ⟨b, o + i.toNat * 1, none⟩)) else none := aIndexAddr_s (by rfl) (by rfl) (by rfl)
theorem ia_80 (b o len cap : Nat) (k : IntKind) (i : Int) : aIndexAddr Tryz.prog 80 (.slice (some ⟨b, o, none⟩) len cap) (.int k i) = if 0 ≤ i ∧ i < len then some (.pointer (some ⟨b, o + i.toNat * 5, none⟩)) else none := aIndexAddr_s (by rfl) (by rfl) (by rfl)
theorem ia_83 (b o len cap : Nat) (k : IntKind) (i : Int) : aIndexAddr Tryz.prog 83 (.slice (some ⟨b, o, none⟩) len cap) (.int k i) = if 0 ≤ i ∧ i < len then some (.pointer (some ⟨b, o + i.toNat * 1, none⟩)) else none := aIndexAddr_s (by rfl) (by rfl) (by rfl)
theorem ia_110 (b o len cap : Nat) (k : IntKind) (i : Int) : aIndexAddr Tryz.prog 110 (.slice (some ⟨b, o, none⟩) len cap) (.int k i) = if 0 ≤ i ∧ i < len then some (.pointer (some ⟨b, o + i.toNat * 2, none⟩)) else none := aIndexAddr_s (by rfl) (by rfl) (by rfl)
-- ix 9
theorem ld_3 {h : AHeap} (b off : Nat) : aLoad Tryz.prog h 3 ⟨b, off, none⟩ = gCell off (h.get b) := aLoad_s (by rfl) (by rfl) b off
theorem ld_22 {h : AHeap} (b off : Nat) : aLoad Tryz.prog h 22 ⟨b, off, none⟩ = gCell off (h.get b) := aLoad_s (by rfl) (by rfl) b off
theorem ld_24 {h : AHeap} (b off : Nat) : aLoad Tryz.prog h 24 ⟨b, off, none⟩ = (gCells off 2 (h.get b)).map fun xs => .agg xs.toArray := aLoad_a (by rfl) (by rfl) (by rfl) (by rfl) b off
theorem ld_25 {h : AHeap} (b off : Nat) : aLoad Tryz.prog h 25 ⟨b, off, none⟩ = gCell off (h.get b) := aLoad_s (by rfl) (by rfl) b off
theorem ld_26 {h : AHeap} (b off : Nat) : aLoad Tryz.prog h 26 ⟨b, off, none⟩ = gCell off (h.get b) := aLoad_s (by rfl) (by rfl) b off
theorem ld_27 {h : AHeap} (b off : Nat) : aLoad Tryz.prog h 27 ⟨b, off, none⟩ = gCell off (h.get b) := aLoad_s (by rfl) (by rfl) b off
theorem ld_28 {h : AHeap} (b off : Nat) : aLoad Tryz.prog h 28 ⟨b, off, none⟩ = gCell off (h.get b) := aLoad_s (by rfl) (by rfl) b off
theorem ld_30 {h : AHeap} (b off : Nat) : aLoad Tryz.prog h 30 ⟨b, off, none⟩ = (gCells off 5 (h.get b)).map fun xs => .agg xs.toArray := aLoad_a (by rfl) (by rfl) (by rfl) (by rfl) b off
theorem ld_48 {h : AHeap} (b off : Nat) : aLoad Tryz.prog h 48 ⟨b, off, none⟩ = gCell off (h.get b) := aLoad_s (by rfl) (by rfl) b off
theorem ld_50 {h : AHeap} (b off : Nat) : aLoad Tryz.prog h 50 ⟨b, off, none⟩ = (gCells off 2 (h.get b)).map fun xs => .agg xs.toArray := aLoad_a (by rfl) (by rfl) (by rfl) (by rfl) b off
theorem ld_52 {h : AHeap} (b off : Nat) : aLoad Tryz.prog h 52 ⟨b, off, none⟩ = (gCells off 3 (h.get b)).map fun xs => .agg xs.toArray := aLoad_a (by rfl) (by rfl) (by rfl) (by rfl) b off
theorem ld_62 {h : AHeap} (b off : Nat) : aLoad Tryz.prog h 62 ⟨b, off, none⟩ = gCell off (h.get b) := aLoad_s (by rfl) (by rfl) b off
theorem ld_63 {h : AHeap} (b off : Nat) : aLoad Tryz.prog h 63 ⟨b, off, none⟩ = gCell off (h.get b) := aLoad_s (by rfl) (by rfl) b off
theorem ld_67 {h : AHeap} (b off : Nat) : aLoad Tryz.prog h 67 ⟨b, off, none⟩ = (gCells off 3 (h.get b)).map fun xs => .agg xs.toArray := aLoad_a (by rfl) (by rfl) (by rfl) (by rfl) b off
theorem ld_69 {h : AHeap} (b off : Nat) : aLoad Tryz.prog h 69 ⟨b, off, none⟩ = (gCells off 8 (h.get b)).map fun xs => .agg xs.toArray := aLoad_a (by rfl) (by rfl) (by rfl) (by rfl) b off
theorem ld_70 {h : AHeap} (b off : Nat) : aLoad Tryz.prog h 70 ⟨b, off, none⟩ = gCell off (h.get b) := aLoad_s (by rfl) (by rfl) b off
theorem ld_72 {h : AHeap} (b off : Nat) : aLoad Tryz.prog h 72 ⟨b, off, none⟩ = gCell off (h.get b) := aLoad_s (by rfl) (by rfl) b off
theorem ld_75 {h : AHeap} (b off : Nat) : aLoad Tryz.prog h 75 ⟨b, off, none⟩ = (gCells off 4 (h.get b)).map fun xs => .agg xs.toArray := aLoad_a (by rfl) (by rfl) (by rfl) (by rfl) b off
theorem ld_77 {h : AHeap} (b off : Nat) : aLoad Tryz.prog h 77 ⟨b, off, none⟩ = (gCells off 5 (h.get b)).map fun xs => .agg xs.toArray := aLoad_a (by rfl) (by rfl) (by rfl) (by rfl) b off
theorem ld_79 {h : AHeap} (b off : Nat) : aLoad Tryz.prog h 79 ⟨b, off, none⟩ = gCell off (h.get b) := aLoad_s (by rfl) (by rfl) b off
theorem ld_80 {h : AHeap} (b off : Nat) : aLoad Tryz.prog h 80 ⟨b, off, none⟩ = gCell off (h.get b) := aLoad_s (by rfl) (by rfl) b off
theorem ld_83 {h : AHeap} (b off : Nat) : aLoad Tryz.prog h 83 ⟨b, off, none⟩ = gCell off (h.get b) := aLoad_s (by rfl) (by rfl) b off
theorem ld_85 {h : AHeap} (b off : Nat) : aLoad Tryz.prog h 85 ⟨b, off, none⟩ = gCell off (h.get b) := aLoad_s (by rfl) (by rfl) b off
theorem ld_90 {h : AHeap} (b off : Nat) : aLoad Tryz.prog h 90 ⟨b, off, none⟩ = (gCells off 5 (h.get b)).map fun xs => .agg xs.toArray := aLoad_a (by rfl) (by rfl) (by rfl) (by rfl) b off
theorem ld_92 {h : AHeap} (b off : Nat) : aLoad Tryz.prog h 92 ⟨b, off, none⟩ = gCell off (h.get b) := aLoad_s (by rfl) (by rfl) b off
theorem ld_93 {h : AHeap} (b off : Nat) : aLoad Tryz.prog h 93 ⟨b, off, none⟩ = gCell off (h.get b) := aLoad_s (by rfl) (by rfl) b off
theorem ld_110 {h : AHeap} (b off : Nat) : aLoad Tryz.prog h 110 ⟨b, off, none⟩ = gCell off (h.get b) := aLoad_s (by rfl) (by rfl) b off
theorem ld_114 {h : AHeap} (b off : Nat) : aLoad Tryz.prog h 114 ⟨b, off, none⟩ = (gCells off 2 (h.get b)).map fun xs => .agg xs.toArray := aLoad_a (by rfl) (by rfl) (by rfl) (by rfl) b off
theorem ld_115 {h : AHeap} (b off : Nat) : aLoad Tryz.prog h 115 ⟨b, off, none⟩ = gCell off (h.get b) := aLoad_s (by rfl) (by rfl) b off
theorem ld_130 {h : AHeap} (b off : Nat) : aLoad Tryz.prog h 130 ⟨b, off, none⟩ = (gCells off 2 (h.get b)).map fun xs => .agg xs.toArray := aLoad_a (by rfl) (by rfl) (by rfl) (by rfl) b off
theorem ld_131 {h : AHeap} (b off : Nat) : aLoad Tryz.prog h 131 ⟨b, off, none⟩ = gCell off (h.get b) := aLoad_s (by rfl) (by rfl) b off
theorem ld_162 {h : AHeap} (b off : Nat) : aLoad Tryz.prog h 162 ⟨b, off, none⟩ = gCell off (h.get b) := aLoad_s (by rfl) (by rfl) b off
theorem lk_131 {h : AHeap} (r : Nat) (k : IntKind) (m : Int) (ok : Bool) : aLookup Tryz.prog h 131 (.map (some r)) (.int k m) ok = lkF (.agg #[.int .i64 0, .int .i64 0]) ok (mF k m (h.get r)) := aLookup_m (by rfl) (by rfl) (by rfl) (by rfl) (by rfl)
theorem lk_131n {h : AHeap} (k : IntKind) (m : Int) (ok : Bool) : aLookup Tryz.prog h 131 (.map none) (.int k m) ok = lkF (.agg #[.int .i64 0, .int .i64 0]) ok (some none) := aLookup_n (by rfl) (by rfl) (by rfl) (by rfl) (by rfl)
theorem ln_22 {h : AHeap} (a : Option Addr) (m c : Nat) : aLen Tryz.prog h 22 (.slice a m c) = some (.int .i64 m) := congrArg id (by rfl)
theorem ln_25 {h : AHeap} (a : Option Addr) (m c : Nat) : aLen Tryz.prog h 25 (.slice a m c) = some (.int .i64 m) := congrArg id (by rfl)
theorem ln_26 {h : AHeap} (a : Option Addr) (m c : Nat) : aLen Tryz.prog h 26 (.slice a m c) = some (.int .i64 m) := congrArg id (by rfl)
theorem ln_27 {h : AHeap} (a : Option Addr) (m c : Nat) : aLen Tryz.prog h 27 (.slice a m c) = some (.int .i64 m) := congrArg id (by rfl)
theorem ln_28 {h : AHeap} (a : Option Addr) (m c : Nat) : aLen Tryz.prog h 28 (.slice a m c) = some (.int .i64 m) := congrArg id (by rfl)
theorem ln_48 {h : AHeap} (a : Option Addr) (m c : Nat) : aLen Tryz.prog h 48 (.slice a m c) = some (.int .i64 m) := congrArg id (by rfl)
theorem ln_62 {h : AHeap} (a : Option Addr) (m c : Nat) : aLen Tryz.prog h 62 (.slice a m c) = some (.int .i64 m) := congrArg id (by rfl)
theorem ln_63 {h : AHeap} (a : Option Addr) (m c : Nat) : aLen Tryz.prog h 63 (.slice a m c) = some (.int .i64 m) := congrArg id (by rfl)
theorem ln_70 {h : AHeap} (a : Option Addr) (m c : Nat) : aLen Tryz.prog h 70 (.slice a m c) = some (.int .i64 m) := congrArg id (by rfl)
theorem ln_72 {h : AHeap} (a : Option Addr) (m c : Nat) : aLen Tryz.prog h 72 (.slice a m c) = some (.int .i64 m) := congrArg id (by rfl)
theorem ln_79 {h : AHeap} (a : Option Addr) (m c : Nat) : aLen Tryz.prog h 79 (.slice a m c) = some (.int .i64 m) := congrArg id (by rfl)
theorem ln_80 {h : AHeap} (a : Option Addr) (m c : Nat) : aLen Tryz.prog h 80 (.slice a m c) = some (.int .i64 m) := congrArg id (by rfl)
theorem ln_83 {h : AHeap} (a : Option Addr) (m c : Nat) : aLen Tryz.prog h 83 (.slice a m c) = some (.int .i64 m) := congrArg id (by rfl)
theorem ln_110 {h : AHeap} (a : Option Addr) (m c : Nat) : aLen Tryz.prog h 110 (.slice a m c) = some (.int .i64 m) := congrArg id (by rfl)
-- mm 131
theorem ms_26 (k k' : IntKind) (l c : Int) : bMakeSlice Tryz.prog 26 (.int k l) (.int k' c) = msF 1 24 [.slice none 0 0] 25 l c := bMakeSlice_s (by rfl) (by rfl) (by rfl) (by rfl) (by rfl)
theorem ms_27 (k k' : IntKind) (l c : Int) : bMakeSlice Tryz.prog 27 (.int k l) (.int k' c) = msF 1 24 [.slice none 0 0] 48 l c := bMakeSlice_s (by rfl) (by rfl) (by rfl) (by rfl) (by rfl)
theorem ms_62 (k k' : IntKind) (l c : Int) : bMakeSlice Tryz.prog 62 (.int k l) (.int k' c) = msF 1 24 [.slice none 0 0] 70 l c := bMakeSlice_s (by rfl) (by rfl) (by rfl) (by rfl) (by rfl)
theorem ms_70 (k k' : IntKind) (l c : Int) : bMakeSlice Tryz.prog 70 (.int k l) (.int k' c) = msF 1 8 [.pointer none] 93 l c := bMakeSlice_s (by rfl) (by rfl) (by rfl) (by rfl) (by rfl)
theorem mu_131 {h : AHeap} (r : Nat) (k : IntKind) (m : Int) (y : Value) : aMapSet Tryz.prog h 131 (.map (some r)) (.int k m) y = muF h r k m y (h.get r) := aMapSet_m (by rfl) (by rfl)
-- sl 25
-- sl 63
-- sl 70
-- sl 80
theorem st_3 {h : AHeap} (a : Addr) (v : Value) : aStore Tryz.prog h 3 a v = stN h a v.cells 1 := aStore_n (by rfl) (by rfl) a v
theorem st_22 {h : AHeap} (a : Addr) (v : Value) : aStore Tryz.prog h 22 a v = stN h a v.cells 1 := aStore_n (by rfl) (by rfl) a v
theorem st_24 {h : AHeap} (a : Addr) (v : Value) : aStore Tryz.prog h 24 a v = stN h a v.cells 2 := aStore_n (by rfl) (by rfl) a v
theorem st_25 {h : AHeap} (a : Addr) (v : Value) : aStore Tryz.prog h 25 a v = stN h a v.cells 1 := aStore_n (by rfl) (by rfl) a v
theorem st_27 {h : AHeap} (a : Addr) (v : Value) : aStore Tryz.prog h 27 a v = stN h a v.cells 1 := aStore_n (by rfl) (by rfl) a v
theorem st_30 {h : AHeap} (a : Addr) (v : Value) : aStore Tryz.prog h 30 a v = stN h a v.cells 5 := aStore_n (by rfl) (by rfl) a v
theorem st_48 {h : AHeap} (a : Addr) (v : Value) : aStore Tryz.prog h 48 a v = stN h a v.cells 1 := aStore_n (by rfl) (by rfl) a v
theorem st_50 {h : AHeap} (a : Addr) (v : Value) : aStore Tryz.prog h 50 a v = stN h a v.cells 2 := aStore_n (by rfl) (by rfl) a v
theorem st_52 {h : AHeap} (a : Addr) (v : Value) : aStore Tryz.prog h 52 a v = stN h a v.cells 3 := aStore_n (by rfl) (by rfl) a v
theorem st_63 {h : AHeap} (a : Addr) (v : Value) : aStore Tryz.prog h 63 a v = stN h a v.cells 1 := aStore_n (by rfl) (by rfl) a v
theorem st_69 {h : AHeap} (a : Addr) (v : Value) : aStore Tryz.prog h 69 a v = stN h a v.cells 8 := aStore_n (by rfl) (by rfl) a v
theorem st_70 {h : AHeap} (a : Addr) (v : Value) : aStore Tryz.prog h 70 a v = stN h a v.cells 1 := aStore_n (by rfl) (by rfl) a v
theorem st_72 {h : AHeap} (a : Addr) (v : Value) : aStore Tryz.prog h 72 a v = stN h a v.cells 1 := aStore_n (by rfl) (by rfl) a v
theorem st_75 {h : AHeap} (a : Addr) (v : Value) : aStore Tryz.prog h 75 a v = stN h a v.cells 4 := aStore_n (by rfl) (by rfl) a v
theorem st_79 {h : AHeap} (a : Addr) (v : Value) : aStore Tryz.prog h 79 a v = stN h a v.cells 1 := aStore_n (by rfl) (by rfl) a v
theorem st_80 {h : AHeap} (a : Addr) (v : Value) : aStore Tryz.prog h 80 a v = stN h a v.cells 1 := aStore_n (by rfl) (by rfl) a v
theorem st_90 {h : AHeap} (a : Addr) (v : Value) : aStore Tryz.prog h 90 a v = stN h a v.cells 5 := aStore_n (by rfl) (by rfl) a v
theorem st_92 {h : AHeap} (a : Addr) (v : Value) : aStore Tryz.prog h 92 a v = stN h a v.cells 1 := aStore_n (by rfl) (by rfl) a v
theorem st_93 {h : AHeap} (a : Addr) (v : Value) : aStore Tryz.prog h 93 a v = stN h a v.cells 1 := aStore_n (by rfl) (by rfl) a v
theorem st_114 {h : AHeap} (a : Addr) (v : Value) : aStore Tryz.prog h 114 a v = stN h a v.cells 2 := aStore_n (by rfl) (by rfl) a v
theorem st_115 {h : AHeap} (a : Addr) (v : Value) : aStore Tryz.prog h 115 a v = stN h a v.cells 1 := aStore_n (by rfl) (by rfl) a v
theorem st_130 {h : AHeap} (a : Addr) (v : Value) : aStore Tryz.prog h 130 a v = stN h a v.cells 2 := aStore_n (by rfl) (by rfl) a v
theorem st_162 {h : AHeap} (a : Addr) (v : Value) : aStore Tryz.prog h 162 a v = stN h a v.cells 1 := aStore_n (by rfl) (by rfl) a v
-- NAMES al_3, al_24, al_30, al_50, al_52, al_69, al_72, al_75, al_90, al_92, al_114, al_115, al_130, al_162, ap_22, ap_25, ap_26, ap_27, ap_28, ap_48, ap_63, ap_72, ap_79, ap_80, ap_83, ap_110, ba_110_110, ba_22_22, ba_25_25, ba_26_26, ba_27_27, ba_28_28, ba_48_48, ba_63_63, ba_72_72, ba_79_79, ba_80_80, ba_83_83, bd_24, bd_30, bd_50, bd_52, bd_65, bd_67, bd_69, bd_75, bd_77, bd_82, bd_90, bd_120, bd_130, bd_133, bs_22, bs_25, bs_26, bs_27, bs_28, bs_48, bs_63, bs_72, bs_79, bs_80, bs_83, bs_110, cl_25, bc_25, eq_25_eql_s, eq_25_eql_n, eq_25_neq_s, eq_25_neq_n, eq_36_eql_s, eq_36_eql_n, eq_36_neq_s, eq_36_neq_n, fa_24_0, fa_24_1, fa_30_0, fa_30_1, fa_30_2, fa_30_3, fa_30_4, fa_52_0, fa_52_1, fa_65_0, fa_65_1, fa_65_2, fa_65_3, fa_65_4, fa_67_0, fa_67_1, fa_67_2, fa_69_0, fa_69_1, fa_69_2, fa_69_3, fa_69_4, fa_69_5, fa_75_0, fa_75_1, fa_75_2, fa_75_3, fa_77_0, fa_77_1, fa_82_0, fa_82_1, fa_82_2, fa_82_3, fa_82_4, fa_90_0, fa_90_1, fa_120_0, fa_120_1, fa_133_0, fa_133_1, ia_22, ia_25, ia_26, ia_27, ia_28, ia_48, ia_62, ia_63, ia_70, ia_72, ia_79, ia_80, ia_83, ia_110, ld_3, ld_22, ld_24, ld_25, ld_26, ld_27, ld_28, ld_30, ld_48, ld_50, ld_52, ld_62, ld_63, ld_67, ld_69, ld_70, ld_72, ld_75, ld_77, ld_79, ld_80, ld_83, ld_85, ld_90, ld_92, ld_93, ld_110, ld_114, ld_115, ld_130, ld_131, ld_162, lk_131, lk_131n, ln_22, ln_25, ln_26, ln_27, ln_28, ln_48, ln_62, ln_63, ln_70, ln_72, ln_79, ln_80, ln_83, ln_110, ms_26, ms_27, ms_62, ms_70, mu_131, st_3, st_22, st_24, st_25, st_27, st_30, st_48, st_50, st_52, st_63, st_69, st_70, st_72, st_75, st_79, st_80, st_90, st_92, st_93, st_114, st_115, st_130, st_162
theorem oxTy0 : type_of% (And.intro (And.intro (And.intro (And.intro (And.intro (@al_3) (@al_24)) (And.intro (@al_30) (@al_50))) (And.intro (And.intro (@al_52) (@al_69)) (And.intro (@al_72) (@al_75)))) (And.intro (And.intro (And.intro (@al_90) (@al_92)) (And.intro (@al_114) (@al_115))) (And.intro (And.intro (@al_130) (@al_162)) (And.intro (@ap_22) (@ap_25))))) (And.intro (And.intro (And.intro (And.intro (@ap_26) (@ap_27)) (And.intro (@ap_28) (@ap_48))) (And.intro (And.intro (@ap_63) (@ap_72)) (And.intro (@ap_79) (@ap_80)))) (And.intro (And.intro (And.intro (@ap_83) (@ap_110)) (And.intro (@ba_110_110) (@ba_22_22))) (And.intro (And.intro (@ba_25_25) (@ba_26_26)) (And.intro (@ba_27_27) (@ba_28_28)))))) := And.intro (And.intro (And.intro (And.intro (And.intro (@al_3) (@al_24)) (And.intro (@al_30) (@al_50))) (And.intro (And.intro (@al_52) (@al_69)) (And.intro (@al_72) (@al_75)))) (And.intro (And.intro (And.intro (@al_90) (@al_92)) (And.intro (@al_114) (@al_115))) (And.intro (And.intro (@al_130) (@al_162)) (And.intro (@ap_22) (@ap_25))))) (And.intro (And.intro (And.intro (And.intro (@ap_26) (@ap_27)) (And.intro (@ap_28) (@ap_48))) (And.intro (And.intro (@ap_63) (@ap_72)) (And.intro (@ap_79) (@ap_80)))) (And.intro (And.intro (And.intro (@ap_83) (@ap_110)) (And.intro (@ba_110_110) (@ba_22_22))) (And.intro (And.intro (@ba_25_25) (@ba_26_26)) (And.intro (@ba_27_27) (@ba_28_28)))))
theorem oxTy1 : type_of% (And.intro (And.intro (And.intro (And.intro (And.intro (@ba_48_48) (@ba_63_63)) (And.intro (@ba_72_72) (@ba_79_79))) (And.intro (And.intro (@ba_80_80) (@ba_83_83)) (And.intro (@bd_24) (@bd_30)))) (And.intro (And.intro (And.intro (@bd_50) (@bd_52)) (And.intro (@bd_65) (@bd_67))) (And.intro (And.intro (@bd_69) (@bd_75)) (And.intro (@bd_77) (@bd_82))))) (And.intro (And.intro (And.intro (And.intro (@bd_90) (@bd_120)) (And.intro (@bd_130) (@bd_133))) (And.intro (And.intro (@bs_22) (@bs_25)) (And.intro (@bs_26) (@bs_27)))) (And.intro (And.intro (And.intro (@bs_28) (@bs_48)) (And.intro (@bs_63) (@bs_72))) (And.intro (And.intro (@bs_79) (@bs_80)) (And.intro (@bs_83) (@bs_110)))))) := And.intro (And.intro (And.intro (And.intro (And.intro (@ba_48_48) (@ba_63_63)) (And.intro (@ba_72_72) (@ba_79_79))) (And.intro (And.intro (@ba_80_80) (@ba_83_83)) (And.intro (@bd_24) (@bd_30)))) (And.intro (And.intro (And.intro (@bd_50) (@bd_52)) (And.intro (@bd_65) (@bd_67))) (And.intro (And.intro (@bd_69) (@bd_75)) (And.intro (@bd_77) (@bd_82))))) (And.intro (And.intro (And.intro (And.intro (@bd_90) (@bd_120)) (And.intro (@bd_130) (@bd_133))) (And.intro (And.intro (@bs_22) (@bs_25)) (And.intro (@bs_26) (@bs_27)))) (And.intro (And.intro (And.intro (@bs_28) (@bs_48)) (And.intro (@bs_63) (@bs_72))) (And.intro (And.intro (@bs_79) (@bs_80)) (And.intro (@bs_83) (@bs_110)))))
theorem oxTy2 : type_of% (And.intro (And.intro (And.intro (And.intro (And.intro (@cl_25) (@bc_25)) (And.intro (@eq_25_eql_s) (@eq_25_eql_n))) (And.intro (And.intro (@eq_25_neq_s) (@eq_25_neq_n)) (And.intro (@eq_36_eql_s) (@eq_36_eql_n)))) (And.intro (And.intro (And.intro (@eq_36_neq_s) (@eq_36_neq_n)) (And.intro (@fa_24_0) (@fa_24_1))) (And.intro (And.intro (@fa_30_0) (@fa_30_1)) (And.intro (@fa_30_2) (@fa_30_3))))) (And.intro (And.intro (And.intro (And.intro (@fa_30_4) (@fa_52_0)) (And.intro (@fa_52_1) (@fa_65_0))) (And.intro (And.intro (@fa_65_1) (@fa_65_2)) (And.intro (@fa_65_3) (@fa_65_4)))) (And.intro (And.intro (And.intro (@fa_67_0) (@fa_67_1)) (And.intro (@fa_67_2) (@fa_69_0))) (And.intro (And.intro (@fa_69_1) (@fa_69_2)) (And.intro (@fa_69_3) (@fa_69_4)))))) := And.intro (And.intro (And.intro (And.intro (And.intro (@cl_25) (@bc_25)) (And.intro (@eq_25_eql_s) (@eq_25_eql_n))) (And.intro (And.intro (@eq_25_neq_s) (@eq_25_neq_n)) (And.intro (@eq_36_eql_s) (@eq_36_eql_n)))) (And.intro (And.intro (And.intro (@eq_36_neq_s) (@eq_36_neq_n)) (And.intro (@fa_24_0) (@fa_24_1))) (And.intro (And.intro (@fa_30_0) (@fa_30_1)) (And.intro (@fa_30_2) (@fa_30_3))))) (And.intro (And.intro (And.intro (And.intro (@fa_30_4) (@fa_52_0)) (And.intro (@fa_52_1) (@fa_65_0))) (And.intro (And.intro (@fa_65_1) (@fa_65_2)) (And.intro (@fa_65_3) (@fa_65_4)))) (And.intro (And.intro (And.intro (@fa_67_0) (@fa_67_1)) (And.intro (@fa_67_2) (@fa_69_0))) (And.intro (And.intro (@fa_69_1) (@fa_69_2)) (And.intro (@fa_69_3) (@fa_69_4)))))
theorem oxTy3 : type_of% (And.intro (And.intro (And.intro (And.intro (And.intro (@fa_69_5) (@fa_75_0)) (And.intro (@fa_75_1) (@fa_75_2))) (And.intro (And.intro (@fa_75_3) (@fa_77_0)) (And.intro (@fa_77_1) (@fa_82_0)))) (And.intro (And.intro (And.intro (@fa_82_1) (@fa_82_2)) (And.intro (@fa_82_3) (@fa_82_4))) (And.intro (And.intro (@fa_90_0) (@fa_90_1)) (And.intro (@fa_120_0) (@fa_120_1))))) (And.intro (And.intro (And.intro (And.intro (@fa_133_0) (@fa_133_1)) (And.intro (@ia_22) (@ia_25))) (And.intro (And.intro (@ia_26) (@ia_27)) (And.intro (@ia_28) (@ia_48)))) (And.intro (And.intro (And.intro (@ia_62) (@ia_63)) (And.intro (@ia_70) (@ia_72))) (And.intro (And.intro (@ia_79) (@ia_80)) (And.intro (@ia_83) (@ia_110)))))) := And.intro (And.intro (And.intro (And.intro (And.intro (@fa_69_5) (@fa_75_0)) (And.intro (@fa_75_1) (@fa_75_2))) (And.intro (And.intro (@fa_75_3) (@fa_77_0)) (And.intro (@fa_77_1) (@fa_82_0)))) (And.intro (And.intro (And.intro (@fa_82_1) (@fa_82_2)) (And.intro (@fa_82_3) (@fa_82_4))) (And.intro (And.intro (@fa_90_0) (@fa_90_1)) (And.intro (@fa_120_0) (@fa_120_1))))) (And.intro (And.intro (And.intro (And.intro (@fa_133_0) (@fa_133_1)) (And.intro (@ia_22) (@ia_25))) (And.intro (And.intro (@ia_26) (@ia_27)) (And.intro (@ia_28) (@ia_48)))) (And.intro (And.intro (And.intro (@ia_62) (@ia_63)) (And.intro (@ia_70) (@ia_72))) (And.intro (And.intro (@ia_79) (@ia_80)) (And.intro (@ia_83) (@ia_110)))))
theorem oxTy4 : type_of% (And.intro (And.intro (And.intro (And.intro (And.intro (@ld_3) (@ld_22)) (And.intro (@ld_24) (@ld_25))) (And.intro (And.intro (@ld_26) (@ld_27)) (And.intro (@ld_28) (@ld_30)))) (And.intro (And.intro (And.intro (@ld_48) (@ld_50)) (And.intro (@ld_52) (@ld_62))) (And.intro (And.intro (@ld_63) (@ld_67)) (And.intro (@ld_69) (@ld_70))))) (And.intro (And.intro (And.intro (And.intro (@ld_72) (@ld_75)) (And.intro (@ld_77) (@ld_79))) (And.intro (And.intro (@ld_80) (@ld_83)) (And.intro (@ld_85) (@ld_90)))) (And.intro (And.intro (And.intro (@ld_92) (@ld_93)) (And.intro (@ld_110) (@ld_114))) (And.intro (And.intro (@ld_115) (@ld_130)) (And.intro (@ld_131) (@ld_162)))))) := And.intro (And.intro (And.intro (And.intro (And.intro (@ld_3) (@ld_22)) (And.intro (@ld_24) (@ld_25))) (And.intro (And.intro (@ld_26) (@ld_27)) (And.intro (@ld_28) (@ld_30)))) (And.intro (And.intro (And.intro (@ld_48) (@ld_50)) (And.intro (@ld_52) (@ld_62))) (And.intro (And.intro (@ld_63) (@ld_67)) (And.intro (@ld_69) (@ld_70))))) (And.intro (And.intro (And.intro (And.intro (@ld_72) (@ld_75)) (And.intro (@ld_77) (@ld_79))) (And.intro (And.intro (@ld_80) (@ld_83)) (And.intro (@ld_85) (@ld_90)))) (And.intro (And.intro (And.intro (@ld_92) (@ld_93)) (And.intro (@ld_110) (@ld_114))) (And.intro (And.intro (@ld_115) (@ld_130)) (And.intro (@ld_131) (@ld_162)))))
theorem oxTy5 : type_of% (And.intro (And.intro (And.intro (And.intro (And.intro (@lk_131) (@lk_131n)) (And.intro (@ln_22) (@ln_25))) (And.intro (And.intro (@ln_26) (@ln_27)) (And.intro (@ln_28) (@ln_48)))) (And.intro (And.intro (And.intro (@ln_62) (@ln_63)) (And.intro (@ln_70) (@ln_72))) (And.intro (And.intro (@ln_79) (@ln_80)) (And.intro (@ln_83) (@ln_110))))) (And.intro (And.intro (And.intro (And.intro (@ms_26) (@ms_27)) (And.intro (@ms_62) (@ms_70))) (And.intro (And.intro (@mu_131) (@st_3)) (And.intro (@st_22) (@st_24)))) (And.intro (And.intro (And.intro (@st_25) (@st_27)) (And.intro (@st_30) (@st_48))) (And.intro (And.intro (@st_50) (@st_52)) (And.intro (@st_63) (@st_69)))))) := And.intro (And.intro (And.intro (And.intro (And.intro (@lk_131) (@lk_131n)) (And.intro (@ln_22) (@ln_25))) (And.intro (And.intro (@ln_26) (@ln_27)) (And.intro (@ln_28) (@ln_48)))) (And.intro (And.intro (And.intro (@ln_62) (@ln_63)) (And.intro (@ln_70) (@ln_72))) (And.intro (And.intro (@ln_79) (@ln_80)) (And.intro (@ln_83) (@ln_110))))) (And.intro (And.intro (And.intro (And.intro (@ms_26) (@ms_27)) (And.intro (@ms_62) (@ms_70))) (And.intro (And.intro (@mu_131) (@st_3)) (And.intro (@st_22) (@st_24)))) (And.intro (And.intro (And.intro (@st_25) (@st_27)) (And.intro (@st_30) (@st_48))) (And.intro (And.intro (@st_50) (@st_52)) (And.intro (@st_63) (@st_69)))))
theorem oxTy6 : type_of% (And.intro (And.intro (And.intro (@st_70) (And.intro (@st_72) (@st_75))) (And.intro (@st_79) (And.intro (@st_80) (@st_90)))) (And.intro (And.intro (@st_92) (And.intro (@st_93) (@st_114))) (And.intro (@st_115) (And.intro (@st_130) (@st_162))))) := And.intro (And.intro (And.intro (@st_70) (And.intro (@st_72) (@st_75))) (And.intro (@st_79) (And.intro (@st_80) (@st_90)))) (And.intro (And.intro (@st_92) (And.intro (@st_93) (@st_114))) (And.intro (@st_115) (And.intro (@st_130) (@st_162))))
theorem oxq : type_of% (And.intro (And.intro (And.intro (And.intro (@oxA0) (@oxA1)) (And.intro (@oxA2) (And.intro (@oxA3) (@oxA4)))) (And.intro (And.intro (@oxA5) (@oxA6)) (And.intro (@oxA7) (And.intro (@oxA8) (@oxA9))))) (And.intro (And.intro (And.intro (@oxA10) (@oxL0)) (And.intro (@oxL1) (And.intro (@oxTy0) (@oxTy1)))) (And.intro (And.intro (@oxTy2) (@oxTy3)) (And.intro (@oxTy4) (And.intro (@oxTy5) (@oxTy6)))))) := And.intro (And.intro (And.intro (And.intro (@oxA0) (@oxA1)) (And.intro (@oxA2) (And.intro (@oxA3) (@oxA4)))) (And.intro (And.intro (@oxA5) (@oxA6)) (And.intro (@oxA7) (And.intro (@oxA8) (@oxA9))))) (And.intro (And.intro (And.intro (@oxA10) (@oxL0)) (And.intro (@oxL1) (And.intro (@oxTy0) (@oxTy1)))) (And.intro (And.intro (@oxTy2) (@oxTy3)) (And.intro (@oxTy4) (And.intro (@oxTy5) (@oxTy6)))))
theorem oxs : type_of% (And.intro @oxq @gR_some) := And.intro @oxq @gR_some
theorem oxh : type_of% (And.intro @oxq @gR_held) := And.intro @oxq @gR_held
theorem oxf : type_of% (And.intro (And.intro (And.intro (@List.filterMap_cons.{0,0}) (@List.filterMap_nil.{0,0})) (And.intro (@List.getElem?_cons_succ.{0}) (@List.getElem?_cons_zero.{0}))) (And.intro (And.intro (@List.drop_succ_cons.{0}) (@List.drop_zero.{0})) (And.intro (@List.cons_append.{0}) (@List.nil_append.{0})))) := And.intro (And.intro (And.intro (@List.filterMap_cons.{0,0}) (@List.filterMap_nil.{0,0})) (And.intro (@List.getElem?_cons_succ.{0}) (@List.getElem?_cons_zero.{0}))) (And.intro (And.intro (@List.drop_succ_cons.{0}) (@List.drop_zero.{0})) (And.intro (@List.cons_append.{0}) (@List.nil_append.{0})))
end Go.Proofs
