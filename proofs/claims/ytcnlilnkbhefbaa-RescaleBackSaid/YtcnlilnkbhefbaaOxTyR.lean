/-
  A part of the proof of RescaleBack: what this program's functions do on an abstract heap. CONDITIONS: none.
-/
import Derived.Test.YtcnlilnkbhefbaaProg
import Derived.Test.YtcnlilnkbhefbaaOxW
set_option linter.unusedSimpArgs false
set_option linter.unusedVariables false
namespace Go.Proofs
open Go Go.Ox
set_option maxRecDepth 100000
theorem al_3 : alc Try.prog 3 = some (.cells false 0 [.int .i64 0] 3, ptrTo) := congrArg id (by rfl)
theorem al_24 : alc Try.prog 24 = some (.cells false 0 [.int .i64 0, .slice none 0 0] 24, ptrTo) := congrArg id (by rfl)
theorem al_30 : alc Try.prog 30 = some (.cells false 0 [.int .i64 0, .slice none 0 0, .slice none 0 0, .slice none 0 0, .slice none 0 0] 30, ptrTo) := congrArg id (by rfl)
theorem al_41 : alc Try.prog 41 = some (.cells false 0 [.int .i64 0, .slice none 0 0, .int .i64 0, .int .i64 0, .int .i64 0, .int .i64 0, .int .i64 0, .int .i64 0] 41, ptrTo) := congrArg id (by rfl)
theorem al_44 : alc Try.prog 44 = some (.cells false 0 [.int .i64 0, .int .i64 0] 44, ptrTo) := congrArg id (by rfl)
theorem al_46 : alc Try.prog 46 = some (.cells false 0 [.int .i64 0, .int .i64 0, .int .i64 0] 46, ptrTo) := congrArg id (by rfl)
theorem al_71 : alc Try.prog 71 = some (.cells false 0 [.slice none 0 0] 71, ptrTo) := congrArg id (by rfl)
theorem al_74 : alc Try.prog 74 = some (.cells false 0 [.int .i64 0, .int .i64 0, .int .i64 0, .int .i64 0] 74, ptrTo) := congrArg id (by rfl)
theorem al_92 : alc Try.prog 92 = some (.cells false 0 [.int .i64 0, .int .i64 0] 92, ptrTo) := congrArg id (by rfl)
theorem al_93 : alc Try.prog 93 = some (.cells false 0 [.nilFunc] 93, ptrTo) := congrArg id (by rfl)
theorem al_109 : alc Try.prog 109 = some (.cells false 0 [.nilFunc] 109, ptrTo) := congrArg id (by rfl)
theorem al_136 : alc Try.prog 136 = some (.cells false 0 [.int .u64 0] 136, ptrTo) := congrArg id (by rfl)
theorem ap_25 {h : AHeap} (a b : Option Addr) (l c m d : Nat) : aAppend Try.prog h 25 (.slice a l c) (.slice b m d) = apF h 1 8 3 a l c b m d := aAppend_s (by rfl) (by rfl) (by rfl) (by rfl) (by rfl)
theorem ap_42 {h : AHeap} (a b : Option Addr) (l c m d : Nat) : aAppend Try.prog h 42 (.slice a l c) (.slice b m d) = apF h 3 24 46 a l c b m d := aAppend_s (by rfl) (by rfl) (by rfl) (by rfl) (by rfl)
theorem ap_66 {h : AHeap} (a b : Option Addr) (l c m d : Nat) : aAppend Try.prog h 66 (.slice a l c) (.slice b m d) = apF h 5 56 76 a l c b m d := aAppend_s (by rfl) (by rfl) (by rfl) (by rfl) (by rfl)
theorem ap_71 {h : AHeap} (a b : Option Addr) (l c m d : Nat) : aAppend Try.prog h 71 (.slice a l c) (.slice b m d) = apF h 4 32 74 a l c b m d := aAppend_s (by rfl) (by rfl) (by rfl) (by rfl) (by rfl)
theorem ba_25_25 {h : AHeap} (ts : List TypeId) (x y : Value) : aBuiltin Try.prog h .append (25 :: 25 :: ts).toArray [x, y] = aAppend Try.prog h 25 x y := bi_append 25 25 ts x y (by rfl)
theorem ba_42_42 {h : AHeap} (ts : List TypeId) (x y : Value) : aBuiltin Try.prog h .append (42 :: 42 :: ts).toArray [x, y] = aAppend Try.prog h 42 x y := bi_append 42 42 ts x y (by rfl)
theorem ba_66_66 {h : AHeap} (ts : List TypeId) (x y : Value) : aBuiltin Try.prog h .append (66 :: 66 :: ts).toArray [x, y] = aAppend Try.prog h 66 x y := bi_append 66 66 ts x y (by rfl)
theorem ba_71_71 {h : AHeap} (ts : List TypeId) (x y : Value) : aBuiltin Try.prog h .append (71 :: 71 :: ts).toArray [x, y] = aAppend Try.prog h 71 x y := bi_append 71 71 ts x y (by rfl)
theorem bd_24 (ps : List (Nat × Value)) : aBuild Try.prog 24 ps = bdF (aFill (lk [(0, 1), (1, 1)]) [.int .i64 0, .slice none 0 0] ps) := aBuild_of (by rfl) (by rfl) (by rfl) ps
theorem bd_30 (ps : List (Nat × Value)) : aBuild Try.prog 30 ps = bdF (aFill (lk [(0, 1), (1, 1), (2, 1), (3, 1), (4, 1)]) [.int .i64 0, .slice none 0 0, .slice none 0 0, .slice none 0 0, .slice none 0 0] ps) := aBuild_of (by rfl) (by rfl) (by rfl) ps
theorem bd_39 (ps : List (Nat × Value)) : aBuild Try.prog 39 ps = bdF (aFill (lk [(0, 1), (1, 1), (2, 1)]) [.int .i64 0, .int .i64 0, .int .i64 0] ps) := aBuild_of (by rfl) (by rfl) (by rfl) ps
theorem bd_41 (ps : List (Nat × Value)) : aBuild Try.prog 41 ps = bdF (aFill (lk [(0, 1), (1, 1), (2, 3), (5, 1), (6, 1), (7, 1)]) [.int .i64 0, .slice none 0 0, .int .i64 0, .int .i64 0, .int .i64 0, .int .i64 0, .int .i64 0, .int .i64 0] ps) := aBuild_of (by rfl) (by rfl) (by rfl) ps
theorem bd_44 (ps : List (Nat × Value)) : aBuild Try.prog 44 ps = bdF (aFill (lk [(0, 1), (1, 1)]) [.int .i64 0, .int .i64 0] ps) := aBuild_of (by rfl) (by rfl) (by rfl) ps
theorem bd_46 (ps : List (Nat × Value)) : aBuild Try.prog 46 ps = bdF (aFill (lk [(0, 1), (1, 2)]) [.int .i64 0, .int .i64 0, .int .i64 0] ps) := aBuild_of (by rfl) (by rfl) (by rfl) ps
theorem bd_68 (ps : List (Nat × Value)) : aBuild Try.prog 68 ps = bdF (aFill (lk [(0, 1), (1, 1), (2, 1), (3, 1), (4, 1)]) [.int .i64 0, .slice none 0 0, .slice none 0 0, .slice none 0 0, .slice none 0 0] ps) := aBuild_of (by rfl) (by rfl) (by rfl) ps
theorem bd_74 (ps : List (Nat × Value)) : aBuild Try.prog 74 ps = bdF (aFill (lk [(0, 1), (1, 1), (2, 1), (3, 1)]) [.int .i64 0, .int .i64 0, .int .i64 0, .int .i64 0] ps) := aBuild_of (by rfl) (by rfl) (by rfl) ps
theorem bd_76 (ps : List (Nat × Value)) : aBuild Try.prog 76 ps = bdF (aFill (lk [(0, 4), (4, 1)]) [.int .i64 0, .int .i64 0, .int .i64 0, .int .i64 0, .slice none 0 0] ps) := aBuild_of (by rfl) (by rfl) (by rfl) ps
theorem bd_107 (ps : List (Nat × Value)) : aBuild Try.prog 107 ps = bdF (aFill (lk [(0, 1), (1, 1)]) [.int .i64 0, .map none] ps) := aBuild_of (by rfl) (by rfl) (by rfl) ps
theorem bs_22 (m : Nat) (ps : List (Nat × Value)) : bBuildSlice Try.prog 22 m ps = bsF 8 41 m (aFill (fun j => some (j * 8, 8)) (aZeros [.int .i64 0, .slice none 0 0, .int .i64 0, .int .i64 0, .int .i64 0, .int .i64 0, .int .i64 0, .int .i64 0] m) ps) := bBuildSlice_s (by rfl) (by rfl) (by rfl) (by rfl)
theorem bs_25 (m : Nat) (ps : List (Nat × Value)) : bBuildSlice Try.prog 25 m ps = bsF 1 3 m (aFill (fun j => some (j * 1, 1)) (aZeros [.int .i64 0] m) ps) := bBuildSlice_s (by rfl) (by rfl) (by rfl) (by rfl)
theorem bs_26 (m : Nat) (ps : List (Nat × Value)) : bBuildSlice Try.prog 26 m ps = bsF 1 25 m (aFill (fun j => some (j * 1, 1)) (aZeros [.slice none 0 0] m) ps) := bBuildSlice_s (by rfl) (by rfl) (by rfl) (by rfl)
theorem bs_27 (m : Nat) (ps : List (Nat × Value)) : bBuildSlice Try.prog 27 m ps = bsF 1 42 m (aFill (fun j => some (j * 1, 1)) (aZeros [.slice none 0 0] m) ps) := bBuildSlice_s (by rfl) (by rfl) (by rfl) (by rfl)
theorem bs_42 (m : Nat) (ps : List (Nat × Value)) : bBuildSlice Try.prog 42 m ps = bsF 3 46 m (aFill (fun j => some (j * 3, 3)) (aZeros [.int .i64 0, .int .i64 0, .int .i64 0] m) ps) := bBuildSlice_s (by rfl) (by rfl) (by rfl) (by rfl)
theorem bs_66 (m : Nat) (ps : List (Nat × Value)) : bBuildSlice Try.prog 66 m ps = bsF 5 76 m (aFill (fun j => some (j * 5, 5)) (aZeros [.int .i64 0, .int .i64 0, .int .i64 0, .int .i64 0, .slice none 0 0] m) ps) := bBuildSlice_s (by rfl) (by rfl) (by rfl) (by rfl)
theorem bs_71 (m : Nat) (ps : List (Nat × Value)) : bBuildSlice Try.prog 71 m ps = bsF 4 74 m (aFill (fun j => some (j * 4, 4)) (aZeros [.int .i64 0, .int .i64 0, .int .i64 0, .int .i64 0] m) ps) := bBuildSlice_s (by rfl) (by rfl) (by rfl) (by rfl)
theorem cl_25 {h : AHeap} (b o m c : Nat) : aClear Try.prog h 25 (.slice (some ⟨b, o, none⟩) m c) = if m = 0 then some h else gPut h b o (aZeros [.int .i64 0] m) (h.get b) := aClear_s (by rfl) (by rfl)
theorem bc_25 {h : AHeap} (ts : List TypeId) (x : Value) : aBuiltin Try.prog h .clear (25 :: ts).toArray [x] = un (aClear Try.prog h 25 x) := bi_clear 25 ts x (by rfl)
-- dl 105
-- bool eq 4
theorem eq_25_eql_s (x y : Operand) (a : Addr) (l c : Nat) : aBin Try.prog .eql 25 x y (.slice (some a) l c) (.slice none 0 0) = some (.bool false) := congrArg id (by rfl)
theorem eq_25_eql_n (x y : Operand) (l c : Nat) : aBin Try.prog .eql 25 x y (.slice none l c) (.slice none 0 0) = some (.bool true) := congrArg id (by rfl)
theorem eq_25_neq_s (x y : Operand) (a : Addr) (l c : Nat) : aBin Try.prog .neq 25 x y (.slice (some a) l c) (.slice none 0 0) = some (.bool true) := congrArg id (by rfl)
theorem eq_25_neq_n (x y : Operand) (l c : Nat) : aBin Try.prog .neq 25 x y (.slice none l c) (.slice none 0 0) = some (.bool false) := congrArg id (by rfl)
-- eq of another type 39
-- eq of another type 44
-- eq of another type 46
theorem eq_52_eql_s (x y : Operand) (a : Addr) : aBin Try.prog .eql 52 x y (.pointer (some a)) (.pointer none) = some (.bool false) := congrArg id (by rfl)
theorem eq_52_eql_n (x y : Operand) : aBin Try.prog .eql 52 x y (.pointer none) (.pointer none) = some (.bool true) := congrArg id (by rfl)
theorem eq_52_neq_s (x y : Operand) (a : Addr) : aBin Try.prog .neq 52 x y (.pointer (some a)) (.pointer none) = some (.bool true) := congrArg id (by rfl)
theorem eq_52_neq_n (x y : Operand) : aBin Try.prog .neq 52 x y (.pointer none) (.pointer none) = some (.bool false) := congrArg id (by rfl)
-- eq of another type 92
-- eq of another type 119
theorem fa_24_0 (b o : Nat) : aField Try.prog 24 0 (.pointer (some ⟨b, o, none⟩)) = some (.pointer (some ⟨b, o, none⟩)) := congrArg id (by rfl)
theorem fa_24_1 (b o : Nat) : aField Try.prog 24 1 (.pointer (some ⟨b, o, none⟩)) = some (.pointer (some ⟨b, o + 1, none⟩)) := congrArg id (by rfl)
theorem fa_30_0 (b o : Nat) : aField Try.prog 30 0 (.pointer (some ⟨b, o, none⟩)) = some (.pointer (some ⟨b, o, none⟩)) := congrArg id (by rfl)
theorem fa_30_1 (b o : Nat) : aField Try.prog 30 1 (.pointer (some ⟨b, o, none⟩)) = some (.pointer (some ⟨b, o + 1, none⟩)) := congrArg id (by rfl)
theorem fa_30_2 (b o : Nat) : aField Try.prog 30 2 (.pointer (some ⟨b, o, none⟩)) = some (.pointer (some ⟨b, o + 2, none⟩)) := congrArg id (by rfl)
theorem fa_30_3 (b o : Nat) : aField Try.prog 30 3 (.pointer (some ⟨b, o, none⟩)) = some (.pointer (some ⟨b, o + 3, none⟩)) := congrArg id (by rfl)
theorem fa_30_4 (b o : Nat) : aField Try.prog 30 4 (.pointer (some ⟨b, o, none⟩)) = some (.pointer (some ⟨b, o + 4, none⟩)) := congrArg id (by rfl)
theorem fa_39_0 (b o : Nat) : aField Try.prog 39 0 (.pointer (some ⟨b, o, none⟩)) = some (.pointer (some ⟨b, o, none⟩)) := congrArg id (by rfl)
theorem fa_39_1 (b o : Nat) : aField Try.prog 39 1 (.pointer (some ⟨b, o, none⟩)) = some (.pointer (some ⟨b, o + 1, none⟩)) := congrArg id (by rfl)
theorem fa_39_2 (b o : Nat) : aField Try.prog 39 2 (.pointer (some ⟨b, o, none⟩)) = some (.pointer (some ⟨b, o + 2, none⟩)) := congrArg id (by rfl)
theorem fa_41_0 (b o : Nat) : aField Try.prog 41 0 (.pointer (some ⟨b, o, none⟩)) = some (.pointer (some ⟨b, o, none⟩)) := congrArg id (by rfl)
theorem fa_41_1 (b o : Nat) : aField Try.prog 41 1 (.pointer (some ⟨b, o, none⟩)) = some (.pointer (some ⟨b, o + 1, none⟩)) := congrArg id (by rfl)
theorem fa_41_2 (b o : Nat) : aField Try.prog 41 2 (.pointer (some ⟨b, o, none⟩)) = some (.pointer (some ⟨b, o + 2, none⟩)) := congrArg id (by rfl)
theorem fa_41_3 (b o : Nat) : aField Try.prog 41 3 (.pointer (some ⟨b, o, none⟩)) = some (.pointer (some ⟨b, o + 5, none⟩)) := congrArg id (by rfl)
theorem fa_41_4 (b o : Nat) : aField Try.prog 41 4 (.pointer (some ⟨b, o, none⟩)) = some (.pointer (some ⟨b, o + 6, none⟩)) := congrArg id (by rfl)
theorem fa_41_5 (b o : Nat) : aField Try.prog 41 5 (.pointer (some ⟨b, o, none⟩)) = some (.pointer (some ⟨b, o + 7, none⟩)) := congrArg id (by rfl)
theorem fa_46_0 (b o : Nat) : aField Try.prog 46 0 (.pointer (some ⟨b, o, none⟩)) = some (.pointer (some ⟨b, o, none⟩)) := congrArg id (by rfl)
theorem fa_46_1 (b o : Nat) : aField Try.prog 46 1 (.pointer (some ⟨b, o, none⟩)) = some (.pointer (some ⟨b, o + 1, none⟩)) := congrArg id (by rfl)
theorem fa_68_0 (b o : Nat) : aField Try.prog 68 0 (.pointer (some ⟨b, o, none⟩)) = some (.pointer (some ⟨b, o, none⟩)) := congrArg id (by rfl)
theorem fa_68_1 (b o : Nat) : aField Try.prog 68 1 (.pointer (some ⟨b, o, none⟩)) = some (.pointer (some ⟨b, o + 1, none⟩)) := congrArg id (by rfl)
theorem fa_68_2 (b o : Nat) : aField Try.prog 68 2 (.pointer (some ⟨b, o, none⟩)) = some (.pointer (some ⟨b, o + 2, none⟩)) := congrArg id (by rfl)
theorem fa_68_3 (b o : Nat) : aField Try.prog 68 3 (.pointer (some ⟨b, o, none⟩)) = some (.pointer (some ⟨b, o + 3, none⟩)) := congrArg id (by rfl)
theorem fa_68_4 (b o : Nat) : aField Try.prog 68 4 (.pointer (some ⟨b, o, none⟩)) = some (.pointer (some ⟨b, o + 4, none⟩)) := congrArg id (by rfl)
theorem fa_74_0 (b o : Nat) : aField Try.prog 74 0 (.pointer (some ⟨b, o, none⟩)) = some (.pointer (some ⟨b, o, none⟩)) := congrArg id (by rfl)
theorem fa_74_1 (b o : Nat) : aField Try.prog 74 1 (.pointer (some ⟨b, o, none⟩)) = some (.pointer (some ⟨b, o + 1, none⟩)) := congrArg id (by rfl)
theorem fa_74_2 (b o : Nat) : aField Try.prog 74 2 (.pointer (some ⟨b, o, none⟩)) = some (.pointer (some ⟨b, o + 2, none⟩)) := congrArg id (by rfl)
theorem fa_74_3 (b o : Nat) : aField Try.prog 74 3 (.pointer (some ⟨b, o, none⟩)) = some (.pointer (some ⟨b, o + 3, none⟩)) := congrArg id (by rfl)
theorem fa_76_0 (b o : Nat) : aField Try.prog 76 0 (.pointer (some ⟨b, o, none⟩)) = some (.pointer (some ⟨b, o, none⟩)) := congrArg id (by rfl)
theorem fa_76_1 (b o : Nat) : aField Try.prog 76 1 (.pointer (some ⟨b, o, none⟩)) = some (.pointer (some ⟨b, o + 4, none⟩)) := congrArg id (by rfl)
theorem fa_107_0 (b o : Nat) : aField Try.prog 107 0 (.pointer (some ⟨b, o, none⟩)) = some (.pointer (some ⟨b, o, none⟩)) := congrArg id (by rfl)
theorem fa_107_1 (b o : Nat) : aField Try.prog 107 1 (.pointer (some ⟨b, o, none⟩)) = some (.pointer (some ⟨b, o + 1, none⟩)) := congrArg id (by rfl)
theorem ia_22 (b o len cap : Nat) (k : IntKind) (i : Int) : aIndexAddr Try.prog 22 (.slice (some ⟨b, o, none⟩) len cap) (.int k i) = if 0 ≤ i ∧ i < len then some (.pointer (some ⟨b, o + i.toNat * 8, none⟩)) else none := aIndexAddr_s (by rfl) (by rfl) (by rfl)
theorem ia_25 (b o len cap : Nat) (k : IntKind) (i : Int) : aIndexAddr Try.prog 25 (.slice (some ⟨b, o, none⟩) len cap) (.int k i) = if 0 ≤ i ∧ i < len then some (.pointer (some ⟨b, o + i.toNat * 1, none⟩)) else none := aIndexAddr_s (by rfl) (by rfl) (by rfl)
theorem ia_26 (b o len cap : Nat) (k : IntKind) (i : Int) : aIndexAddr Try.prog 26 (.slice (some ⟨b, o, none⟩) len cap) (.int k i) = if 0 ≤ i ∧ i < len then some (.pointer (some ⟨b, o + i.toNat * 1, none⟩)) else none := aIndexAddr_s (by rfl) (by rfl) (by rfl)
theorem ia_27 (b o len cap : Nat) (k : IntKind) (i : Int) : aIndexAddr Try.prog 27 (.slice (some ⟨b, o, none⟩) len cap) (.int k i) = if 0 ≤ i ∧ i < len then some (.pointer (some ⟨b, o + i.toNat * 1, none⟩)) else none := aIndexAddr_s (by rfl) (by rfl) (by rfl)
theorem ia_28 (b o len cap : Nat) (k : IntKind) (i : Int) : aIndexAddr Try.prog 28 (.slice (some ⟨b, o, none⟩) len cap) (.int k i) = if 0 ≤ i ∧ i < len then some (.pointer (some ⟨b, o + i.toNat * 1, none⟩)) else none := aIndexAddr_s (by rfl) (by rfl) (by rfl)
theorem ia_42 (b o len cap : Nat) (k : IntKind) (i : Int) : aIndexAddr Try.prog 42 (.slice (some ⟨b, o, none⟩) len cap) (.int k i) = if 0 ≤ i ∧ i < len then some (.pointer (some ⟨b, o + i.toNat * 3, none⟩)) else none := aIndexAddr_s (by rfl) (by rfl) (by rfl)
theorem ia_65 (b o len cap : Nat) (k : IntKind) (i : Int) : aIndexAddr Try.prog 65 (.slice (some ⟨b, o, none⟩) len cap) (.int k i) = if 0 ≤ i ∧ i < len then some (.pointer (some ⟨b, o + i.toNat * 1, none⟩)) else none := aIndexAddr_s (by rfl) (by rfl) (by rfl)
theorem ia_66 (b o len cap : Nat) (k : IntKind) (i : Int) : aIndexAddr Try.prog 66 (.slice (some ⟨b, o, none⟩) len cap) (.int k i) = if 0 ≤ i ∧ i < len then some (.pointer (some ⟨b, o + i.toNat * 5, none⟩)) else none := aIndexAddr_s (by rfl) (by rfl) (by rfl)
theorem ia_69 (b o len cap : Nat) (k : IntKind) (i : Int) : aIndexAddr Try.prog 69 (.slice (some ⟨b, o, none⟩) len cap) (.int k i) = if 0 ≤ i ∧ i < len then some (.pointer (some ⟨b, o + i.toNat * 1, none⟩)) else none := aIndexAddr_s (by rfl) (by rfl) (by rfl)
theorem ia_71 (b o len cap : Nat) (k : IntKind) (i : Int) : aIndexAddr Try.prog 71 (.slice (some ⟨b, o, none⟩) len cap) (.int k i) = if 0 ≤ i ∧ i < len then some (.pointer (some ⟨b, o + i.toNat * 4, none⟩)) else none := aIndexAddr_s (by rfl) (by rfl) (by rfl)
theorem ia_101 (b o len cap : Nat) (k : IntKind) (i : Int) : aIndexAddr Try.prog 101 (.slice (some ⟨b, o, none⟩) len cap) (.int k i) = if 0 ≤ i ∧ i < len then some (.pointer (some ⟨b, o + i.toNat * 2, none⟩)) else none := aIndexAddr_s (by rfl) (by rfl) (by rfl)
-- ix 9
theorem ld_3 {h : AHeap} (b off : Nat) : aLoad Try.prog h 3 ⟨b, off, none⟩ = gCell off (h.get b) := aLoad_s (by rfl) (by rfl) b off
theorem ld_22 {h : AHeap} (b off : Nat) : aLoad Try.prog h 22 ⟨b, off, none⟩ = gCell off (h.get b) := aLoad_s (by rfl) (by rfl) b off
theorem ld_24 {h : AHeap} (b off : Nat) : aLoad Try.prog h 24 ⟨b, off, none⟩ = (gCells off 2 (h.get b)).map fun xs => .agg xs.toArray := aLoad_a (by rfl) (by rfl) (by rfl) (by rfl) b off
theorem ld_25 {h : AHeap} (b off : Nat) : aLoad Try.prog h 25 ⟨b, off, none⟩ = gCell off (h.get b) := aLoad_s (by rfl) (by rfl) b off
theorem ld_26 {h : AHeap} (b off : Nat) : aLoad Try.prog h 26 ⟨b, off, none⟩ = gCell off (h.get b) := aLoad_s (by rfl) (by rfl) b off
theorem ld_27 {h : AHeap} (b off : Nat) : aLoad Try.prog h 27 ⟨b, off, none⟩ = gCell off (h.get b) := aLoad_s (by rfl) (by rfl) b off
theorem ld_28 {h : AHeap} (b off : Nat) : aLoad Try.prog h 28 ⟨b, off, none⟩ = gCell off (h.get b) := aLoad_s (by rfl) (by rfl) b off
theorem ld_30 {h : AHeap} (b off : Nat) : aLoad Try.prog h 30 ⟨b, off, none⟩ = (gCells off 5 (h.get b)).map fun xs => .agg xs.toArray := aLoad_a (by rfl) (by rfl) (by rfl) (by rfl) b off
theorem ld_39 {h : AHeap} (b off : Nat) : aLoad Try.prog h 39 ⟨b, off, none⟩ = (gCells off 3 (h.get b)).map fun xs => .agg xs.toArray := aLoad_a (by rfl) (by rfl) (by rfl) (by rfl) b off
theorem ld_41 {h : AHeap} (b off : Nat) : aLoad Try.prog h 41 ⟨b, off, none⟩ = (gCells off 8 (h.get b)).map fun xs => .agg xs.toArray := aLoad_a (by rfl) (by rfl) (by rfl) (by rfl) b off
theorem ld_42 {h : AHeap} (b off : Nat) : aLoad Try.prog h 42 ⟨b, off, none⟩ = gCell off (h.get b) := aLoad_s (by rfl) (by rfl) b off
theorem ld_44 {h : AHeap} (b off : Nat) : aLoad Try.prog h 44 ⟨b, off, none⟩ = (gCells off 2 (h.get b)).map fun xs => .agg xs.toArray := aLoad_a (by rfl) (by rfl) (by rfl) (by rfl) b off
theorem ld_46 {h : AHeap} (b off : Nat) : aLoad Try.prog h 46 ⟨b, off, none⟩ = (gCells off 3 (h.get b)).map fun xs => .agg xs.toArray := aLoad_a (by rfl) (by rfl) (by rfl) (by rfl) b off
theorem ld_65 {h : AHeap} (b off : Nat) : aLoad Try.prog h 65 ⟨b, off, none⟩ = gCell off (h.get b) := aLoad_s (by rfl) (by rfl) b off
theorem ld_66 {h : AHeap} (b off : Nat) : aLoad Try.prog h 66 ⟨b, off, none⟩ = gCell off (h.get b) := aLoad_s (by rfl) (by rfl) b off
theorem ld_69 {h : AHeap} (b off : Nat) : aLoad Try.prog h 69 ⟨b, off, none⟩ = gCell off (h.get b) := aLoad_s (by rfl) (by rfl) b off
theorem ld_71 {h : AHeap} (b off : Nat) : aLoad Try.prog h 71 ⟨b, off, none⟩ = gCell off (h.get b) := aLoad_s (by rfl) (by rfl) b off
theorem ld_74 {h : AHeap} (b off : Nat) : aLoad Try.prog h 74 ⟨b, off, none⟩ = (gCells off 4 (h.get b)).map fun xs => .agg xs.toArray := aLoad_a (by rfl) (by rfl) (by rfl) (by rfl) b off
theorem ld_76 {h : AHeap} (b off : Nat) : aLoad Try.prog h 76 ⟨b, off, none⟩ = (gCells off 5 (h.get b)).map fun xs => .agg xs.toArray := aLoad_a (by rfl) (by rfl) (by rfl) (by rfl) b off
theorem ld_77 {h : AHeap} (b off : Nat) : aLoad Try.prog h 77 ⟨b, off, none⟩ = gCell off (h.get b) := aLoad_s (by rfl) (by rfl) b off
theorem ld_92 {h : AHeap} (b off : Nat) : aLoad Try.prog h 92 ⟨b, off, none⟩ = (gCells off 2 (h.get b)).map fun xs => .agg xs.toArray := aLoad_a (by rfl) (by rfl) (by rfl) (by rfl) b off
theorem ld_93 {h : AHeap} (b off : Nat) : aLoad Try.prog h 93 ⟨b, off, none⟩ = gCell off (h.get b) := aLoad_s (by rfl) (by rfl) b off
theorem ld_101 {h : AHeap} (b off : Nat) : aLoad Try.prog h 101 ⟨b, off, none⟩ = gCell off (h.get b) := aLoad_s (by rfl) (by rfl) b off
theorem ld_105 {h : AHeap} (b off : Nat) : aLoad Try.prog h 105 ⟨b, off, none⟩ = gCell off (h.get b) := aLoad_s (by rfl) (by rfl) b off
theorem ld_109 {h : AHeap} (b off : Nat) : aLoad Try.prog h 109 ⟨b, off, none⟩ = gCell off (h.get b) := aLoad_s (by rfl) (by rfl) b off
theorem ld_119 {h : AHeap} (b off : Nat) : aLoad Try.prog h 119 ⟨b, off, none⟩ = (gCells off 2 (h.get b)).map fun xs => .agg xs.toArray := aLoad_a (by rfl) (by rfl) (by rfl) (by rfl) b off
theorem ld_136 {h : AHeap} (b off : Nat) : aLoad Try.prog h 136 ⟨b, off, none⟩ = gCell off (h.get b) := aLoad_s (by rfl) (by rfl) b off
theorem lk_105 {h : AHeap} (r : Nat) (k : IntKind) (m : Int) (ok : Bool) : aLookup Try.prog h 105 (.map (some r)) (.int k m) ok = lkF (.agg #[.int .i64 0, .int .i64 0]) ok (mF k m (h.get r)) := aLookup_m (by rfl) (by rfl) (by rfl) (by rfl) (by rfl)
theorem lk_105n {h : AHeap} (k : IntKind) (m : Int) (ok : Bool) : aLookup Try.prog h 105 (.map none) (.int k m) ok = lkF (.agg #[.int .i64 0, .int .i64 0]) ok (some none) := aLookup_n (by rfl) (by rfl) (by rfl) (by rfl) (by rfl)
theorem ln_22 {h : AHeap} (a : Option Addr) (m c : Nat) : aLen Try.prog h 22 (.slice a m c) = some (.int .i64 m) := congrArg id (by rfl)
theorem ln_25 {h : AHeap} (a : Option Addr) (m c : Nat) : aLen Try.prog h 25 (.slice a m c) = some (.int .i64 m) := congrArg id (by rfl)
theorem ln_26 {h : AHeap} (a : Option Addr) (m c : Nat) : aLen Try.prog h 26 (.slice a m c) = some (.int .i64 m) := congrArg id (by rfl)
theorem ln_27 {h : AHeap} (a : Option Addr) (m c : Nat) : aLen Try.prog h 27 (.slice a m c) = some (.int .i64 m) := congrArg id (by rfl)
theorem ln_28 {h : AHeap} (a : Option Addr) (m c : Nat) : aLen Try.prog h 28 (.slice a m c) = some (.int .i64 m) := congrArg id (by rfl)
theorem ln_42 {h : AHeap} (a : Option Addr) (m c : Nat) : aLen Try.prog h 42 (.slice a m c) = some (.int .i64 m) := congrArg id (by rfl)
theorem ln_65 {h : AHeap} (a : Option Addr) (m c : Nat) : aLen Try.prog h 65 (.slice a m c) = some (.int .i64 m) := congrArg id (by rfl)
theorem ln_66 {h : AHeap} (a : Option Addr) (m c : Nat) : aLen Try.prog h 66 (.slice a m c) = some (.int .i64 m) := congrArg id (by rfl)
theorem ln_69 {h : AHeap} (a : Option Addr) (m c : Nat) : aLen Try.prog h 69 (.slice a m c) = some (.int .i64 m) := congrArg id (by rfl)
theorem ln_71 {h : AHeap} (a : Option Addr) (m c : Nat) : aLen Try.prog h 71 (.slice a m c) = some (.int .i64 m) := congrArg id (by rfl)
theorem ln_101 {h : AHeap} (a : Option Addr) (m c : Nat) : aLen Try.prog h 101 (.slice a m c) = some (.int .i64 m) := congrArg id (by rfl)
-- mm 105
theorem ms_26 (k k' : IntKind) (l c : Int) : bMakeSlice Try.prog 26 (.int k l) (.int k' c) = msF 1 24 [.slice none 0 0] 25 l c := bMakeSlice_s (by rfl) (by rfl) (by rfl) (by rfl) (by rfl)
theorem ms_27 (k k' : IntKind) (l c : Int) : bMakeSlice Try.prog 27 (.int k l) (.int k' c) = msF 1 24 [.slice none 0 0] 42 l c := bMakeSlice_s (by rfl) (by rfl) (by rfl) (by rfl) (by rfl)
theorem ms_65 (k k' : IntKind) (l c : Int) : bMakeSlice Try.prog 65 (.int k l) (.int k' c) = msF 1 24 [.slice none 0 0] 69 l c := bMakeSlice_s (by rfl) (by rfl) (by rfl) (by rfl) (by rfl)
theorem ms_69 (k k' : IntKind) (l c : Int) : bMakeSlice Try.prog 69 (.int k l) (.int k' c) = msF 1 8 [.pointer none] 77 l c := bMakeSlice_s (by rfl) (by rfl) (by rfl) (by rfl) (by rfl)
theorem mu_105 {h : AHeap} (r : Nat) (k : IntKind) (m : Int) (y : Value) : aMapSet Try.prog h 105 (.map (some r)) (.int k m) y = muF h r k m y (h.get r) := aMapSet_m (by rfl) (by rfl)
-- sl 25
-- sl 66
-- sl 69
theorem st_3 {h : AHeap} (a : Addr) (v : Value) : aStore Try.prog h 3 a v = stN h a v.cells 1 := aStore_n (by rfl) (by rfl) a v
theorem st_24 {h : AHeap} (a : Addr) (v : Value) : aStore Try.prog h 24 a v = stN h a v.cells 2 := aStore_n (by rfl) (by rfl) a v
theorem st_25 {h : AHeap} (a : Addr) (v : Value) : aStore Try.prog h 25 a v = stN h a v.cells 1 := aStore_n (by rfl) (by rfl) a v
theorem st_30 {h : AHeap} (a : Addr) (v : Value) : aStore Try.prog h 30 a v = stN h a v.cells 5 := aStore_n (by rfl) (by rfl) a v
theorem st_41 {h : AHeap} (a : Addr) (v : Value) : aStore Try.prog h 41 a v = stN h a v.cells 8 := aStore_n (by rfl) (by rfl) a v
theorem st_42 {h : AHeap} (a : Addr) (v : Value) : aStore Try.prog h 42 a v = stN h a v.cells 1 := aStore_n (by rfl) (by rfl) a v
theorem st_44 {h : AHeap} (a : Addr) (v : Value) : aStore Try.prog h 44 a v = stN h a v.cells 2 := aStore_n (by rfl) (by rfl) a v
theorem st_46 {h : AHeap} (a : Addr) (v : Value) : aStore Try.prog h 46 a v = stN h a v.cells 3 := aStore_n (by rfl) (by rfl) a v
theorem st_66 {h : AHeap} (a : Addr) (v : Value) : aStore Try.prog h 66 a v = stN h a v.cells 1 := aStore_n (by rfl) (by rfl) a v
theorem st_69 {h : AHeap} (a : Addr) (v : Value) : aStore Try.prog h 69 a v = stN h a v.cells 1 := aStore_n (by rfl) (by rfl) a v
theorem st_71 {h : AHeap} (a : Addr) (v : Value) : aStore Try.prog h 71 a v = stN h a v.cells 1 := aStore_n (by rfl) (by rfl) a v
theorem st_74 {h : AHeap} (a : Addr) (v : Value) : aStore Try.prog h 74 a v = stN h a v.cells 4 := aStore_n (by rfl) (by rfl) a v
theorem st_77 {h : AHeap} (a : Addr) (v : Value) : aStore Try.prog h 77 a v = stN h a v.cells 1 := aStore_n (by rfl) (by rfl) a v
theorem st_92 {h : AHeap} (a : Addr) (v : Value) : aStore Try.prog h 92 a v = stN h a v.cells 2 := aStore_n (by rfl) (by rfl) a v
theorem st_93 {h : AHeap} (a : Addr) (v : Value) : aStore Try.prog h 93 a v = stN h a v.cells 1 := aStore_n (by rfl) (by rfl) a v
theorem st_109 {h : AHeap} (a : Addr) (v : Value) : aStore Try.prog h 109 a v = stN h a v.cells 1 := aStore_n (by rfl) (by rfl) a v
theorem st_136 {h : AHeap} (a : Addr) (v : Value) : aStore Try.prog h 136 a v = stN h a v.cells 1 := aStore_n (by rfl) (by rfl) a v
-- NAMES al_3, al_24, al_30, al_41, al_44, al_46, al_71, al_74, al_92, al_93, al_109, al_136, ap_25, ap_42, ap_66, ap_71, ba_25_25, ba_42_42, ba_66_66, ba_71_71, bd_24, bd_30, bd_39, bd_41, bd_44, bd_46, bd_68, bd_74, bd_76, bd_107, bs_22, bs_25, bs_26, bs_27, bs_42, bs_66, bs_71, cl_25, bc_25, eq_25_eql_s, eq_25_eql_n, eq_25_neq_s, eq_25_neq_n, eq_52_eql_s, eq_52_eql_n, eq_52_neq_s, eq_52_neq_n, fa_24_0, fa_24_1, fa_30_0, fa_30_1, fa_30_2, fa_30_3, fa_30_4, fa_39_0, fa_39_1, fa_39_2, fa_41_0, fa_41_1, fa_41_2, fa_41_3, fa_41_4, fa_41_5, fa_46_0, fa_46_1, fa_68_0, fa_68_1, fa_68_2, fa_68_3, fa_68_4, fa_74_0, fa_74_1, fa_74_2, fa_74_3, fa_76_0, fa_76_1, fa_107_0, fa_107_1, ia_22, ia_25, ia_26, ia_27, ia_28, ia_42, ia_65, ia_66, ia_69, ia_71, ia_101, ld_3, ld_22, ld_24, ld_25, ld_26, ld_27, ld_28, ld_30, ld_39, ld_41, ld_42, ld_44, ld_46, ld_65, ld_66, ld_69, ld_71, ld_74, ld_76, ld_77, ld_92, ld_93, ld_101, ld_105, ld_109, ld_119, ld_136, lk_105, lk_105n, ln_22, ln_25, ln_26, ln_27, ln_28, ln_42, ln_65, ln_66, ln_69, ln_71, ln_101, ms_26, ms_27, ms_65, ms_69, mu_105, st_3, st_24, st_25, st_30, st_41, st_42, st_44, st_46, st_66, st_69, st_71, st_74, st_77, st_92, st_93, st_109, st_136
theorem oxTy0 : type_of% (And.intro (And.intro (And.intro (And.intro (And.intro (@al_3) (@al_24)) (And.intro (@al_30) (@al_41))) (And.intro (And.intro (@al_44) (@al_46)) (And.intro (@al_71) (@al_74)))) (And.intro (And.intro (And.intro (@al_92) (@al_93)) (And.intro (@al_109) (@al_136))) (And.intro (And.intro (@ap_25) (@ap_42)) (And.intro (@ap_66) (@ap_71))))) (And.intro (And.intro (And.intro (And.intro (@ba_25_25) (@ba_42_42)) (And.intro (@ba_66_66) (@ba_71_71))) (And.intro (And.intro (@bd_24) (@bd_30)) (And.intro (@bd_39) (@bd_41)))) (And.intro (And.intro (And.intro (@bd_44) (@bd_46)) (And.intro (@bd_68) (@bd_74))) (And.intro (And.intro (@bd_76) (@bd_107)) (And.intro (@bs_22) (@bs_25)))))) := And.intro (And.intro (And.intro (And.intro (And.intro (@al_3) (@al_24)) (And.intro (@al_30) (@al_41))) (And.intro (And.intro (@al_44) (@al_46)) (And.intro (@al_71) (@al_74)))) (And.intro (And.intro (And.intro (@al_92) (@al_93)) (And.intro (@al_109) (@al_136))) (And.intro (And.intro (@ap_25) (@ap_42)) (And.intro (@ap_66) (@ap_71))))) (And.intro (And.intro (And.intro (And.intro (@ba_25_25) (@ba_42_42)) (And.intro (@ba_66_66) (@ba_71_71))) (And.intro (And.intro (@bd_24) (@bd_30)) (And.intro (@bd_39) (@bd_41)))) (And.intro (And.intro (And.intro (@bd_44) (@bd_46)) (And.intro (@bd_68) (@bd_74))) (And.intro (And.intro (@bd_76) (@bd_107)) (And.intro (@bs_22) (@bs_25)))))
theorem oxTy1 : type_of% (And.intro (And.intro (And.intro (And.intro (And.intro (@bs_26) (@bs_27)) (And.intro (@bs_42) (@bs_66))) (And.intro (And.intro (@bs_71) (@cl_25)) (And.intro (@bc_25) (@eq_25_eql_s)))) (And.intro (And.intro (And.intro (@eq_25_eql_n) (@eq_25_neq_s)) (And.intro (@eq_25_neq_n) (@eq_52_eql_s))) (And.intro (And.intro (@eq_52_eql_n) (@eq_52_neq_s)) (And.intro (@eq_52_neq_n) (@fa_24_0))))) (And.intro (And.intro (And.intro (And.intro (@fa_24_1) (@fa_30_0)) (And.intro (@fa_30_1) (@fa_30_2))) (And.intro (And.intro (@fa_30_3) (@fa_30_4)) (And.intro (@fa_39_0) (@fa_39_1)))) (And.intro (And.intro (And.intro (@fa_39_2) (@fa_41_0)) (And.intro (@fa_41_1) (@fa_41_2))) (And.intro (And.intro (@fa_41_3) (@fa_41_4)) (And.intro (@fa_41_5) (@fa_46_0)))))) := And.intro (And.intro (And.intro (And.intro (And.intro (@bs_26) (@bs_27)) (And.intro (@bs_42) (@bs_66))) (And.intro (And.intro (@bs_71) (@cl_25)) (And.intro (@bc_25) (@eq_25_eql_s)))) (And.intro (And.intro (And.intro (@eq_25_eql_n) (@eq_25_neq_s)) (And.intro (@eq_25_neq_n) (@eq_52_eql_s))) (And.intro (And.intro (@eq_52_eql_n) (@eq_52_neq_s)) (And.intro (@eq_52_neq_n) (@fa_24_0))))) (And.intro (And.intro (And.intro (And.intro (@fa_24_1) (@fa_30_0)) (And.intro (@fa_30_1) (@fa_30_2))) (And.intro (And.intro (@fa_30_3) (@fa_30_4)) (And.intro (@fa_39_0) (@fa_39_1)))) (And.intro (And.intro (And.intro (@fa_39_2) (@fa_41_0)) (And.intro (@fa_41_1) (@fa_41_2))) (And.intro (And.intro (@fa_41_3) (@fa_41_4)) (And.intro (@fa_41_5) (@fa_46_0)))))
theorem oxTy2 : type_of% (And.intro (And.intro (And.intro (And.intro (And.intro (@fa_46_1) (@fa_68_0)) (And.intro (@fa_68_1) (@fa_68_2))) (And.intro (And.intro (@fa_68_3) (@fa_68_4)) (And.intro (@fa_74_0) (@fa_74_1)))) (And.intro (And.intro (And.intro (@fa_74_2) (@fa_74_3)) (And.intro (@fa_76_0) (@fa_76_1))) (And.intro (And.intro (@fa_107_0) (@fa_107_1)) (And.intro (@ia_22) (@ia_25))))) (And.intro (And.intro (And.intro (And.intro (@ia_26) (@ia_27)) (And.intro (@ia_28) (@ia_42))) (And.intro (And.intro (@ia_65) (@ia_66)) (And.intro (@ia_69) (@ia_71)))) (And.intro (And.intro (And.intro (@ia_101) (@ld_3)) (And.intro (@ld_22) (@ld_24))) (And.intro (And.intro (@ld_25) (@ld_26)) (And.intro (@ld_27) (@ld_28)))))) := And.intro (And.intro (And.intro (And.intro (And.intro (@fa_46_1) (@fa_68_0)) (And.intro (@fa_68_1) (@fa_68_2))) (And.intro (And.intro (@fa_68_3) (@fa_68_4)) (And.intro (@fa_74_0) (@fa_74_1)))) (And.intro (And.intro (And.intro (@fa_74_2) (@fa_74_3)) (And.intro (@fa_76_0) (@fa_76_1))) (And.intro (And.intro (@fa_107_0) (@fa_107_1)) (And.intro (@ia_22) (@ia_25))))) (And.intro (And.intro (And.intro (And.intro (@ia_26) (@ia_27)) (And.intro (@ia_28) (@ia_42))) (And.intro (And.intro (@ia_65) (@ia_66)) (And.intro (@ia_69) (@ia_71)))) (And.intro (And.intro (And.intro (@ia_101) (@ld_3)) (And.intro (@ld_22) (@ld_24))) (And.intro (And.intro (@ld_25) (@ld_26)) (And.intro (@ld_27) (@ld_28)))))
theorem oxTy3 : type_of% (And.intro (And.intro (And.intro (And.intro (And.intro (@ld_30) (@ld_39)) (And.intro (@ld_41) (@ld_42))) (And.intro (And.intro (@ld_44) (@ld_46)) (And.intro (@ld_65) (@ld_66)))) (And.intro (And.intro (And.intro (@ld_69) (@ld_71)) (And.intro (@ld_74) (@ld_76))) (And.intro (And.intro (@ld_77) (@ld_92)) (And.intro (@ld_93) (@ld_101))))) (And.intro (And.intro (And.intro (And.intro (@ld_105) (@ld_109)) (And.intro (@ld_119) (@ld_136))) (And.intro (And.intro (@lk_105) (@lk_105n)) (And.intro (@ln_22) (@ln_25)))) (And.intro (And.intro (And.intro (@ln_26) (@ln_27)) (And.intro (@ln_28) (@ln_42))) (And.intro (And.intro (@ln_65) (@ln_66)) (And.intro (@ln_69) (@ln_71)))))) := And.intro (And.intro (And.intro (And.intro (And.intro (@ld_30) (@ld_39)) (And.intro (@ld_41) (@ld_42))) (And.intro (And.intro (@ld_44) (@ld_46)) (And.intro (@ld_65) (@ld_66)))) (And.intro (And.intro (And.intro (@ld_69) (@ld_71)) (And.intro (@ld_74) (@ld_76))) (And.intro (And.intro (@ld_77) (@ld_92)) (And.intro (@ld_93) (@ld_101))))) (And.intro (And.intro (And.intro (And.intro (@ld_105) (@ld_109)) (And.intro (@ld_119) (@ld_136))) (And.intro (And.intro (@lk_105) (@lk_105n)) (And.intro (@ln_22) (@ln_25)))) (And.intro (And.intro (And.intro (@ln_26) (@ln_27)) (And.intro (@ln_28) (@ln_42))) (And.intro (And.intro (@ln_65) (@ln_66)) (And.intro (@ln_69) (@ln_71)))))
theorem oxTy4 : type_of% (And.intro (And.intro (And.intro (And.intro (@ln_101) (@ms_26)) (And.intro (@ms_27) (And.intro (@ms_65) (@ms_69)))) (And.intro (And.intro (@mu_105) (And.intro (@st_3) (@st_24))) (And.intro (@st_25) (And.intro (@st_30) (@st_41))))) (And.intro (And.intro (And.intro (@st_42) (And.intro (@st_44) (@st_46))) (And.intro (@st_66) (And.intro (@st_69) (@st_71)))) (And.intro (And.intro (@st_74) (And.intro (@st_77) (@st_92))) (And.intro (@st_93) (And.intro (@st_109) (@st_136)))))) := And.intro (And.intro (And.intro (And.intro (@ln_101) (@ms_26)) (And.intro (@ms_27) (And.intro (@ms_65) (@ms_69)))) (And.intro (And.intro (@mu_105) (And.intro (@st_3) (@st_24))) (And.intro (@st_25) (And.intro (@st_30) (@st_41))))) (And.intro (And.intro (And.intro (@st_42) (And.intro (@st_44) (@st_46))) (And.intro (@st_66) (And.intro (@st_69) (@st_71)))) (And.intro (And.intro (@st_74) (And.intro (@st_77) (@st_92))) (And.intro (@st_93) (And.intro (@st_109) (@st_136)))))
theorem oxq : type_of% (And.intro (And.intro (And.intro (And.intro (@oxA0) (@oxA1)) (And.intro (@oxA2) (@oxA3))) (And.intro (And.intro (@oxA4) (@oxA5)) (And.intro (@oxA6) (And.intro (@oxA7) (@oxA8))))) (And.intro (And.intro (And.intro (@oxA9) (@oxA10)) (And.intro (@oxL0) (@oxL1))) (And.intro (And.intro (@oxTy0) (@oxTy1)) (And.intro (@oxTy2) (And.intro (@oxTy3) (@oxTy4)))))) := And.intro (And.intro (And.intro (And.intro (@oxA0) (@oxA1)) (And.intro (@oxA2) (@oxA3))) (And.intro (And.intro (@oxA4) (@oxA5)) (And.intro (@oxA6) (And.intro (@oxA7) (@oxA8))))) (And.intro (And.intro (And.intro (@oxA9) (@oxA10)) (And.intro (@oxL0) (@oxL1))) (And.intro (And.intro (@oxTy0) (@oxTy1)) (And.intro (@oxTy2) (And.intro (@oxTy3) (@oxTy4)))))
end Go.Proofs
