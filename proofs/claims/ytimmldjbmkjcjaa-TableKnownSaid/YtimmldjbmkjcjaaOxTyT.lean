/-
  A part of the proof of TableKnown: what this program's functions do on an abstract heap. CONDITIONS: none.
-/
import Derived.Test.YtimmldjbmkjcjaaProg
import Derived.Test.YtimmldjbmkjcjaaOxW
set_option linter.unusedSimpArgs false
set_option linter.unusedVariables false
namespace Go.Proofs
open Go Go.Ox
set_option maxRecDepth 100000
theorem al_3 : alc Try.prog 3 = some (.cells false 0 [.int .i64 0] 3, ptrTo) := congrArg id (by rfl)
theorem al_27 : alc Try.prog 27 = some (.cells false 0 [.int .i64 0, .int .i64 0] 27, ptrTo) := congrArg id (by rfl)
theorem al_29 : alc Try.prog 29 = some (.cells false 0 [.int .i64 0, .int .i64 0, .int .i64 0] 29, ptrTo) := congrArg id (by rfl)
theorem al_51 : alc Try.prog 51 = some (.cells false 0 [.nilFunc] 51, ptrTo) := congrArg id (by rfl)
theorem al_75 : alc Try.prog 75 = some (.cells false 0 [.int .u64 0] 75, ptrTo) := congrArg id (by rfl)
theorem ap_22 {h : AHeap} (a b : Option Addr) (l c m d : Nat) : aAppend Try.prog h 22 (.slice a l c) (.slice b m d) = apF h 3 24 29 a l c b m d := aAppend_s (by rfl) (by rfl) (by rfl) (by rfl) (by rfl)
theorem ap_43 {h : AHeap} (a b : Option Addr) (l c m d : Nat) : aAppend Try.prog h 43 (.slice a l c) (.slice b m d) = apF h 1 8 3 a l c b m d := aAppend_s (by rfl) (by rfl) (by rfl) (by rfl) (by rfl)
theorem ba_22_22 {h : AHeap} (ts : List TypeId) (x y : Value) : aBuiltin Try.prog h .append (22 :: 22 :: ts).toArray [x, y] = aAppend Try.prog h 22 x y := bi_append 22 22 ts x y (by rfl)
theorem ba_43_43 {h : AHeap} (ts : List TypeId) (x y : Value) : aBuiltin Try.prog h .append (43 :: 43 :: ts).toArray [x, y] = aAppend Try.prog h 43 x y := bi_append 43 43 ts x y (by rfl)
theorem bd_27 (ps : List (Nat × Value)) : aBuild Try.prog 27 ps = bdF (aFill (lk [(0, 1), (1, 1)]) [.int .i64 0, .int .i64 0] ps) := aBuild_of (by rfl) (by rfl) (by rfl) ps
theorem bd_29 (ps : List (Nat × Value)) : aBuild Try.prog 29 ps = bdF (aFill (lk [(0, 1), (1, 2)]) [.int .i64 0, .int .i64 0, .int .i64 0] ps) := aBuild_of (by rfl) (by rfl) (by rfl) ps
theorem bd_47 (ps : List (Nat × Value)) : aBuild Try.prog 47 ps = bdF (aFill (lk [(0, 1), (1, 1)]) [.int .i64 0, .map none] ps) := aBuild_of (by rfl) (by rfl) (by rfl) ps
theorem bs_22 (m : Nat) (ps : List (Nat × Value)) : bBuildSlice Try.prog 22 m ps = bsF 3 29 m (aFill (fun j => some (j * 3, 3)) (aZeros [.int .i64 0, .int .i64 0, .int .i64 0] m) ps) := bBuildSlice_s (by rfl) (by rfl) (by rfl) (by rfl)
theorem bs_43 (m : Nat) (ps : List (Nat × Value)) : bBuildSlice Try.prog 43 m ps = bsF 1 3 m (aFill (fun j => some (j * 1, 1)) (aZeros [.int .i64 0] m) ps) := bBuildSlice_s (by rfl) (by rfl) (by rfl) (by rfl)
theorem cl_43 {h : AHeap} (b o m c : Nat) : aClear Try.prog h 43 (.slice (some ⟨b, o, none⟩) m c) = if m = 0 then some h else gPut h b o (aZeros [.int .i64 0] m) (h.get b) := aClear_s (by rfl) (by rfl)
theorem bc_43 {h : AHeap} (ts : List TypeId) (x : Value) : aBuiltin Try.prog h .clear (43 :: ts).toArray [x] = un (aClear Try.prog h 43 x) := bi_clear 43 ts x (by rfl)
-- dl 45
theorem eq_24_eql_s (x y : Operand) (a : Addr) : aBin Try.prog .eql 24 x y (.pointer (some a)) (.pointer none) = some (.bool false) := congrArg id (by rfl)
theorem eq_24_eql_n (x y : Operand) : aBin Try.prog .eql 24 x y (.pointer none) (.pointer none) = some (.bool true) := congrArg id (by rfl)
theorem eq_24_neq_s (x y : Operand) (a : Addr) : aBin Try.prog .neq 24 x y (.pointer (some a)) (.pointer none) = some (.bool true) := congrArg id (by rfl)
theorem eq_24_neq_n (x y : Operand) : aBin Try.prog .neq 24 x y (.pointer none) (.pointer none) = some (.bool false) := congrArg id (by rfl)
-- eq of another type 27
-- eq of another type 29
theorem fa_29_0 (b o : Nat) : aField Try.prog 29 0 (.pointer (some ⟨b, o, none⟩)) = some (.pointer (some ⟨b, o, none⟩)) := congrArg id (by rfl)
theorem fa_29_1 (b o : Nat) : aField Try.prog 29 1 (.pointer (some ⟨b, o, none⟩)) = some (.pointer (some ⟨b, o + 1, none⟩)) := congrArg id (by rfl)
theorem fa_47_0 (b o : Nat) : aField Try.prog 47 0 (.pointer (some ⟨b, o, none⟩)) = some (.pointer (some ⟨b, o, none⟩)) := congrArg id (by rfl)
theorem fa_47_1 (b o : Nat) : aField Try.prog 47 1 (.pointer (some ⟨b, o, none⟩)) = some (.pointer (some ⟨b, o + 1, none⟩)) := congrArg id (by rfl)
theorem ia_22 (b o len cap : Nat) (k : IntKind) (i : Int) : aIndexAddr Try.prog 22 (.slice (some ⟨b, o, none⟩) len cap) (.int k i) = if 0 ≤ i ∧ i < len then some (.pointer (some ⟨b, o + i.toNat * 3, none⟩)) else none := aIndexAddr_s (by rfl) (by rfl) (by rfl)
theorem ia_43 (b o len cap : Nat) (k : IntKind) (i : Int) : aIndexAddr Try.prog 43 (.slice (some ⟨b, o, none⟩) len cap) (.int k i) = if 0 ≤ i ∧ i < len then some (.pointer (some ⟨b, o + i.toNat * 1, none⟩)) else none := aIndexAddr_s (by rfl) (by rfl) (by rfl)
-- ix 9
theorem ld_3 {h : AHeap} (b off : Nat) : aLoad Try.prog h 3 ⟨b, off, none⟩ = gCell off (h.get b) := aLoad_s (by rfl) (by rfl) b off
theorem ld_24 {h : AHeap} (b off : Nat) : aLoad Try.prog h 24 ⟨b, off, none⟩ = gCell off (h.get b) := aLoad_s (by rfl) (by rfl) b off
theorem ld_27 {h : AHeap} (b off : Nat) : aLoad Try.prog h 27 ⟨b, off, none⟩ = (gCells off 2 (h.get b)).map fun xs => .agg xs.toArray := aLoad_a (by rfl) (by rfl) (by rfl) (by rfl) b off
theorem ld_29 {h : AHeap} (b off : Nat) : aLoad Try.prog h 29 ⟨b, off, none⟩ = (gCells off 3 (h.get b)).map fun xs => .agg xs.toArray := aLoad_a (by rfl) (by rfl) (by rfl) (by rfl) b off
theorem ld_43 {h : AHeap} (b off : Nat) : aLoad Try.prog h 43 ⟨b, off, none⟩ = gCell off (h.get b) := aLoad_s (by rfl) (by rfl) b off
theorem ld_45 {h : AHeap} (b off : Nat) : aLoad Try.prog h 45 ⟨b, off, none⟩ = gCell off (h.get b) := aLoad_s (by rfl) (by rfl) b off
theorem ld_51 {h : AHeap} (b off : Nat) : aLoad Try.prog h 51 ⟨b, off, none⟩ = gCell off (h.get b) := aLoad_s (by rfl) (by rfl) b off
theorem ld_75 {h : AHeap} (b off : Nat) : aLoad Try.prog h 75 ⟨b, off, none⟩ = gCell off (h.get b) := aLoad_s (by rfl) (by rfl) b off
theorem lk_45 {h : AHeap} (r : Nat) (k : IntKind) (m : Int) (ok : Bool) : aLookup Try.prog h 45 (.map (some r)) (.int k m) ok = lkF (.agg #[.int .i64 0, .int .i64 0]) ok (mF k m (h.get r)) := aLookup_m (by rfl) (by rfl) (by rfl) (by rfl) (by rfl)
theorem lk_45n {h : AHeap} (k : IntKind) (m : Int) (ok : Bool) : aLookup Try.prog h 45 (.map none) (.int k m) ok = lkF (.agg #[.int .i64 0, .int .i64 0]) ok (some none) := aLookup_n (by rfl) (by rfl) (by rfl) (by rfl) (by rfl)
theorem ln_22 {h : AHeap} (a : Option Addr) (m c : Nat) : aLen Try.prog h 22 (.slice a m c) = some (.int .i64 m) := congrArg id (by rfl)
theorem ln_43 {h : AHeap} (a : Option Addr) (m c : Nat) : aLen Try.prog h 43 (.slice a m c) = some (.int .i64 m) := congrArg id (by rfl)
theorem ln_45 {h : AHeap} (r : Nat) : aLen Try.prog h 45 (.map (some r)) = lnM (h.get r) := aLen_m (by rfl)
-- mm 45
theorem mu_45 {h : AHeap} (r : Nat) (k : IntKind) (m : Int) (y : Value) : aMapSet Try.prog h 45 (.map (some r)) (.int k m) y = muF h r k m y (h.get r) := aMapSet_m (by rfl) (by rfl)
-- sl 22
-- sl 43
theorem st_3 {h : AHeap} (a : Addr) (v : Value) : aStore Try.prog h 3 a v = stN h a v.cells 1 := aStore_n (by rfl) (by rfl) a v
theorem st_27 {h : AHeap} (a : Addr) (v : Value) : aStore Try.prog h 27 a v = stN h a v.cells 2 := aStore_n (by rfl) (by rfl) a v
theorem st_29 {h : AHeap} (a : Addr) (v : Value) : aStore Try.prog h 29 a v = stN h a v.cells 3 := aStore_n (by rfl) (by rfl) a v
theorem st_43 {h : AHeap} (a : Addr) (v : Value) : aStore Try.prog h 43 a v = stN h a v.cells 1 := aStore_n (by rfl) (by rfl) a v
theorem st_51 {h : AHeap} (a : Addr) (v : Value) : aStore Try.prog h 51 a v = stN h a v.cells 1 := aStore_n (by rfl) (by rfl) a v
theorem st_75 {h : AHeap} (a : Addr) (v : Value) : aStore Try.prog h 75 a v = stN h a v.cells 1 := aStore_n (by rfl) (by rfl) a v
-- NAMES al_3, al_27, al_29, al_51, al_75, ap_22, ap_43, ba_22_22, ba_43_43, bd_27, bd_29, bd_47, bs_22, bs_43, cl_43, bc_43, eq_24_eql_s, eq_24_eql_n, eq_24_neq_s, eq_24_neq_n, fa_29_0, fa_29_1, fa_47_0, fa_47_1, ia_22, ia_43, ld_3, ld_24, ld_27, ld_29, ld_43, ld_45, ld_51, ld_75, lk_45, lk_45n, ln_22, ln_43, ln_45, mu_45, st_3, st_27, st_29, st_43, st_51, st_75
theorem oxTy0 : type_of% (And.intro (And.intro (And.intro (And.intro (And.intro (@al_3) (@al_27)) (And.intro (@al_29) (@al_51))) (And.intro (And.intro (@al_75) (@ap_22)) (And.intro (@ap_43) (@ba_22_22)))) (And.intro (And.intro (And.intro (@ba_43_43) (@bd_27)) (And.intro (@bd_29) (@bd_47))) (And.intro (And.intro (@bs_22) (@bs_43)) (And.intro (@cl_43) (@bc_43))))) (And.intro (And.intro (And.intro (And.intro (@eq_24_eql_s) (@eq_24_eql_n)) (And.intro (@eq_24_neq_s) (@eq_24_neq_n))) (And.intro (And.intro (@fa_29_0) (@fa_29_1)) (And.intro (@fa_47_0) (@fa_47_1)))) (And.intro (And.intro (And.intro (@ia_22) (@ia_43)) (And.intro (@ld_3) (@ld_24))) (And.intro (And.intro (@ld_27) (@ld_29)) (And.intro (@ld_43) (@ld_45)))))) := And.intro (And.intro (And.intro (And.intro (And.intro (@al_3) (@al_27)) (And.intro (@al_29) (@al_51))) (And.intro (And.intro (@al_75) (@ap_22)) (And.intro (@ap_43) (@ba_22_22)))) (And.intro (And.intro (And.intro (@ba_43_43) (@bd_27)) (And.intro (@bd_29) (@bd_47))) (And.intro (And.intro (@bs_22) (@bs_43)) (And.intro (@cl_43) (@bc_43))))) (And.intro (And.intro (And.intro (And.intro (@eq_24_eql_s) (@eq_24_eql_n)) (And.intro (@eq_24_neq_s) (@eq_24_neq_n))) (And.intro (And.intro (@fa_29_0) (@fa_29_1)) (And.intro (@fa_47_0) (@fa_47_1)))) (And.intro (And.intro (And.intro (@ia_22) (@ia_43)) (And.intro (@ld_3) (@ld_24))) (And.intro (And.intro (@ld_27) (@ld_29)) (And.intro (@ld_43) (@ld_45)))))
theorem oxTy1 : type_of% (And.intro (And.intro (And.intro (@ld_51) (And.intro (@ld_75) (@lk_45))) (And.intro (And.intro (@lk_45n) (@ln_22)) (And.intro (@ln_43) (@ln_45)))) (And.intro (And.intro (@mu_45) (And.intro (@st_3) (@st_27))) (And.intro (And.intro (@st_29) (@st_43)) (And.intro (@st_51) (@st_75))))) := And.intro (And.intro (And.intro (@ld_51) (And.intro (@ld_75) (@lk_45))) (And.intro (And.intro (@lk_45n) (@ln_22)) (And.intro (@ln_43) (@ln_45)))) (And.intro (And.intro (@mu_45) (And.intro (@st_3) (@st_27))) (And.intro (And.intro (@st_29) (@st_43)) (And.intro (@st_51) (@st_75))))
end Go.Proofs
