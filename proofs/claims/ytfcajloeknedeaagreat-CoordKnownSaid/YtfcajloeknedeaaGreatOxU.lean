/-
 REASONING ABOUT THE ABSTRACT RUN, part 5: the kinds of operations (printed by mkR2.py).
-/
import Derived.Test.YtfcajloeknedeaaGreatOxS
set_option linter.unusedSimpArgs false
set_option linter.unusedVariables false
namespace Go.Ox
theorem kc_move (x : Operand) : isChainOp (.move x) = false := congrArg id rfl
theorem ka_move (x : Operand) : isAllocOp (.move x) = false := congrArg id rfl
theorem kr_move (x : Operand) : readsHeap (.move x) = false := congrArg id rfl
theorem kc_assign (x : Operand) : isChainOp (.assign x) = false := congrArg id rfl
theorem ka_assign (x : Operand) : isAllocOp (.assign x) = false := congrArg id rfl
theorem kr_assign (x : Operand) : readsHeap (.assign x) = false := congrArg id rfl
theorem kc_pick (x y z : Operand) : isChainOp (.pick x y z) = false := congrArg id rfl
theorem ka_pick (x y z : Operand) : isAllocOp (.pick x y z) = false := congrArg id rfl
theorem kr_pick (x y z : Operand) : readsHeap (.pick x y z) = false := congrArg id rfl
theorem kc_alloc (t : TypeId) : isChainOp (.alloc t) = false := congrArg id rfl
theorem ka_alloc (t : TypeId) : isAllocOp (.alloc t) = true := congrArg id rfl
theorem kr_alloc (t : TypeId) : readsHeap (.alloc t) = false := congrArg id rfl
theorem kc_box (t : TypeId) (x : Operand) : isChainOp (.box t x) = false := congrArg id rfl
theorem ka_box (t : TypeId) (x : Operand) : isAllocOp (.box t x) = true := congrArg id rfl
theorem kr_box (t : TypeId) (x : Operand) : readsHeap (.box t x) = false := congrArg id rfl
theorem kc_build (t : TypeId) (a : Array (Nat × Operand)) : isChainOp (.build t a) = false := congrArg id rfl
theorem ka_build (t : TypeId) (a : Array (Nat × Operand)) : isAllocOp (.build t a) = false := congrArg id rfl
theorem kr_build (t : TypeId) (a : Array (Nat × Operand)) : readsHeap (.build t a) = false := congrArg id rfl
theorem kc_buildSlice (t n : Nat) (a : Array (Nat × Operand)) : isChainOp (.buildSlice t n a) = false := congrArg id rfl
theorem ka_buildSlice (t n : Nat) (a : Array (Nat × Operand)) : isAllocOp (.buildSlice t n a) = true := congrArg id rfl
theorem kr_buildSlice (t n : Nat) (a : Array (Nat × Operand)) : readsHeap (.buildSlice t n a) = false := congrArg id rfl
theorem kc_insert (t : TypeId) (x y z : Operand) : isChainOp (.insert t x y z) = true := congrArg id rfl
theorem ka_insert (t : TypeId) (x y z : Operand) : isAllocOp (.insert t x y z) = false := congrArg id rfl
theorem kr_insert (t : TypeId) (x y z : Operand) : readsHeap (.insert t x y z) = false := congrArg id rfl
theorem kc_load (t : TypeId) (x : Operand) : isChainOp (.load t x) = false := congrArg id rfl
theorem ka_load (t : TypeId) (x : Operand) : isAllocOp (.load t x) = false := congrArg id rfl
theorem kr_load (t : TypeId) (x : Operand) : readsHeap (.load t x) = true := congrArg id rfl
theorem kc_store (t : TypeId) (x y : Operand) : isChainOp (.store t x y) = true := congrArg id rfl
theorem ka_store (t : TypeId) (x y : Operand) : isAllocOp (.store t x y) = false := congrArg id rfl
theorem kr_store (t : TypeId) (x y : Operand) : readsHeap (.store t x y) = false := congrArg id rfl
theorem kc_nilCheck (x : Operand) : isChainOp (.nilCheck x) = false := congrArg id rfl
theorem ka_nilCheck (x : Operand) : isAllocOp (.nilCheck x) = false := congrArg id rfl
theorem kr_nilCheck (x : Operand) : readsHeap (.nilCheck x) = false := congrArg id rfl
theorem kc_binOp (o : BinOp) (t u : TypeId) (x y : Operand) : isChainOp (.binOp o t x y u) = false := congrArg id rfl
theorem ka_binOp (o : BinOp) (t u : TypeId) (x y : Operand) : isAllocOp (.binOp o t x y u) = false := congrArg id rfl
theorem kr_binOp (o : BinOp) (t u : TypeId) (x y : Operand) : readsHeap (.binOp o t x y u) = false := congrArg id rfl
theorem kc_unOp (o : UnOp) (t : TypeId) (x : Operand) : isChainOp (.unOp o t x) = false := congrArg id rfl
theorem ka_unOp (o : UnOp) (t : TypeId) (x : Operand) : isAllocOp (.unOp o t x) = false := congrArg id rfl
theorem kr_unOp (o : UnOp) (t : TypeId) (x : Operand) : readsHeap (.unOp o t x) = false := congrArg id rfl
theorem kc_convert (t u : TypeId) (x : Operand) : isChainOp (.convert t u x) = false := congrArg id rfl
theorem ka_convert (t u : TypeId) (x : Operand) : isAllocOp (.convert t u x) = false := congrArg id rfl
theorem kr_convert (t u : TypeId) (x : Operand) : readsHeap (.convert t u x) = false := congrArg id rfl
theorem kc_makeInterface (t : TypeId) (x : Operand) : isChainOp (.makeInterface t x) = false := congrArg id rfl
theorem ka_makeInterface (t : TypeId) (x : Operand) : isAllocOp (.makeInterface t x) = false := congrArg id rfl
theorem kr_makeInterface (t : TypeId) (x : Operand) : readsHeap (.makeInterface t x) = false := congrArg id rfl
theorem kc_makeFunc (f : Fn) (a b : Array Operand) : isChainOp (.makeFunc f a b) = false := congrArg id rfl
theorem ka_makeFunc (f : Fn) (a b : Array Operand) : isAllocOp (.makeFunc f a b) = false := congrArg id rfl
theorem kr_makeFunc (f : Fn) (a b : Array Operand) : readsHeap (.makeFunc f a b) = false := congrArg id rfl
theorem kc_makeMap (t : TypeId) (r : Option Operand) : isChainOp (.makeMap t r) = false := congrArg id rfl
theorem ka_makeMap (t : TypeId) (r : Option Operand) : isAllocOp (.makeMap t r) = true := congrArg id rfl
theorem kr_makeMap (t : TypeId) (r : Option Operand) : readsHeap (.makeMap t r) = false := congrArg id rfl
theorem kc_makeSlice (t : TypeId) (x y : Operand) : isChainOp (.makeSlice t x y) = false := congrArg id rfl
theorem ka_makeSlice (t : TypeId) (x y : Operand) : isAllocOp (.makeSlice t x y) = true := congrArg id rfl
theorem kr_makeSlice (t : TypeId) (x y : Operand) : readsHeap (.makeSlice t x y) = false := congrArg id rfl
theorem kc_slice (t : TypeId) (x : Operand) (a b c : Option Operand) : isChainOp (.slice t x a b c) = false := congrArg id rfl
theorem ka_slice (t : TypeId) (x : Operand) (a b c : Option Operand) : isAllocOp (.slice t x a b c) = false := congrArg id rfl
theorem kr_slice (t : TypeId) (x : Operand) (a b c : Option Operand) : readsHeap (.slice t x a b c) = true := congrArg id rfl
theorem kc_fieldAddr (t : TypeId) (x : Operand) (f : Nat) : isChainOp (.fieldAddr t x f) = false := congrArg id rfl
theorem ka_fieldAddr (t : TypeId) (x : Operand) (f : Nat) : isAllocOp (.fieldAddr t x f) = false := congrArg id rfl
theorem kr_fieldAddr (t : TypeId) (x : Operand) (f : Nat) : readsHeap (.fieldAddr t x f) = false := congrArg id rfl
theorem kc_field (t : TypeId) (x : Operand) (f : Nat) : isChainOp (.field t x f) = false := congrArg id rfl
theorem ka_field (t : TypeId) (x : Operand) (f : Nat) : isAllocOp (.field t x f) = false := congrArg id rfl
theorem kr_field (t : TypeId) (x : Operand) (f : Nat) : readsHeap (.field t x f) = false := congrArg id rfl
theorem kc_indexAddr (t : TypeId) (x y : Operand) : isChainOp (.indexAddr t x y) = false := congrArg id rfl
theorem ka_indexAddr (t : TypeId) (x y : Operand) : isAllocOp (.indexAddr t x y) = false := congrArg id rfl
theorem kr_indexAddr (t : TypeId) (x y : Operand) : readsHeap (.indexAddr t x y) = false := congrArg id rfl
theorem kc_index (t : TypeId) (x y : Operand) : isChainOp (.index t x y) = false := congrArg id rfl
theorem ka_index (t : TypeId) (x y : Operand) : isAllocOp (.index t x y) = false := congrArg id rfl
theorem kr_index (t : TypeId) (x y : Operand) : readsHeap (.index t x y) = false := congrArg id rfl
theorem kc_lookup (t : TypeId) (x y : Operand) (b : Bool) : isChainOp (.lookup t x y b) = false := congrArg id rfl
theorem ka_lookup (t : TypeId) (x y : Operand) (b : Bool) : isAllocOp (.lookup t x y b) = false := congrArg id rfl
theorem kr_lookup (t : TypeId) (x y : Operand) (b : Bool) : readsHeap (.lookup t x y b) = true := congrArg id rfl
theorem kc_mapUpdate (t : TypeId) (x y z : Operand) : isChainOp (.mapUpdate t x y z) = true := congrArg id rfl
theorem ka_mapUpdate (t : TypeId) (x y z : Operand) : isAllocOp (.mapUpdate t x y z) = false := congrArg id rfl
theorem kr_mapUpdate (t : TypeId) (x y z : Operand) : readsHeap (.mapUpdate t x y z) = false := congrArg id rfl
theorem kc_extract (x : Operand) (i : Nat) : isChainOp (.extract x i) = false := congrArg id rfl
theorem ka_extract (x : Operand) (i : Nat) : isAllocOp (.extract x i) = false := congrArg id rfl
theorem kr_extract (x : Operand) (i : Nat) : readsHeap (.extract x i) = false := congrArg id rfl
theorem kc_callv (f : Operand) (as : Array Operand) (ts : Array TypeId) : isChainOp (.call ⟨.value f, as, ts⟩) = true := congrArg id rfl
theorem ka_callv (f : Operand) (as : Array Operand) (ts : Array TypeId) : isAllocOp (.call ⟨.value f, as, ts⟩) = false := congrArg id rfl
theorem kr_callv (f : Operand) (as : Array Operand) (ts : Array TypeId) : readsHeap (.call ⟨.value f, as, ts⟩) = true := congrArg id rfl
theorem kc_len (as : Array Operand) (ts : Array TypeId) : isChainOp (.call ⟨.builtin .len, as, ts⟩) = false := congrArg id rfl
theorem ka_len (as : Array Operand) (ts : Array TypeId) : isAllocOp (.call ⟨.builtin .len, as, ts⟩) = false := congrArg id rfl
theorem kr_len (as : Array Operand) (ts : Array TypeId) : readsHeap (.call ⟨.builtin .len, as, ts⟩) = true := congrArg id rfl
theorem kc_min (as : Array Operand) (ts : Array TypeId) : isChainOp (.call ⟨.builtin .min, as, ts⟩) = false := congrArg id rfl
theorem ka_min (as : Array Operand) (ts : Array TypeId) : isAllocOp (.call ⟨.builtin .min, as, ts⟩) = false := congrArg id rfl
theorem kr_min (as : Array Operand) (ts : Array TypeId) : readsHeap (.call ⟨.builtin .min, as, ts⟩) = true := congrArg id rfl
theorem kc_max (as : Array Operand) (ts : Array TypeId) : isChainOp (.call ⟨.builtin .max, as, ts⟩) = false := congrArg id rfl
theorem ka_max (as : Array Operand) (ts : Array TypeId) : isAllocOp (.call ⟨.builtin .max, as, ts⟩) = false := congrArg id rfl
theorem kr_max (as : Array Operand) (ts : Array TypeId) : readsHeap (.call ⟨.builtin .max, as, ts⟩) = true := congrArg id rfl
theorem kc_append (as : Array Operand) (ts : Array TypeId) : isChainOp (.call ⟨.builtin .append, as, ts⟩) = true := congrArg id rfl
theorem ka_append (as : Array Operand) (ts : Array TypeId) : isAllocOp (.call ⟨.builtin .append, as, ts⟩) = false := congrArg id rfl
theorem kr_append (as : Array Operand) (ts : Array TypeId) : readsHeap (.call ⟨.builtin .append, as, ts⟩) = true := congrArg id rfl
theorem kc_copy (as : Array Operand) (ts : Array TypeId) : isChainOp (.call ⟨.builtin .copy, as, ts⟩) = true := congrArg id rfl
theorem ka_copy (as : Array Operand) (ts : Array TypeId) : isAllocOp (.call ⟨.builtin .copy, as, ts⟩) = false := congrArg id rfl
theorem kr_copy (as : Array Operand) (ts : Array TypeId) : readsHeap (.call ⟨.builtin .copy, as, ts⟩) = true := congrArg id rfl
theorem kc_delete (as : Array Operand) (ts : Array TypeId) : isChainOp (.call ⟨.builtin .delete, as, ts⟩) = true := congrArg id rfl
theorem ka_delete (as : Array Operand) (ts : Array TypeId) : isAllocOp (.call ⟨.builtin .delete, as, ts⟩) = false := congrArg id rfl
theorem kr_delete (as : Array Operand) (ts : Array TypeId) : readsHeap (.call ⟨.builtin .delete, as, ts⟩) = true := congrArg id rfl
theorem kc_clear (as : Array Operand) (ts : Array TypeId) : isChainOp (.call ⟨.builtin .clear, as, ts⟩) = true := congrArg id rfl
theorem ka_clear (as : Array Operand) (ts : Array TypeId) : isAllocOp (.call ⟨.builtin .clear, as, ts⟩) = false := congrArg id rfl
theorem kr_clear (as : Array Operand) (ts : Array TypeId) : readsHeap (.call ⟨.builtin .clear, as, ts⟩) = true := congrArg id rfl
end Go.Ox
-- NAMES kc_move, ka_move, kr_move, kc_assign, ka_assign, kr_assign, kc_pick, ka_pick, kr_pick, kc_alloc, ka_alloc, kr_alloc, kc_box, ka_box, kr_box, kc_build, ka_build, kr_build, kc_buildSlice, ka_buildSlice, kr_buildSlice, kc_insert, ka_insert, kr_insert, kc_load, ka_load, kr_load, kc_store, ka_store, kr_store, kc_nilCheck, ka_nilCheck, kr_nilCheck, kc_binOp, ka_binOp, kr_binOp, kc_unOp, ka_unOp, kr_unOp, kc_convert, ka_convert, kr_convert, kc_makeInterface, ka_makeInterface, kr_makeInterface, kc_makeFunc, ka_makeFunc, kr_makeFunc, kc_makeMap, ka_makeMap, kr_makeMap, kc_makeSlice, ka_makeSlice, kr_makeSlice, kc_slice, ka_slice, kr_slice, kc_fieldAddr, ka_fieldAddr, kr_fieldAddr, kc_field, ka_field, kr_field, kc_indexAddr, ka_indexAddr, kr_indexAddr, kc_index, ka_index, kr_index, kc_lookup, ka_lookup, kr_lookup, kc_mapUpdate, ka_mapUpdate, kr_mapUpdate, kc_extract, ka_extract, kr_extract, kc_callv, ka_callv, kr_callv, kc_len, ka_len, kr_len, kc_min, ka_min, kr_min, kc_max, ka_max, kr_max, kc_append, ka_append, kr_append, kc_copy, ka_copy, kr_copy, kc_delete, ka_delete, kr_delete, kc_clear, ka_clear, kr_clear
