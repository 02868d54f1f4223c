/-
 GROUPS OF KEYS (FNV-1a), and functions that are not handed out. CONDITIONS: none.
-/
import Derived.Test.YtfcajloeknedeaaGreatOxW
set_option linter.unusedSimpArgs false
set_option linter.unusedVariables false
namespace Go.Ox
/-- None of these functions is one of which a summary is known. -/
def Out {P : Program} (X : Ext P) (l : List FuncId) : Prop := ∀ f, f ∈ l → X.fs.contains f = false ∧ X.xs.contains f = false
theorem Out.no {P : Program} {X : Ext P} {l : List FuncId} (o : Out X l) {f : FuncId} (hf : f ∈ l) {b : Bool} : (X.fs.contains f && b || X.xs.contains f) = false := by
 rw [(o f hf).1, (o f hf).2]; rfl
theorem Out.sub {P : Program} {X : Ext P} {l m : List FuncId} (o : Out X l) (h : ∀ f, f ∈ m → f ∈ l) : Out X m := fun f hf => o f (h f hf)

theorem aInt_and (k : IntKind) (a b : Int) : aInt .and k a k b = some (.int k (k.wrap (BitVec.ofInt k.bits a &&& BitVec.ofInt k.bits b).toNat)) := by simp [aInt]
theorem aInt_xor (k : IntKind) (a b : Int) : aInt .xor k a k b = some (.int k (k.wrap (BitVec.ofInt k.bits a ^^^ BitVec.ofInt k.bits b).toNat)) := by simp [aInt]
theorem aInt_shr8 (k : IntKind) (hk : 8 ≤ k.bits) (a : Int) (l : IntKind) : aInt .shr k a l 8 = some (.int k (a.fdiv 256)) := by
 have h8 : (8 : Int).toNat = 8 := rfl
 simp [aInt, h8, Nat.min_eq_left hk]
def fnvH (h k : Int) : Int := IntKind.u32.wrap (IntKind.u32.wrap ((BitVec.ofInt IntKind.u32.bits h ^^^ BitVec.ofInt IntKind.u32.bits (IntKind.u32.wrap (IntKind.u64.wrap ((BitVec.ofInt IntKind.u64.bits k &&& BitVec.ofInt IntKind.u64.bits 255).toNat : Int)))).toNat : Int) * 16777619)
def fnv : Nat → Int → Int → Int
 | 0, h, _ => h
 | n + 1, h, k => fnv n (fnvH h k) (k.fdiv 256)
/-- A key's group. -/
def grp (key groups : Int) : Int :=
 if groups < 1 ∨ 64 < groups then 0 else IntKind.i64.wrap ((fnv 8 2166136261 (IntKind.u64.wrap key)).tmod (IntKind.u32.wrap groups))

theorem wrap_u32 (n : Int) : 0 ≤ IntKind.u32.wrap n ∧ IntKind.u32.wrap n < 4294967296 := by
 have h : IntKind.u32.wrap n = n % 4294967296 := by
  simp only [IntKind.wrap, IntKind.bits, IntKind.signed, Bool.false_and, Bool.false_eq_true, if_false]
  rfl
 rw [h]
 omega
theorem fnv_lt : ∀ (n : Nat) (h k : Int), 0 ≤ h → h < 4294967296 → 0 ≤ fnv n h k ∧ fnv n h k < 4294967296
 | 0, h, k, h0, h1 => ⟨h0, h1⟩
 | n + 1, h, k, _, _ => fnv_lt n _ _ (wrap_u32 _).1 (wrap_u32 _).2
theorem grp_lt (key groups : Int) : 0 ≤ grp key groups ∧ grp key groups < 64 ∧ (1 ≤ groups → groups ≤ 64 → grp key groups < groups) := by
 unfold grp
 split
 ·omega
 ·rename_i hg
  have h0 : IntKind.u32.wrap groups = groups := by
   have h : IntKind.u32.wrap groups = groups % 4294967296 := by
    simp only [IntKind.wrap, IntKind.bits, IntKind.signed, Bool.false_and, Bool.false_eq_true, if_false]
    rfl
   rw [h]; omega
  have h1 := fnv_lt 8 2166136261 (IntKind.u64.wrap key) (by omega) (by omega)
  rw [h0]
  have h2 := Int.tmod_nonneg groups h1.1
  have h3 := Int.tmod_lt_of_pos (fnv 8 2166136261 (IntKind.u64.wrap key)) (show 0 < groups by omega)
  rw [wrap_i64 (by omega) (by omega)]
  omega
def cmpI (a b : Int) : Int := if a < b then -1 else if b < a then 1 else 0
/-- What the order of keys answers. -/
def gkCmp (g a b : Int) : Int := if cmpI (grp a g) (grp b g) ≠ 0 then cmpI (grp a g) (grp b g) else cmpI a b
end Go.Ox
