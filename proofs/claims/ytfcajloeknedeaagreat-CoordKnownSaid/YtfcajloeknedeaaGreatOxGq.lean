/-
 FNV-1a by remainders of 64-bit numbers: the same as by bytes of 32-bit ones.
-/
import Derived.Test.YtfcajloeknedeaaGreatOxGp
set_option linter.unusedSimpArgs false
set_option linter.unusedVariables false
namespace Go.Ox
theorem wrap_u64E (n : Int) : IntKind.u64.wrap n = n % 18446744073709551616 := by
 simp only [IntKind.wrap, IntKind.bits, IntKind.signed, Bool.false_and, Bool.false_eq_true, if_false]
 rfl
theorem wrap_u32E (n : Int) : IntKind.u32.wrap n = n % 4294967296 := by
 simp only [IntKind.wrap, IntKind.bits, IntKind.signed, Bool.false_and, Bool.false_eq_true, if_false]
 rfl
theorem bv_nat (w n : Nat) (h : n < 2 ^ w) : (BitVec.ofInt w (n : Int)).toNat = n := by
 rw [BitVec.ofInt_natCast, BitVec.toNat_ofNat, Nat.mod_eq_of_lt h]
theorem xor_nat (w a b : Nat) (ha : a < 2 ^ w) (hb : b < 2 ^ w) : (BitVec.ofInt w (a : Int) ^^^ BitVec.ofInt w (b : Int)).toNat = a ^^^ b := by
 rw [BitVec.toNat_xor, bv_nat w a ha, bv_nat w b hb]
theorem and_nat (N : Nat) (hN : N < 18446744073709551616) : (BitVec.ofInt IntKind.u64.bits (N : Int) &&& BitVec.ofInt IntKind.u64.bits 255).toNat = N % 256 := by
 have h1 := bv_nat 64 N (by omega)
 have h2 := bv_nat 64 255 (by omega)
 show (BitVec.ofInt 64 (N : Int) &&& BitVec.ofInt 64 ((255 : Nat) : Int)).toNat = _
 rw [BitVec.toNat_and, h1, h2]
 exact Nat.and_two_pow_sub_one_eq_mod N 8
theorem fnvH_nat (h k : Int) : ∃ H' : Nat, fnvH h k = (H' : Int) ∧ H' < 4294967296 := by
 have hr : 0 ≤ fnvH h k ∧ fnvH h k < 4294967296 := wrap_u32 _
 obtain ⟨n, hn⟩ := Int.eq_ofNat_of_zero_le hr.1
 refine ⟨n, hn, ?_⟩
 have := hr.2
 rw [hn] at this
 omega
/-- One step of it. -/
theorem fnvH_mod (H N : Nat) (hH : H < 4294967296) (hN : N < 18446744073709551616) :
  (IntKind.u64.wrap (IntKind.u64.wrap ((BitVec.ofInt IntKind.u64.bits (H : Int) ^^^ BitVec.ofInt IntKind.u64.bits ((N : Int).tmod 256)).toNat : Int) * 16777619)).tmod 4294967296 = fnvH H N ∧ IntKind.u64.wrap ((N : Int).tdiv 256) = (N : Int).fdiv 256 := by
 have hm : (N : Int).tmod 256 = ((N % 256 : Nat) : Int) := by rw [Int.tmod_eq_emod_of_nonneg (by omega)]; omega
 have hx : H ^^^ (N % 256) < 4294967296 := Nat.xor_lt_two_pow (n := 32) hH (by omega)
 have e64 : (BitVec.ofInt IntKind.u64.bits (H : Int) ^^^ BitVec.ofInt IntKind.u64.bits ((N % 256 : Nat) : Int)).toNat = H ^^^ (N % 256) := xor_nat 64 _ _ (by omega) (by omega)
 have e32 : (BitVec.ofInt IntKind.u32.bits (H : Int) ^^^ BitVec.ofInt IntKind.u32.bits ((N % 256 : Nat) : Int)).toNat = H ^^^ (N % 256) := xor_nat 32 _ _ (by omega) (by omega)
 constructor
 ·rw [hm, e64]
  unfold fnvH
  rw [and_nat N hN]
  have w1 : IntKind.u32.wrap (IntKind.u64.wrap ((N % 256 : Nat) : Int)) = ((N % 256 : Nat) : Int) := by rw [wrap_u64E, wrap_u32E]; omega
  rw [w1, e32]
  generalize H ^^^ (N % 256) = X at hx
  have w2 : IntKind.u32.wrap (X : Int) = (X : Int) := by rw [wrap_u32E]; omega
  have w3 : IntKind.u64.wrap (X : Int) = (X : Int) := by rw [wrap_u64E]; omega
  have w4 : IntKind.u64.wrap ((X : Int) * 16777619) = (X : Int) * 16777619 := by rw [wrap_u64E]; omega
  rw [w2, w3, w4, wrap_u32E, Int.tmod_eq_emod_of_nonneg (by omega)]
 ·rw [Int.tdiv_eq_ediv_of_nonneg (by omega), Int.fdiv_eq_ediv_of_nonneg _ (by omega), wrap_u64E]; omega
end Go.Ox
