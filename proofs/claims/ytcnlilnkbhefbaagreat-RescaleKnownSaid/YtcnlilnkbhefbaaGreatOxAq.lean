/-
 THE ABSTRACT EVALUATOR: two arrays of two numbers compared. CONDITIONS: none.
-/
import Derived.Test.YtcnlilnkbhefbaaGreatOxV
set_option linter.unusedSimpArgs false
set_option linter.unusedVariables false
namespace Go.Ox
section
variable {P : Program}
theorem pr_arr2 {t e : TypeId} {k : IntKind} (ht : P.underlying t = some (.array 2 e)) (he : P.underlying e = some (.int k)) (hs : pureRun P (sizeOf e) = some 1) (d : Nat) (a b a' b' : Int) (hd : ∀ x y : Int, pureRun P (Op.equalIn d e (.int .i64 x) (.int .i64 y)) = some (x == y)) :
  pureRun P (Op.equalIn (d + 1) t (.agg #[.int .i64 a, .int .i64 b]) (.agg #[.int .i64 a', .int .i64 b'])) = some (decide (a = a' ∧ b = b')) := by
 have hp0 : ∀ x y : Int, pureRun P (part e #[Value.int .i64 x, Value.int .i64 y] 0) = some (.int .i64 x) := fun x y => pr_part he rfl _ _ _ rfl
 have hp1 : ∀ x y : Int, pureRun P (part e #[Value.int .i64 x, Value.int .i64 y] 1) = some (.int .i64 y) := fun x y => pr_part he rfl _ _ _ rfl
 simp only [Op.equalIn, pr_bind, pr_underlying ht, Option.bind_some, hs, Std.Legacy.Range.forIn_eq_forIn_range', Std.Legacy.Range.size]
 simp only [Nat.sub_zero, Nat.add_sub_cancel, Nat.div_one, List.range'_succ, List.range'_zero, List.forIn_cons, List.forIn_nil, pr_bind, Nat.zero_mul, Nat.zero_add, Nat.one_mul, hp0, hp1, hd, Option.bind_some, pr_ite, pr_pure]
 by_cases h1 : a = a' <;> by_cases h2 : b = b' <;> simp [h1, h2, hd, hp0, hp1, pr_bind, pr_pure, pr_ite]
theorem aBin_arr2 {t e : TypeId} {k : IntKind} (ht : P.underlying t = some (.array 2 e)) (he : P.underlying e = some (.int k)) (hs : pureRun P (sizeOf e) = some 1) (hm : P.eqGuardType P.depth t = false) (x y : Operand) (a b a' b' : Int) :
  aBin P .neq t x y (.agg #[.int .i64 a, .int .i64 b]) (.agg #[.int .i64 a', .int .i64 b']) = some (.bool (!decide (a = a' ∧ b = b'))) ∧ aBin P .eql t x y (.agg #[.int .i64 a, .int .i64 b]) (.agg #[.int .i64 a', .int .i64 b']) = some (.bool (decide (a = a' ∧ b = b'))) := by
 have pl : ∀ u v : Int, plain 4 (.agg #[.int .i64 u, .int .i64 v]) = true := fun u v => by simp [plain]
 have key := pr_arr2 ht he hs 9999 a b a' b' fun x y => pr_num he rfl 9998 .i64 x y
 constructor
 ·simp only [aBin, pl, Bool.and_self, if_true]
  have : pureRun P (do eqGuard .neq t x y (.agg #[.int .i64 a, .int .i64 b]) (.agg #[.int .i64 a', .int .i64 b']); binOp .neq t (.agg #[.int .i64 a, .int .i64 b]) (.agg #[.int .i64 a', .int .i64 b'])) = some (.bool (!decide (a = a' ∧ b = b'))) := by
   simp only [pr_bind, eqGuard, binOp, Op.equal, Op.maxDepth, pr_program, Option.bind_some, hm, pr_pure, key, Bool.not_false, Bool.not_true, Bool.false_eq_true, if_false, if_true]
  rw [this]; rfl
 ·simp only [aBin, pl, Bool.and_self, if_true]
  have : pureRun P (do eqGuard .eql t x y (.agg #[.int .i64 a, .int .i64 b]) (.agg #[.int .i64 a', .int .i64 b']); binOp .eql t (.agg #[.int .i64 a, .int .i64 b]) (.agg #[.int .i64 a', .int .i64 b'])) = some (.bool (decide (a = a' ∧ b = b'))) := by
   simp only [pr_bind, eqGuard, binOp, Op.equal, Op.maxDepth, pr_program, Option.bind_some, hm, pr_pure, key, Bool.not_false, Bool.not_true, Bool.false_eq_true, if_false, if_true]
  rw [this]; rfl
end
end Go.Ox
