/-
 REASONING ABOUT THE ABSTRACT RUN: a struct of a number and a struct of numbers, compared. CONDITIONS: none.
-/
import Derived.Test.YtfcajloeknedeaaGreatOxW
set_option linter.unusedSimpArgs false
set_option linter.unusedVariables false
namespace Go.Ox
section
variable {P : Program}
theorem aBin_nest {t u : TypeId} {f1 f2 : Field} {d1 : TypeDesc} {fs : Array Field} (ht : P.underlying t = some (.struct #[f1, f2])) (hp : P.stoodInHeld t = false) (hm : P.eqGuardType P.depth t = false)
  (n1 : f1.name ≠ "_") (o1 : f1.offset = 0) (u1 : P.underlying f1.type = some d1) (hd : isNum d1 = true) (n2 : f2.name ≠ "_") (hu : f2.type = u) (hu2 : P.underlying u = some (.struct fs)) (hp2 : P.stoodInHeld u = false) (hf : numsAt P 0 fs.toList = true)
  (hpart : ∀ (a : Int) (as : List Int), as.length = fs.toList.length → pureRun P (part u ((a :: as).map num).toArray f2.offset) = some (.agg (as.map num).toArray))
  (x y : Operand) (a b : Int) (as bs : List Int) (h1 : as.length = fs.toList.length) (h2 : bs.length = fs.toList.length) :
  aBin P .neq t x y (.agg ((a :: as).map num).toArray) (.agg ((b :: bs).map num).toArray) = some (.bool (!allEq (a :: as) (b :: bs))) ∧ aBin P .eql t x y (.agg ((a :: as).map num).toArray) (.agg ((b :: bs).map num).toArray) = some (.bool (allEq (a :: as) (b :: bs))) := by
 have pl : ∀ cs : List Int, plain 4 (.agg (cs.map num).toArray) = true := fun cs => by
  simp only [plain, List.all_eq_true]
  intro v hv
  obtain ⟨c, _, rfl⟩ := List.mem_map.1 hv
  rfl
 have in2 : pureRun P (Op.equalIn 9999 u (.agg (as.map num).toArray) (.agg (bs.map num).toArray)) = some (allEq as bs) := by
  rw [pr_struct 9998 _ _ hu2 hp2]
  have := pr_fields (P := P) 9997 fs.toList 0 [] as [] bs hf rfl rfl h1 h2
  simpa using this
 have key : pureRun P (Op.eqFields 9999 ((a :: as).map num).toArray ((b :: bs).map num).toArray [f1, f2]) = some (allEq (a :: as) (b :: bs)) := by
  have x1 : pureRun P (part f1.type ((a :: as).map num).toArray f1.offset) = some (num a) := pr_part u1 hd _ _ _ (by rw [o1]; simp)
  have x2 : pureRun P (part f1.type ((b :: bs).map num).toArray f1.offset) = some (num b) := pr_part u1 hd _ _ _ (by rw [o1]; simp)
  have x3 : pureRun P (Op.equalIn 9999 f1.type (num a) (num b)) = some (a == b) := pr_num u1 hd 9998 .i64 a b
  have y1 := hpart a as h1
  have y2 := hpart b bs h2
  rw [← hu] at y1 y2
  rw [← hu] at in2
  simp only [Op.eqFields, pr_ite, ne_eq, n1, n2, not_false_eq_true, if_true, pr_bind, x1, x2, x3, y1, y2, in2, Option.bind_some, pr_pure, allEq]
  cases a == b <;> cases allEq as bs <;> simp [pr_pure]
 constructor
 ·simp only [aBin, pl, Bool.and_self, if_true]
  have : pureRun P (do eqGuard .neq t x y (.agg ((a :: as).map num).toArray) (.agg ((b :: bs).map num).toArray); binOp .neq t (.agg ((a :: as).map num).toArray) (.agg ((b :: bs).map num).toArray)) = some (.bool (!allEq (a :: as) (b :: bs))) := by
   simp only [pr_bind, eqGuard, binOp, Op.equal, Op.maxDepth, pr_program, Option.bind_some, hm, pr_pure, pr_struct 9999 _ _ ht hp, key, Bool.not_false, Bool.not_true, Bool.false_eq_true, if_false, if_true]
  rw [this]; rfl
 ·simp only [aBin, pl, Bool.and_self, if_true]
  have : pureRun P (do eqGuard .eql t x y (.agg ((a :: as).map num).toArray) (.agg ((b :: bs).map num).toArray); binOp .eql t (.agg ((a :: as).map num).toArray) (.agg ((b :: bs).map num).toArray)) = some (.bool (allEq (a :: as) (b :: bs))) := by
   simp only [pr_bind, eqGuard, binOp, Op.equal, Op.maxDepth, pr_program, Option.bind_some, hm, pr_pure, pr_struct 9999 _ _ ht hp, key, Bool.not_false, Bool.not_true, Bool.false_eq_true, if_false, if_true]
  rw [this]; rfl
end
end Go.Ox
