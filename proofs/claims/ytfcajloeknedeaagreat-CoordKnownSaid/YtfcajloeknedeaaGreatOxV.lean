/-
  REASONING ABOUT THE ABSTRACT RUN, part 6: structs of numbers compared.
-/
import Derived.Test.YtfcajloeknedeaaGreatOxU
import Derived.Laws.StructEq
set_option linter.unusedSimpArgs false
set_option linter.unusedVariables false
namespace Go.Ox
section
variable {P : Program}

theorem pr_pure {α : Type} (a : α) : pureRun P (pure a : Sem α) = some a := rfl
theorem pr_bind {α β : Type} : ∀ (s : Sem α) (k : α → Sem β), pureRun P (s >>= k) = (pureRun P s).bind fun a => pureRun P (k a)
  | .pure a, k => rfl
  | .program f, k => pr_bind (f P) k
  | .load .., _ | .store .., _ | .new .., _ | .shape .., _ | .freeze .., _ | .frozen .., _ | .getObj .., _ | .setObj .., _ | .choose .., _ | .sys .., _ | .mark .., _ | .halt _, _ => rfl
theorem pr_program : pureRun P program = some P := rfl
theorem pr_underlying {t : TypeId} {d : TypeDesc} (h : P.underlying t = some d) : pureRun P (underlying t) = some d := by
  simp only [underlying, pr_bind, pr_program, Option.bind_some, h, pr_pure]
theorem pr_ite {α : Type} (c : Prop) [Decidable c] (a b : Sem α) : pureRun P (if c then a else b) = if c then pureRun P a else pureRun P b := by split <;> rfl

theorem pr_struct {t : TypeId} {fs : Array Field} (d : Nat) (xs ys : Array Value) (ht : P.underlying t = some (.struct fs)) (hp : P.stoodInHeld t = false) :
    pureRun P (Op.equalIn (d + 1) t (.agg xs) (.agg ys)) = pureRun P (Op.eqFields d xs ys fs.toList) := by
  simp only [Op.equalIn, pr_bind, pr_underlying ht, Option.bind_some, pr_program, hp, Bool.false_eq_true, if_false]
  rw [← Array.forIn_toList]
  generalize fs.toList = fs
  clear ht
  induction fs with
  | nil => simp [Op.eqFields, pr_pure]
  | cons f fs ih =>
    simp only [List.forIn_cons, Op.eqFields, pr_bind, pr_ite]
    split
    · cases pureRun P (part f.type xs f.offset) with
      | none => rfl
      | some a => cases pureRun P (part f.type ys f.offset) with
        | none => rfl
        | some b =>
          simp only [Option.bind_some]
          cases pureRun P (Op.equalIn d f.type a b) with
          | none => rfl
          | some r => cases r
                      · simp only [Option.bind_some, Bool.not_false, if_true, pr_pure]
                      · simp only [Option.bind_some, Bool.not_true, Bool.false_eq_true, if_false, pr_pure]
                        exact ih
    · simp only [pr_pure, Option.bind_some]
      exact ih

def isNum : TypeDesc → Bool
  | .int _ => true
  | _ => false

/-- Fields that are numbers, laid one after the other. -/
def numsAt (P : Program) : Nat → List Field → Bool
  | _, [] => true
  | k, f :: fs => (f.name != "_") && (f.offset == k) && ((P.underlying f.type).any isNum) && numsAt P (k + 1) fs

def num (n : Int) : Value := .int .i64 n

def allEq : List Int → List Int → Bool
  | a :: as, b :: bs => (a == b) && allEq as bs
  | _, _ => true
theorem allEq_iff : ∀ {as bs : List Int}, as.length = bs.length → (allEq as bs = true ↔ as = bs)
  | [], [], _ => by simp [allEq]
  | a :: as, b :: bs, h => by simp [allEq, allEq_iff (as := as) (bs := bs) (by simpa using h)]
  | [], _ :: _, h => by simp at h
  | _ :: _, [], h => by simp at h

theorem pr_part {t : TypeId} {d : TypeDesc} (h : P.underlying t = some d) (hn : isNum d = true) (xs : Array Value) (o : Nat) (v : Value) (hv : xs[o]? = some v) : pureRun P (part t xs o) = some v := by
  cases d <;> first | (simp [isNum] at hn; done) | skip
  simp only [part, isAgg, pr_bind, pr_underlying h, Option.bind_some, pr_pure, Bool.false_eq_true, if_false, hv]

theorem pr_num {t : TypeId} {d : TypeDesc} (h : P.underlying t = some d) (hn : isNum d = true) (m : Nat) (k : IntKind) (a b : Int) : pureRun P (Op.equalIn (m + 1) t (.int k a) (.int k b)) = some (a == b) := by
  cases d <;> first | (simp [isNum] at hn; done) | skip
  simp [Op.equalIn, pr_bind, pr_underlying h, pr_pure]

theorem pr_fields (m : Nat) : ∀ (fs : List Field) (k : Nat) (pre as pre' bs : List Int), numsAt P k fs = true → pre.length = k → pre'.length = k → as.length = fs.length → bs.length = fs.length →
    pureRun P (Op.eqFields (m + 1) ((pre ++ as).map num).toArray ((pre' ++ bs).map num).toArray fs) = some (allEq as bs)
  | [], k, pre, [], pre', [], _, _, _, _, _ => rfl
  | f :: fs, k, pre, a :: as, pre', b :: bs, hf, h1, h2, h3, h4 => by
    simp only [numsAt, Bool.and_eq_true, bne_iff_ne, ne_eq, beq_iff_eq] at hf
    obtain ⟨⟨⟨e1, e2⟩, e3⟩, e4⟩ := hf
    cases hu : P.underlying f.type with
    | none => rw [hu] at e3; simp at e3
    | some d =>
      rw [hu] at e3
      have hn : isNum d = true := by simpa using e3
      have x1 : ((pre ++ a :: as).map num).toArray[f.offset]? = some (num a) := by rw [e2, ← h1]; simp
      have x2 : ((pre' ++ b :: bs).map num).toArray[f.offset]? = some (num b) := by rw [e2, ← h2]; simp
      simp only [Op.eqFields, pr_ite, ne_eq, e1, not_false_eq_true, if_true, pr_bind, pr_part hu hn _ _ _ x1, pr_part hu hn _ _ _ x2, Option.bind_some]
      rw [show Op.equalIn (m + 1) f.type (num a) (num b) = Op.equalIn (m + 1) f.type (.int .i64 a) (.int .i64 b) from rfl, pr_num hu hn]
      have ih := pr_fields m fs (k + 1) (pre ++ [a]) as (pre' ++ [b]) bs e4 (by simp [h1]) (by simp [h2]) (by simpa using h3) (by simpa using h4)
      simp only [List.append_assoc, List.singleton_append] at ih
      simp only [Option.bind_some, ih, allEq]
      cases (a == b) <;> simp [pr_pure]
  | [], _, _, _ :: _, _, _, _, _, _, h, _ => by simp at h
  | [], _, _, [], _, _ :: _, _, _, _, _, h => by simp at h
  | _ :: _, _, _, [], _, _, _, _, _, h, _ => by simp at h
  | _ :: _, _, _, _ :: _, _, [], _, _, _, _, h => by simp at h

/-- Two structs of numbers, compared. -/
theorem aBin_nums {t : TypeId} {fs : Array Field} (ht : P.underlying t = some (.struct fs)) (hp : P.stoodInHeld t = false) (hm : P.eqGuardType P.depth t = false) (hf : numsAt P 0 fs.toList = true) (x y : Operand) (as bs : List Int) (h1 : as.length = fs.toList.length) (h2 : bs.length = fs.toList.length) :
    aBin P .neq t x y (.agg (as.map num).toArray) (.agg (bs.map num).toArray) = some (.bool (!allEq as bs)) ∧ aBin P .eql t x y (.agg (as.map num).toArray) (.agg (bs.map num).toArray) = some (.bool (allEq as bs)) := by
  have pl : ∀ cs : List Int, plain 4 (.agg (cs.map num).toArray) = true := fun cs => by
    simp only [plain, List.all_eq_true]
    intro v hv
    obtain ⟨c, _, rfl⟩ := List.mem_map.1 hv
    rfl
  have key := pr_fields (P := P) 9998 fs.toList 0 [] as [] bs hf rfl rfl h1 h2
  simp only [List.nil_append] at key
  constructor
  · simp only [aBin, pl, Bool.and_self, if_true]
    have : pureRun P (do eqGuard .neq t x y (.agg (as.map num).toArray) (.agg (bs.map num).toArray); binOp .neq t (.agg (as.map num).toArray) (.agg (bs.map num).toArray)) = some (.bool (!allEq as bs)) := by
      simp only [pr_bind, eqGuard, binOp, Op.equal, Op.maxDepth, pr_program, Option.bind_some, hm, pr_pure, pr_struct 9999 _ _ ht hp, key, Bool.not_false, Bool.not_true, Bool.false_eq_true, if_false, if_true]
    rw [this]; rfl
  · simp only [aBin, pl, Bool.and_self, if_true]
    have : pureRun P (do eqGuard .eql t x y (.agg (as.map num).toArray) (.agg (bs.map num).toArray); binOp .eql t (.agg (as.map num).toArray) (.agg (bs.map num).toArray)) = some (.bool (allEq as bs)) := by
      simp only [pr_bind, eqGuard, binOp, Op.equal, Op.maxDepth, pr_program, Option.bind_some, hm, pr_pure, pr_struct 9999 _ _ ht hp, key, Bool.not_false, Bool.not_true, Bool.false_eq_true, if_false, if_true]
    rw [this]; rfl
end
end Go.Ox
