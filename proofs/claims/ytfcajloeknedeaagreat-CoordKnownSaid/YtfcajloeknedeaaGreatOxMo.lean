/-
  THE ABSTRACT RUN: no block goes back: the heap's next block never falls.
-/
import Derived.Test.YtfcajloeknedeaaGreatOxN
set_option linter.unusedSimpArgs false
set_option linter.unusedVariables false
namespace Go.Ox
section
variable {P : Program}
theorem store_next {h h' : AHeap} {a : Addr} {vs : List Value} (hs : h.store a vs = some h') : h'.next = h.next := by
  unfold AHeap.store at hs
  repeat' split at hs
  all_goals first | (cases hs; done) | (simp only [Option.some.injEq] at hs; subst hs; rfl)
theorem aStore_next {h h' : AHeap} {t : TypeId} {a : Addr} {v : Value} (hs : aStore P h t a v = some h') : h'.next = h.next := by
  unfold aStore at hs
  repeat' split at hs
  all_goals first | (cases hs; done) | exact store_next hs
theorem aMapSet_next {h h' : AHeap} {t : TypeId} {x i y : Value} (hs : aMapSet P h t x i y = some h') : h'.next = h.next := by
  unfold aMapSet at hs
  repeat' split at hs
  all_goals first | (cases hs; done) | (simp only [Option.some.injEq] at hs; subst hs; rfl)
theorem aDelete_next {h h' : AHeap} {t : TypeId} {x i : Value} (hs : aDelete P h t x i = some h') : h'.next = h.next := by
  unfold aDelete at hs
  repeat' split at hs
  all_goals first | (cases hs; done) | (simp only [Option.some.injEq] at hs; subst hs; rfl)
theorem aClear_next {h h' : AHeap} {t : TypeId} {x : Value} (hs : aClear P h t x = some h') : h'.next = h.next := by
  unfold aClear at hs
  repeat' split at hs
  all_goals first | (cases hs; done) | exact store_next hs | (simp only [Option.some.injEq] at hs; subst hs; rfl)
theorem still_next {h h' : AHeap} {x : Option Value} {v : Value} (hs : still h x = some (v, h')) : h' = h := by
  unfold still at hs
  split at hs
  · simp only [Option.some.injEq, Prod.mk.injEq] at hs; exact hs.2.symm
  · cases hs
theorem aCopy_next {h h' : AHeap} {t : TypeId} {x y v : Value} (hs : aCopy P h t x y = some (v, h')) : h.next ≤ h'.next := by
  unfold aCopy at hs
  repeat' split at hs
  all_goals first
    | (cases hs; done)
    | (simp only [Option.some.injEq, Prod.mk.injEq] at hs; obtain ⟨_, rfl⟩ := hs; exact Nat.le_refl _)
    | (simp only [Option.some.injEq, Prod.mk.injEq] at hs; obtain ⟨_, rfl⟩ := hs; exact Nat.le_of_eq (store_next (by assumption)).symm)
    | (dsimp only at hs; repeat' split at hs
       all_goals first
         | (cases hs; done)
         | (simp only [Option.some.injEq, Prod.mk.injEq] at hs; obtain ⟨_, rfl⟩ := hs; exact Nat.le_refl _)
         | (simp only [Option.some.injEq, Prod.mk.injEq] at hs; obtain ⟨_, rfl⟩ := hs; exact Nat.le_of_eq (store_next (by assumption)).symm))
theorem aAppend_next {h h' : AHeap} {t : TypeId} {x y v : Value} (hs : aAppend P h t x y = some (v, h')) : h.next ≤ h'.next := by
  unfold aAppend at hs
  repeat' split at hs
  all_goals first
    | (cases hs; done)
    | (simp only [Option.some.injEq, Prod.mk.injEq] at hs; obtain ⟨_, rfl⟩ := hs; exact Nat.le_refl _)
    | (simp only [Option.some.injEq, Prod.mk.injEq] at hs; obtain ⟨_, rfl⟩ := hs; simp; done)
    | (simp only [Option.some.injEq, Prod.mk.injEq] at hs; obtain ⟨_, rfl⟩ := hs; exact Nat.le_of_eq (store_next (by assumption)).symm)
    | (dsimp only at hs; repeat' split at hs
       all_goals first
         | (cases hs; done)
         | (simp only [Option.some.injEq, Prod.mk.injEq] at hs; obtain ⟨_, rfl⟩ := hs; exact Nat.le_refl _)
         | (simp only [Option.some.injEq, Prod.mk.injEq] at hs; obtain ⟨_, rfl⟩ := hs; simp; done)
         | (simp only [Option.some.injEq, Prod.mk.injEq] at hs; obtain ⟨_, rfl⟩ := hs; exact Nat.le_of_eq (store_next (by assumption)).symm))
theorem aAppendZ_next {h h' : AHeap} {t : TypeId} {x y v : Value} (hs : aAppendZ P h t x y = some (v, h')) : h.next ≤ h'.next := by
  unfold aAppendZ at hs
  repeat' split at hs
  all_goals first
    | (cases hs; done)
    | (simp only [Option.some.injEq, Prod.mk.injEq] at hs; obtain ⟨_, rfl⟩ := hs; simp; done)
theorem aBuiltin_next {h h' : AHeap} {b : Builtin} {ts : Array TypeId} {args : List Value} {v : Value} (hs : aBuiltin P h b ts args = some (v, h')) : h.next ≤ h'.next := by
  unfold aBuiltin at hs
  repeat' split at hs
  all_goals first
    | (cases hs; done)
    | exact aAppend_next hs
    | exact aAppendZ_next hs
    | exact aCopy_next hs
    | (simp only [Option.some.injEq, Prod.mk.injEq] at hs; obtain ⟨_, rfl⟩ := hs; exact Nat.le_refl _)
    | (rename_i hst; simp only [Option.some.injEq, Prod.mk.injEq] at hs; obtain ⟨_, rfl⟩ := hs; exact Nat.le_of_eq (aDelete_next hst).symm)
    | (rename_i hst; simp only [Option.some.injEq, Prod.mk.injEq] at hs; obtain ⟨_, rfl⟩ := hs; exact Nat.le_of_eq (aClear_next hst).symm)
theorem skips_next {h' : AHeap} {x : Option AHeap} {v : Value} (hs : skips x = some (v, h')) : x = some h' := by
  unfold skips at hs
  split at hs
  · simp only [Option.some.injEq, Prod.mk.injEq] at hs; rw [hs.2]
  · cases hs
theorem aOp_next {T : List Value} {h h' : AHeap} {o : Oper} {v : Value} (hs : aOp P T h o = some (v, h')) : h.next ≤ h'.next := by
  unfold aOp at hs
  repeat' split at hs
  all_goals first
    | (cases hs; done)
    | exact Nat.le_of_eq (congrArg AHeap.next (still_next hs).symm)
    | exact Nat.le_of_eq (aStore_next (skips_next hs)).symm
    | exact Nat.le_of_eq (aMapSet_next (skips_next hs)).symm
    | exact aBuiltin_next hs
    | (simp only [Option.some.injEq, Prod.mk.injEq] at hs; obtain ⟨_, rfl⟩ := hs; exact Nat.le_refl _)
    | (simp only [Option.some.injEq, Prod.mk.injEq] at hs; obtain ⟨_, rfl⟩ := hs; simp; done)

def NextS (call : CallFn) : Prop := ∀ (t : Tgt) (vs : List Value) (h : AHeap) (v : Value) (h' : AHeap), call t vs h = some (v, h') → h.next ≤ h'.next
theorem aRun_next {call : CallFn} (hc : NextS call) {T : List Value} {h h' : AHeap} {o : Oper} {v : Value} (hs : aRun P call T h o = some (v, h')) : h.next ≤ h'.next := by
  unfold aRun at hs
  split at hs
  · exact hc _ _ _ _ _ hs
  · exact aOp_next hs
theorem aOps_next {call : CallFn} (hc : NextS call) {sz : Nat} {ops : Array Oper} : ∀ (os : List Oper) (T : List Value) (h : AHeap) (T' : List Value) (h' : AHeap), aOps P call sz ops os T h = some (T', h') → h.next ≤ h'.next
  | [], T, h, T', h', hs => by simp only [aOps, Option.some.injEq, Prod.mk.injEq] at hs; rw [hs.2]; exact Nat.le_refl _
  | o :: os, T, h, T', h', hs => by
    simp only [aOps] at hs
    repeat' split at hs
    all_goals first
      | (cases hs; done)
      | (rename_i hr; exact Nat.le_trans (aRun_next hc hr) (aOps_next hc os _ _ _ _ hs))
      | exact aOps_next hc os _ _ _ _ hs
theorem aTrace_next {call : CallFn} (hc : NextS call) {sz : Nat} {ops : Array Oper} : ∀ (is : List Nat) (T : List Value) (h : AHeap) (rs : List Rec) (T' : List Value) (h' : AHeap), aTrace P call sz ops is T h = some (rs, T', h') → h.next ≤ h'.next
  | [], T, h, rs, T', h', hs => by simp only [aTrace, Option.some.injEq, Prod.mk.injEq] at hs; rw [hs.2.2]; exact Nat.le_refl _
  | i :: is, T, h, rs, T', h', hs => by
    simp only [aTrace] at hs
    split at hs
    · split at hs
      · split at hs
        · rename_i hr
          split at hs
          · cases hs
          · split at hs
            · rename_i ht
              simp only [Option.some.injEq, Prod.mk.injEq] at hs
              obtain ⟨_, _, rfl⟩ := hs
              exact Nat.le_trans (aRun_next hc hr) (aTrace_next hc is _ _ _ _ _ ht)
            · cases hs
        · cases hs
      · split at hs
        · rename_i ht
          simp only [Option.some.injEq, Prod.mk.injEq] at hs
          obtain ⟨_, _, rfl⟩ := hs
          exact aTrace_next hc is _ _ _ _ _ ht
        · cases hs
      · cases hs
    · cases hs
theorem aDraw_next {call : CallFn} (hc : NextS call) {sz : Nat} {ops : Array Oper} {T : List Value} {h : AHeap} {T' : List Value} {h' : AHeap} (hs : aDraw P call sz ops T h = some (T', h')) : h.next ≤ h'.next := by
  unfold aDraw at hs
  split at hs
  · split at hs
    · rename_i ht
      split at hs
      · simp only [Option.some.injEq, Prod.mk.injEq] at hs
        obtain ⟨_, rfl⟩ := hs
        exact aTrace_next hc _ _ _ _ _ _ ht
      · cases hs
    · cases hs
  · cases hs
theorem aCode_next {call : CallFn} (hc : NextS call) {sz : Nat} {rnd : Bool} : ∀ (n : Nat) (c : Code) (T : List Value) (h : AHeap) (e : AExit) (T' : List Value) (h' : AHeap), aCode P call sz rnd n c T h = some (e, T', h') → h.next ≤ h'.next := by
  intro n
  induction n with
  | zero => intro c T h e T' h' hs; simp [aCode] at hs
  | succ n ih =>
    intro c T h e T' h' hs
    cases c with
    | region id ops draw =>
      simp only [aCode] at hs
      split at hs
      · rename_i hr
        simp only [Option.some.injEq, Prod.mk.injEq] at hs
        obtain ⟨_, _, rfl⟩ := hs
        split at hr
        · exact aDraw_next hc hr
        · exact aOps_next hc _ _ _ _ _ hr
      · cases hs
    | seq a b =>
      simp only [aCode] at hs
      split at hs
      · rename_i hr; exact Nat.le_trans (ih _ _ _ _ _ _ hr) (ih _ _ _ _ _ _ hs)
      · exact ih _ _ _ _ _ _ hs
    | cond x a b =>
      simp only [aCode] at hs
      split at hs
      · exact ih _ _ _ _ _ _ hs
      · cases hs
    | block id b =>
      simp only [aCode] at hs
      split at hs
      · rename_i hr
        split at hs
        all_goals
          simp only [Option.some.injEq, Prod.mk.injEq] at hs
          obtain ⟨_, _, rfl⟩ := hs
          exact ih _ _ _ _ _ _ hr
      · exact ih _ _ _ _ _ _ hs
    | loop b =>
      simp only [aCode] at hs
      split at hs
      · rename_i hr; exact Nat.le_trans (ih _ _ _ _ _ _ hr) (ih _ _ _ _ _ _ hs)
      · exact ih _ _ _ _ _ _ hs
    | rangeFunc f ps as bo =>
      simp only [aCode] at hs
      split at hs
      · cases hs
      split at hs
      · split at hs
        · rename_i hr
          have := hc _ _ _ _ _ hr
          simp only [AHeap.next_push] at this
          repeat' split at hs
          all_goals first
            | (cases hs; done)
            | (simp only [Option.some.injEq, Prod.mk.injEq] at hs; obtain ⟨_, _, rfl⟩ := hs; simp only [AHeap.next_set]; omega)
        · cases hs
      · cases hs
    | scope b =>
      simp only [aCode] at hs
      have jumps : ∀ (m : Nat) (c : Code) (T : List Value) (h : AHeap), aJumps (aCode P call sz rnd n) b m c T h = some (e, T', h') → h.next ≤ h'.next := by
        intro m
        induction m with
        | zero => intro c T h hs; cases hs
        | succ m im =>
          intro c T h hs
          simp only [aJumps] at hs
          split at hs
          · rename_i hr
            split at hs
            · exact Nat.le_trans (ih _ _ _ _ _ _ hr) (im _ _ _ hs)
            · simp only [Option.some.injEq, Prod.mk.injEq] at hs
              obtain ⟨_, _, rfl⟩ := hs
              exact ih _ _ _ _ _ _ hr
          · exact ih _ _ _ _ _ _ hs
      exact jumps n b T h hs
    | skip | label _ | exit _ | ret | goto _ =>
      simp only [aCode, Option.some.injEq, Prod.mk.injEq] at hs
      rw [hs.2.2]; exact Nat.le_refl _
    | _ => simp [aCode] at hs
theorem aCall_next [X : Ext P] : ∀ n, NextS (aCall P n) := by
  intro n
  induction n with
  | zero => intro t vs h v h' hs; simp [aCall] at hs
  | succ n ih =>
    intro t vs h v h' hs
    cases t with
    | fn g =>
      simp only [aCall] at hs
      split at hs
      · split at hs
        · simp only [Option.some.injEq, Prod.mk.injEq] at hs; rw [hs.2]; exact Nat.le_refl _
        · exact X.xnext g vs h v h' hs
      · repeat' split at hs
        all_goals first
          | (cases hs; done)
          | (simp only [Option.some.injEq, Prod.mk.injEq] at hs; obtain ⟨_, rfl⟩ := hs; exact aCode_next ih _ _ _ _ _ _ _ (by assumption))
          | (rename_i hr _ _ _ ; simp only [Option.some.injEq, Prod.mk.injEq] at hs; obtain ⟨_, rfl⟩ := hs; exact aCode_next ih _ _ _ _ _ _ _ hr)
          | (rename_i hr _ _ ; simp only [Option.some.injEq, Prod.mk.injEq] at hs; obtain ⟨_, rfl⟩ := hs; exact aCode_next ih _ _ _ _ _ _ _ hr)
          | (rename_i hr _ _ _ _ ; simp only [Option.some.injEq, Prod.mk.injEq] at hs; obtain ⟨_, rfl⟩ := hs; exact aCode_next ih _ _ _ _ _ _ _ hr)
          | (rename_i hr _ _ _ _ _; simp only [Option.some.injEq, Prod.mk.injEq] at hs; obtain ⟨_, rfl⟩ := hs; exact aCode_next ih _ _ _ _ _ _ _ hr)
    | yield β =>
      simp only [aCall] at hs
      split at hs
      · split at hs
        · split at hs
          · rename_i h1
            split at hs
            · split at hs
              · rename_i h2
                have k1 := aCode_next ih _ _ _ _ _ _ _ h1
                have k2 := aCode_next ih _ _ _ _ _ _ _ h2
                simp only [AHeap.next_set] at k2
                repeat' split at hs
                all_goals first
                  | (cases hs; done)
                  | (simp only [Option.some.injEq, Prod.mk.injEq] at hs; obtain ⟨_, rfl⟩ := hs; simp only [AHeap.next_set]; omega)
              · cases hs
            · cases hs
          · cases hs
        · cases hs
      · cases hs
end
end Go.Ox
