/-
 REASONING ABOUT THE ABSTRACT RUN: ranges over functions.
-/
import Derived.Test.YtfcajloeknedeaaGreatOxSt
set_option linter.unusedSimpArgs false
set_option linter.unusedVariables false
namespace Go.Ox
section
variable {P : Program} [X : Ext P] {sz : Nat} {T : List Value} {h : AHeap}

/-- What a range over a function comes to, by its block. -/
def rfEnd (T : List Value) (β : Nat) (K : AExit → List Value → AHeap → Prop) (h2 : AHeap) : Prop :=
 ∃ (st : LoopState) (pe : Option Code) (sz' : Nat) (T' : List Value) (ps' : Array Tmp) (as' bo' : Code), h2.get β = some (.loop st pe sz' T' ps' as' bo') ∧ st ≠ .busy ∧
  ((pe = none ∧ K .normal T (h2.set β (.loop .exhausted pe sz' T' ps' as' bo'))) ∨ (pe = some .ret ∧ K .ret T (h2.set β (.loop .exhausted pe sz' T' ps' as' bo'))) ∨ ∃ id, pe = some (.exit id) ∧ K (.exit id) T (h2.set β (.loop .exhausted pe sz' T' ps' as' bo')))

theorem wpC_range {f : Operand} {ps : Array Tmp} {as bo : Code} {g : FuncId} {xs us : Array Value} {K : AExit → List Value → AHeap → Prop} (hx : aev T f = some (.func (.func g) xs us))
  (hw : wpF P (.fn g) (xs.toList ++ [.func (.yield h.next) #[] #[]] ++ us.toList) (h.push (.loop .ready none sz T ps as bo)) (fun _ h2 => rfEnd T h.next K h2)) : wpC P sz false (.rangeFunc f ps as bo) T h K := by
 obtain ⟨v, h2, ⟨N, hN⟩, st, pe, sz', T', ps', as', bo', hg, hst, hK⟩ := hw
 rcases hK with ⟨rfl, hK⟩ | ⟨rfl, hK⟩ | ⟨id, rfl, hK⟩
 ·refine ⟨_, _, _, ⟨N + 1, fun n hn m hm => ?_⟩, hK⟩
  cases n with
  | zero => omega
  | succ n =>
   simp only [aCode, Bool.false_eq_true, if_false, hx, hN m (by omega), hg]
   try (cases st <;> first | rfl | exact absurd rfl hst)
 ·refine ⟨_, _, _, ⟨N + 1, fun n hn m hm => ?_⟩, hK⟩
  cases n with
  | zero => omega
  | succ n =>
   simp only [aCode, Bool.false_eq_true, if_false, hx, hN m (by omega), hg]
   try (cases st <;> first | rfl | exact absurd rfl hst)
 ·refine ⟨_, _, _, ⟨N + 1, fun n hn m hm => ?_⟩, hK⟩
  cases n with
  | zero => omega
  | succ n =>
   simp only [aCode, Bool.false_eq_true, if_false, hx, hN m (by omega), hg]
   try (cases st <;> first | rfl | exact absurd rfl hst)

/-- What a round comes to. -/
def rfRound (β : Nat) (K : Value → AHeap → Prop) : AExit → List Value → AHeap → Prop := fun e _ h2 =>
 ∃ (st : LoopState) (pe : Option Code) (sz' : Nat) (T' : List Value) (ps' : Array Tmp) (as' bo' : Code), h2.get β = some (.loop st pe sz' T' ps' as' bo') ∧ match e with
  | .normal => K (.bool true) (h2.set β (.loop .ready none sz' T' ps' as' bo'))
  | .ret => K (.bool false) (h2.set β (.loop .done (some .ret) sz' T' ps' as' bo'))
  | .exit id => K (.bool false) (h2.set β (.loop .done (some (.exit id)) sz' T' ps' as' bo'))
  | .goto _ => False
/-- .. and what lies between a round's parameters and its body. -/
def rfBody (P : Program) [Ext P] (sz β : Nat) (bo : Code) (K : Value → AHeap → Prop) : AExit → List Value → AHeap → Prop := fun e T1 h1 =>
 e = .normal ∧ ∃ (pe : Option Code) (sz' : Nat) (T' : List Value) (ps' : Array Tmp) (as' bo' : Code), h1.get β = some (.loop .ready pe sz' T' ps' as' bo') ∧ wpC P sz true bo T1 (h1.set β (.loop .busy pe sz' T' ps' as' bo')) (rfRound β K)

theorem wpF_yield {β : Nat} {args : List Value} {pe : Option Code} {ps : Array Tmp} {as bo : Code} {K : Value → AHeap → Prop} (hg : h.get β = some (.loop .ready pe sz T ps as bo)) (hl : args.length = ps.size) (hp : ps.toList.all (fun t => decide (t < sz)) = true)
  (hw : wpC P sz true as (parT ps.toList args T) h (rfBody P sz β bo K)) : wpF P (.yield β) args h K := by
 obtain ⟨e, T1, h1, ⟨N, hN⟩, rfl, pe1, sz1, T1', ps1, as1, bo1, hg1, e2, T2, h2, ⟨M, hM⟩, st, pe2, sz2, T2', ps2, as2, bo2, hg2, hK⟩ := hw
 cases e2 with
 | goto l => exact hK.elim
 | normal =>
  refine ⟨_, _, ⟨max N M + 1, fun n hn => ?_⟩, hK⟩
  cases n with
  | zero => omega
  | succ n => simp only [aCall, hg, hl, hp, and_self, if_true, hN n (by omega) n (by omega), hg1, hM n (by omega) n (by omega), hg2]
 | ret =>
  refine ⟨_, _, ⟨max N M + 1, fun n hn => ?_⟩, hK⟩
  cases n with
  | zero => omega
  | succ n => simp only [aCall, hg, hl, hp, and_self, if_true, hN n (by omega) n (by omega), hg1, hM n (by omega) n (by omega), hg2]
 | exit id =>
  refine ⟨_, _, ⟨max N M + 1, fun n hn => ?_⟩, hK⟩
  cases n with
  | zero => omega
  | succ n => simp only [aCall, hg, hl, hp, and_self, if_true, hN n (by omega) n (by omega), hg1, hM n (by omega) n (by omega), hg2]
end
end Go.Ox
namespace Go.Ox
section
variable {P : Program} [X : Ext P] {sz : Nat} {T : List Value} {h : AHeap}
/-- A range over a function whose body goes on, or returns. L, LB, LD: its block, as it stands ready, busy, done. -/
theorem wpC_rangeL {f : Operand} {ps : Array Tmp} {as bo : Code} {K : AExit → List Value → AHeap → Prop} (g : FuncId) (xs us : Array Value) (hx : aev T f = some (.func (.func g) xs us))
  (hw : ∀ L LB LD : ABlk, L = .loop .ready none sz T ps as bo → LB = .loop .busy none sz T ps as bo → LD = .loop .done (some .ret) sz T ps as bo →
   wpF P (.fn g) (xs.toList ++ [.func (.yield h.next) #[] #[]] ++ us.toList) (h.push L) (fun _ h2 => (h2.get h.next = some L ∧ ∀ Y, K .normal T (h2.set h.next Y)) ∨ (h2.get h.next = some LD ∧ ∀ Y, K .ret T (h2.set h.next Y)))) : wpC P sz false (.rangeFunc f ps as bo) T h K := by
 refine wpC_range hx (wpF_mono (hw _ _ _ rfl rfl rfl) ?_)
 rintro _ h2 (⟨h1, h3⟩ | ⟨h1, h3⟩)
 ·exact ⟨_, _, _, _, _, _, _, h1, by simp, .inl ⟨rfl, h3 _⟩⟩
 ·exact ⟨_, _, _, _, _, _, _, h1, by simp, .inr (.inl ⟨rfl, h3 _⟩)⟩
/-- A round of it. -/
theorem wpF_yieldL {β : Nat} {args : List Value} {ps : Array Tmp} {as bo : Code} {L LB LD : ABlk} {K : Value → AHeap → Prop} (hL : L = .loop .ready none sz T ps as bo) (hLB : LB = .loop .busy none sz T ps as bo) (hLD : LD = .loop .done (some .ret) sz T ps as bo)
  (hg : h.get β = some L) (hl : args.length = ps.size) (hp : ps.toList.all (fun t => decide (t < sz)) = true)
  (hw : wpC P sz true as (parT ps.toList args T) h (fun e T1 h1 => e = .normal ∧ h1.get β = some L ∧ wpC P sz true bo T1 (h1.set β LB) (fun e _ h2 => h2.get β = some LB ∧ ((e = .normal ∧ K (.bool true) (h2.set β L)) ∨ (e = .ret ∧ K (.bool false) (h2.set β LD)))))) : wpF P (.yield β) args h K := by
 subst hL hLB hLD
 refine wpF_yield hg hl hp (wpC_mono hw ?_)
 rintro e T1 h1 ⟨rfl, h2, h3⟩
 refine ⟨rfl, _, _, _, _, _, _, h2, wpC_mono h3 ?_⟩
 rintro e T2 h4 ⟨k1, ⟨rfl, k2⟩ | ⟨rfl, k2⟩⟩
 ·exact ⟨_, _, _, _, _, _, _, k1, k2⟩
 ·exact ⟨_, _, _, _, _, _, _, k1, k2⟩
end
section
variable {P : Program} [X : Ext P] {sz : Nat} {rnd : Bool} {c : Code} {h : AHeap} {K : AExit → List Value → AHeap → Prop} {R : List Value}
end
end Go.Ox
