/-
 REASONING ABOUT THE ABSTRACT RUN: what comes of code, whatever fuel is enough.
-/
import Derived.Test.YtfcajloeknedeaaGreatOxMo
set_option linter.unusedSimpArgs false
set_option linter.unusedVariables false
namespace Go.Ox
variable {D : Prop}
section
variable (P : Program) [X : Ext P]

def Runs (t : Tgt) (args : List Value) (h : AHeap) (v : Value) (h' : AHeap) : Prop := ∃ N, ∀ n, N ≤ n → aCall P n t args h = some (v, h')
def Ev (sz : Nat) (rnd : Bool) (c : Code) (T : List Value) (h : AHeap) (e : AExit) (T' : List Value) (h' : AHeap) : Prop := ∃ N, ∀ n, N ≤ n → ∀ m, N ≤ m → aCode P (aCall P m) sz rnd n c T h = some (e, T', h')

def wpF (t : Tgt) (args : List Value) (h : AHeap) (K : Value → AHeap → Prop) : Prop := ∃ v h', Runs P t args h v h' ∧ K v h'
def wpC (sz : Nat) (rnd : Bool) (c : Code) (T : List Value) (h : AHeap) (K : AExit → List Value → AHeap → Prop) : Prop := ∃ e T' h', Ev P sz rnd c T h e T' h' ∧ K e T' h'
def wpO (sz : Nat) (ops : Array Oper) (os : List Oper) (T : List Value) (h : AHeap) (K : List Value → AHeap → Prop) : Prop :=
 ∃ T' h', (∃ N, ∀ m, N ≤ m → aOps P (aCall P m) sz ops os T h = some (T', h')) ∧ K T' h'
end

section
variable {P : Program} [X : Ext P] {sz : Nat} {rnd : Bool} {T : List Value} {h : AHeap} {K : AExit → List Value → AHeap → Prop}

/-- What follows where code has ended as it should. -/
def AExit.go (next : List Value → AHeap → Prop) (K : AExit → List Value → AHeap → Prop) : AExit → List Value → AHeap → Prop
 | .normal, T, h => next T h
 | e, T, h => K e T h
def AExit.blk (id : Nat) (K : AExit → List Value → AHeap → Prop) : AExit → List Value → AHeap → Prop
 | .exit id', T, h => if id' = id then K .normal T h else K (.exit id') T h
 | e, T, h => K e T h

theorem wpC_mono {c : Code} {K' : AExit → List Value → AHeap → Prop} (hw : wpC P sz rnd c T h K) (hk : ∀ e T h, K e T h → K' e T h) : wpC P sz rnd c T h K' :=
 let ⟨e, T', h', a, b⟩ := hw; ⟨e, T', h', a, hk _ _ _ b⟩
theorem wpF_mono {t : Tgt} {args : List Value} {K K' : Value → AHeap → Prop} (hw : wpF P t args h K) (hk : ∀ v h, K v h → K' v h) : wpF P t args h K' :=
 let ⟨v, h', a, b⟩ := hw; ⟨v, h', a, hk _ _ b⟩

theorem wpC_skip (hk : K .normal T h) : wpC P sz rnd .skip T h K := ⟨_, _, _, ⟨1, fun n hn m _ => by cases n with | zero => omega | succ n => rfl⟩, hk⟩
theorem wpC_ret (hk : K .ret T h) : wpC P sz rnd .ret T h K := ⟨_, _, _, ⟨1, fun n hn m _ => by cases n with | zero => omega | succ n => rfl⟩, hk⟩
theorem wpC_exit {id : Nat} (hk : K (.exit id) T h) : wpC P sz rnd (.exit id) T h K := ⟨_, _, _, ⟨1, fun n hn m _ => by cases n with | zero => omega | succ n => rfl⟩, hk⟩

theorem wpC_goto {l : Nat} (hk : K (.goto l) T h) : wpC P sz rnd (.goto l) T h K := ⟨_, _, _, ⟨1, fun n hn m _ => by cases n with | zero => omega | succ n => rfl⟩, hk⟩
theorem wpC_label {l : Nat} (hk : K .normal T h) : wpC P sz rnd (.label l) T h K := ⟨_, _, _, ⟨1, fun n hn m _ => by cases n with | zero => omega | succ n => rfl⟩, hk⟩
/-- By a jump to l: J. -/
def AExit.jmp (l : Nat) (J : List Value → AHeap → Prop) (K : AExit → List Value → AHeap → Prop) : AExit → List Value → AHeap → Prop
 | .goto l', T, h => l' = l ∧ J T h
 | e, T, h => K e T h
/-- A scope with one label that the run jumps back to: what holds at each jump, and a measure that each pass lowers. -/
theorem wpC_scope {b rest : Code} (l : Nat) (hf : findLabel b l = some rest) (I : Nat → List Value → AHeap → Prop) (pass : ∀ k T h, I k T h → wpC P sz rnd rest T h (AExit.jmp l (fun T' h' => ∃ k', k' < k ∧ I k' T' h') K))
  (first : wpC P sz rnd b T h (AExit.jmp l (fun T' h' => ∃ k, I k T' h') K)) : wpC P sz rnd (.scope b) T h K := by
 have go : ∀ (k : Nat) (T : List Value) (h : AHeap), I k T h → ∃ e T' h', (∃ N, ∀ n, N ≤ n → ∀ m, N ≤ m → ∀ j, N ≤ j → aJumps (aCode P (aCall P m) sz rnd n) b j rest T h = some (e, T', h')) ∧ K e T' h' := by
  intro k
  induction k using Nat.strongRecOn with
  | _ k ih =>
   intro T h hI
   obtain ⟨e, T1, h1, ⟨N, hN⟩, kk⟩ := pass k T h hI
   cases e with
   | goto l' =>
    obtain ⟨rfl, k', hk', hI'⟩ := kk
    obtain ⟨e2, T2, h2, ⟨M, hM⟩, k2⟩ := ih k' hk' T1 h1 hI'
    refine ⟨e2, T2, h2, ⟨max N M + 1, fun n hn m hm j hj => ?_⟩, k2⟩
    cases j with
    | zero => omega
    | succ j => simp only [aJumps, hN n (by omega) m (by omega), hf, hM n (by omega) m (by omega) j (by omega)]
   | _ =>
    refine ⟨_, T1, h1, ⟨N + 1, fun n hn m hm j hj => ?_⟩, kk⟩
    cases j with
    | zero => omega
    | succ j => simp only [aJumps, hN n (by omega) m (by omega)]
 obtain ⟨e, T1, h1, ⟨N, hN⟩, kk⟩ := first
 cases e with
 | goto l' =>
  obtain ⟨rfl, k, hI⟩ := kk
  obtain ⟨e2, T2, h2, ⟨M, hM⟩, k2⟩ := go k T1 h1 hI
  refine ⟨e2, T2, h2, ⟨max N M + 2, fun n hn m hm => ?_⟩, k2⟩
  cases n with
  | zero => omega
  | succ n => cases n with
   | zero => omega
   | succ n =>
    show aJumps (aCode P (aCall P m) sz rnd (n + 1)) b (n + 1) b T h = _
    simp only [aJumps, hN (n + 1) (by omega) m (by omega), hf, hM (n + 1) (by omega) m (by omega) n (by omega)]
 | _ =>
  refine ⟨_, T1, h1, ⟨N + 2, fun n hn m hm => ?_⟩, kk⟩
  cases n with
  | zero => omega
  | succ n => cases n with
   | zero => omega
   | succ n =>
    show aJumps (aCode P (aCall P m) sz rnd (n + 1)) b (n + 1) b T h = _
    simp only [aJumps, hN (n + 1) (by omega) m (by omega)]

theorem wpC_seq {a b : Code} (hw : wpC P sz rnd a T h (AExit.go (fun T h => wpC P sz rnd b T h K) K)) : wpC P sz rnd (.seq a b) T h K := by
 obtain ⟨e, T1, h1, ⟨N, hN⟩, k⟩ := hw
 cases e with
 | normal =>
  obtain ⟨e2, T2, h2, ⟨M, hM⟩, k2⟩ := k
  refine ⟨e2, T2, h2, ⟨max N M + 1, fun n hn m hm => ?_⟩, k2⟩
  cases n with
  | zero => omega
  | succ n => simp only [aCode, hN n (by omega) m (by omega), hM n (by omega) m (by omega)]
 | _ =>
  refine ⟨_, T1, h1, ⟨N + 1, fun n hn m hm => ?_⟩, k⟩
  cases n with
  | zero => omega
  | succ n => simp only [aCode, hN n (by omega) m (by omega)]

theorem wpC_cond {x : Operand} {t : Bool} {a b : Code} (hx : aev T x = some (.bool t)) (hw : wpC P sz rnd (if t then a else b) T h K) : wpC P sz rnd (.cond x a b) T h K := by
 obtain ⟨e, T1, h1, ⟨N, hN⟩, k⟩ := hw
 refine ⟨e, T1, h1, ⟨N + 1, fun n hn m hm => ?_⟩, k⟩
 cases n with
 | zero => omega
 | succ n => simp only [aCode, hx, hN n (by omega) m (by omega)]

theorem wpC_block {id : Nat} {b : Code} (hw : wpC P sz rnd b T h (AExit.blk id K)) : wpC P sz rnd (.block id b) T h K := by
 obtain ⟨e, T1, h1, ⟨N, hN⟩, k⟩ := hw
 cases e with
 | exit id' =>
  simp only [AExit.blk] at k
  split at k
  ·rename_i hid
   refine ⟨.normal, T1, h1, ⟨N + 1, fun n hn m hm => ?_⟩, k⟩
   cases n with
   | zero => omega
   | succ n => simp only [aCode, hN n (by omega) m (by omega), hid, if_true]
  ·rename_i hid
   refine ⟨.exit id', T1, h1, ⟨N + 1, fun n hn m hm => ?_⟩, k⟩
   cases n with
   | zero => omega
   | succ n => simp only [aCode, hN n (by omega) m (by omega), hid, if_false]
 | _ =>
  refine ⟨_, T1, h1, ⟨N + 1, fun n hn m hm => ?_⟩, k⟩
  cases n with
  | zero => omega
  | succ n => simp only [aCode, hN n (by omega) m (by omega)]

/-- A loop: a relation that each round keeps, and a measure that it lowers. -/
theorem wpC_loop {b : Code} (I : Nat → List Value → AHeap → Prop) (round : ∀ k T h, I k T h → wpC P sz rnd b T h (AExit.go (fun T' h' => ∃ k', k' < k ∧ I k' T' h') K)) : ∀ (k : Nat) (T : List Value) (h : AHeap), I k T h → wpC P sz rnd (.loop b) T h K := by
 intro k
 induction k using Nat.strongRecOn with
 | _ k ih =>
  intro T h hI
  obtain ⟨e, T1, h1, ⟨N, hN⟩, kk⟩ := round k T h hI
  cases e with
  | normal =>
   obtain ⟨k', hk', hI'⟩ := kk
   obtain ⟨e2, T2, h2, ⟨M, hM⟩, k2⟩ := ih k' hk' T1 h1 hI'
   refine ⟨e2, T2, h2, ⟨max N M + 1, fun n hn m hm => ?_⟩, k2⟩
   cases n with
   | zero => omega
   | succ n => simp only [aCode, hN n (by omega) m (by omega), hM n (by omega) m (by omega)]
  | _ =>
   refine ⟨_, T1, h1, ⟨N + 1, fun n hn m hm => ?_⟩, kk⟩
   cases n with
   | zero => omega
   | succ n => simp only [aCode, hN n (by omega) m (by omega)]

theorem wpC_region {id : Nat} {ops : List Oper} (hw : wpO P sz ops.toArray ops T h (fun T h => K .normal T h)) : wpC P sz rnd (.region id ops.toArray false) T h K := by
 obtain ⟨T1, h1, ⟨N, hN⟩, k⟩ := hw
 refine ⟨.normal, T1, h1, ⟨N + 1, fun n hn m hm => ?_⟩, k⟩
 cases n with
 | zero => omega
 | succ n => simp [aCode, hN m (by omega)]

/-! ### operations -/
variable {ops : Array Oper} {os : List Oper} {o : Oper} {L : List Value → AHeap → Prop}

theorem wpO_nil (hk : L T h) : wpO P sz ops [] T h L := ⟨T, h, ⟨0, fun _ _ => rfl⟩, hk⟩

theorem wpO_op {v : Value} {h1 : AHeap} (hd : dstOK sz o.dst = true) (hw : aWanted ops T o = some true) (hr : aReq P T o = none) (ho : aOp P T h o = some (v, h1)) (hk : wpO P sz ops os (tputO o.dst v T) h1 L) : wpO P sz ops (o :: os) T h L := by
 obtain ⟨T2, h2, ⟨N, hN⟩, k⟩ := hk
 exact ⟨T2, h2, ⟨N, fun m hm => by simp only [aOps, hd, hw, aRun, hr, ho, if_true, hN m hm]⟩, k⟩

theorem wpO_pass (hd : dstOK sz o.dst = true) (hw : aWanted ops T o = some false) (hk : wpO P sz ops os (tputO o.dst undef T) h L) : wpO P sz ops (o :: os) T h L := by
 obtain ⟨T2, h2, ⟨N, hN⟩, k⟩ := hk
 exact ⟨T2, h2, ⟨N, fun m hm => by simp only [aOps, hd, hw, if_true, hN m hm]⟩, k⟩

theorem wpO_call {t : Tgt} {vs : List Value} (hd : dstOK sz o.dst = true) (hw : aWanted ops T o = some true) (hr : aReq P T o = some (t, vs)) (hk : wpF P t vs h (fun v h1 => wpO P sz ops os (tputO o.dst v T) h1 L)) : wpO P sz ops (o :: os) T h L := by
 obtain ⟨v, h1, ⟨M, hM⟩, T2, h2, ⟨N, hN⟩, k⟩ := hk
 exact ⟨T2, h2, ⟨max M N, fun m hm => by simp only [aOps, hd, hw, aRun, hr, hM m (by omega), if_true, hN m (by omega)]⟩, k⟩

/-! ### functions -/
def AExit.out (P : Program) (rs : List ResultVar) (K : Value → AHeap → Prop) : AExit → List Value → AHeap → Prop
 | .exit _, _, _ => False
 | .goto _, _, _ => False
 | _, T, h => ∃ vs, aResults P h T rs = some vs ∧ K (oneOf vs) h

theorem wpF_fn {f : FuncId} {fn : Func} {c : Code} {args : List Value} {K : Value → AHeap → Prop} (hf : P.funcs[f]? = some fn) (hb : fn.body = some c) {s : Nat} (hs : args.length + (fn.ntmps - args.length) = s) (hx : (X.fs.contains f && args.isEmpty || X.xs.contains f) = false)
  (hw : wpC P s false c args h (AExit.out P fn.results.toList K)) : wpF P (.fn f) args h K := by
 subst hs
 obtain ⟨e, T1, h1, ⟨N, hN⟩, k⟩ := hw
 have fin : ∀ vs, aResults P h1 T1 fn.results.toList = some vs → (e = .normal ∨ e = .ret) → K (oneOf vs) h1 → wpF P (.fn f) args h K := fun vs h2 h3 h4 => by
  refine ⟨oneOf vs, h1, ⟨N + 1, fun n hn => ?_⟩, h4⟩
  cases n with
  | zero => omega
  | succ n =>
   simp only [aCall, hx, Bool.false_eq_true, if_false, hf, hb, hN n (by omega) n (by omega)]
   rcases h3 with rfl | rfl <;> simp only [h2]
 cases e with
 | exit id => exact k.elim
 | goto l => exact k.elim
 | normal => obtain ⟨vs, h2, h3⟩ := k; exact fin vs h2 (.inl rfl) h3
 | ret => obtain ⟨vs, h2, h3⟩ := k; exact fin vs h2 (.inr rfl) h3

theorem wpF_ext {f : FuncId} {K : Value → AHeap → Prop} (hx : X.fs.contains f = true) (hk : K (.bool true) h) : wpF P (.fn f) [] h K := by
 refine ⟨.bool true, h, ⟨1, fun n hn => ?_⟩, hk⟩
 cases n with
 | zero => omega
 | succ n => simp only [aCall, hx, List.isEmpty_nil, Bool.and_self, Bool.true_or, if_true]
theorem wpF_app {f : FuncId} {args : List Value} {K : Value → AHeap → Prop} {v : Value} {h' : AHeap} (hx : (X.fs.contains f && args.isEmpty) = false) (hs : X.xs.contains f = true) (ha : X.app f args h = some (v, h')) (hk : K v h') : wpF P (.fn f) args h K := by
 refine ⟨v, h', ⟨1, fun n hn => ?_⟩, hk⟩
 cases n with
 | zero => omega
 | succ n => simp only [aCall, hx, hs, Bool.false_or, Bool.false_eq_true, if_true, if_false, ha]

/-- From the abstract run to the machine's. -/
theorem wpF_calls (hP : Named P) (hm : P.follows .mixedOrders = true) {f : FuncId} {args : List Value} {K : Value → AHeap → Prop} (hw : wpF P (.fn f) args h K) {ρ : Emb} {ws : Array Value} {w : World} (hv : VRL ρ args ws.toList) (hr : HR ρ h w) :
  Calls P f ws w fun e w' => ∃ v h' x ρ', K v h' ∧ e = .returned x ∧ VR ρ' v x ∧ Step X.D ρ ρ' h h' w w' := by
 obtain ⟨v, h', ⟨N, hN⟩, k⟩ := hw
 obtain ⟨_, hc⟩ := aCall_sound hP hm N (.fn f) args h v h' (hN N (Nat.le_refl _))
 refine (hc ρ ws w hv hr).mono ?_
 rintro e w' ⟨x, ρ', rfl, k1, k2⟩
 exact ⟨v, h', x, ρ', k, rfl, k1, k2⟩

end
end Go.Ox
