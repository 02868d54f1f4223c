/-
  THE ABSTRACT RUN: calls, regions.
-/
import Derived.Test.YtfcajloeknedeaaGreatOxI
set_option linter.unusedSimpArgs false
set_option linter.unusedVariables false
namespace Go.Ox
variable {D : Prop}
section
variable {P : Program}

/-! ### calls -/
def isPtr : TypeDesc → Bool
  | .pointer _ => true
  | _ => false

/-- What is called: a function, or the yield of a range over a function. -/
inductive Tgt where
  | fn (g : FuncId)
  | yield (β : Nat)

def aReq (P : Program) (T : List Value) (o : Oper) : Option (Tgt × List Value) :=
  match o.op with
  | .call { callee := .value f, args, argTypes := _ } => match aev T f, aevs T args.toList with
    | some (.func (.func g) xs us), some vs => some (.fn g, xs.toList ++ vs ++ us.toList)
    | some (.func (.yield β) xs us), some vs => if xs.size = 0 ∧ us.size = 0 then some (.yield β, vs) else none
    | _, _ => none
  | .call { callee := .invoke recv name, args, argTypes := _ } => match aev T recv, aevs T args.toList with
    | some (.iface t v), some vs => match P.info? t, P.underlying t with
      | some i, some d => match i.methods.find? (·.name == name) with
        | some m => if m.path.isEmpty then match m.func with
          | some (g, ptr) => if isPtr d = ptr then some (.fn g, v :: vs) else none
          | none => none
          else none
        | none => none
      | _, _ => none
    | _, _ => none
  | _ => none

/-- No function of the program is one that the model counts goroutines by. -/
def Named (P : Program) : Prop := ∀ (g : FuncId) (fn : Func), P.funcs[g]? = some fn → (fn.name == "runtime.NumGoroutine") = false

def hasBody (P : Program) (g : FuncId) : Bool := match P.funcs[g]? with
  | some fn => fn.body.isSome
  | none => false

theorem callFunc_enter (hP : Named P) {g : FuncId} (hb : hasBody P g = true) (args : Array Value) (w : World) : (callFunc g args).run P w = .ok (.enter g args) w := by
  unfold hasBody at hb
  split at hb
  · rename_i fn hf
    have h1 := hP g fn hf
    have h2 : fn.body.isNone = false := by cases hq : fn.body <;> simp_all
    simp only [callFunc, Sem.run_bind, run_program, Result.andThen_ok, hf, h1, h2, if_false, Bool.false_eq_true, Sem.run_pure]
  · cases hb

theorem aReq_sound (hP : Named P) {ρ : Emb} {n : Nat} {T : List Value} {a : Act} {w : World} (ha : AR ρ n T a) {o : Oper} {g : FuncId} {vs : List Value} (hs : aReq P T o = some (.fn g, vs)) (hb : hasBody P g = true) :
    ∃ ws, (execOp a.eval o).run P w = .ok (.enter g ws) w ∧ VRL ρ vs ws.toList := by
  obtain ⟨dst, op, ty, pos, after, guard⟩ := o
  cases op with
  | call c =>
    obtain ⟨callee, args, ts⟩ := c
    cases callee with
    | value f =>
      simp only [aReq] at hs
      split at hs
      · rename_i g' xs us vs' hf hargs
        simp only [Option.some.injEq, Prod.mk.injEq, Tgt.fn.injEq] at hs
        obtain ⟨rfl, rfl⟩ := hs
        have hv := ha.ev hf
        cases hq : a.eval f <;> rw [hq] at hv <;> first | (cases hv; done) | skip
        rename_i fn ys zs
        have hfn : fn = .func g' ∧ VRL ρ xs.toList ys.toList ∧ VRL ρ us.toList zs.toList := by
          cases hv with
          | func _ _ _ _ _ _ h1 h2 h3 h4 => exact ⟨rfl, VRL_iff.2 ⟨by simpa using h1, by simpa using h2⟩, VRL_iff.2 ⟨by simpa using h3, by simpa using h4⟩⟩
        obtain ⟨rfl, hx, hu⟩ := hfn
        refine ⟨ys ++ args.map a.eval ++ zs, ?_, ?_⟩
        · simp only [execOp, resolve, hq, Sem.run_bind, Deferred.ofValue, Sem.run_pure, Result.andThen_ok, invoke, callFunc_enter hP hb]
        · simpa using (hx.append (ha.evs hargs)).append hu
      · split at hs <;> cases hs
      · cases hs
    | invoke recv name =>
      simp only [aReq] at hs
      split at hs
      · rename_i t v vs' hrecv hargs
        split at hs
        · rename_i i d hi hd
          split at hs
          · rename_i m hm
            split at hs
            · rename_i hpath
              split at hs
              · rename_i g' ptr hfn
                split at hs
                · rename_i hptr
                  simp only [Option.some.injEq, Prod.mk.injEq, Tgt.fn.injEq] at hs
                  obtain ⟨rfl, rfl⟩ := hs
                  have hv := ha.ev hrecv
                  cases hq : a.eval recv <;> rw [hq] at hv <;> first | (cases hv; done) | skip
                  rename_i t' x
                  have hx : t' = t ∧ VR ρ v x := by cases hv with | iface _ _ _ h => exact ⟨rfl, h⟩
                  obtain ⟨rfl, hx⟩ := hx
                  refine ⟨#[x] ++ args.map a.eval, ?_, ?_⟩
                  · have hpl : m.path.toList = [] := by simpa using hpath
                    have hmeth : ∀ k, (method (k + 1) t' x name).run P w = .ok (g', x) w := fun k => by
                      have hrec : (receiverAt t' (.val x) ptr (if m.path.isEmpty then some ((name.splitOn ".").getLastD name) else none)).run P w = .ok x w := by
                        subst hptr
                        simp only [receiverAt, Sem.run_bind, r_und hd, Result.andThen_ok]
                        cases d <;> rfl
                      simp only [method, Sem.run_bind, r_info hi, Result.andThen_ok, hm, hpl, follow, Sem.run_pure, hfn, hrec]
                    have hfu : ∃ k, P.types.size + Made.depth = k + 1 := ⟨P.types.size + Made.depth - 1, by have : 0 < Made.depth := by decide
                                                                                                            omega⟩
                    obtain ⟨k, hk⟩ := hfu
                    have e0 : (#[Value.iface t' x] ++ Array.map a.eval args)[0]? = some (.iface t' x) := by
                      rw [Array.getElem?_append_left (by simp)]; rfl
                    have e1 : (#[Value.iface t' x] ++ Array.map a.eval args).extract 1 (#[Value.iface t' x] ++ Array.map a.eval args).size = Array.map a.eval args := by
                      simp
                    simp only [execOp, resolve, hq, Sem.run_bind, Sem.run_pure, Result.andThen_ok, invoke, e0, e1, callMethod, run_program, hk, hmeth, callFunc_enter hP hb]
                  · simpa using VRL.cons hx (ha.evs hargs)
                · cases hs
              · cases hs
            · cases hs
          · cases hs
        · cases hs
      · cases hs
    | builtin b => simp [aReq] at hs
  | _ => simp [aReq] at hs

theorem aReq_yield {ρ : Emb} {n : Nat} {T : List Value} {a : Act} {w : World} (ha : AR ρ n T a) {o : Oper} {β : Nat} {vs : List Value} (hs : aReq P T o = some (.yield β, vs)) :
    ∃ ws e, ρ β = some e ∧ (execOp a.eval o).run P w = (Instr.yield e.blk ws).run P w ∧ VRL ρ vs ws.toList := by
  obtain ⟨dst, op, ty, pos, after, guard⟩ := o
  cases op with
  | call c =>
    obtain ⟨callee, args, ts⟩ := c
    cases callee with
    | value f =>
      simp only [aReq] at hs
      split at hs
      · cases hs
      · rename_i β' xs us vs' hf hargs
        split at hs
        · rename_i h0
          simp only [Option.some.injEq, Prod.mk.injEq, Tgt.yield.injEq] at hs
          obtain ⟨rfl, rfl⟩ := hs
          have hx0 : xs = #[] := Array.eq_empty_of_size_eq_zero h0.1
          have hu0 : us = #[] := Array.eq_empty_of_size_eq_zero h0.2
          subst hx0 hu0
          have hv := ha.ev hf
          have hq : ∃ e, ρ β' = some e ∧ a.eval f = .func (.yield e.blk) #[] #[] := by
            generalize a.eval f = y at hv
            cases hv with
            | func _ _ _ _ _ hn _ _ _ _ => exact absurd rfl (hn β')
            | yield _ e he => exact ⟨e, he, rfl⟩
          obtain ⟨e, he, hq⟩ := hq
          refine ⟨args.map a.eval, e, he, ?_, by simpa using ha.evs hargs⟩
          simp only [execOp, resolve, hq, Sem.run_bind, Deferred.ofValue, Sem.run_pure, Result.andThen_ok, invoke, Array.empty_append]
        · cases hs
      · cases hs
    | invoke recv name =>
      simp only [aReq] at hs
      (repeat' split at hs) <;> cases hs
    | builtin b => simp [aReq] at hs
  | _ => simp [aReq] at hs

abbrev CallFn := Tgt → List Value → AHeap → Option (Value × AHeap)

def CallR (D : Prop) (ρ : Emb) (h : AHeap) (w : World) (v : Value) (h' : AHeap) : Ending → World → Prop := fun e w' => ∃ x ρ', e = .returned x ∧ VR ρ' v x ∧ Step D ρ ρ' h h' w w'

def TgtS (D : Prop) (P : Program) (t : Tgt) (vs : List Value) (h : AHeap) (v : Value) (h' : AHeap) : Prop :=
  match t with
  | .fn g => hasBody P g = true ∧ ∀ (ρ : Emb) (ws : Array Value) (w : World), VRL ρ vs ws.toList → HR ρ h w → Calls P g ws w (CallR D ρ h w v h')
  | .yield β => ∀ (ρ : Emb) (ws : Array Value) (w : World) (e : Ent), VRL ρ vs ws.toList → HR ρ h w → ρ β = some e →
      ∃ f tmps as bo, (Instr.yield e.blk ws).run P w = .ok (.round e.blk f tmps as bo) w ∧ RoundIn Fence.wide 0 P e.blk f tmps as bo w (CallR D ρ h w v h')

def CallS (D : Prop) (P : Program) (call : CallFn) : Prop := ∀ (t : Tgt) (vs : List Value) (h : AHeap) (v : Value) (h' : AHeap), call t vs h = some (v, h') → TgtS D P t vs h v h'

def aRun (P : Program) (call : CallFn) (T : List Value) (h : AHeap) (o : Oper) : Option (Value × AHeap) :=
  match aReq P T o with
  | some (g, vs) => call g vs h
  | none => aOp P T h o

theorem calls_W {r : Option Nat} {f : FuncId} {args : Array Value} {w : World} {R : Ending → World → Prop} (h : Calls P f args w R) : CallsIn (W r) 0 P f args w R := by
  have h1 : CallsIn Fence.wide 0 P f args w R := callsIn_wide.2 h
  exact h1

theorem aReq_congr {T T' : List Value} {o : Oper} (hx : ∀ x ∈ o.op.operands, aev T x = aev T' x) : aReq P T o = aReq P T' o := by
  obtain ⟨dst, op, ty, pos, after, guard⟩ := o
  cases op with
  | call c =>
    obtain ⟨callee, args, ts⟩ := c
    cases callee with
    | value f =>
      simp only [aReq]
      rw [hx f (by simp [Op.operands, Call.operands]), aevs_congr (T' := T') fun x h => hx x (by simp [Op.operands, Call.operands]; right; simpa using h)]
    | invoke f nm =>
      simp only [aReq]
      rw [hx f (by simp [Op.operands, Call.operands]), aevs_congr (T' := T') fun x h => hx x (by simp [Op.operands, Call.operands]; right; simpa using h)]
    | builtin b => rfl
  | _ => rfl

/-- One operation, a call or none. -/
theorem aRun_chain (hP : Named P) {call : CallFn} (hc : CallS D P call) (r : Option Nat) (sz : Nat) {T : List Value} {h h' : AHeap} {o : Oper} {v : Value} (hs : aRun P call T h o = some (v, h')) : ChainOK D P r sz T h h' o v := by
  intro ρ a w T' K Q ha hx hr hK
  have hs' : aRun P call T' h o = some (v, h') := by
    unfold aRun at hs ⊢
    rw [aReq_congr hx, aOp_congr hx]; exact hs
  unfold aRun at hs'
  refine ⟨fun f _ => W_fn r f, ?_⟩
  split at hs'
  · rename_i t vs hq
    have hsem : (o.semAt (W r).round a.eval) = execOp a.eval o := by
      unfold Oper.semAt
      split
      · rename_i hdef; unfold aReq at hq; rw [hdef] at hq; simp at hq
      · rfl
    have hcs := hc t vs h v h' hs'
    cases t with
    | fn g =>
      obtain ⟨hb, hcall⟩ := hcs
      obtain ⟨ws, h1, h2⟩ := aReq_sound hP (w := w) ha hq hb
      rw [hsem, h1, Oper.uponIn_enter]
      refine ⟨(fun hd => by cases hd), ?_⟩
      refine calls_W ((hcall ρ ws w h2 hr).mono ?_)
      rintro e w' ⟨x, ρ', rfl, k1, k2⟩
      exact hK x ρ' w' k1 k2
    | yield β =>
      obtain ⟨ws, e, he, h1, h2⟩ := aReq_yield (w := w) ha hq
      obtain ⟨f, tmps, as, bo, h3, h4⟩ := hcs ρ ws w e h2 hr he
      rw [hsem, h1, h3, Oper.uponIn_round]
      refine ⟨(fun hd => by cases hd), ?_⟩
      have h5 : RoundIn (W r) 0 P e.blk f tmps as bo w (CallR D ρ h w v h') := h4
      refine h5.mono ?_
      rintro e' w' ⟨x, ρ', rfl, k1, k2⟩
      exact hK x ρ' w' k1 k2
  · obtain ⟨x, w', ρ', k1, k2, k3⟩ := aOp_sound ha hr hs'
    have hsem : (o.semAt (W r).round a.eval) = execOp a.eval o := by
      unfold Oper.semAt
      split
      · rename_i hdef; unfold aOp at hs'; rw [hdef] at hs'; simp at hs'
      · rfl
    rw [hsem]
    rcases k1 with k1 | ⟨k1, k1'⟩
    · rw [k1, Oper.uponIn_value]; exact hK x ρ' w' k2 k3.any
    · rw [k1, Oper.uponIn_skip, ← k1']; exact hK x ρ' w' k2 k3.any

/-! ### regions in the order of the text -/
def dstOK (sz : Nat) : Option Nat → Bool
  | some d => decide (d < sz)
  | none => true

theorem dstOK_spec {sz : Nat} {d : Option Nat} (h : dstOK sz d = true) : ∀ k, d = some k → k < sz := fun k hk => by subst hk; simpa [dstOK] using h

def aOps (P : Program) (call : CallFn) (sz : Nat) (ops : Array Oper) : List Oper → List Value → AHeap → Option (List Value × AHeap)
  | [], T, h => some (T, h)
  | o :: os, T, h =>
    if dstOK sz o.dst then
      match aWanted ops T o with
      | some true => match aRun P call T h o with
        | some (v, h') => aOps P call sz ops os (tputO o.dst v T) h'
        | none => none
      | some false => aOps P call sz ops os (tputO o.dst undef T) h
      | none => none
    else none

theorem aOps_sound (hP : Named P) {call : CallFn} (hc : CallS D P call) (r : Option Nat) {sz : Nat} {ops : Array Oper} {Q : Exit → Act → World → Prop} {ds : List Deferred} : ∀ (k : Nat) (os : List Oper) (T : List Value) (h : AHeap) (T' : List Value) (h' : AHeap),
    aOps P call sz ops os T h = some (T', h') → (∀ j, os[j]? = ops[k + j]?) → ∀ (ρ : Emb) (a : Act) (w : World), AR ρ sz T a → a.defers = ds → HR ρ h w →
    (∀ ρ' a' w', AR ρ' sz T' a' → a'.defers = ds → Step D ρ ρ' h h' w w' → Q .normal a' w') → wpOpsIn (W r) 0 P ops Q (List.range' k os.length) a w := by
  intro k os
  induction os generalizing k with
  | nil =>
    intro T h T' h' hs _ ρ a w ha hd hr hQ
    simp only [aOps, Option.some.injEq, Prod.mk.injEq] at hs
    obtain ⟨rfl, rfl⟩ := hs
    exact hQ ρ a w ha hd (Step.refl hr)
  | cons o os ih =>
    intro T h T' h' hs hos ρ a w ha hd hr hQ
    have h0 : ops[k]? = some o := by simpa using (hos 0).symm
    have hos' : ∀ j, os[j]? = ops[k + 1 + j]? := fun j => by have := hos (j + 1); simpa [Nat.add_assoc, Nat.add_comm 1 j] using this
    simp only [List.length_cons, List.range'_succ, wpOpsIn, h0]
    simp only [aOps] at hs
    split at hs
    · rename_i hdst
      have hdst' := dstOK_spec hdst
      split at hs
      · rename_i hw
        rw [aWanted_sound ha hw, if_pos rfl]
        split at hs
        · rename_i v h1 hrun
          refine aRun_chain hP hc r sz hrun ρ a w T _ Q ha (fun _ _ => rfl) hr (fun x ρ' w' hv hst => ?_)
          exact ih (k + 1) _ _ _ _ hs hos' ρ' _ w' ((ha.mono hst.ext).putO hdst' hv) (by rw [← hd]; cases o.dst <;> rfl) hst.hr (fun ρ2 a2 w2 q1 q2 q3 => hQ ρ2 a2 w2 q1 q2 (hst.trans q3))
        · cases hs
      · rename_i hw
        rw [aWanted_sound ha hw, if_neg (by simp)]
        refine ⟨fun f _ => W_fn r f, ?_⟩
        exact ih (k + 1) _ _ _ _ hs hos' ρ _ w (ha.putO hdst' VR.undef) (by rw [← hd]; cases o.dst <;> rfl) hr hQ
      · cases hs
    · cases hs
end
end Go.Ox
