/-
 THE ABSTRACT RUN: code, functions.
-/
import Derived.Test.YtfcajloeknedeaaGreatOxL
import Derived.RangeFuncLeaves
set_option linter.unusedSimpArgs false
set_option linter.unusedVariables false
namespace Go.Ox
variable {D : Prop}

inductive AExit where
 | normal
 | exit (id : Nat)
 | ret
 | goto (l : Nat)

def AExit.conc : AExit → Exit
 | .normal => .normal
 | .exit id => .exit id
 | .ret => .ret
 | .goto l => .goto l

/-! ### a scope with labels that the run jumps back to -/
def Exit.inScope (b : Code) (R : Code → Act → World → Prop) (Q : Exit → Act → World → Prop) : Exit → Act → World → Prop
 | .goto l, a, w => match findLabel b l with
  | some rest => R rest a w
  | none => Q (.goto l) a w
 | e, a, w => Q e a w
def scopeIn (F : Fence) (n : Nat) (P : Program) (b : Code) (Q : Exit → Act → World → Prop) : Nat → Code → Act → World → Prop
 | 0, _, _, _ => False
 | m + 1, c, a, w => c.wpIn F n P (Exit.inScope b (fun rest => scopeIn F n P b Q m rest) Q) a w
section
variable {P : Program} {F : Fence} {n : Nat} {b : Code} {Q : Exit → Act → World → Prop}
theorem stepR_scope {b' : Frame} {a : Act} {k : List Item} {cs : List Frame} {w : World} : step P (lone (b'.atR a (.code (.scope b) :: k)) cs w) = .next (lone (b'.atR a (.code b :: .inScope b :: k)) cs w) :=
 step_lone_go (by simp [stepG, stepG.exec, Frame.atR])
theorem stepR_inScope {b' : Frame} {a : Act} {k : List Item} {cs : List Frame} {w : World} : step P (lone (b'.atR a (.inScope b :: k)) cs w) = .next (lone (b'.atR a k) cs w) :=
 step_lone_go (by simp [stepG, stepG.exec, Frame.atR])
theorem scopeIn_mono {Q' : Exit → Act → World → Prop} (hq : ∀ e a w, Q e a w → Q' e a w) : ∀ (m : Nat) (c : Code) (a : Act) (w : World), scopeIn F n P b Q m c a w → scopeIn F n P b Q' m c a w
 | 0, _, _, _, h => h.elim
 | m + 1, c, a, w, h => wpIn_mono (c := c) h fun e a w q => by
  cases e with
  | goto l =>
   simp only [Exit.inScope] at q ⊢
   split at q
   ·exact scopeIn_mono hq m _ a w q
   ·exact hq _ _ _ q
  | _ => exact hq _ _ _ q
theorem scope_arrives : ∀ (m : Nat) (c : Code) (a : Act) (w : World), scopeIn F n P b Q m c a w → ∀ (b' : Frame) (k : List Item) (cs : List Frame), b'.roundOf = F.round → F.fn b'.fn → F.room (cs.length + 1 + n) →
  ∃ e a' w', Q e a' w' ∧ ArrivesIn (Machine.fenced P F) P (lone (b'.atR a (.code c :: .inScope b :: k)) cs w) b' k cs e a' w'
 | 0, _, _, _, h => h.elim
 | m + 1, c, a, w, h => by
  intro b' k cs hro hb hr
  obtain ⟨e, a₁, w₁, hq, harr⟩ := h b' (.inScope b :: k) cs hro hb hr
  cases e with
  | normal => exact ⟨.normal, a₁, w₁, hq, StepsIn.trans harr (.one (fenced_calm hb hr rfl) stepR_inScope)⟩
  | exit id =>
   have hx : exitTo id (.inScope b :: k) = exitTo id k := by simp [exitTo]
   exact ⟨.exit id, a₁, w₁, hq, fun k' hk => harr.1 k' (by rw [hx]; exact hk), fun hr' hk => let ⟨k₁, h1, h2⟩ := harr.2 hr' (by rw [hx]; exact hk); ⟨k₁, h1, h2⟩⟩
  | goto l =>
   simp only [Exit.inScope] at hq
   split at hq
   ·rename_i rest hf
    have hg : gotoIn l (.inScope b :: k) = some (.code rest :: .inScope b :: k) := by simp [gotoIn, hf]
    obtain ⟨e₂, a₂, w₂, hq₂, harr₂⟩ := scope_arrives m rest a₁ w₁ hq b' k cs hro hb hr
    exact ⟨e₂, a₂, w₂, hq₂, .of_steps (harr.1 _ hg) harr₂⟩
   ·rename_i hf
    have hx : gotoIn l (.inScope b :: k) = gotoIn l k := by simp [gotoIn, hf]
    exact ⟨.goto l, a₁, w₁, hq, fun k' hk => harr.1 k' (by rw [hx]; exact hk), fun hr' hk => let ⟨k₁, h1, h2⟩ := harr.2 hr' (by rw [hx]; exact hk); ⟨k₁, h1, h2⟩⟩
  | ret => exact ⟨_, a₁, w₁, hq, harr⟩
  | panic ch => exact ⟨_, a₁, w₁, hq, harr⟩
  | outgrown => exact ⟨_, a₁, w₁, hq, harr⟩
theorem wpIn_scope {m : Nat} {a : Act} {w : World} (h : scopeIn F n P b Q m b a w) : (Code.scope b).wpIn F n P Q a w := by
 intro b' k cs hro hb hr
 obtain ⟨e, a', w', q, r⟩ := scope_arrives m b a w h b' k cs hro hb hr
 exact ⟨e, a', w', q, .of_steps (.one (fenced_calm hb hr rfl) stepR_scope) r⟩
end
/-- Runs code in a scope, and again from the label as long as it jumps. -/
def aJumps (run : Code → List Value → AHeap → Option (AExit × List Value × AHeap)) (b : Code) : Nat → Code → List Value → AHeap → Option (AExit × List Value × AHeap)
 | 0, _, _, _ => none
 | m + 1, c, T, h => match run c T h with
  | some (.goto l, T', h') => match findLabel b l with
   | some rest => aJumps run b m rest T' h'
   | none => some (.goto l, T', h')
  | r => r

section
variable {P : Program}

def aCode (P : Program) (call : CallFn) (sz : Nat) (rnd : Bool) : Nat → Code → List Value → AHeap → Option (AExit × List Value × AHeap)
 | 0, _, _, _ => none
 | n + 1, c, T, h =>
  match c with
  | .skip => some (.normal, T, h)
  | .label _ => some (.normal, T, h)
  | .exit id => some (.exit id, T, h)
  | .ret => some (.ret, T, h)
  | .goto l => some (.goto l, T, h)
  | .scope b => aJumps (aCode P call sz rnd n) b n b T h
  | .region _ ops draw =>
   match (if draw then aDraw P call sz ops T h else aOps P call sz ops ops.toList T h) with
   | some (T', h') => some (.normal, T', h')
   | none => none
  | .seq a b =>
   match aCode P call sz rnd n a T h with
   | some (.normal, T', h') => aCode P call sz rnd n b T' h'
   | r => r
  | .cond c a b =>
   match aev T c with
   | some (.bool t) => aCode P call sz rnd n (if t then a else b) T h
   | _ => none
  | .block id b =>
   match aCode P call sz rnd n b T h with
   | some (.exit id', T', h') => if id' = id then some (.normal, T', h') else some (.exit id', T', h')
   | r => r
  | .loop b =>
   match aCode P call sz rnd n b T h with
   | some (.normal, T', h') => aCode P call sz rnd n (.loop b) T' h'
   | r => r
  | .rangeFunc f ps as bo =>
   if rnd then none else
   match aev T f with
   | some (.func (.func g) xs us) =>
    match call (.fn g) (xs.toList ++ [.func (.yield h.next) #[] #[]] ++ us.toList) (h.push (.loop .ready none sz T ps as bo)) with
    | some (_, h2) => match h2.get h.next with
     | some (.loop st pe sz' T' ps' as' bo') => match st, pe with
      | .busy, _ => none
      | _, none => some (.normal, T, h2.set h.next (.loop .exhausted pe sz' T' ps' as' bo'))
      | _, some .ret => some (.ret, T, h2.set h.next (.loop .exhausted pe sz' T' ps' as' bo'))
      | _, some (.exit id) => some (.exit id, T, h2.set h.next (.loop .exhausted pe sz' T' ps' as' bo'))
      | _, _ => none
     | _ => none
    | none => none
   | _ => none
  | _ => none

def markOf (B : Nat) : Deferred := { target := .collected B, args := #[] }

/-- A block for the deferred calls of a range over a function's rounds: none are in it. -/
def MarkAt (ρ : Emb) (h : AHeap) (w : World) (B : Nat) : Prop := B < w.heap.size ∧ ¬ Own ρ h B ∧ w.heap[B]? = some (.deferred (some []))

theorem MarkAt.step {ρ ρ' : Emb} {h h' : AHeap} {w w' : World} (st : Step D ρ ρ' h h' w w') {B : Nat} (hm : MarkAt ρ h w B) : MarkAt ρ' h' w' B :=
 ⟨Nat.lt_of_lt_of_le hm.1 st.size, fun ho => (st.own B ho).elim hm.2.1 (fun k => by have := hm.1; omega), by rw [st.frame B hm.1 hm.2.1]; exact hm.2.2⟩

/-- What is known where code has been left. -/
def Left (D : Prop) (ρ : Emb) (sz : Nat) (h : AHeap) (w : World) (ds : List Deferred) (e : AExit) (T' : List Value) (h' : AHeap) : Exit → Act → World → Prop :=
 fun e' a' w' => ∃ (ρ' : Emb) (Bs : List Nat), e' = e.conc ∧ AR ρ' sz T' a' ∧ a'.defers = Bs.map markOf ++ ds ∧ Bs.Nodup ∧ (∀ B ∈ Bs, w.heap.size ≤ B ∧ MarkAt ρ' h' w' B) ∧ Step D ρ ρ' h h' w w'

theorem Left.mk {ρ ρ' : Emb} {sz : Nat} {h h' : AHeap} {w w' : World} {ds : List Deferred} {e : AExit} {T' : List Value} {a' : Act} (h1 : AR ρ' sz T' a') (h2 : a'.defers = ds) (h3 : Step D ρ ρ' h h' w w') : Left D ρ sz h w ds e T' h' e.conc a' w' :=
 ⟨ρ', [], rfl, h1, by simpa using h2, List.nodup_nil, (fun B hB => by cases hB), h3⟩

/-- One piece of code behind another. -/
theorem Left.trans {ρ ρ1 : Emb} {sz : Nat} {h h1 h' : AHeap} {w w1 w' : World} {ds : List Deferred} {e : AExit} {T' : List Value} {a' : Act} {e' : Exit} {Bs : List Nat} (hn : Bs.Nodup) (hb : ∀ B ∈ Bs, w.heap.size ≤ B ∧ MarkAt ρ1 h1 w1 B)
  (st : Step D ρ ρ1 h h1 w w1) (hl : Left D ρ1 sz h1 w1 (Bs.map markOf ++ ds) e T' h' e' a' w') : Left D ρ sz h w ds e T' h' e' a' w' := by
 obtain ⟨ρ', Cs, k1, k2, k3, k4, k5, k6⟩ := hl
 refine ⟨ρ', Cs ++ Bs, k1, k2, by rw [k3]; simp, ?_, fun B hB => ?_, st.trans k6⟩
 ·rw [List.nodup_append]
  refine ⟨k4, hn, fun a ha b hb' => ?_⟩
  have := (k5 a ha).1
  have := (hb b hb').2.1
  omega
 ·rcases List.mem_append.1 hB with hB | hB
  ·have := (k5 B hB).1
   have := st.size
   exact ⟨by omega, (k5 B hB).2⟩
  ·exact ⟨(hb B hB).1, (hb B hB).2.step k6⟩

theorem wpIn_then {r : Option Nat} {c : Code} {a : Act} {w : World} {ρ : Emb} {sz : Nat} {h : AHeap} {ds : List Deferred} {e : AExit} {T' : List Value} {h' : AHeap} (hc : c.wpIn (W r) 0 P (Left D ρ sz h w ds e T' h') a w)
  {Q : Exit → Act → World → Prop} (hQ : ∀ (ρ' : Emb) (a' : Act) (w' : World) (Bs : List Nat), AR ρ' sz T' a' → a'.defers = Bs.map markOf ++ ds → Bs.Nodup → (∀ B ∈ Bs, w.heap.size ≤ B ∧ MarkAt ρ' h' w' B) → Step D ρ ρ' h h' w w' → Q e.conc a' w') : c.wpIn (W r) 0 P Q a w :=
 wpIn_mono hc fun e' a' w' ⟨ρ', Bs, h1, h2, h3, h4, h5, h6⟩ => by subst h1; exact hQ ρ' a' w' Bs h2 h3 h4 h5 h6

theorem roundsIn_mono {F : Fence} {n : Nat} {c : Code} {Q Q' : Exit → Act → World → Prop} (hq : ∀ e a w, Q e a w → Q' e a w) : ∀ (m : Nat) (a : Act) (w : World), Code.roundsIn F n P c Q m a w → Code.roundsIn F n P c Q' m a w
 | 0, _, _, h => h.elim
 | m + 1, a, w, h => by
  rw [roundsIn_succ] at h ⊢
  exact wpIn_mono h fun e a w q => by
   cases e <;> first | exact roundsIn_mono hq m a w q | exact hq _ _ _ q

theorem getLoop_run {w : World} {B : Nat} {m : Loop} (h : w.heap[B]? = some (.loop m)) : (Instr.getLoop B).run P w = .ok m w := by
 simp only [Instr.getLoop, Sem.run_bind]
 have : (getObj B).run P w = .ok (.loop m) w := by simp only [getObj, Sem.run, h]
 rw [this]; rfl

theorem loop_at {ρ : Emb} {h : AHeap} {w : World} (hr : HR ρ h w) {β : Nat} {st : LoopState} {pe : Option Code} {sz : Nat} {T : List Value} {ps : Array Tmp} {as bo : Code} (hg : h.get β = some (.loop st pe sz T ps as bo)) {e : Ent} (he : ρ β = some e) :
  ∃ m, w.heap[e.blk]? = some (.loop m) ∧ e.off = 0 ∧ e.sz = 0 ∧ m.state = st ∧ m.pending = pe ∧ m.params = ps ∧ m.assign = as ∧ m.body = bo ∧ m.tmps.size = sz ∧ ∀ t, VR ρ (tget T t) (m.tmps.getD t undef) := by
 obtain ⟨o, ho, hb⟩ := hr.blk _ _ _ he hg
 cases o <;> first | exact hb.elim | exact ⟨_, ho, hb⟩

theorem setLoop {ρ : Emb} {h : AHeap} {w : World} (hr : HR ρ h w) {β : Nat} {st : LoopState} {pe : Option Code} {sz : Nat} {T : List Value} {ps : Array Tmp} {as bo : Code} (hg : h.get β = some (.loop st pe sz T ps as bo)) {e : Ent} (he : ρ β = some e)
  {m : Loop} (hm : w.heap[e.blk]? = some (.loop m)) (st' : LoopState) (pe' : Option Code) :
  (setObj e.blk (.loop { m with state := st', pending := pe' })).run P w = .ok () { w with heap := w.heap.setIfInBounds e.blk (.loop { m with state := st', pending := pe' }) } ∧
  Step D ρ ρ h (h.set β (.loop st' pe' sz T ps as bo)) w { w with heap := w.heap.setIfInBounds e.blk (.loop { m with state := st', pending := pe' }) } := by
 obtain ⟨m', k1, k2, k3, k4, k5, k6, k7, k8, k9, k10⟩ := loop_at hr hg he
 rw [hm] at k1
 simp only [Option.some.injEq, Obj.loop.injEq] at k1
 subst k1
 have hlt := hr.old _ _ he
 refine ⟨by simp only [setObj, Sem.run, hm], Step.set (o' := .loop { m with state := st', pending := pe' }) hr he hg rfl rfl ?_ ⟨k2, k3, rfl, rfl, k6, k7, k8, k9, k10⟩ (fun B hB => ?_) (by simp) rfl rfl rfl rfl⟩
 ·simp [Array.getElem?_setIfInBounds_self, hlt]
 ·simp only [Array.getElem?_setIfInBounds_ne (fun e => hB e.symm)]

/-- A block that the abstract side knows nothing of. -/
theorem Step.extra {ρ : Emb} {h : AHeap} {w : World} (hr : HR ρ h w) (o : Obj) : Step D ρ ρ h h w (w.alloc o) := by
 refine ⟨⟨hr.fresh, hr.empty, fun γ f k => ?_, fun γ f c k1 k2 => ?_, hr.inj⟩, Emb.le_refl _, fun _ k => .inl k, Nat.le_refl _, fun _ _ _ => rfl, fun B k0 _ => heap_alloc_old w o k0, fun _ k => .inl k, by simp, rfl, rfl, rfl, fun _ => Nat.le_refl _⟩
 ·have := hr.old γ f k; simp; omega
 ·obtain ⟨o', h1, h2⟩ := hr.blk γ f c k1 k2
  exact ⟨o', by rw [heap_alloc_old w o (hr.old γ f k1)]; exact h1, h2⟩

theorem aCode_both (hP : Named P) (hm : P.follows .mixedOrders = true) {call : CallFn} (hc : CallS D P call) (r : Option Nat) (sz : Nat) (rnd : Bool) (hrnd : rnd = false → r = none) : ∀ (n : Nat) (c : Code) (T : List Value) (h : AHeap) (e : AExit) (T' : List Value) (h' : AHeap),
  aCode P call sz rnd n c T h = some (e, T', h') → ∀ (ρ : Emb) (a : Act) (w : World) (ds : List Deferred), AR ρ sz T a → a.defers = ds → HR ρ h w →
  c.wpIn (W r) 0 P (Left D ρ sz h w ds e T' h') a w ∧ ∀ b, c = .loop b → Code.roundsIn (W r) 0 P b (Left D ρ sz h w ds e T' h') n a w := by
 intro n
 induction n with
 | zero => intro c T h e T' h' hs; simp [aCode] at hs
 | succ n ih =>
  intro c T h e T' h' hs ρ a w ds ha hd hr
  suffices hloop : (∀ b, c = .loop b → Code.roundsIn (W r) 0 P b (Left D ρ sz h w ds e T' h') (n + 1) a w) ∧ ((∀ b, c ≠ .loop b) → c.wpIn (W r) 0 P (Left D ρ sz h w ds e T' h') a w) by
   refine ⟨?_, hloop.1⟩
   by_cases hl : ∃ b, c = .loop b
   ·obtain ⟨b, rfl⟩ := hl
    exact wpIn_loop_rounds (n + 1) (hloop.1 b rfl)
   ·exact hloop.2 fun b hb => hl ⟨b, hb⟩
  refine ⟨fun b hb => ?_, fun hnl => ?_⟩
  ·subst hb
   rw [roundsIn_succ]
   simp only [aCode] at hs
   split at hs
   ·rename_i T1 h1 hrun
    refine wpIn_then (ih b T h .normal T1 h1 hrun ρ a w ds ha hd hr).1 fun ρ1 a1 w1 Bs k1 k2 kn kb k3 => ?_
    exact roundsIn_mono (fun e' a' w' hl => Left.trans kn kb k3 hl) n a1 w1 ((ih (.loop b) T1 h1 e T' h' hs ρ1 a1 w1 _ k1 k2 k3.hr).2 b rfl)
   ·rename_i hne
    cases e with
    | normal => exact absurd hs (hne _ _)
    | _ => exact wpIn_then (ih b T h _ T' h' hs ρ a w ds ha hd hr).1 fun ρ1 a1 w1 Bs k1 k2 kn kb k3 => ⟨ρ1, Bs, rfl, k1, k2, kn, kb, k3⟩
  cases c with
  | skip =>
   simp only [aCode, Option.some.injEq, Prod.mk.injEq] at hs
   obtain ⟨rfl, rfl, rfl⟩ := hs
   exact wpIn_skip (Left.mk (e := .normal) ha hd (Step.refl hr))
  | label l =>
   simp only [aCode, Option.some.injEq, Prod.mk.injEq] at hs
   obtain ⟨rfl, rfl, rfl⟩ := hs
   exact wpIn_label (Left.mk (e := .normal) ha hd (Step.refl hr))
  | exit id =>
   simp only [aCode, Option.some.injEq, Prod.mk.injEq] at hs
   obtain ⟨rfl, rfl, rfl⟩ := hs
   exact wpIn_exit (Left.mk (e := .exit id) ha hd (Step.refl hr))
  | ret =>
   simp only [aCode, Option.some.injEq, Prod.mk.injEq] at hs
   obtain ⟨rfl, rfl, rfl⟩ := hs
   exact wpIn_ret (Left.mk (e := .ret) ha hd (Step.refl hr))
  | goto l =>
   simp only [aCode, Option.some.injEq, Prod.mk.injEq] at hs
   obtain ⟨rfl, rfl, rfl⟩ := hs
   exact wpIn_goto (Left.mk (e := .goto l) ha hd (Step.refl hr))
  | scope b =>
   simp only [aCode] at hs
   have jumps : ∀ (m : Nat) (c : Code) (T : List Value) (h : AHeap) (e : AExit) (T' : List Value) (h' : AHeap), aJumps (aCode P call sz rnd n) b m c T h = some (e, T', h') →
     ∀ (ρ : Emb) (a : Act) (w : World) (ds : List Deferred), AR ρ sz T a → a.defers = ds → HR ρ h w → scopeIn (W r) 0 P b (Left D ρ sz h w ds e T' h') m c a w := by
    intro m
    induction m with
    | zero => intro c T h e T' h' hs; cases hs
    | succ m im =>
     intro c T h e T' h' hs ρ a w ds ha hd hr
     simp only [aJumps] at hs
     split at hs
     ·rename_i l T1 h1 hrun
      refine wpIn_then (ih c T h (.goto l) T1 h1 hrun ρ a w ds ha hd hr).1 fun ρ1 a1 w1 Bs k1 k2 kn kb k3 => ?_
      simp only [AExit.conc, Exit.inScope]
      split at hs
      ·rename_i rest hf
       exact scopeIn_mono (fun e' a' w' hl => Left.trans kn kb k3 hl) m rest a1 w1 (im rest T1 h1 e T' h' hs ρ1 a1 w1 _ k1 k2 k3.hr)
      ·rename_i hf
       simp only [Option.some.injEq, Prod.mk.injEq] at hs
       obtain ⟨rfl, rfl, rfl⟩ := hs
       exact ⟨ρ1, Bs, rfl, k1, k2, kn, kb, k3⟩
     ·rename_i hne
      cases e with
      | goto l => exact absurd hs (hne _ _ _)
      | _ => exact wpIn_then (ih c T h _ T' h' hs ρ a w ds ha hd hr).1 fun ρ1 a1 w1 Bs k1 k2 kn kb k3 => ⟨ρ1, Bs, rfl, k1, k2, kn, kb, k3⟩
   exact wpIn_scope (jumps n b T h e T' h' hs ρ a w ds ha hd hr)
  | region id ops draw =>
   simp only [aCode] at hs
   split at hs
   ·rename_i T2 h2 hrun
    simp only [Option.some.injEq, Prod.mk.injEq] at hs
    obtain ⟨rfl, rfl, rfl⟩ := hs
    cases draw with
    | true =>
     simp only [if_true] at hrun
     refine wpIn_region_any hm ?_
     refine aDraw_sound hP hc r hrun ha hd hr.drew (fun ρ' a' w' h1 h2' h3 => Left.mk (e := .normal) h1 h2' ((Step.drew hr).trans h3))
    | false =>
     simp only [Bool.false_eq_true, if_false] at hrun
     refine wpIn_region ?_
     have := aOps_sound hP hc r (Q := Left D ρ sz h w ds .normal T2 h2) 0 ops.toList T h T2 h2 hrun (fun j => by simp) ρ a w ha hd hr (fun ρ' a' w' h1 h2' h3 => Left.mk (e := .normal) h1 h2' h3)
     rw [List.range_eq_range', ← Array.length_toList]; exact this
   ·cases hs
  | seq c1 c2 =>
   simp only [aCode] at hs
   split at hs
   ·rename_i T1 h1 hrun
    refine wpIn_seq (wpIn_then (ih c1 T h .normal T1 h1 hrun ρ a w ds ha hd hr).1 fun ρ1 a1 w1 Bs k1 k2 kn kb k3 => ?_)
    exact wpIn_mono (ih c2 T1 h1 e T' h' hs ρ1 a1 w1 _ k1 k2 k3.hr).1 fun e' a' w' hl => Left.trans kn kb k3 hl
   ·rename_i hne
    cases e with
    | normal => exact absurd hs (hne _ _)
    | _ => exact wpIn_seq (wpIn_then (ih c1 T h _ T' h' hs ρ a w ds ha hd hr).1 fun ρ1 a1 w1 Bs k1 k2 kn kb k3 => ⟨ρ1, Bs, rfl, k1, k2, kn, kb, k3⟩)
  | cond x c1 c2 =>
   simp only [aCode] at hs
   split at hs
   ·rename_i t hx
    exact wpIn_cond (ha.ev hx).bool_inv (ih _ T h e T' h' hs ρ a w ds ha hd hr).1
   ·cases hs
  | block id b =>
   simp only [aCode] at hs
   split at hs
   ·rename_i id' T1 h1 hrun
    refine wpIn_block (wpIn_then (ih b T h (.exit id') T1 h1 hrun ρ a w ds ha hd hr).1 fun ρ1 a1 w1 Bs k1 k2 kn kb k3 => ?_)
    split at hs
    ·rename_i hid
     simp only [Option.some.injEq, Prod.mk.injEq] at hs
     obtain ⟨rfl, rfl, rfl⟩ := hs
     show (if id' = id then _ else _)
     rw [if_pos hid]; exact ⟨ρ1, Bs, rfl, k1, k2, kn, kb, k3⟩
    ·rename_i hid
     simp only [Option.some.injEq, Prod.mk.injEq] at hs
     obtain ⟨rfl, rfl, rfl⟩ := hs
     show (if id' = id then _ else _)
     rw [if_neg hid]; exact ⟨ρ1, Bs, rfl, k1, k2, kn, kb, k3⟩
   ·rename_i hne
    cases e with
    | exit id' => exact absurd hs (hne _ _ _)
    | _ => exact wpIn_block (wpIn_then (ih b T h _ T' h' hs ρ a w ds ha hd hr).1 fun ρ1 a1 w1 Bs k1 k2 kn kb k3 => ⟨ρ1, Bs, rfl, k1, k2, kn, kb, k3⟩)
  | loop b => exact absurd rfl (hnl b)
  | rangeFunc f ps as bo =>
   simp only [aCode] at hs
   split at hs
   ·cases hs
   rename_i hr0
   have hrn : r = none := hrnd (by simpa using hr0)
   subst hrn
   split at hs
   ·rename_i g xs us hf
    split at hs
    ·rename_i v h2 hcall
     split at hs
     ·rename_i st pe sz' T2 ps' as' bo' hg
      refine wpIn_rangeFunc fun fn _ => ?_
      have hv := ha.ev hf
      have hq : ∃ ys zs, a.eval f = .func (.func g) ys zs ∧ VRL ρ xs.toList ys.toList ∧ VRL ρ us.toList zs.toList := by
       generalize a.eval f = y at hv
       cases hv with
       | func _ _ _ _ _ _ h1 h2 h3 h4 => exact ⟨_, _, rfl, VRL_iff.2 ⟨by simpa using h1, by simpa using h2⟩, VRL_iff.2 ⟨by simpa using h3, by simpa using h4⟩⟩
      obtain ⟨ys, zs, hq, hxy, huz⟩ := hq
      let L : Loop := { state := .ready, pending := none, fn := fn, tmps := a.tmps, params := ps, assign := as, body := bo, defers := w.heap.size }
      let wa : World := w.alloc (.deferred (some []))
      have st1 : Step D ρ ρ h h w wa := Step.extra hr _
      have st2 := Step.push (D := D) (b := .loop .ready none sz T ps as bo) (o := .loop L) (e := ⟨w.heap.size + 1, 0, 0, 0⟩) st1.hr (by simp [wa]) (fun ρ' hle _ => ⟨rfl, rfl, rfl, rfl, rfl, rfl, rfl, ha.size, fun t => (ha.slot t).mono hle⟩)
      have st12 := st1.trans st2
      have hρ : (fun β => if β = h.next then some (⟨w.heap.size + 1, 0, 0, 0⟩ : Ent) else ρ β) h.next = some ⟨w.heap.size + 1, 0, 0, 0⟩ := by simp
      obtain ⟨hb, hcs⟩ := hc _ _ _ _ _ hcall
      refine ⟨w.heap.size + 1, [markOf w.heap.size], wa.alloc (.loop L), { target := .fn (.func g) zs, args := ys ++ #[.func (.yield (w.heap.size + 1)) #[] #[]] }, wa.alloc (.loop L), g, (ys ++ #[.func (.yield (w.heap.size + 1)) #[] #[]]) ++ zs, wa.alloc (.loop L), ?_, ?_, fun _ _ => W_fn _ _, ?_, (fun hd => by cases hd), ?_⟩
      ·simp only [Instr.enterLoop, W, Sem.run_bind, run_newObj, Result.andThen_ok, Sem.run_pure]
       simp [L, wa, markOf]; rfl
      ·simp only [resolve, rangeCall, hq, Sem.run_bind, Deferred.ofValue, Sem.run_pure, Result.andThen_ok]
       simp [Act.eval]
      ·simp only [invoke, callFunc_enter hP hb]
      ·have hvl : VRL (fun β => if β = h.next then some (⟨w.heap.size + 1, 0, 0, 0⟩ : Ent) else ρ β) (xs.toList ++ [Value.func (.yield h.next) #[] #[]] ++ us.toList) ((ys ++ #[Value.func (.yield (w.heap.size + 1)) #[] #[]]) ++ zs).toList := by
        simp only [Array.toList_append]
        exact ((hxy.mono st12.ext).append (VRL.one (VR.yield h.next ⟨w.heap.size + 1, 0, 0, 0⟩ hρ))).append (huz.mono st12.ext)
       refine calls_W ((hcs _ _ _ hvl st12.hr).mono ?_)
       rintro e' w3 ⟨x, ρ3, rfl, _, st3⟩
       have st13 := st12.trans st3
       have he3 : ρ3 h.next = some ⟨w.heap.size + 1, 0, 0, 0⟩ := st3.ext _ _ hρ
       obtain ⟨m, m1, m2, m3, m4, m5, _⟩ := loop_at st3.hr hg he3
       have notbusy : st ≠ .busy → ∃ w4, (Instr.endLoop (w.heap.size + 1)).run P w3 = .ok pe w4 ∧ Step D ρ3 ρ3 h2 (h2.set h.next (.loop .exhausted pe sz' T2 ps' as' bo')) w3 w4 := fun hnb => by
        obtain ⟨s1, s2⟩ := setLoop (P := P) st3.hr hg he3 m1 .exhausted pe
        refine ⟨_, ?_, s2⟩
        have hbz : (m.state == LoopState.busy) = false := by rw [m4]; cases st <;> first | rfl | exact absurd rfl hnb
        have s1' : (setObj (w.heap.size + 1) (.loop { m with state := .exhausted, pending := pe })).run P w3 = .ok () { w3 with heap := w3.heap.setIfInBounds (w.heap.size + 1) (.loop { m with state := .exhausted, pending := pe }) } := s1
        simp only [Instr.endLoop, Sem.run_bind, getLoop_run m1, Result.andThen_ok, hbz, Bool.false_eq_true, if_false, m5]
        rw [s1']; rfl
       -- the mark stays as it was laid
       have hmark : MarkAt ρ h wa w.heap.size := by
        refine ⟨by simp [wa], ?_, heap_alloc_new w _⟩
        rintro ⟨γ, f', b', q1, q2, q3, q4⟩
        have := hr.old γ f' q1; omega
       have fin : ∀ {w4 : World} (st4 : Step D ρ3 ρ3 h2 (h2.set h.next (.loop .exhausted pe sz' T2 ps' as' bo')) w3 w4) (e0 : AExit), Left D ρ sz h w ds e0 T (h2.set h.next (.loop .exhausted pe sz' T2 ps' as' bo')) e0.conc { a with defers := [markOf w.heap.size] ++ a.defers } w4 := fun {w4} st4 e0 =>
        ⟨ρ3, [w.heap.size], rfl, ⟨ha.size, fun t => (ha.slot t).mono st13.ext⟩, by simp [hd], by simp, fun B hB => by
         simp only [List.mem_singleton] at hB
         subst hB
         exact ⟨Nat.le_refl _, ((hmark.step st2).step st3).step st4⟩, st13.trans st4⟩
       split at hs
       ·cases hs
       ·rename_i hnb
        simp only [Option.some.injEq, Prod.mk.injEq] at hs
        obtain ⟨rfl, rfl, rfl⟩ := hs
        obtain ⟨w4, s1, s2⟩ := notbusy hnb
        exact ⟨none, w4, s1, fin s2 .normal⟩
       ·rename_i hnb
        simp only [Option.some.injEq, Prod.mk.injEq] at hs
        obtain ⟨rfl, rfl, rfl⟩ := hs
        obtain ⟨w4, s1, s2⟩ := notbusy hnb
        exact ⟨some .ret, w4, s1, wpIn_ret (fin s2 .ret)⟩
       ·rename_i id hnb
        simp only [Option.some.injEq, Prod.mk.injEq] at hs
        obtain ⟨rfl, rfl, rfl⟩ := hs
        obtain ⟨w4, s1, s2⟩ := notbusy hnb
        exact ⟨some (.exit id), w4, s1, wpIn_exit (fin s2 (.exit id))⟩
       ·cases hs
     ·cases hs
    ·cases hs
   ·cases hs
  | _ => simp [aCode] at hs

theorem aCode_sound (hP : Named P) (hm : P.follows .mixedOrders = true) {call : CallFn} (hc : CallS D P call) (r : Option Nat) (sz : Nat) (rnd : Bool) (hrnd : rnd = false → r = none) (n : Nat) (c : Code) (T : List Value) (h : AHeap) (e : AExit) (T' : List Value) (h' : AHeap)
  (hs : aCode P call sz rnd n c T h = some (e, T', h')) (ρ : Emb) (a : Act) (w : World) (ds : List Deferred) (ha : AR ρ sz T a) (hd : a.defers = ds) (hr : HR ρ h w) : c.wpIn (W r) 0 P (Left D ρ sz h w ds e T' h') a w :=
 (aCode_both hP hm hc r sz rnd hrnd n c T h e T' h' hs ρ a w ds ha hd hr).1

def aResults (P : Program) (h : AHeap) (T : List Value) : List ResultVar → Option (List Value)
 | [] => some []
 | .tmp t :: rs => match aResults P h T rs with
  | some vs => some (tget T t :: vs)
  | none => none
 | .cell a t :: rs => match tget T a with
  | .pointer (some b) => match aLoad P h t b, aResults P h T rs with
   | some v, some vs => some (v :: vs)
   | _, _ => none
  | _ => none

def oneOf : List Value → Value
 | [v] => v
 | vs => .tuple vs.toArray

def resOf (tmps : Array Value) : ResultVar → Sem Value
 | .tmp t => pure (tmps.getD t undef)
 | .cell x t => do loadVar t (← asAddr (tmps.getD x undef))

theorem results_eq (fn : Func) (tmps : Array Value) : results fn tmps = (do
  let vs ← fn.results.mapM (resOf tmps)
  pure (if h : vs.size = 1 then vs[0] else .tuple vs)) := by
 unfold results
 congr 2

theorem aResults_sound {ρ : Emb} {n : Nat} {T : List Value} {a : Act} {h : AHeap} {w : World} (ha : AR ρ n T a) (hr : HR ρ h w) : ∀ {rs : List ResultVar} {vs : List Value}, aResults P h T rs = some vs →
  ∃ ws, (rs.mapM (resOf a.tmps)).run P w = .ok ws w ∧ VRL ρ vs ws
 | [], vs, hs => by simp [aResults] at hs; subst hs; exact ⟨[], rfl, trivial⟩
 | .tmp t :: rs, vs, hs => by
  simp only [aResults] at hs
  split at hs
  ·rename_i us hu
   obtain rfl := Option.some.inj hs
   obtain ⟨ws, h1, h2⟩ := aResults_sound ha hr hu
   refine ⟨a.tmps.getD t undef :: ws, ?_, ha.slot t, h2⟩
   simp only [List.mapM_cons, resOf, Sem.run_bind, Sem.run_pure, Result.andThen_ok, h1]
  ·cases hs
 | .cell x t :: rs, vs, hs => by
  simp only [aResults] at hs
  split at hs
  ·rename_i b hb
   split at hs
   ·rename_i v us hl hu
    obtain rfl := Option.some.inj hs
    have hv := ha.slot x
    rw [hb] at hv
    obtain ⟨e, he, hxe⟩ := hv.ptr_inv
    obtain ⟨y, k1, k2⟩ := aLoad_sound hr hl he
    obtain ⟨ws, h1, h2⟩ := aResults_sound ha hr hu
    refine ⟨y :: ws, ?_, k2, h2⟩
    have k3 : (resOf a.tmps (.cell x t)).run P w = .ok y w := by
     simp only [resOf, Sem.run_bind, hxe, asAddr, Sem.run_pure, Result.andThen_ok, k1]
    simp only [List.mapM_cons, Sem.run_bind, k3, Result.andThen_ok, h1, Sem.run_pure]
   ·cases hs
  ·cases hs

def parT (ps : List Tmp) (vs : List Value) (T : List Value) : List Value := (ps.zip vs).foldl (fun T x => tput T x.1 x.2) T

/-- Closed functions of which it is known that they return true. -/
class Ext (P : Program) where
 D : Prop := False
 fs : List FuncId
 body : ∀ f, f ∈ fs → hasBody P f = true
 ok : ∀ f, f ∈ fs → ∀ w : World, Calls P f #[] w fun e w' => e = .returned (.bool true) ∧ RowKit.Below w.heap.size w w'
 xs : List FuncId := []
 app : FuncId → List Value → AHeap → Option (Value × AHeap) := fun _ _ _ => none
 xnext : ∀ f args h v h', app f args h = some (v, h') → h.next ≤ h'.next := by intro _ _ _ _ _ k; cases k
 xok : ∀ f args h v h', app f args h = some (v, h') → hasBody P f = true ∧ ∀ (ρ : Emb) (ws : Array Value) (w : World), VRL ρ args ws.toList → HR ρ h w → Calls P f ws w (CallR D ρ h w v h') := by intro _ _ _ _ _ k; cases k
 none : D → fs = [] ∧ ∀ f args h, app f args h = none := by intro k; cases k

@[reducible] def noExt (P : Program) : Ext P := { D := True, none := fun _ => ⟨rfl, fun _ _ _ => rfl⟩, fs := [], body := fun _ k => (by cases k), ok := fun _ k => (by cases k) }

theorem Step.of_below {ρ : Emb} {h : AHeap} {w w' : World} (hr : HR ρ h w) (b : RowKit.Below w.heap.size w w') (hd : D → w.drawn ≤ w'.drawn) : Step D ρ ρ h h w w' where
 hr := ⟨hr.fresh, hr.empty, fun β e k => Nat.lt_of_lt_of_le (hr.old β e k) b.size, fun β e c k l => by
  obtain ⟨o, h1, h2⟩ := hr.blk β e c k l
  exact ⟨o, by rw [b.block _ (hr.old β e k)]; exact h1, h2⟩, hr.inj⟩
 ext := Emb.le_refl ρ
 dom := fun _ k => .inl k
 next := Nat.le_refl _
 keep := fun _ _ _ => rfl
 frame := fun B k _ => b.block B k
 own := fun _ k => .inl k
 size := b.size
 os := b.os
 tape := b.tape
 output := b.output
 drawn := hd

def aCall (P : Program) [X : Ext P] : Nat → CallFn
 | 0, _, _, _ => none
 | n + 1, .fn f, args, h =>
  if (X.fs.contains f && args.isEmpty || X.xs.contains f) = true then (if (X.fs.contains f && args.isEmpty) = true then some (.bool true, h) else X.app f args h) else
  match P.funcs[f]? with
  | some fn => match fn.body with
   | some c => match aCode P (aCall P n) (args.length + (fn.ntmps - args.length)) false n c args h with
    | some (e, T', h') => match e with
     | .exit _ => none
     | .goto _ => none
     | _ => match aResults P h' T' fn.results.toList with
      | some vs => some (oneOf vs, h')
      | none => none
    | none => none
   | none => none
  | none => none
 | n + 1, .yield β, args, h =>
  match h.get β with
  | some (.loop .ready _ sz T ps as bo) =>
   if args.length = ps.size ∧ ps.toList.all (fun t => decide (t < sz)) = true then
    match aCode P (aCall P n) sz true n as (parT ps.toList args T) h with
    | some (.normal, T1, h1) => match h1.get β with
     | some (.loop .ready pe1 sz1 T1' ps1 as1 bo1) =>
      match aCode P (aCall P n) sz true n bo T1 (h1.set β (.loop .busy pe1 sz1 T1' ps1 as1 bo1)) with
      | some (e, _, h2) => match h2.get β with
       | some (.loop _ _ sz2 T2 ps2 as2 bo2) => match e with
        | .normal => some (.bool true, h2.set β (.loop .ready none sz2 T2 ps2 as2 bo2))
        | .ret => some (.bool false, h2.set β (.loop .done (some .ret) sz2 T2 ps2 as2 bo2))
        | .exit id => some (.bool false, h2.set β (.loop .done (some (.exit id)) sz2 T2 ps2 as2 bo2))
        | .goto _ => none
       | _ => none
      | none => none
     | _ => none
    | _ => none
   else none
  | _ => none

theorem enter_AR {ρ : Emb} {args : List Value} {ws : Array Value} (hv : VRL ρ args ws.toList) (k : Nat) : AR ρ (args.length + k) args { tmps := ws ++ Array.replicate k undef, defers := [] } := by
 have hl := hv.length
 simp only [Array.length_toList] at hl
 have tg : ∀ (l : List Value) (t : Nat), tget l t = l.getD t undef := by
  intro l
  induction l with
  | nil => intro t; simp [tget_nil]
  | cons x l ih => intro t; cases t with | zero => rfl | succ t => simp [tget, ih t]
 refine ⟨by simp [hl], fun t => ?_⟩
 rw [tg, List.getD_eq_getElem?_getD, Array.getD_eq_getD_getElem?]
 by_cases ht : t < args.length
 ·have hx : args[t]? = some args[t] := List.getElem?_eq_getElem ht
  obtain ⟨y, hy, hvy⟩ := hv.get hx
  rw [hx, Array.getElem?_append_left (by omega)]
  have : ws[t]? = some y := by simpa using hy
  rw [this]; exact hvy
 ·rw [List.getElem?_eq_none (by omega), Array.getElem?_append_right (by omega)]
  by_cases h2 : t - ws.size < k
  ·simp [h2]; exact VR.undef
  ·rw [Array.getElem?_eq_none (by simp; omega)]; exact VR.undef

theorem parT_AR {ρ : Emb} {sz : Nat} : ∀ {ps : List Tmp} {vs ws : List Value} {T : List Value} {tm : Array Value} {ds : List Deferred}, VRL ρ vs ws → (∀ t ∈ ps, t < sz) → AR ρ sz T { tmps := tm, defers := ds } →
  AR ρ sz (parT ps vs T) { tmps := (ps.zip ws).foldl (fun tm x => tm.setIfInBounds x.1 x.2) tm, defers := ds }
 | [], _, _, _, _, _, _, _, h => by simpa [parT] using h
 | _ :: _, [], [], _, _, _, _, _, h => by simpa [parT] using h
 | _ :: _, [], _ :: _, _, _, _, hv, _, _ => hv.elim
 | _ :: _, _ :: _, [], _, _, _, hv, _, _ => hv.elim
 | p :: ps, v :: vs, w :: ws, T, tm, ds, hv, hp, h => by
  simp only [parT, List.zip_cons_cons, List.foldl_cons]
  have h1 := h.put (hp p (by simp)) hv.1
  exact parT_AR hv.2 (fun t ht => hp t (by simp [ht])) h1

/-- Where the marks stand, the frame leaves. -/
theorem leavesM {fn : Func} {tmps : Array Value} {ρ0 : Emb} {h0 : AHeap} {w0 : World} {ρ' : Emb} {h' : AHeap} {v : Value} (hres : ∀ w, HR ρ' h' w → ∃ x, (results fn tmps).run P w = .ok x w ∧ VR ρ' v x) :
  ∀ (Bs : List Nat) (w : World), Bs.Nodup → (∀ B ∈ Bs, w0.heap.size ≤ B ∧ MarkAt ρ' h' w B) → Step D ρ0 ρ' h0 h' w0 w → LeavesInM Fence.wide 0 P fn tmps (CallR D ρ0 h0 w0 v h') (Bs.map markOf) .returning w := by
 intro Bs
 induction Bs with
 | nil =>
  intro w _ _ st
  obtain ⟨x, h1, h2⟩ := hres w st.hr
  exact ⟨x, h1, x, ρ', rfl, h2, st⟩
 | cons B Bs ih =>
  intro w hn hb st
  obtain ⟨hlo, hlt, hno, hB⟩ := hb B (by simp)
  refine ⟨(fun h => by cases h), .inl ⟨B, { w with heap := w.heap.setIfInBounds B (.deferred none) }, rfl, ?_, ?_⟩⟩
  ·have h1 : (getObj B).run P w = .ok (.deferred (some [])) w := by simp only [getObj, Sem.run, hB]
   have h2 : (setObj B (.deferred none)).run P w = .ok () { w with heap := w.heap.setIfInBounds B (.deferred none) } := by simp only [setObj, Sem.run, hB]
   simp only [Instr.takeDeferred, Sem.run_bind, h1, Result.andThen_ok, h2, Sem.run_pure]
  ·have hsame : ∀ C, C ≠ B → ({ w with heap := w.heap.setIfInBounds B (.deferred none) } : World).heap[C]? = w.heap[C]? := fun C hC => by
    simp only [Array.getElem?_setIfInBounds_ne (fun e => hC e.symm)]
   refine ih _ (List.nodup_cons.1 hn).2 (fun C hC => ?_) ?_
   ·obtain ⟨k1, k2, k3, k4⟩ := hb C (by simp [hC])
    refine ⟨k1, by simpa using k2, k3, ?_⟩
    rw [hsame C (fun e => (List.nodup_cons.1 hn).1 (e ▸ hC))]; exact k4
   ·refine ⟨⟨st.hr.fresh, st.hr.empty, fun γ f k => by simpa using st.hr.old γ f k, fun γ f b k1 k2 => ?_, st.hr.inj⟩, st.ext, st.dom, st.next, st.keep, fun C q1 q2 => ?_, st.own, by simpa using st.size, st.os, st.tape, st.output, st.drawn⟩
    ·obtain ⟨o, q1, q2⟩ := st.hr.blk γ f b k1 k2
     refine ⟨o, ?_, q2⟩
     rw [hsame f.blk (fun e => ?_)]; · exact q1
     rw [e, hB] at q1
     obtain rfl := Option.some.inj q1
     cases b with
     | cells ro sz c T => cases ro <;> exact q2.elim
     | _ => exact q2.elim
    ·rw [hsame C (by omega)]; exact st.frame C q1 q2

theorem aCall_sound [X : Ext P] (hP : Named P) (hm : P.follows .mixedOrders = true) : ∀ n, CallS X.D P (aCall P n) := by
 intro n
 induction n with
 | zero => intro g vs h v h' hs; simp [aCall] at hs
 | succ n ih =>
  intro t vs h v h' hs
  cases t with
  | fn g =>
   simp only [aCall] at hs
   split at hs
   ·split at hs
    case isFalse => exact X.xok g vs h v h' hs
    rename_i hx
    simp only [Bool.and_eq_true, List.contains_iff_mem, List.isEmpty_iff] at hx
    obtain ⟨hx, rfl⟩ := hx
    simp only [Option.some.injEq, Prod.mk.injEq] at hs
    obtain ⟨rfl, rfl⟩ := hs
    refine ⟨X.body g hx, fun ρ ws w hv hr => ?_⟩
    have hws : ws = #[] := by
     have := hv.length
     simp at this
     simpa using this.symm
    subst hws
    refine (X.ok g hx w).mono ?_
    rintro e w' ⟨rfl, bel⟩
    exact ⟨_, ρ, rfl, .bool true, Step.of_below hr bel fun d => by rw [(X.none d).1] at hx; cases hx⟩
   split at hs
   ·rename_i fn hf
    split at hs
    ·rename_i c hb
     refine ⟨by simp [hasBody, hf, hb], fun ρ ws w hv hr => ?_⟩
     split at hs
     ·rename_i e T' h2 hrun
      have hsz : vs.length = ws.size := by simpa using hv.length
      have hcode := aCode_sound hP hm ih none _ false (fun _ => rfl) n c vs h e T' h2 hrun ρ _ w [] (enter_AR hv (fn.ntmps - vs.length)) rfl hr
      have fin : ∀ us, aResults P h2 T' fn.results.toList = some us → (e = .normal ∨ e = .ret) → Calls P g ws w (CallR X.D ρ h w (oneOf us) h2) := by
       intro us hres he
       refine (callsIn_wide (n := 0)).1 (callsIn_of_wp_marks (F := Fence.wide) (fn := fn) hf hb trivial ?_)
       rw [hsz] at hcode
       refine wpIn_mono (F := Fence.wide) hcode ?_
       rintro e' a' w' ⟨ρ', Bs, rfl, k1, k2, k3, k4, k5⟩
       have hlv : LeavesInM Fence.wide 0 P fn a'.tmps (CallR X.D ρ h w (oneOf us) h2) a'.defers .returning w' := by
        rw [k2, List.append_nil]
        refine leavesM (fun w3 hr3 => ?_) Bs w' k3 k4 k5
        obtain ⟨zs, q1, q2⟩ := aResults_sound (P := P) k1 hr3 hres
        refine ⟨oneOf zs, ?_, ?_⟩
        ·rw [results_eq]
         simp only [Sem.run_bind]
         have : (fn.results.mapM (resOf a'.tmps)).run P w3 = .ok zs.toArray w3 := by
          rw [← Array.toArray_toList (xs := fn.results), List.mapM_toArray]
          simp only [Sem.run_map, q1, Result.andThen_ok]
         rw [this]
         simp only [Result.andThen_ok, Sem.run_pure]
         congr 1
         cases zs with
         | nil => rfl
         | cons z zs => cases zs with
          | nil => simp [oneOf]
          | cons z2 zs => simp [oneOf]
        ·match us, zs, q2 with
         | [], [], _ => exact VR.undef
         | [_], [_], q2 => exact q2.1
         | _ :: _ :: _, _ :: _ :: _, q2 => exact VR.ofTuple q2
       rcases he with rfl | rfl
       ·exact hlv
       ·exact hlv
      cases e with
      | exit id => cases hs
      | goto l => cases hs
      | normal =>
       simp only at hs
       split at hs
       ·rename_i us hres
        simp only [Option.some.injEq, Prod.mk.injEq] at hs
        obtain ⟨rfl, rfl⟩ := hs
        exact fin us hres (.inl rfl)
       ·cases hs
      | ret =>
       simp only at hs
       split at hs
       ·rename_i us hres
        simp only [Option.some.injEq, Prod.mk.injEq] at hs
        obtain ⟨rfl, rfl⟩ := hs
        exact fin us hres (.inr rfl)
       ·cases hs
     ·cases hs
    ·cases hs
   ·cases hs
  | yield β =>
   simp only [aCall] at hs
   split at hs
   ·rename_i pe sz T ps as bo hg
    split at hs
    ·rename_i hcond
     obtain ⟨hlen, hps⟩ := hcond
     split at hs
     ·rename_i T1 h1 hrun1
      split at hs
      ·rename_i pe1 sz1 T1' ps1 as1 bo1 hg1
       split at hs
       ·rename_i e T2 h2 hrun2
        split at hs
        ·rename_i st2 pe2 sz2 T2' ps2 as2 bo2 hg2
         intro ρ ws w en hv hr he
         obtain ⟨m, m1, m2, m3, m4, m5, m6, m7, m8, m9, m10⟩ := loop_at hr hg he
         have hwl : ws.size = m.params.size := by
          have := hv.length
          rw [m6, ← hlen]; simpa using this.symm
         refine ⟨m.fn, (m.params.zip ws).foldl (fun tmps (t, a) => tmps.setIfInBounds t a) m.tmps, as, bo, ?_, ?_⟩
         ·simp only [Instr.yield, Sem.run_bind, getLoop_run m1, Result.andThen_ok, hwl, ne_eq, not_true_eq_false, if_false, Sem.run_pure, m7, m8]
         ·refine roundIn_of_wpIn (F := Fence.wide) trivial ?_
          have har : AR ρ sz (parT ps.toList vs T) { tmps := (m.params.zip ws).foldl (fun tmps (t, a) => tmps.setIfInBounds t a) m.tmps, defers := [] } := by
           have := parT_AR (ps := ps.toList) (ds := []) hv (fun t ht => by rw [List.all_eq_true] at hps; simpa using hps t ht) (⟨m9, m10⟩ : AR ρ sz T { tmps := m.tmps, defers := [] })
           rw [m6]
           rw [← Array.foldl_toList, Array.toList_zip]; exact this
          have c1 := aCode_sound hP hm ih (some en.blk) sz true (fun h => by cases h) n as _ h .normal T1 h1 hrun1 ρ _ w [] har rfl hr
          refine wpIn_then (r := some en.blk) c1 fun ρ1 a1 w1 Bs1 k1 _ _ _ k3 => ?_
          have he1 := k3.ext _ _ he
          obtain ⟨q, q1, q2, q3, q4, q5, _⟩ := loop_at k3.hr hg1 he1
          obtain ⟨s1, s2⟩ := setLoop (D := X.D) (P := P) k3.hr hg1 he1 q1 .busy pe1
          have hq : ({ q with state := .busy } : Loop) = { q with state := .busy, pending := pe1 } := by rw [← q5]
          refine ⟨{ w1 with heap := w1.heap.setIfInBounds en.blk (.loop { q with state := .busy, pending := pe1 }) }, ?_, ?_⟩
          ·simp only [Instr.beginRound, Sem.run_bind, getLoop_run q1, Result.andThen_ok]
           rw [hq, s1]
           simp only [Result.andThen_ok, q4, Sem.run_pure]
          ·have c2 := aCode_sound hP hm ih (some en.blk) sz true (fun h => by cases h) n bo T1 _ e T2 h2 hrun2 ρ1 a1 _ a1.defers k1 rfl s2.hr
           refine wpIn_then (r := some en.blk) c2 fun ρ2 a2 w2 Bs2 _ _ _ _ k4 => ?_
           have he2 := k4.ext _ _ he1
           obtain ⟨q', p1, _⟩ := loop_at k4.hr hg2 he2
           have fin : ∀ (stt : LoopState) (jp : Option Code) (b : Bool), stt = (if jp.isNone then .ready else .done) → b = jp.isNone → v = .bool b → h' = h2.set β (.loop stt jp sz2 T2' ps2 as2 bo2) →
             ∃ x w'', (Instr.endRound en.blk jp).run P w2 = .ok x w'' ∧ CallR X.D ρ h w v h' (.returned x) w'' := by
            intro stt jp b e1 e2 e3 e4
            obtain ⟨t1, t2⟩ := setLoop (D := X.D) (P := P) k4.hr hg2 he2 p1 stt jp
            refine ⟨.bool b, _, ?_, .bool b, ρ2, rfl, by rw [e3]; exact .bool b, by rw [e4]; exact ((k3.trans s2).trans k4).trans t2⟩
            rw [e1] at t1
            simp only [Instr.endRound, Sem.run_bind, getLoop_run p1, Result.andThen_ok]
            rw [t1, e2, e1]; rfl
           cases e with
           | normal =>
            simp only [Option.some.injEq, Prod.mk.injEq] at hs
            exact fin .ready none true rfl rfl hs.1.symm hs.2.symm
           | ret =>
            simp only [Option.some.injEq, Prod.mk.injEq] at hs
            exact fin .done (some .ret) false rfl rfl hs.1.symm hs.2.symm
           | exit id =>
            simp only [Option.some.injEq, Prod.mk.injEq] at hs
            exact fin .done (some (.exit id)) false rfl rfl hs.1.symm hs.2.symm
           | goto l => cases hs
        ·cases hs
       ·cases hs
      ·cases hs
     ·cases hs
    ·cases hs
   ·cases hs
end
end Go.Ox
