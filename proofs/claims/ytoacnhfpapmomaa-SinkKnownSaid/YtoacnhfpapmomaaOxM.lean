/-
  THE ABSTRACT RUN: code, functions.
-/
import Derived.Test.YtoacnhfpapmomaaOxL
namespace Go.Ox

inductive AExit where
  | normal
  | exit (id : Nat)
  | ret

def AExit.conc : AExit → Exit
  | .normal => .normal
  | .exit id => .exit id
  | .ret => .ret

section
variable {P : Program}

def aCode (P : Program) (call : CallFn) (sz : Nat) : Nat → Code → List Value → AHeap → Option (AExit × List Value × AHeap)
  | 0, _, _, _ => none
  | n + 1, c, T, h =>
    match c with
    | .skip => some (.normal, T, h)
    | .label _ => some (.normal, T, h)
    | .exit id => some (.exit id, T, h)
    | .ret => some (.ret, T, h)
    | .region _ ops draw =>
      match (if draw then aDraw P call sz ops T h else aOps P call sz ops ops.toList T h) with
      | some (T', h') => some (.normal, T', h')
      | none => none
    | .seq a b =>
      match aCode P call sz n a T h with
      | some (.normal, T', h') => aCode P call sz n b T' h'
      | r => r
    | .cond c a b =>
      match aev T c with
      | some (.bool t) => aCode P call sz n (if t then a else b) T h
      | _ => none
    | .block id b =>
      match aCode P call sz n b T h with
      | some (.exit id', T', h') => if id' = id then some (.normal, T', h') else some (.exit id', T', h')
      | r => r
    | .loop b =>
      match aCode P call sz n b T h with
      | some (.normal, T', h') => aCode P call sz n (.loop b) T' h'
      | r => r
    | _ => none

/-- What is known where code has been left. -/
def Left (ρ : Emb) (sz : Nat) (h : AHeap) (w : World) (ds : List Deferred) (e : AExit) (T' : List Value) (h' : AHeap) : Exit → Act → World → Prop :=
  fun e' a' w' => ∃ ρ', e' = e.conc ∧ AR ρ' sz T' a' ∧ a'.defers = ds ∧ Step ρ ρ' h h' w w'

theorem wpIn_then {r : Option Nat} {c : Code} {a : Act} {w : World} {ρ : Emb} {sz : Nat} {h : AHeap} {ds : List Deferred} {e : AExit} {T' : List Value} {h' : AHeap} (hc : c.wpIn (W r) 0 P (Left ρ sz h w ds e T' h') a w)
    {Q : Exit → Act → World → Prop} (hQ : ∀ ρ' a' w', AR ρ' sz T' a' → a'.defers = ds → Step ρ ρ' h h' w w' → Q e.conc a' w') : c.wpIn (W r) 0 P Q a w :=
  wpIn_mono hc fun e' a' w' ⟨ρ', h1, h2, h3, h4⟩ => by subst h1; exact hQ ρ' a' w' h2 h3 h4

theorem roundsIn_mono {F : Fence} {n : Nat} {c : Code} {Q Q' : Exit → Act → World → Prop} (hq : ∀ e a w, Q e a w → Q' e a w) : ∀ (m : Nat) (a : Act) (w : World), Code.roundsIn F n P c Q m a w → Code.roundsIn F n P c Q' m a w
  | 0, _, _, h => h.elim
  | m + 1, a, w, h => by
    rw [roundsIn_succ] at h ⊢
    exact wpIn_mono h fun e a w q => by
      cases e <;> first | exact roundsIn_mono hq m a w q | exact hq _ _ _ q

theorem aCode_both (hP : Named P) (hm : P.follows .mixedOrders = true) {call : CallFn} (hc : CallS P call) (r : Option Nat) (sz : Nat) : ∀ (n : Nat) (c : Code) (T : List Value) (h : AHeap) (e : AExit) (T' : List Value) (h' : AHeap),
    aCode P call sz n c T h = some (e, T', h') → ∀ (ρ : Emb) (a : Act) (w : World) (ds : List Deferred), AR ρ sz T a → a.defers = ds → HR ρ h w →
    c.wpIn (W r) 0 P (Left ρ sz h w ds e T' h') a w ∧ ∀ b, c = .loop b → Code.roundsIn (W r) 0 P b (Left ρ sz h w ds e T' h') n a w := by
  intro n
  induction n with
  | zero => intro c T h e T' h' hs; simp [aCode] at hs
  | succ n ih =>
    intro c T h e T' h' hs ρ a w ds ha hd hr
    suffices hloop : (∀ b, c = .loop b → Code.roundsIn (W r) 0 P b (Left ρ sz h w ds e T' h') (n + 1) a w) ∧ ((∀ b, c ≠ .loop b) → c.wpIn (W r) 0 P (Left ρ sz h w ds e T' h') a w) by
      refine ⟨?_, hloop.1⟩
      by_cases hl : ∃ b, c = .loop b
      · obtain ⟨b, rfl⟩ := hl
        exact wpIn_loop_rounds (n + 1) (hloop.1 b rfl)
      · exact hloop.2 fun b hb => hl ⟨b, hb⟩
    refine ⟨fun b hb => ?_, fun hnl => ?_⟩
    · subst hb
      rw [roundsIn_succ]
      simp only [aCode] at hs
      split at hs
      · rename_i T1 h1 hrun
        refine wpIn_then (ih b T h .normal T1 h1 hrun ρ a w ds ha hd hr).1 fun ρ1 a1 w1 k1 k2 k3 => ?_
        exact roundsIn_mono (fun e' a' w' ⟨ρ', q1, q2, q3, q4⟩ => ⟨ρ', q1, q2, q3, k3.trans q4⟩) n a1 w1 ((ih (.loop b) T1 h1 e T' h' hs ρ1 a1 w1 ds k1 k2 k3.hr).2 b rfl)
      · rename_i hne
        cases e with
        | normal => exact absurd hs (hne _ _)
        | _ => exact wpIn_then (ih b T h _ T' h' hs ρ a w ds ha hd hr).1 fun ρ1 a1 w1 k1 k2 k3 => ⟨ρ1, rfl, k1, k2, k3⟩
    cases c with
    | skip =>
      simp only [aCode, Option.some.injEq, Prod.mk.injEq] at hs
      obtain ⟨rfl, rfl, rfl⟩ := hs
      exact wpIn_skip ⟨ρ, rfl, ha, hd, Step.refl hr⟩
    | label l =>
      simp only [aCode, Option.some.injEq, Prod.mk.injEq] at hs
      obtain ⟨rfl, rfl, rfl⟩ := hs
      exact wpIn_label ⟨ρ, rfl, ha, hd, Step.refl hr⟩
    | exit id =>
      simp only [aCode, Option.some.injEq, Prod.mk.injEq] at hs
      obtain ⟨rfl, rfl, rfl⟩ := hs
      exact wpIn_exit ⟨ρ, rfl, ha, hd, Step.refl hr⟩
    | ret =>
      simp only [aCode, Option.some.injEq, Prod.mk.injEq] at hs
      obtain ⟨rfl, rfl, rfl⟩ := hs
      exact wpIn_ret ⟨ρ, rfl, ha, hd, Step.refl hr⟩
    | region id ops draw =>
      simp only [aCode] at hs
      split at hs
      · rename_i T2 h2 hrun
        simp only [Option.some.injEq, Prod.mk.injEq] at hs
        obtain ⟨rfl, rfl, rfl⟩ := hs
        cases draw with
        | true =>
          simp only [if_true] at hrun
          refine wpIn_region_any hm ?_
          refine aDraw_sound hP hc r hrun ha hd hr.drew (fun ρ' a' w' h1 h2' h3 => ⟨ρ', rfl, h1, h2', (Step.drew hr).trans h3⟩)
        | false =>
          simp only [Bool.false_eq_true, if_false] at hrun
          refine wpIn_region ?_
          have := aOps_sound hP hc r (Q := Left ρ sz h w ds .normal T2 h2) 0 ops.toList T h T2 h2 hrun (fun j => by simp) ρ a w ha hd hr (fun ρ' a' w' h1 h2' h3 => ⟨ρ', rfl, h1, h2', h3⟩)
          rw [List.range_eq_range', ← Array.length_toList]; exact this
      · cases hs
    | seq c1 c2 =>
      simp only [aCode] at hs
      split at hs
      · rename_i T1 h1 hrun
        refine wpIn_seq (wpIn_then (ih c1 T h .normal T1 h1 hrun ρ a w ds ha hd hr).1 fun ρ1 a1 w1 k1 k2 k3 => ?_)
        exact wpIn_mono (ih c2 T1 h1 e T' h' hs ρ1 a1 w1 ds k1 k2 k3.hr).1 fun e' a' w' ⟨ρ', q1, q2, q3, q4⟩ => ⟨ρ', q1, q2, q3, k3.trans q4⟩
      · rename_i hne
        cases e with
        | normal => exact absurd hs (hne _ _)
        | _ => exact wpIn_seq (wpIn_then (ih c1 T h _ T' h' hs ρ a w ds ha hd hr).1 fun ρ1 a1 w1 k1 k2 k3 => ⟨ρ1, rfl, k1, k2, k3⟩)
    | cond x c1 c2 =>
      simp only [aCode] at hs
      split at hs
      · rename_i t hx
        exact wpIn_cond (ha.ev hx).bool_inv (ih _ T h e T' h' hs ρ a w ds ha hd hr).1
      · cases hs
    | block id b =>
      simp only [aCode] at hs
      split at hs
      · rename_i id' T1 h1 hrun
        refine wpIn_block (wpIn_then (ih b T h (.exit id') T1 h1 hrun ρ a w ds ha hd hr).1 fun ρ1 a1 w1 k1 k2 k3 => ?_)
        split at hs
        · rename_i hid
          simp only [Option.some.injEq, Prod.mk.injEq] at hs
          obtain ⟨rfl, rfl, rfl⟩ := hs
          show (if id' = id then _ else _)
          rw [if_pos hid]; exact ⟨ρ1, rfl, k1, k2, k3⟩
        · rename_i hid
          simp only [Option.some.injEq, Prod.mk.injEq] at hs
          obtain ⟨rfl, rfl, rfl⟩ := hs
          show (if id' = id then _ else _)
          rw [if_neg hid]; exact ⟨ρ1, rfl, k1, k2, k3⟩
      · rename_i hne
        cases e with
        | exit id' => exact absurd hs (hne _ _ _)
        | _ => exact wpIn_block (wpIn_then (ih b T h _ T' h' hs ρ a w ds ha hd hr).1 fun ρ1 a1 w1 k1 k2 k3 => ⟨ρ1, rfl, k1, k2, k3⟩)
    | loop b => exact absurd rfl (hnl b)
    | _ => simp [aCode] at hs

theorem aCode_sound (hP : Named P) (hm : P.follows .mixedOrders = true) {call : CallFn} (hc : CallS P call) (r : Option Nat) (sz : Nat) (n : Nat) (c : Code) (T : List Value) (h : AHeap) (e : AExit) (T' : List Value) (h' : AHeap)
    (hs : aCode P call sz n c T h = some (e, T', h')) (ρ : Emb) (a : Act) (w : World) (ds : List Deferred) (ha : AR ρ sz T a) (hd : a.defers = ds) (hr : HR ρ h w) : c.wpIn (W r) 0 P (Left ρ sz h w ds e T' h') a w :=
  (aCode_both hP hm hc r sz n c T h e T' h' hs ρ a w ds ha hd hr).1

def aResults (P : Program) (h : AHeap) (T : List Value) : List ResultVar → Option (List Value)
  | [] => some []
  | .tmp t :: rs => match aResults P h T rs with
    | some vs => some (tget T t :: vs)
    | none => none
  | .cell a t :: rs => match tget T a with
    | .pointer (some b) => match aLoad P h t b, aResults P h T rs with
      | some v, some vs => some (v :: vs)
      | _, _ => none
    | _ => none

def oneOf : List Value → Value
  | [v] => v
  | vs => .tuple vs.toArray

def resOf (tmps : Array Value) : ResultVar → Sem Value
  | .tmp t => pure (tmps.getD t undef)
  | .cell x t => do loadVar t (← asAddr (tmps.getD x undef))

theorem results_eq (fn : Func) (tmps : Array Value) : results fn tmps = (do
    let vs ← fn.results.mapM (resOf tmps)
    pure (if h : vs.size = 1 then vs[0] else .tuple vs)) := by
  unfold results
  congr 2

theorem aResults_sound {ρ : Emb} {n : Nat} {T : List Value} {a : Act} {h : AHeap} {w : World} (ha : AR ρ n T a) (hr : HR ρ h w) : ∀ {rs : List ResultVar} {vs : List Value}, aResults P h T rs = some vs →
    ∃ ws, (rs.mapM (resOf a.tmps)).run P w = .ok ws w ∧ VRL ρ vs ws
  | [], vs, hs => by simp [aResults] at hs; subst hs; exact ⟨[], rfl, trivial⟩
  | .tmp t :: rs, vs, hs => by
    simp only [aResults] at hs
    split at hs
    · rename_i us hu
      obtain rfl := Option.some.inj hs
      obtain ⟨ws, h1, h2⟩ := aResults_sound ha hr hu
      refine ⟨a.tmps.getD t undef :: ws, ?_, ha.slot t, h2⟩
      simp only [List.mapM_cons, resOf, Sem.run_bind, Sem.run_pure, Result.andThen_ok, h1]
    · cases hs
  | .cell x t :: rs, vs, hs => by
    simp only [aResults] at hs
    split at hs
    · rename_i b hb
      split at hs
      · rename_i v us hl hu
        obtain rfl := Option.some.inj hs
        have hv := ha.slot x
        rw [hb] at hv
        obtain ⟨e, he, hxe⟩ := hv.ptr_inv
        obtain ⟨y, k1, k2⟩ := aLoad_sound hr hl he
        obtain ⟨ws, h1, h2⟩ := aResults_sound ha hr hu
        refine ⟨y :: ws, ?_, k2, h2⟩
        have k3 : (resOf a.tmps (.cell x t)).run P w = .ok y w := by
          simp only [resOf, Sem.run_bind, hxe, asAddr, Sem.run_pure, Result.andThen_ok, k1]
        simp only [List.mapM_cons, Sem.run_bind, k3, Result.andThen_ok, h1, Sem.run_pure]
      · cases hs
    · cases hs

def aCall (P : Program) : Nat → CallFn
  | 0, _, _, _ => none
  | n + 1, f, args, h =>
    match P.funcs[f]? with
    | some fn => match fn.body with
      | some c => match aCode P (aCall P n) (args.length + (fn.ntmps - args.length)) n c args h with
        | some (e, T', h') => match e with
          | .exit _ => none
          | _ => match aResults P h' T' fn.results.toList with
            | some vs => some (oneOf vs, h')
            | none => none
        | none => none
      | none => none
    | none => none

theorem enter_AR {ρ : Emb} {args : List Value} {ws : Array Value} (hv : VRL ρ args ws.toList) (k : Nat) : AR ρ (args.length + k) args { tmps := ws ++ Array.replicate k undef, defers := [] } := by
  have hl := hv.length
  simp only [Array.length_toList] at hl
  have tg : ∀ (l : List Value) (t : Nat), tget l t = l.getD t undef := by
    intro l
    induction l with
    | nil => intro t; simp [tget_nil]
    | cons x l ih => intro t; cases t with | zero => rfl | succ t => simp [tget, ih t]
  refine ⟨by simp [hl], fun t => ?_⟩
  rw [tg, List.getD_eq_getElem?_getD, Array.getD_eq_getD_getElem?]
  by_cases ht : t < args.length
  · have hx : args[t]? = some args[t] := List.getElem?_eq_getElem ht
    obtain ⟨y, hy, hvy⟩ := hv.get hx
    rw [hx, Array.getElem?_append_left (by omega)]
    have : ws[t]? = some y := by simpa using hy
    rw [this]; exact hvy
  · rw [List.getElem?_eq_none (by omega), Array.getElem?_append_right (by omega)]
    by_cases h2 : t - ws.size < k
    · simp [h2]; exact VR.undef
    · rw [Array.getElem?_eq_none (by simp; omega)]; exact VR.undef

theorem aCall_sound (hP : Named P) (hm : P.follows .mixedOrders = true) : ∀ n, CallS P (aCall P n) := by
  intro n
  induction n with
  | zero => intro g vs h v h' hs; simp [aCall] at hs
  | succ n ih =>
    intro g vs h v h' hs
    simp only [aCall] at hs
    split at hs
    · rename_i fn hf
      split at hs
      · rename_i c hb
        refine ⟨by simp [hasBody, hf, hb], fun ρ ws w hv hr => ?_⟩
        split at hs
        · rename_i e T' h2 hrun
          have hsz : vs.length = ws.size := by simpa using hv.length
          have hcode := aCode_sound hP hm ih none _ n c vs h e T' h2 hrun ρ _ w [] (enter_AR hv (fn.ntmps - vs.length)) rfl hr
          have fin : ∀ us, aResults P h2 T' fn.results.toList = some us → (e = .normal ∨ e = .ret) → Calls P g ws w (CallR ρ h w (oneOf us) h2) := by
            intro us hres he
            refine (callsIn_wide (n := 0)).1 (callsIn_of_wp (F := Fence.wide) (fn := fn) hf hb trivial ?_)
            rw [hsz] at hcode
            refine wpIn_mono (F := Fence.wide) hcode ?_
            rintro e' a' w' ⟨ρ', rfl, k1, k2, k3⟩
            obtain ⟨zs, q1, q2⟩ := aResults_sound (P := P) k1 k3.hr hres
            have hrs : (results fn a'.tmps).run P w' = .ok (oneOf zs) w' := by
              rw [results_eq]
              simp only [Sem.run_bind]
              have : (fn.results.mapM (resOf a'.tmps)).run P w' = .ok zs.toArray w' := by
                rw [← Array.toArray_toList (xs := fn.results), List.mapM_toArray]
                simp only [Sem.run_map, q1, Result.andThen_ok]
              rw [this]
              simp only [Result.andThen_ok, Sem.run_pure]
              congr 1
              cases zs with
              | nil => rfl
              | cons z zs => cases zs with
                | nil => simp [oneOf]
                | cons z2 zs => simp [oneOf]
            have hone : VR ρ' (oneOf us) (oneOf zs) := by
              match us, zs, q2 with
              | [], [], _ => exact VR.undef
              | [_], [_], q2 => exact q2.1
              | _ :: _ :: _, _ :: _ :: _, q2 => exact VR.ofTuple q2
            rcases he with rfl | rfl
            · exact ⟨k2, _, hrs, _, ρ', rfl, hone, k3⟩
            · exact ⟨k2, _, hrs, _, ρ', rfl, hone, k3⟩
          cases e with
          | exit id => cases hs
          | normal =>
            simp only at hs
            split at hs
            · rename_i us hres
              simp only [Option.some.injEq, Prod.mk.injEq] at hs
              obtain ⟨rfl, rfl⟩ := hs
              exact fin us hres (.inl rfl)
            · cases hs
          | ret =>
            simp only at hs
            split at hs
            · rename_i us hres
              simp only [Option.some.injEq, Prod.mk.injEq] at hs
              obtain ⟨rfl, rfl⟩ := hs
              exact fin us hres (.inr rfl)
            · cases hs
        · cases hs
      · cases hs
    · cases hs
end
end Go.Ox
