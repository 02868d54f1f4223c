/-
  REGIONS THAT DRAW THEIR ORDER, part 2: the theorem.
-/
import Derived.Test.YtfcajloeknedeaaGreatOxH
set_option linter.unusedSimpArgs false
set_option linter.unusedVariables false
namespace Go.Ox
variable {D : Prop}

def DC (ops : Array Oper) (S : Nat → Bool) : Prop := ∀ j o, ops[j]? = some o → S j = true → ∀ e ∈ o.after, Region.binds .any e = true → S e.on = true
def Pre (ops : Array Oper) (i j : Nat) : Prop := ∀ S, DC ops S → S j = true → S i = true

/-- A pending block is there on the abstract side alone. -/
theorem Step.pend {ρ : Emb} {h : AHeap} {w : World} (hr : HR ρ h w) (b : ABlk) : Step D ρ ρ h (h.push b) w w := by
  refine ⟨⟨fun γ k => hr.fresh γ (by simp at k; omega), fun γ k => ?_, hr.old, fun γ f c k1 k2 => ?_, fun γ δ f g c d k1 k2 k3 k4 k5 k6 => ?_⟩, Emb.le_refl _, fun _ k => .inl k, by simp, fun γ k0 k1 => ?_, fun B k0 k1 => rfl, fun B k => ?_, Nat.le_refl _, rfl, rfl, rfl, fun _ => Nat.le_refl _⟩
  · simp only [AHeap.next_push] at k; rw [AHeap.get_push, if_neg (by omega)]; exact hr.empty γ (by omega)
  · have := hr.lt k1
    rw [AHeap.get_push, if_neg (by omega)] at k2; exact hr.blk γ f c k1 k2
  · have := hr.lt k1
    have := hr.lt k2
    rw [AHeap.get_push, if_neg (by omega)] at k3
    rw [AHeap.get_push, if_neg (by omega)] at k4
    exact hr.inj γ δ f g c d k1 k2 k3 k4 k5 k6
  · rw [AHeap.get_push, if_neg (by omega)]
  · obtain ⟨γ, f, c, k1, k2, k3, k4⟩ := k
    have := hr.lt k1
    rw [AHeap.get_push, if_neg (by omega)] at k2
    exact .inl ⟨γ, f, c, k1, k2, k3, k4⟩

/-- A pending block gets its place. -/
theorem HR.late {ρ : Emb} {h : AHeap} {w : World} (hr : HR ρ h w) {β : Nat} {b : ABlk} (hlt : β < h.next) (hb : h.get β = some b) {o : Obj} {e : Ent} (he : e.blk = w.heap.size)
    (hρ : ρ β = none) (hbr : ∀ ρ', ρ.le ρ' → ρ' β = some e → BR ρ' e b o) :
    HR (fun γ => if γ = β then some e else ρ γ) h (w.alloc o) ∧ ρ.le (fun γ => if γ = β then some e else ρ γ) := by
  have hext : ρ.le (fun γ => if γ = β then some e else ρ γ) := fun γ f k => by
    show (if γ = β then some e else ρ γ) = some f
    rw [if_neg (fun hE => by subst hE; rw [hρ] at k; cases k)]; exact k
  have hold : ∀ {γ f}, γ ≠ β → (fun γ => if γ = β then some e else ρ γ) γ = some f → ρ γ = some f := fun hne k => by simpa [hne] using k
  refine ⟨⟨fun γ k => ?_, hr.empty, fun γ f k => ?_, fun γ f c k1 k2 => ?_, fun γ δ f g c d k1 k2 k3 k4 k5 k6 => ?_⟩, hext⟩
  · show (if γ = β then some e else ρ γ) = none
    rw [if_neg (by omega)]; exact hr.fresh γ k
  · by_cases hγ : γ = β
    · subst hγ; simp at k; subst k; simp [he]
    · have := hr.old γ f (hold hγ k); simp; omega
  · by_cases hγ : γ = β
    · subst hγ
      simp at k1; subst k1
      rw [hb] at k2; obtain rfl := Option.some.inj k2
      exact ⟨o, by rw [he]; exact heap_alloc_new w o, hbr _ hext (by simp)⟩
    · obtain ⟨o', h1, h2⟩ := hr.blk γ f c (hold hγ k1) k2
      exact ⟨o', by rw [heap_alloc_old w o (hr.old γ f (hold hγ k1))]; exact h1, h2.mono hext⟩
  · by_cases hγ : γ = β <;> by_cases hδ : δ = β
    · rw [hγ, hδ]
    · subst hγ; simp at k1; subst k1
      have := hr.old δ g (hold hδ k2); omega
    · subst hδ; simp at k2; subst k2
      have := hr.old γ f (hold hγ k1); omega
    · exact hr.inj γ δ f g c d (hold hγ k1) (hold hδ k2) k3 k4 k5 k6

/-- What an operation that acts is asked: with whatever slots that agree where it looks. -/
def ChainOK (D : Prop) (P : Program) (r : Option Nat) (sz : Nat) (T : List Value) (h h' : AHeap) (o : Oper) (v : Value) : Prop :=
  ∀ (ρ : Emb) (a : Act) (w : World) (T' : List Value) (K : Act → World → Prop) (Q : Exit → Act → World → Prop), AR ρ sz T' a → (∀ x ∈ o.op.operands, aev T' x = aev T x) → HR ρ h w →
    (∀ x ρ' w', VR ρ' v x → Step D ρ ρ' h h' w w' → K (a.put o.dst x) w') → o.wpIn (W r) 0 P a w K Q

structure Plan (D : Prop) (P : Program) (r : Option Nat) (ops : Array Oper) (sz n : Nat) (ix : Nat → Nat) (op : Nat → Oper) (T : Nat → List Value) (h : Nat → AHeap) (v : Nat → Value) (chain : Nat → Bool) (blk : Nat → Option ABlk) : Prop where
  size : ops.size = n
  hop : ∀ q, q < n → ops[ix q]? = some (op q)
  inj : ∀ q q', q < n → q' < n → ix q = ix q' → q = q'
  surj : ∀ i, i < n → ∃ q, q < n ∧ ix q = i
  dst : ∀ q, q < n → ∀ d, (op q).dst = some d → d < sz
  back : ∀ i o, ops[i]? = some o → ∀ e ∈ o.after, Region.binds .any e = true → e.on < i
  tnext : ∀ q, q < n → T (q + 1) = tputO (op q).dst (v q) (T q)
  chains : ∀ q q', q < q' → q' < n → chain q = true → Pre ops (ix q) (ix q')
  slotsW : ∀ q q', q < q' → q' < n → ∀ d, (op q).dst = some d → (d ∈ (op q').looksAt ops ∨ (op q').dst = some d) → Pre ops (ix q) (ix q')
  slotsR : ∀ q q', q < q' → q' < n → ∀ d, (op q').dst = some d → d ∈ (op q).looksAt ops → Pre ops (ix q) (ix q')
  mono : ∀ q, q < n → (h q).next ≤ (h (q + 1)).next
  step : ∀ q, q < n →
    (aWanted ops (T q) (op q) = some false ∧ v q = undef ∧ h (q + 1) = h q ∧ blk q = none) ∨
    (aWanted ops (T q) (op q) = some true ∧ chain q = true ∧ blk q = none ∧ ChainOK D P r sz (T q) (h q) (h (q + 1)) (op q) (v q)) ∨
    (aWanted ops (T q) (op q) = some true ∧ chain q = false ∧ ∃ b m, aAlloc P (T q) (op q).op = some (b, m) ∧ blk q = some b ∧ v q = m (h q).next ∧ h (q + 1) = (h q).push b) ∨
    (aWanted ops (T q) (op q) = some true ∧ chain q = false ∧ blk q = none ∧ h (q + 1) = h q ∧
      ∀ p, q < p → p ≤ n → (p = n ∨ chain p = true) → (∃ k, q < k ∧ k < p ∧ chain k = true ∧ Pre ops (ix q) (ix k)) ∨ aOp P (T q) (h p) (op q) = some (v q, h p))

section
variable {P : Program} {r : Option Nat} {ops : Array Oper} {sz n : Nat} {ix : Nat → Nat} {op : Nat → Oper} {T : Nat → List Value} {h : Nat → AHeap} {v : Nat → Value} {chain : Nat → Bool} {blk : Nat → Option ABlk}

structure Inv (D : Prop) (n : Nat) (sz : Nat) (op : Nat → Oper) (T : Nat → List Value) (h : Nat → AHeap) (v : Nat → Value) (chain : Nat → Bool) (blk : Nat → Option ABlk) (ρ0 : Emb) (w0 : World) (S : Nat → Bool) (p : Nat) (ρ : Emb) (T' : List Value) (a : Act) (w : World) (ds : List Deferred) : Prop where
  ar : AR ρ sz T' a
  df : a.defers = ds
  slot : ∀ t, (∃ q, q < n ∧ S q = true ∧ (op q).dst = some t ∧ tget T' t = v q ∧ ∀ q', q < q' → q' < n → S q' = true → (op q').dst ≠ some t) ∨
    ((∀ q, q < n → S q = true → (op q).dst ≠ some t) ∧ tget T' t = tget (T 0) t)
  ple : p ≤ n
  pch : p < n → chain p = true
  pbef : ∀ q, q < p → chain q = true → S q = true
  paft : ∀ q, p ≤ q → q < n → S q = false
  st : Step D ρ0 ρ (h 0) (h p) w0 w
  pend : ∀ q b, q < p → S q = false → blk q = some b → ρ (h q).next = none ∧ (h q).next < (h p).next ∧ (h p).get (h q).next = some b

/-- The slots in the order of the plan. -/
theorem Plan.slotAt (pl : Plan D P r ops sz n ix op T h v chain blk) : ∀ q, q ≤ n → ∀ t, (∃ k, k < q ∧ (op k).dst = some t ∧ tget (T q) t = v k ∧ ∀ k', k < k' → k' < q → (op k').dst ≠ some t) ∨
    ((∀ k, k < q → (op k).dst ≠ some t) ∧ tget (T q) t = tget (T 0) t) := by
  intro q
  induction q with
  | zero => intro _ t; exact .inr ⟨fun k hk => by omega, rfl⟩
  | succ q ih =>
    intro hq t
    have ht := pl.tnext q (by omega)
    by_cases hd : (op q).dst = some t
    · exact .inl ⟨q, by omega, hd, by rw [ht, tget_tputO, if_pos hd], fun k' h1 h2 => by omega⟩
    · have hsame : tget (T (q + 1)) t = tget (T q) t := by rw [ht, tget_tputO, if_neg hd]
      rcases ih (by omega) t with ⟨k, h1, h2, h3, h4⟩ | ⟨h1, h2⟩
      · refine .inl ⟨k, by omega, h2, by rw [hsame, h3], fun k' h5 h6 => ?_⟩
        by_cases hk : k' = q
        · subst hk; exact hd
        · exact h4 k' h5 (by omega)
      · refine .inr ⟨fun k hk => ?_, by rw [hsame, h2]⟩
        by_cases hkq : k = q
        · subst hkq; exact hd
        · exact h1 k (by omega)

/-- The slots of a run in another order agree where the operation looks. -/
theorem Inv.agree (pl : Plan D P r ops sz n ix op T h v chain blk) {ρ0 : Emb} {w0 : World} {S : Nat → Bool} {p : Nat} {ρ : Emb} {T' : List Value} {a : Act} {w : World} {ds : List Deferred}
    (hi : Inv D n sz op T h v chain blk ρ0 w0 S p ρ T' a w ds) {q : Nat} (hq : q ≤ n) {t : Nat} (h1 : ∀ k, k < q → (op k).dst = some t → S k = true) (h2 : ∀ k, q ≤ k → k < n → (op k).dst = some t → S k = false) :
    tget T' t = tget (T q) t := by
  rcases pl.slotAt q hq t with ⟨k, k1, k2, k3, k4⟩ | ⟨k1, k2⟩
  · rcases hi.slot t with ⟨j, j1, j2, j3, j4, j5⟩ | ⟨j1, j2⟩
    · have hjq : j < q := by
        rcases Nat.lt_or_ge j q with hlt | hge
        · exact hlt
        · rw [h2 j hge j1 j3] at j2; cases j2
      have hjk : j = k := by
        rcases Nat.lt_trichotomy j k with hlt | heq | hgt
        · exact absurd k2 (j5 k hlt (by omega) (h1 k k1 k2))
        · exact heq
        · exact absurd j3 (k4 j hgt hjq)
      subst hjk; rw [j4, k3]
    · exact absurd k2 (j1 k (by omega) (h1 k k1 k2))
  · rcases hi.slot t with ⟨j, j1, j2, j3, j4, j5⟩ | ⟨j1, j2⟩
    · have hjq : j < q := by
        rcases Nat.lt_or_ge j q with hlt | hge
        · exact hlt
        · rw [h2 j hge j1 j3] at j2; cases j2
      exact absurd j3 (k1 j hjq)
    · rw [j2, k2]

theorem slot_put {S : Nat → Bool} {T' : List Value} {q : Nat} (hq : q < n)
    (hs : ∀ t, (∃ q, q < n ∧ S q = true ∧ (op q).dst = some t ∧ tget T' t = v q ∧ ∀ q', q < q' → q' < n → S q' = true → (op q').dst ≠ some t) ∨ ((∀ q, q < n → S q = true → (op q).dst ≠ some t) ∧ tget T' t = tget (T 0) t))
    (hw : ∀ k d, q < k → k < n → (op q).dst = some d → (op k).dst = some d → S k = false) (t : Nat) :
    (∃ j, j < n ∧ (S j || decide (j = q)) = true ∧ (op j).dst = some t ∧ tget (tputO (op q).dst (v q) T') t = v j ∧ ∀ j', j < j' → j' < n → (S j' || decide (j' = q)) = true → (op j').dst ≠ some t) ∨
    ((∀ j, j < n → (S j || decide (j = q)) = true → (op j).dst ≠ some t) ∧ tget (tputO (op q).dst (v q) T') t = tget (T 0) t) := by
  by_cases hd : (op q).dst = some t
  · refine .inl ⟨q, hq, by simp, hd, by rw [tget_tputO, if_pos hd], fun j' h1 h2 h3 h4 => ?_⟩
    have := hw j' t h1 h2 hd h4
    rw [this] at h3
    simp at h3; omega
  · have hsame : tget (tputO (op q).dst (v q) T') t = tget T' t := by rw [tget_tputO, if_neg hd]
    rcases hs t with ⟨j, j1, j2, j3, j4, j5⟩ | ⟨j1, j2⟩
    · refine .inl ⟨j, j1, by simp [j2], j3, by rw [hsame, j4], fun j' h1 h2 h3 => ?_⟩
      simp at h3
      rcases h3 with h3 | h3
      · exact j5 j' h1 h2 h3
      · subst h3; exact hd
    · refine .inr ⟨fun j h1 h2 => ?_, by rw [hsame, j2]⟩
      simp at h2
      rcases h2 with h2 | h2
      · exact j1 j h1 h2
      · subst h2; exact hd

theorem Plan.mono' (pl : Plan D P r ops sz n ix op T h v chain blk) {q q' : Nat} (h1 : q ≤ q') (h2 : q' ≤ n) : (h q).next ≤ (h q').next := by
  induction q' with
  | zero => have : q = 0 := by omega
            subst this; exact Nat.le_refl _
  | succ k ih =>
    by_cases hk : q = k + 1
    · subst hk; exact Nat.le_refl _
    · exact Nat.le_trans (ih (by omega) (by omega)) (pl.mono k (by omega))

/-- From behind a chain operation up to the next one: only new blocks. -/
theorem Plan.advance (pl : Plan D P r ops sz n ix op T h v chain blk) {ρ0 ρ : Emb} {w0 w : World} {S : Nat → Bool} {q : Nat} (hq : q ≤ n) (hst : Step D ρ0 ρ (h 0) (h q) w0 w)
    (hpend : ∀ k b, k < q → S k = false → blk k = some b → ρ (h k).next = none ∧ (h k).next < (h q).next ∧ (h q).get (h k).next = some b) :
    ∀ p, q ≤ p → p ≤ n → (∀ k, q ≤ k → k < p → chain k = false) → Step D ρ0 ρ (h 0) (h p) w0 w ∧
      ∀ k b, k < p → S k = false → blk k = some b → ρ (h k).next = none ∧ (h k).next < (h p).next ∧ (h p).get (h k).next = some b := by
  intro p
  induction p with
  | zero => intro h1 h2 h3; have : q = 0 := by omega
            subst this; exact ⟨hst, hpend⟩
  | succ p ih =>
    intro h1 h2 h3
    by_cases hqp : q = p + 1
    · subst hqp; exact ⟨hst, hpend⟩
    · obtain ⟨st, pd⟩ := ih (by omega) (by omega) (fun k a b => h3 k a (by omega))
      have hc := h3 p (by omega) (by omega)
      rcases pl.step p (by omega) with ⟨_, _, e1, e2⟩ | ⟨_, e1, _⟩ | ⟨_, _, b, m, e1, e2, e3, e4⟩ | ⟨_, _, e1, e2, _⟩
      · rw [e1]
        refine ⟨st, fun k b' k1 k2 k3 => ?_⟩
        by_cases hk : k = p
        · subst hk; rw [e2] at k3; cases k3
        · exact pd k b' (by omega) k2 k3
      · rw [hc] at e1; cases e1
      · rw [e4]
        refine ⟨st.trans (Step.pend st.hr b), fun k b' k1 k2 k3 => ?_⟩
        by_cases hk : k = p
        · subst hk
          rw [e2] at k3; obtain rfl := Option.some.inj k3
          exact ⟨st.hr.fresh _ (Nat.le_refl _), by simp, by simp [AHeap.get_push]⟩
        · obtain ⟨f1, f2, f3⟩ := pd k b' (by omega) k2 k3
          refine ⟨f1, by simp; omega, ?_⟩
          rw [AHeap.get_push, if_neg (by omega)]; exact f3
      · rw [e2]
        refine ⟨st, fun k b' k1 k2 k3 => ?_⟩
        by_cases hk : k = p
        · subst hk; rw [e1] at k3; cases k3
        · exact pd k b' (by omega) k2 k3

theorem nextChain (chain : Nat → Bool) (n : Nat) : ∀ (m q : Nat), q + m = n → ∃ p, q ≤ p ∧ p ≤ n ∧ (p < n → chain p = true) ∧ ∀ k, q ≤ k → k < p → chain k = false := by
  intro m
  induction m with
  | zero => intro q hq; exact ⟨q, Nat.le_refl _, by omega, fun h => by omega, fun k h1 h2 => by omega⟩
  | succ m ih =>
    intro q hq
    by_cases hc : chain q = true
    · exact ⟨q, Nat.le_refl _, by omega, fun _ => hc, fun k h1 h2 => by omega⟩
    · obtain ⟨p, h1, h2, h3, h4⟩ := ih (q + 1) (by omega)
      refine ⟨p, by omega, h2, h3, fun k k1 k2 => ?_⟩
      by_cases hk : k = q
      · subst hk; simpa using hc
      · exact h4 k (by omega) k2

theorem W_fn (r : Option Nat) (f : FuncId) : (W r).fn f := trivial

theorem mem_looksAt {o : Oper} {t : Nat} (h : Operand.tmp t ∈ o.op.operands) : t ∈ o.looksAt ops := by
  unfold Oper.looksAt
  refine List.mem_append.2 (.inl (List.mem_filterMap.2 ⟨.tmp t, by simpa using h, rfl⟩))

/-- Slots that agree where an operation looks: it does the same. -/
theorem agree_ops {T1 T2 : List Value} {o : Oper} (h : ∀ t ∈ o.looksAt ops, tget T1 t = tget T2 t) : (∀ x ∈ o.op.operands, aev T1 x = aev T2 x) ∧ aWanted ops T1 o = aWanted ops T2 o := by
  refine ⟨fun x hx => aev_congr fun t ht => ?_, ?_⟩
  · subst ht; exact h t (mem_looksAt hx)
  · unfold aWanted
    cases hg : o.guard with
    | none => rfl
    | some gw =>
      obtain ⟨j, want⟩ := gw
      simp only
      cases hd : (ops[j]?).bind (·.dst) with
      | none => rfl
      | some d =>
        simp only
        rw [h d]
        unfold Oper.looksAt
        refine List.mem_append.2 (.inr ?_)
        rw [hg]; simp only; rw [hd]; simp

/-- **ANY ORDER.** -/
theorem Plan.any (pl : Plan D P r ops sz n ix op T h v chain blk) {ρ0 : Emb} {w0 : World} {ds : List Deferred} {Q : Exit → Act → World → Prop}
    (hQ : ∀ ρ a w, AR ρ sz (T n) a → a.defers = ds → Step D ρ0 ρ (h 0) (h n) w0 w → Q .normal a w) :
    ∀ (fuel : Nat) (listed : Array Bool) (l : List Nat) (p : Nat) (ρ : Emb) (T' : List Value) (a : Act) (w : World), listed.size = n → DC ops (fun i => listed.getD i false) → l.length ≤ fuel → (∀ i, i < n → listed.getD i false = false → i ∈ l) →
      Inv D n sz op T h v chain blk ρ0 w0 (fun q => listed.getD (ix q) false) p ρ T' a w ds → wpAnyIn (W r) 0 P .any ops Q fuel listed a w := by
  -- where nothing is ready, all is listed
  have alld : ∀ (listed : Array Bool), listed.size = n → Region.ready .any ops listed = [] → ∀ i, i < n → listed.getD i false = true := by
    intro listed hsz hr i
    induction i using Nat.strongRecOn with
    | _ i ih =>
      intro hi
      cases hl : listed.getD i false with
      | true => rfl
      | false =>
        exfalso
        obtain ⟨q, hq, rfl⟩ := pl.surj i hi
        have : ix q ∈ Region.ready .any ops listed := by
          refine mem_ready.2 ⟨?_, op q, pl.hop q hq, fun e he hb => ?_⟩
          · rw [Array.getD_eq_getD_getElem?] at hl ⊢
            rw [Array.getElem?_eq_getElem (by omega)] at hl ⊢; simpa using hl
          · have hlt := pl.back _ _ (pl.hop q hq) e he hb
            exact ih e.on hlt (by omega)
        rw [hr] at this; cases this
  have fin : ∀ (listed : Array Bool) (p : Nat) (ρ : Emb) (T' : List Value) (a : Act) (w : World), (∀ i, i < n → listed.getD i false = true) →
      Inv D n sz op T h v chain blk ρ0 w0 (fun q => listed.getD (ix q) false) p ρ T' a w ds → Q .normal a w := by
    intro listed p ρ T' a w hall hi
    have hlt : ∀ q, q < n → ix q < n := fun q hq => by
      have := (Array.getElem?_eq_some_iff.1 (pl.hop q hq)).1
      rw [pl.size] at this; exact this
    have hp : p = n := by
      rcases Nat.lt_or_ge p n with h1 | h1
      · have := hi.paft p (Nat.le_refl _) h1
        (try simp only at this)
        rw [hall _ (hlt p h1)] at this; cases this
      · have := hi.ple; omega
    subst hp
    refine hQ ρ a w (hi.ar.congr fun t => ?_) hi.df hi.st
    exact (hi.agree pl (Nat.le_refl _) (fun k hk _ => hall _ (hlt k hk)) (fun k h1 h2 => by omega)).symm
  intro fuel
  induction fuel with
  | zero =>
    intro listed l p ρ T' a w hsz hdc hl hmem hi
    have hnil : l = [] := List.length_eq_zero_iff.1 (by omega)
    have hall : ∀ i, i < n → listed.getD i false = true := fun i hi' => by
      cases hq : listed.getD i false with
      | true => rfl
      | false => have := hmem i hi' hq; rw [hnil] at this; cases this
    refine ⟨?_, fin listed p ρ T' a w hall hi⟩
    refine List.eq_nil_iff_forall_not_mem.2 fun i hm => ?_
    obtain ⟨h0, o, ho, _⟩ := mem_ready.1 hm
    have hin : i < n := by have := (Array.getElem?_eq_some_iff.1 ho).1; rw [pl.size] at this; exact this
    have h1 := hall i hin
    rw [Array.getD_eq_getD_getElem?, Array.getElem?_eq_getElem (by omega)] at h0 h1
    simp at h0 h1; rw [h0] at h1; cases h1
  | succ fuel ih =>
    intro listed l p ρ T' a w hsz hdc hl hmem hi
    refine ⟨fun hr => fin listed p ρ T' a w (alld listed hsz hr) hi, fun i hm => ?_⟩
    obtain ⟨h0, o, ho, hpre⟩ := mem_ready.1 hm
    have hin : i < n := by have := (Array.getElem?_eq_some_iff.1 ho).1; rw [pl.size] at this; exact this
    obtain ⟨q, hq, rfl⟩ := pl.surj i hin
    have hoq := pl.hop q hq
    rw [ho] at hoq; obtain rfl := Option.some.inj hoq
    have hunl : listed.getD (ix q) false = false := by
      rw [Array.getD_eq_getD_getElem?, Array.getElem?_eq_getElem (by omega)] at h0 ⊢; simpa using h0
    -- the new state of things
    have hget : ∀ j, (listed.setIfInBounds (ix q) true).getD j false = (listed.getD j false || decide (j = ix q)) := fun j => by
      by_cases hj : j = ix q
      · subst hj
        rw [Array.getD_eq_getD_getElem?, Array.getElem?_setIfInBounds_self, if_pos (by omega)]; simp
      · rw [getD_set_ne false (fun e => hj e.symm)]; simp [hj]
    have hdc' : DC ops (fun i => (listed.setIfInBounds (ix q) true).getD i false) := by
      intro j o' ho' hj e he hb
      (try simp only at hj ⊢)
      rw [hget] at hj ⊢
      simp only [Bool.or_eq_true, decide_eq_true_eq] at hj ⊢
      rcases hj with hj | hj
      · exact .inl (hdc j o' ho' hj e he hb)
      · subst hj
        rw [ho] at ho'; obtain rfl := Option.some.inj ho'
        exact .inl (hpre e he hb)
    have hpreq : ∀ k, k < n → k ≠ q → Pre ops (ix k) (ix q) → listed.getD (ix k) false = true := fun k hk hne hp => by
      have := hp _ hdc' (by (try simp only); rw [hget]; simp)
      (try simp only at this)
      rw [hget] at this
      simp only [Bool.or_eq_true, decide_eq_true_eq] at this
      rcases this with this | this
      · exact this
      · exact absurd (pl.inj k q hk hq this) hne
    have hprer : ∀ k, k < n → Pre ops (ix q) (ix k) → listed.getD (ix k) false = false := fun k hk hp => by
      cases hl' : listed.getD (ix k) false with
      | false => rfl
      | true => have := hp _ hdc hl'; (try simp only at this); rw [hunl] at this; cases this
    -- where it looks, the slots are the plan's
    have hagree : ∀ t ∈ (op q).looksAt ops, tget T' t = tget (T q) t := fun t ht =>
      hi.agree pl (by omega) (fun k hk hd => hpreq k (by omega) (by omega) (pl.slotsW k q hk hq t hd (.inl ht)))
        (fun k h1 h2 hd => by
          by_cases hkq : k = q
          · subst hkq; exact hunl
          · exact hprer k h2 (pl.slotsR q k (by omega) h2 t hd ht))
    obtain ⟨hops, hwant⟩ := agree_ops hagree
    have hwr : ∀ k d, q < k → k < n → (op q).dst = some d → (op k).dst = some d → (fun q => listed.getD (ix q) false) k = false := fun k d h1 h2 h3 h4 => hprer k h2 (pl.slotsW q k h1 h2 d h3 (.inr h4))
    have hslot := slot_put hq hi.slot hwr
    have hSnew : (fun j => (listed.setIfInBounds (ix q) true).getD (ix j) false) = fun j => (listed.getD (ix j) false || decide (ix j = ix q)) := funext fun j => hget (ix j)
    have hSeq : ∀ j, j < n → ((listed.getD (ix j) false || decide (ix j = ix q)) = (listed.getD (ix j) false || decide (j = q))) := fun j hj => by
      by_cases hjq : j = q
      · subst hjq; simp
      · have : ix j ≠ ix q := fun e => hjq (pl.inj j q hj hq e)
        simp [hjq, this]
    -- on with the rest, from any state that keeps the invariant
    have go : ∀ (p' : Nat) (ρ' : Emb) (x : Value) (w' : World), VR ρ' (v q) x → ρ.le ρ' → p' ≤ n → (p' < n → chain p' = true) → (∀ k, k < p' → chain k = true → (listed.getD (ix k) false || decide (k = q)) = true) →
        (∀ k, p' ≤ k → k < n → (listed.getD (ix k) false || decide (k = q)) = false) → Step D ρ0 ρ' (h 0) (h p') w0 w' →
        (∀ k b, k < p' → (listed.getD (ix k) false || decide (k = q)) = false → blk k = some b → ρ' (h k).next = none ∧ (h k).next < (h p').next ∧ (h p').get (h k).next = some b) →
        wpAnyIn (W r) 0 P .any ops Q fuel (listed.setIfInBounds (ix q) true) (a.put (op q).dst x) w' := by
      intro p' ρ' x w' hv hle g1 g2 g3 g4 g5 g6
      refine ih (listed.setIfInBounds (ix q) true) (l.erase (ix q)) p' ρ' (tputO (op q).dst (v q) T') (a.put (op q).dst x) w' (by simp [hsz]) hdc' ?_ (fun j hj hjf => ?_) ?_
      · have := List.length_erase_of_mem (hmem (ix q) hin hunl); omega
      · rw [hget] at hjf
        simp only [Bool.or_eq_false_iff, decide_eq_false_iff_not] at hjf
        exact (List.mem_erase_of_ne hjf.2).2 (hmem j hj hjf.1)
      · rw [hSnew]
        refine ⟨(hi.ar.mono hle).putO (pl.dst q hq) hv, ?_, fun t => ?_, g1, g2, fun k h1 h2 => ?_, fun k h1 h2 => ?_, g5, fun k b h1 h2 h3 => ?_⟩
        · rw [← hi.df]; cases (op q).dst <;> rfl
        · rcases hslot t with ⟨j, j1, j2, j3, j4, j5⟩ | ⟨j1, j2⟩
          · exact .inl ⟨j, j1, by rw [hSeq j j1]; exact j2, j3, j4, fun j' k1 k2 k3 => j5 j' k1 k2 (by rw [hSeq j' k2] at k3; exact k3)⟩
          · exact .inr ⟨fun j k1 k2 => j1 j k1 (by rw [hSeq j k1] at k2; exact k2), j2⟩
        · show (listed.getD (ix k) false || decide (ix k = ix q)) = true
          rw [hSeq k (by omega)]; exact g3 k h1 h2
        · show (listed.getD (ix k) false || decide (ix k = ix q)) = false
          rw [hSeq k h2]; exact g4 k h1 h2
        · refine g6 k b h1 ?_ h3
          have : (listed.getD (ix k) false || decide (ix k = ix q)) = false := h2
          rwa [hSeq k (by omega)] at this
    -- a position that is not the next chain operation lies ahead of it
    have hqp : q ≠ p → q < p := fun hne => by
      rcases Nat.lt_trichotomy q p with h1 | h1 | h1
      · exact h1
      · exact absurd h1 hne
      · have hpn : p < n := by omega
        have := hpreq p hpn (by omega) (pl.chains p q h1 hq (hi.pch hpn))
        have h2 := hi.paft p (Nat.le_refl _) hpn
        (try simp only at h2)
        rw [this] at h2; cases h2
    -- the same window
    have same : q < p → chain q = false → ∀ (ρ' : Emb) (x : Value) (w' : World), VR ρ' (v q) x → ρ.le ρ' → Step D ρ0 ρ' (h 0) (h p) w0 w' →
        (∀ k b, k < p → k ≠ q → listed.getD (ix k) false = false → blk k = some b → ρ' (h k).next = none ∧ (h k).next < (h p).next ∧ (h p).get (h k).next = some b) →
        wpAnyIn (W r) 0 P .any ops Q fuel (listed.setIfInBounds (ix q) true) (a.put (op q).dst x) w' := by
      intro hlt hc ρ' x w' hv hle hst hpd
      refine go p ρ' x w' hv hle hi.ple hi.pch (fun k h1 h2 => by have := hi.pbef k h1 h2; (try simp only at this); rw [this]; rfl) (fun k h1 h2 => ?_) hst (fun k b h1 h2 h3 => ?_)
      · have := hi.paft k h1 h2; (try simp only at this); rw [this]; simp; omega
      · simp only [Bool.or_eq_false_iff, decide_eq_false_iff_not] at h2
        exact hpd k b h1 h2.2 h2.1 h3
    -- a chain operation: the next window
    have next : q = p → ∀ (ρ' : Emb) (x : Value) (w' : World), VR ρ' (v q) x → Step D ρ ρ' (h p) (h (p + 1)) w w' → blk q = none → wpAnyIn (W r) 0 P .any ops Q fuel (listed.setIfInBounds (ix q) true) (a.put (op q).dst x) w' := by
      intro hqp' ρ' x w' hv hst hbn
      subst hqp'
      obtain ⟨p', h1, h2, h3, h4⟩ := nextChain chain n (n - (q + 1)) (q + 1) (by omega)
      obtain ⟨st', pd'⟩ := pl.advance (S := fun k => (listed.getD (ix k) false || decide (k = q))) (q := q + 1) (by omega) (hi.st.trans hst) (fun k b k1 k2 k3 => by
        simp only [Bool.or_eq_false_iff, decide_eq_false_iff_not] at k2
        obtain ⟨f1, f2, f3⟩ := hi.pend k b (by omega) k2.1 k3
        have hn : ρ' (h k).next = none := by
          cases hx : ρ' (h k).next with
          | none => rfl
          | some e =>
            rcases hst.dom _ (by rw [hx]; simp) with g | g
            · exact absurd f1 g
            · omega
        exact ⟨hn, by have := pl.mono q hq; omega, by rw [hst.keep _ f2 f1]; exact f3⟩) p' h1 h2 h4
      refine go p' ρ' x w' hv hst.ext h2 h3 (fun k k1 k2 => ?_) (fun k k1 k2 => ?_) st' pd'
      · by_cases hk : k = q
        · subst hk; simp
        · by_cases hk2 : k < q
          · have := hi.pbef k hk2 k2; (try simp only at this); rw [this]; rfl
          · rw [h4 k (by omega) k1] at k2; cases k2
      · have := hi.paft k (by omega) k2
        (try simp only at this)
        rw [this]; simp; omega
    unfold wpOpIn
    rw [ho]
    simp only
    rcases pl.step q hq with ⟨e1, e2, e3, e4⟩ | ⟨e1, e2, e3, e4⟩ | ⟨e1, e2, b, m, e3, e4, e5, e6⟩ | ⟨e1, e2, e3, e4, e5⟩
    · -- passed over
      rw [aWanted_sound hi.ar (hwant.trans e1), if_neg (by simp)]
      refine ⟨fun f _ => W_fn r f, ?_⟩
      have hv : VR ρ (v q) undef := by rw [e2]; exact VR.undef
      by_cases hqp' : q = p
      · exact next hqp' ρ undef w hv (by rw [← hqp', e3]; exact Step.refl (by rw [hqp']; exact hi.st.hr)) e4
      · by_cases hc : chain q = true
        · have := hi.pbef q (hqp hqp') hc; (try simp only at this); rw [hunl] at this; cases this
        · exact same (hqp hqp') (by simpa using hc) ρ undef w hv (Emb.le_refl _) hi.st (fun k b h1 h2 h3 h4 => hi.pend k b h1 h3 h4)
    · -- it acts
      rw [aWanted_sound hi.ar (hwant.trans e1), if_pos rfl]
      have hqp' : q = p := by
        rcases Nat.lt_or_ge q p with h1 | h1
        · have := hi.pbef q h1 e2; (try simp only at this); rw [hunl] at this; cases this
        · rcases Nat.lt_or_ge p q with h2 | h2
          · have := hqp (by omega); omega
          · omega
      refine e4 ρ a w T' _ Q hi.ar hops (by rw [hqp']; exact hi.st.hr) (fun x ρ' w' hv hst => ?_)
      exact next hqp' ρ' x w' hv (by rw [← hqp']; exact hst) e3
    · -- it makes a block
      rw [aWanted_sound hi.ar (hwant.trans e1), if_pos rfl]
      have hlt : q < p := hqp (fun e => by
        have hpn : p < n := by omega
        rw [e, hi.pch hpn] at e2; cases e2)
      obtain ⟨x, obj, e, k1, k2, k3⟩ := aAlloc_sound (P := P) (w := w) hi.ar (o := op q) (by rw [aAlloc_congr hops]; exact e3)
      obtain ⟨f1, f2, f3⟩ := hi.pend q b hlt hunl e4
      obtain ⟨hr', hext⟩ := hi.st.hr.late f2 f3 k1 f1 (fun ρ' hle he => (k3 ρ' _ hle he).1)
      have hsem : ((op q).semAt (W r).round a.eval) = execOp a.eval (op q) := by
        unfold Oper.semAt
        split
        · rename_i hdef; rw [hdef] at e3; simp [aAlloc] at e3
        · rfl
      refine ⟨fun f _ => W_fn r f, ?_⟩
      rw [hsem, k2]
      rw [Oper.uponIn_value]
      refine same hlt e2 _ x (w.alloc obj) (by rw [e5]; exact (k3 _ _ hext (by simp)).2) hext ?_ (fun k b' h1 h2 h3 h4 => ?_)
      · refine ⟨hr', Emb.le_trans hi.st.ext hext, fun γ k => ?_, hi.st.next, hi.st.keep, fun B g1 g2 => ?_, fun B g => ?_, ?_, hi.st.os, hi.st.tape, hi.st.output, fun d => Nat.le_trans (hi.st.drawn d) (Nat.le_refl _)⟩
        · by_cases hγ : γ = (h q).next
          · have := pl.mono' (q := 0) (q' := q) (by omega) (by omega)
            exact .inr (by omega)
          · exact hi.st.dom γ (by simpa [hγ] using k)
        · have := hi.st.size
          rw [heap_alloc_old w obj (by omega)]; exact hi.st.frame B g1 g2
        · obtain ⟨γ, g, c, g1, g2, g3, g4⟩ := g
          by_cases hγ : γ = (h q).next
          · subst hγ; simp at g1; subst g1
            have := hi.st.size
            exact .inr (by omega)
          · exact hi.st.own B ⟨γ, g, c, by simpa [hγ] using g1, g2, g3, g4⟩
        · have := hi.st.size; simp; omega
      · obtain ⟨g1, g2, g3⟩ := hi.pend k b' h1 h3 h4
        refine ⟨?_, g2, g3⟩
        have hne : (h k).next ≠ (h q).next := by
          intro hE
          have al : ∀ j, j < n → blk j ≠ none → (h (j + 1)).next = (h j).next + 1 := fun j hj hb => by
            rcases pl.step j hj with ⟨_, _, _, u⟩ | ⟨_, _, u, _⟩ | ⟨_, _, _, _, _, _, _, u⟩ | ⟨_, _, u, _⟩
            · exact absurd u hb
            · exact absurd u hb
            · rw [u]; rfl
            · exact absurd u hb
          have hkn : k < n := by have := hi.ple; omega
          rcases Nat.lt_trichotomy k q with h5 | h5 | h5
          · have u1 := al k hkn (by rw [h4]; simp)
            have u2 := pl.mono' (q := k + 1) (q' := q) (by omega) (by omega)
            omega
          · exact h2 h5
          · have u1 := al q hq (by rw [e4]; simp)
            have u2 := pl.mono' (q := q + 1) (q' := k) (by omega) (by omega)
            omega
        simp [hne, g1]
    · -- it looks
      rw [aWanted_sound hi.ar (hwant.trans e1), if_pos rfl]
      have hlt : q < p := hqp (fun e => by
        have hpn : p < n := by omega
        rw [e, hi.pch hpn] at e2; cases e2)
      have hrun : aOp P (T q) (h p) (op q) = some (v q, h p) := by
        rcases e5 p hlt hi.ple (by have := hi.ple; exact (Nat.lt_or_ge p n).elim (fun g => .inr (hi.pch g)) (fun g => .inl (by omega))) with ⟨k, k1, k2, k3, k4⟩ | hh
        · have g1 := hprer k (by have := hi.ple; omega) k4
          have g2 := hi.pbef k k2 k3
          (try simp only at g2)
          rw [g1] at g2; cases g2
        · exact hh
      obtain ⟨x, w', ρ', k1, k2, k3⟩ := aOp_sound hi.ar hi.st.hr (by rw [aOp_congr hops]; exact hrun)
      have hsem : ((op q).semAt (W r).round a.eval) = execOp a.eval (op q) := by
        unfold Oper.semAt
        split
        · rename_i hdef; unfold aOp at hrun; rw [hdef] at hrun; simp at hrun
        · rfl
      refine ⟨fun f _ => W_fn r f, ?_⟩
      rw [hsem]
      have fin2 := same hlt e2 ρ' x w' k2 k3.ext (hi.st.trans k3.any) (fun k b' h1 h2 h3 h4 => by
        obtain ⟨g1, g2, g3⟩ := hi.pend k b' h1 h3 h4
        refine ⟨?_, g2, g3⟩
        cases hx : ρ' (h k).next with
        | none => rfl
        | some e =>
          rcases k3.dom _ (by rw [hx]; simp) with g | g
          · exact absurd g1 g
          · omega)
      rcases k1 with k1 | ⟨k1, k1'⟩
      · rw [k1, Oper.uponIn_value]; exact fin2
      · rw [k1, Oper.uponIn_skip, ← k1']; exact fin2
end
end Go.Ox
