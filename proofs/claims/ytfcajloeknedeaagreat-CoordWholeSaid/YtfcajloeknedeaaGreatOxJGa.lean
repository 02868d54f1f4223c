/-
  A part of the proof: what functions of the program do on an abstract heap. CONDITIONS: none.
-/
import Derived.Test.YtfcajloeknedeaaGreatOxExY
import Derived.Test.YtfcajloeknedeaaGreatOxNs
set_option linter.unusedSimpArgs false
set_option linter.unusedVariables false
namespace Go.Proofs.Cd
open Go Go.Ox
set_option maxRecDepth 100000
set_option maxHeartbeats 1000000
/-- An answer without rows. -/
abbrev ackV (a b : Int) : Value := .agg #[.int .i64 a, .int .i64 b, .slice none 0 0, .slice none 0 0, .slice none 0 0]
abbrev ackC (a b : Int) : List Value := [.int .i64 a, .int .i64 b, .slice none 0 0, .slice none 0 0, .slice none 0 0]
abbrev ackB (a b : Int) : ABlk := .cells false 0 (ackC a b) 33
/-- What a coordinator's block holds. -/
abbrev coB (c : Bool) (no since : Int) (stop : Bool) (tasks : Int) (w t : Value) : ABlk := .cells false 0 [.bool c, .int .i64 no, .int .i64 since, .bool stop, .int .i64 tasks, w, t] 81
theorem cloneI0 (h : AHeap) (K : Value → AHeap → Prop) (hk : K (.slice none 0 0) h) : wpF Tryz.prog (.fn 26) [.slice none 0 0] h K := by
  refine wpF_fun 8 [.tmp 2] Tryz.func26 rfl rfl rfl rfl ?_
  refine sr (fun LL hLL => ?_)
  simp only [ptrTo, oxq, ↓reduceIte, simprocAttr, gR_some]
  refine hLL _ _ ?_
  refine wpC_seq (sr fun LL hLL => ?_)
  simp only [ptrTo, oxq, ↓reduceIte, simprocAttr, gR_some]
  refine hLL _ _ ?_
  refine wpC_if ?_
  simp only [ptrTo, oxq, ↓reduceIte, simprocAttr, gR_some]
  refine sr (fun LL hLL => ?_)
  simp only [ptrTo, oxq, ↓reduceIte, simprocAttr, gR_some]
  refine hLL _ _ ?_
  refine wpC_ret (out_ret ?_)
  simp only [ptrTo, oxq, ↓reduceIte, simprocAttr, gR_some]
  exact hk
theorem cloneR0 (h : AHeap) (K : Value → AHeap → Prop) (hk : K (.slice none 0 0) h) : wpF Tryz.prog (.fn 80) [.slice none 0 0] h K := by
  refine wpF_fun 8 [.tmp 2] Tryz.func80 rfl rfl rfl rfl ?_
  refine sr (fun LL hLL => ?_)
  simp only [ptrTo, oxq, ↓reduceIte, simprocAttr, gR_some]
  refine hLL _ _ ?_
  refine wpC_seq (sr fun LL hLL => ?_)
  simp only [ptrTo, oxq, ↓reduceIte, simprocAttr, gR_some]
  refine hLL _ _ ?_
  refine wpC_if ?_
  simp only [ptrTo, oxq, ↓reduceIte, simprocAttr, gR_some]
  refine sr (fun LL hLL => ?_)
  simp only [ptrTo, oxq, ↓reduceIte, simprocAttr, gR_some]
  refine hLL _ _ ?_
  refine wpC_ret (out_ret ?_)
  simp only [ptrTo, oxq, ↓reduceIte, simprocAttr, gR_some]
  exact hk
theorem cloneC0 (h : AHeap) (K : Value → AHeap → Prop) (hk : K (.slice none 0 0) h) : wpF Tryz.prog (.fn 81) [.slice none 0 0] h K := by
  refine wpF_fun 8 [.tmp 2] Tryz.func81 rfl rfl rfl rfl ?_
  refine sr (fun LL hLL => ?_)
  simp only [ptrTo, oxq, ↓reduceIte, simprocAttr, gR_some]
  refine hLL _ _ ?_
  refine wpC_seq (sr fun LL hLL => ?_)
  simp only [ptrTo, oxq, ↓reduceIte, simprocAttr, gR_some]
  refine hLL _ _ ?_
  refine wpC_if ?_
  simp only [ptrTo, oxq, ↓reduceIte, simprocAttr, gR_some]
  refine sr (fun LL hLL => ?_)
  simp only [ptrTo, oxq, ↓reduceIte, simprocAttr, gR_some]
  refine hLL _ _ ?_
  refine wpC_ret (out_ret ?_)
  simp only [ptrTo, oxq, ↓reduceIte, simprocAttr, gR_some]
  exact hk
theorem copyOf0 {h0 : AHeap} {F : List Asn} (a b : Int) (h : AHeap) (s : St h0 h F) (K : Value → AHeap → Prop) (hk : ∀ h', St h0 h' F → K (ackV a b) h') : wpF Tryz.prog (.fn 55) [ackV a b] h K := by
  refine wpF_fun 16 [.cell 2 33] Tryz.func55 rfl rfl rfl rfl ?_
  refine sr (fun LL hLL => ?_)
  simp only [ptrTo, oxq, ↓reduceIte, simprocAttr, gR_some]
  refine hLL _ _ ?_
  have s1 := (s.push (ackB a b)).push (ackB 0 0)
  have g1 := (s1.mv 1).get
  have g2 := s1.get
  have v1 : veq 6 (.slice none 0 0) (.slice none 0 0) = true := by decide
  obtain ⟨h6, e6⟩ : ∃ h6, h6 = (h.push (ackB a b)).push (ackB 0 0) := ⟨_, rfl⟩
  rw [← e6] at g1 g2 s1
  rw [AHeap.next_push] at g2 s1
  refine sd [0, 1, 3, 4, 6, 7, 2, 9, 5, 8, 10, 11, 12, 13, 14] [0, 1, 0, 8, 0, 64, 3, 223, 31, 255, 1023, 2047, 4095, 8191, 16383] (by decide +kernel) (by decide +kernel) (by decide +kernel) (fun LL hLL => ?_)
  simp only [ptrTo, pend, pend0, Pd.old, pendU, pendU0, oxq, Nat.testBit, ↓reduceIte, simprocAttr, gR_held, ← e6, g1, g2, v1]
  refine cloneI0 _ _ ?_
  simp only [ptrTo, pend, pend0, Pd.old, pendU, pendU0, oxq, Nat.testBit, ↓reduceIte, simprocAttr, gR_held, g1, g2, v1]
  refine cloneR0 _ _ ?_
  simp only [ptrTo, pend, pend0, Pd.old, pendU, pendU0, oxq, Nat.testBit, ↓reduceIte, simprocAttr, gR_held, g1, g2, v1]
  refine cloneC0 _ _ ?_
  simp only [ptrTo, pend, pend0, Pd.old, pendU, pendU0, oxq, Nat.testBit, ↓reduceIte, simprocAttr, gR_held, g1, g2, v1, AHeap.get_set]
  have s2 := (s1.mv 1).set (ackB a b)
  have s3 := s2.set (ackB a b)
  have s4 := s3.set (ackB a b)
  have g3 := s4.get
  have g4 := (s4.mv 1).get
  refine hLL _ _ ?_
  refine sr (fun LL hLL => ?_)
  simp only [ptrTo, oxq, ↓reduceIte, simprocAttr, gR_some, g3, g4]
  have s5 := (s4.mv 1).set (ackB a b)
  have g5 := s5.get
  refine hLL _ _ ?_
  refine wpC_ret (out_ret ?_)
  simp only [ptrTo, oxq, ↓reduceIte, simprocAttr, gR_some]
  simp only [g5, ptrTo, oxq, ↓reduceIte, simprocAttr, gR_some]
  exact hk _ s5.drop.drop
theorem new_ok {h0 : AHeap} {F : List Asn} (h : AHeap) (s : St h0 h F) (K : Value → AHeap → Prop) (hk : ∀ β h', St h0 h' (own β (coB false 0 0 false 0 (.map none) (.map none)) :: F) → K (.pointer (some ⟨β, 0, none⟩)) h') : wpF Tryz.prog (.fn 9) [] h K := by
  refine wpF_fun 3 [.tmp 0] Tryz.func9 rfl rfl rfl rfl ?_
  refine sr (fun LL hLL => ?_)
  simp only [ptrTo, oxq, ↓reduceIte, simprocAttr, gR_some]
  refine hLL _ _ ?_
  refine sr (fun LL hLL => ?_)
  simp only [ptrTo, oxq, ↓reduceIte, simprocAttr, gR_some]
  refine hLL _ _ ?_
  refine wpC_ret (out_ret ?_)
  simp only [ptrTo, oxq, ↓reduceIte, simprocAttr, gR_some]
  exact hk _ _ (s.push _)
theorem ready_ok {h0 : AHeap} {F : List Asn} {β : Nat} {no since : Int} {stop : Bool} {tasks : Int} {t : Value} {es : List (Value × Value)} {B : Nat} (h : AHeap) (s : St h0 h (own β (coB true no since stop tasks (.map (some B)) t) :: own B (.map es) :: F)) (K : Value → AHeap → Prop) (hk : K (.bool (decide (es.length = 0))) h) : wpF Tryz.prog (.fn 21) [.pointer (some ⟨β, 0, none⟩)] h K := by
  refine wpF_fun 15 [.tmp 2] Tryz.func21 rfl rfl rfl rfl ?_
  refine sr (fun LL hLL => ?_)
  simp only [ptrTo, oxq, ↓reduceIte, simprocAttr, gR_some]
  refine hLL _ _ ?_
  have g1 := s.get
  have g2 := (s.mv 1).get
  refine sr (fun LL hLL => ?_)
  simp only [ptrTo, oxq, ↓reduceIte, simprocAttr, gR_some, g1, g2]
  refine hLL _ _ ?_
  refine wpC_ret (out_ret ?_)
  simp only [ptrTo, oxq, ↓reduceIte, simprocAttr, gR_some]
  have e : decide ((es.length : Int) = 0) = decide (es.length = 0) := by congr 1; exact propext (by omega)
  rw [e]
  exact hk
theorem ready_no {h0 : AHeap} {F : List Asn} {β : Nat} {no since : Int} {stop : Bool} {tasks : Int} {t w : Value} (h : AHeap) (s : St h0 h (own β (coB false no since stop tasks w t) :: F)) (K : Value → AHeap → Prop) (hk : K (.bool false) h) : wpF Tryz.prog (.fn 21) [.pointer (some ⟨β, 0, none⟩)] h K := by
  refine wpF_fun 15 [.tmp 2] Tryz.func21 rfl rfl rfl rfl ?_
  refine sr (fun LL hLL => ?_)
  simp only [ptrTo, oxq, ↓reduceIte, simprocAttr, gR_some]
  refine hLL _ _ ?_
  have g1 := s.get
  refine sr (fun LL hLL => ?_)
  simp only [ptrTo, oxq, ↓reduceIte, simprocAttr, gR_some, g1]
  refine hLL _ _ ?_
  refine wpC_ret (out_ret ?_)
  simp only [ptrTo, oxq, ↓reduceIte, simprocAttr, gR_some]
  exact hk
theorem drop_ok {h0 : AHeap} {F : List Asn} {β : Nat} {c : Bool} {no since : Int} {stop : Bool} {tasks : Int} {t w : Value} (h : AHeap) (s : St h0 h (own β (coB c no since stop tasks w t) :: F)) (K : Value → AHeap → Prop) (hk : ∀ h', St h0 h' (own β (coB false 0 0 false 0 (.map none) (.map none)) :: F) → K (.tuple #[]) h') : wpF Tryz.prog (.fn 23) [.pointer (some ⟨β, 0, none⟩)] h K := by
  refine wpF_fun 5 [] Tryz.func23 rfl rfl rfl rfl ?_
  have g1 := s.get
  refine rg (fun LL hLL => ?_)
  simp only [ptrTo, oxq, ↓reduceIte, simprocAttr, gR_some, g1]
  refine hLL _ _ ?_
  refine out_normal ?_
  simp only [ptrTo, oxq, ↓reduceIte, simprocAttr, gR_some]
  exact hk _ (s.set _)
theorem running_ok {h0 : AHeap} {F : List Asn} {β : Nat} {c : Bool} {no since : Int} {stop : Bool} {tasks : Int} {t w : Value} (h : AHeap) (s : St h0 h (own β (coB c no since stop tasks w t) :: F)) (K : Value → AHeap → Prop) (hk : K (.tuple #[.int .i64 no, .bool stop, .int .i64 since, .bool c]) h) : wpF Tryz.prog (.fn 22) [.pointer (some ⟨β, 0, none⟩)] h K := by
  refine wpF_fun 22 [.tmp 2, .tmp 3, .tmp 4, .tmp 5] Tryz.func22 rfl rfl rfl rfl ?_
  refine sr (fun LL hLL => ?_)
  simp only [ptrTo, oxq, ↓reduceIte, simprocAttr, gR_some]
  refine hLL _ _ ?_
  have g1 := s.get
  refine su [some 6, some 7, some 8, some 9, some 10, some 11, some 12, some 13, some 14, some 15, some 16, some 17, some 18, some 19, some 20, some 21, some 2, some 3, some 4, some 5] 20 [0, 1, 3, 7, 0, 16, 48, 112, 0, 256, 768, 1792, 0, 4096, 12288, 28672, 15, 65791, 200703, 524287] (by rfl) (by rfl) (by decide +kernel) (by decide +kernel) (by decide +kernel) (fun LL hLL => ?_)
  simp only [ptrTo, pend, pend0, Pd.old, pendU, pendU0, oxq, Nat.testBit, ↓reduceIte, simprocAttr, gR_some, g1]
  refine hLL _ _ ?_
  refine wpC_ret (out_ret ?_)
  simp only [ptrTo, oxq, ↓reduceIte, simprocAttr, gR_some]
  exact hk
end Go.Proofs.Cd

namespace Go.Proofs.Cd
open Go Go.Ox
set_option maxRecDepth 100000
set_option maxHeartbeats 1000000
def ents (L : List Int) : List (Value × Value) := L.map fun i => (.int .i64 i, .int .i64 i)
theorem ents_len (L : List Int) : (ents L).length = L.length := by simp [ents]
theorem ents_miss (i : Int) : ∀ (L : List Int) (j : Nat), ¬ i ∈ L → mFind .i64 i (ents L) j = some none
  | [], j, _ => rfl
  | x :: L, j, h => by
    have h1 : ¬ i = x := fun e => h (by simp [e])
    show mFind .i64 i ((.int .i64 x, .int .i64 x) :: ents L) j = _
    rw [mFind_cons, if_neg h1]
    exact ents_miss i L (j + 1) fun k => h (by simp [k])
theorem ents_hit (i : Int) : ∀ (L : List Int) (j : Nat), i ∈ L → ∃ p, mFind .i64 i (ents L) j = some (some (j + p, .int .i64 i)) ∧ (ents L).eraseIdx p = ents (L.erase i)
  | [], j, h => by cases h
  | x :: L, j, h => by
    show ∃ p, mFind .i64 i ((.int .i64 x, .int .i64 x) :: ents L) j = _ ∧ ((Value.int .i64 x, Value.int .i64 x) :: ents L).eraseIdx p = _
    rw [mFind_cons]
    by_cases h1 : i = x
    · subst h1
      exact ⟨0, by rw [if_pos rfl]; rfl, by simp [List.erase_cons]⟩
    · obtain ⟨p, k1, k2⟩ := ents_hit i L (j + 1) ((List.mem_cons.1 h).resolve_left h1)
      refine ⟨p + 1, by rw [if_neg h1, k1]; congr 3; omega, ?_⟩
      have h2 : (x == i) = false := by simpa using fun e => h1 (Eq.symm e)
      rw [List.eraseIdx_cons_succ, k2, List.erase_cons, h2]
      rfl
/-- A map whose keys are numbers. -/
def okE (es : List (Value × Value)) : Prop := ∀ e ∈ es, ∃ n : Int, e.1 = .int .i64 n
theorem okE_find (n : Int) : ∀ (es : List (Value × Value)) (j : Nat), okE es → ∃ r, mFind .i64 n es j = some r
  | [], j, _ => ⟨none, rfl⟩
  | (a, b) :: es, j, h => by
    obtain ⟨m, e⟩ := h _ (List.mem_cons_self ..)
    have e' : a = .int .i64 m := e
    subst e'
    rw [mFind_cons]
    by_cases h1 : n = m
    · exact ⟨_, if_pos h1⟩
    · rw [if_neg h1]
      exact okE_find n es (j + 1) fun e he => h e (by simp [he])
theorem okE_put {B : Nat} {n : Int} {y : Value} {es : List (Value × Value)} (h : AHeap) (ho : okE es) : ∃ es', okE es' ∧ muG h B .i64 n y es (mFind .i64 n es 0) = some (h.set B (.map es')) := by
  obtain ⟨r, hr⟩ := okE_find n es 0 ho
  rw [hr]
  cases r with
  | none =>
    refine ⟨_, fun e he => ?_, muG_miss ..⟩
    rcases List.mem_append.1 he with he | he
    · exact ho e he
    · obtain rfl := List.mem_singleton.1 he
      exact ⟨n, rfl⟩
  | some q =>
    refine ⟨_, fun e he => ?_, muG_hit (j := q.1) (v := q.2) ..⟩
    rcases List.mem_or_eq_of_mem_set he with he | he
    · exact ho e he
    · subst he; exact ⟨n, rfl⟩
theorem del_hit {h : AHeap} {B : Nat} {n : Int} {L : List Int} (hg : h.get B = some (.map (ents L))) (hn : n ∈ L) : aDelete Tryz.prog h 78 (.map (some B)) (.int .i64 n) = some (h.set B (.map (ents (L.erase n)))) := by
  obtain ⟨p, k1, k2⟩ := ents_hit n L 0 hn
  have e1 : Tryz.prog.underlying 78 = some (.map 3 3) := by rfl
  have e2 : Tryz.prog.underlying 3 = some (.int .i64) := by rfl
  rw [Nat.zero_add] at k1
  simp only [aDelete, e1, e2, hg, k1, k2]
/-- What a coordinator that runs holds: its block, the tasks that it waits for, what it was told. -/
def coR (β : Nat) (no since : Int) (stop : Bool) (tasks : Int) (L : List Int) : Asn :=
  exs fun B : Nat => exs fun D : Nat => exs fun es : List (Value × Value) => star [fact (okE es), own β (coB true no since stop tasks (.map (some B)) (.map (some D))), own B (.map (ents L)), own D (.map es)]
theorem coR_out {h0 h : AHeap} {F : List Asn} {β : Nat} {no since : Int} {stop : Bool} {tasks : Int} {L : List Int} (s : St h0 h (coR β no since stop tasks L :: F)) :
    ∃ B D es, okE es ∧ St h0 h (own β (coB true no since stop tasks (.map (some B)) (.map (some D))) :: own B (.map (ents L)) :: own D (.map es) :: F) := by
  obtain ⟨B, s1⟩ := s.ex_out
  obtain ⟨D, s2⟩ := s1.ex_out
  obtain ⟨es, s3⟩ := s2.ex_out
  obtain ⟨k, s4⟩ := s3.star_out.fact_out
  exact ⟨B, D, es, k, s4⟩
theorem coR_in {h0 h : AHeap} {F : List Asn} {β : Nat} {no since : Int} {stop : Bool} {tasks : Int} {L : List Int} {B D : Nat} {es : List (Value × Value)} (k : okE es) (s : St h0 h (own β (coB true no since stop tasks (.map (some B)) (.map (some D))) :: own B (.map (ents L)) :: own D (.map es) :: F)) : St h0 h (coR β no since stop tasks L :: F) :=
  St.ex_in B (St.ex_in D (St.ex_in es (St.star_in (l := [_, _, _, _]) (St.fact_in k s))))
theorem readyR {h0 : AHeap} {F : List Asn} {β : Nat} {no since : Int} {stop : Bool} {tasks : Int} {L : List Int} (h : AHeap) (s : St h0 h (coR β no since stop tasks L :: F)) (K : Value → AHeap → Prop) (hk : K (.bool (decide (L.length = 0))) h) : wpF Tryz.prog (.fn 21) [.pointer (some ⟨β, 0, none⟩)] h K := by
  obtain ⟨B, D, es, _, s1⟩ := coR_out s
  refine ready_ok h s1 K ?_
  rw [ents_len]
  exact hk
theorem ack_ok {h0 : AHeap} {F : List Asn} {β : Nat} {no since : Int} {stop : Bool} {tasks : Int} {L : List Int} (n : Int) (h : AHeap) (s : St h0 h (coR β no since stop tasks L :: F)) (K : Value → AHeap → Prop) (hk : ∀ h', St h0 h' (coR β no since stop tasks (L.erase n) :: F) → K (.tuple #[]) h') : wpF Tryz.prog (.fn 20) [.pointer (some ⟨β, 0, none⟩), ackV no n] h K := by
  obtain ⟨B, D, es, ko, s0⟩ := coR_out s
  refine wpF_fun 48 [] Tryz.func20 rfl rfl rfl rfl ?_
  refine sr (fun LL hLL => ?_)
  simp only [ptrTo, oxq, ↓reduceIte, simprocAttr, gR_some]
  refine hLL _ _ ?_
  have s1 := s0.push (ackB no n)
  obtain ⟨h6, e6⟩ : ∃ h6, h6 = h.push (ackB no n) := ⟨_, rfl⟩
  have e6' := e6
  rw [← e6] at s1
  rw [← e6]
  have ga := s1.get
  have gc := (s1.mv 1).get
  have gb := (s1.mv 2).get
  have gd := (s1.mv 3).get
  have vt : ∀ (n : Int) (b : Bool), veq 6 (.tuple #[.int .i64 n, .bool b]) (.tuple #[.int .i64 n, .bool b]) = true := by intro n b; simp [veq]
  have va : veq 6 (ackV no n) (ackV no n) = true := by simp [veq]
  by_cases hn : n ∈ L
  · obtain ⟨p, k1, k2⟩ := ents_hit n L 0 hn
    refine su [some 7, some 8, some 9, some 10, some 11, some 12, some 13, some 6, some 14, some 15, some 4, some 5] 12 [0, 1, 3, 7, 0, 16, 63, 127, 255, 255, 511, 2047] (by rfl) (by rfl) (by decide +kernel) (by decide +kernel) (by decide +kernel) (fun LL hLL => ?_)
    simp only [ptrTo, pend, pend0, Pd.old, pendU, pendU0, oxq, Nat.testBit, ↓reduceIte, simprocAttr, gR_some, ga, gc, gb, k1, vt]
    refine hLL _ _ ?_
    refine wpC_seq ?_
    refine su [some 16, some 17, some 18, some 19, some 20, some 21, some 22, some 23, some 24, some 25, some 26, some 27, some 28, some 29, some 30, some 31, some 32, some 33] 18 [0, 1, 3, 7, 15, 31, 63, 127, 63, 319, 831, 1855, 4095, 8191, 16383, 32767, 65535, 131071] (by rfl) (by rfl) (by decide +kernel) (by decide +kernel) (by decide +kernel) (fun LL hLL => ?_)
    simp only [ptrTo, pend, pend0, Pd.old, pendU, pendU0, oxq, Nat.testBit, ↓reduceIte, simprocAttr, gR_some, ga, gc, not_true_eq_false]
    refine hLL _ _ ?_
    refine wpC_if ?_
    simp only [ptrTo, oxq, ↓reduceIte, simprocAttr, gR_some]
    refine wpC_skip ?_
    simp only [ptrTo, oxq, ↓reduceIte, simprocAttr, gR_some]
    refine fg6 (fun R => ?_)
    refine su [some 34, some 35, some 36, some 37, some 38, some 39, none] 7 [0, 1, 3, 7, 0, 16, 63] (by rfl) (by rfl) (by decide +kernel) (by decide +kernel) (by decide +kernel) (fun LL hLL => ?_)
    simp only [ptrTo, pend, pend0, Pd.old, pendU, pendU0, oxq, Nat.testBit, ↓reduceIte, simprocAttr, gR_some, ga, gc, del_hit gb hn]
    refine hLL _ _ ?_
    have s2 := (s1.mv 2).set (.map (ents (L.erase n)))
    have ga2 := (s2.mv 1).get
    have gc2 := (s2.mv 2).get
    have gd2 := (s2.mv 3).get
    refine du [some 40, some 41, some 42, some 43, some 44, some 45, some 46, some 47, none] 9 [0, 1, 3, 7, 0, 16, 0, 64, 255] (by rfl) (by rfl) (by decide +kernel) (by decide +kernel) (by decide +kernel) (fun LL hLL => ?_)
    simp only [ptrTo, pend, pend0, Pd.old, pendU, pendU0, oxq, Nat.testBit, ↓reduceIte, simprocAttr, gR_some, ga2, gc2, gd2, va]
    refine copyOf0 no n _ s2 _ fun h3 s3 => ?_
    have ga3 := (s3.mv 1).get
    have gc3 := (s3.mv 2).get
    have gd3 := (s3.mv 3).get
    obtain ⟨es', ko', e7⟩ := okE_put (B := D) (n := n) (y := ackV no n) h3 ko
    simp only [ptrTo, pend, pend0, Pd.old, pendU, pendU0, oxq, Nat.testBit, ↓reduceIte, simprocAttr, gR_held, ga3, gc3, gd3, e7]
    refine hLL _ _ ?_
    refine out_normal ?_
    simp only [ptrTo, oxq, ↓reduceIte, simprocAttr, gR_some]
    have s4 := (s3.mv 3).set (.map es')
    have s5 := (s4).sel 4 [3, 1, 0]
    simp only [List.filterMap_cons, List.filterMap_nil, List.getElem?_cons_succ, List.getElem?_cons_zero, List.drop_succ_cons, List.drop_zero, List.cons_append, List.nil_append] at s5
    exact hk _ (coR_in ko' s5)
  · refine su [some 7, some 8, some 9, some 10, some 11, some 12, some 13, some 6, some 14, some 15, some 4, some 5] 12 [0, 1, 3, 7, 0, 16, 63, 127, 255, 255, 511, 2047] (by rfl) (by rfl) (by decide +kernel) (by decide +kernel) (by decide +kernel) (fun LL hLL => ?_)
    simp only [ptrTo, pend, pend0, Pd.old, pendU, pendU0, oxq, Nat.testBit, ↓reduceIte, simprocAttr, gR_some, ga, gc, gb, ents_miss n L 0 hn, vt]
    refine hLL _ _ ?_
    refine wpC_seq ?_
    refine su [some 16, some 17, some 18, some 19, some 20, some 21, some 22, some 23, some 24, some 25, some 26, some 27, some 28, some 29, some 30, some 31, some 32, some 33] 18 [0, 1, 3, 7, 15, 31, 63, 127, 63, 319, 831, 1855, 4095, 8191, 16383, 32767, 65535, 131071] (by rfl) (by rfl) (by decide +kernel) (by decide +kernel) (by decide +kernel) (fun LL hLL => ?_)
    simp only [ptrTo, pend, pend0, Pd.old, pendU, pendU0, oxq, Nat.testBit, ↓reduceIte, simprocAttr, gR_some, ga, gc, not_true_eq_false]
    refine hLL _ _ ?_
    refine wpC_if ?_
    simp only [ptrTo, oxq, ↓reduceIte, simprocAttr, gR_some]
    refine wpC_ret (out_ret ?_)
    simp only [ptrTo, oxq, ↓reduceIte, simprocAttr, gR_some]
    refine hk _ ?_
    rw [List.erase_of_not_mem hn]
    exact coR_in ko s1.drop
/-- A run begins. -/
theorem start_ok {h0 : AHeap} {F : List Asn} {β : Nat} (no : Int) (n : Nat) (stop : Bool) (now : Int) (h2 : n ≤ 768) (h : AHeap) (s : St h0 h (own β (coB false 0 0 false 0 (.map none) (.map none)) :: F)) (K : Value → AHeap → Prop)
    (hk : ∀ h', St h0 h' (coR β no now stop n ((List.range n).map fun (j : Nat) => (j : Int)) :: F) → K (.int .i64 0) h') : wpF Tryz.prog (.fn 10) [.pointer (some ⟨β, 0, none⟩), .int .i64 no, .int .i64 n, .bool stop, .int .i64 now] h K := by
  refine wpF_fun 38 [.tmp 10] Tryz.func10 rfl rfl rfl rfl ?_
  refine sr (fun LL hLL => ?_)
  simp only [ptrTo, oxq, ↓reduceIte, simprocAttr, gR_some]
  refine hLL _ _ ?_
  have g1 := s.get
  refine wpC_seq (sr fun LL hLL => ?_)
  simp only [ptrTo, oxq, ↓reduceIte, simprocAttr, gR_some, g1]
  refine hLL _ _ ?_
  refine wpC_if ?_
  simp only [ptrTo, oxq, ↓reduceIte, simprocAttr, gR_some]
  refine wpC_skip ?_
  simp only [ptrTo, oxq, ↓reduceIte, simprocAttr, gR_some]
  refine fg12 (fun R => ?_)
  have s1 := (s.push (.map [])).push (.map [])
  have g2 := (s1.mv 2).get
  rw [AHeap.next_push] at s1
  refine sr (fun LL hLL => ?_)
  simp only [ptrTo, oxq, ↓reduceIte, simprocAttr, gR_some, g2]
  refine hLL _ _ ?_
  refine wpC_seq (sr fun LL hLL => ?_)
  simp only [ptrTo, oxq, ↓reduceIte, simprocAttr, gR_some, eq_false (show ¬ (n : Int) < 0 by omega), eq_false (show ¬ (768 : Int) < (n : Int) by omega), eq_true (show (0 : Int) ≤ (n : Int) by omega)]
  refine hLL _ _ ?_
  refine xp12 17 (by repeat (first | exact tput_le _ _ _ _ (.inr (by omega)) | refine tput_le _ _ _ _ (.inl ?_))) (fun R => ?_)
  simp only [ptrTo, oxq, ↓reduceIte, simprocAttr, gR_some, show List.range 17 = [0, 1, 2, 3, 4, 5, 6, 7, 8, 9, 10, 11, 12, 13, 14, 15, 16] from rfl]
  have s2 := (s1.mv 2).set (coB true no now stop n (.map (some h.next)) (.map (some (h.next + 1))))
  have s3 := (s2).sel 3 [0, 2, 1]
  simp only [List.filterMap_cons, List.filterMap_nil, List.getElem?_cons_succ, List.getElem?_cons_zero, List.drop_succ_cons, List.drop_zero, List.cons_append, List.nil_append] at s3
  have s4 := coR_in (L := []) (fun e he => by cases he) s3
  refine wpC_block ?_
  refine wpC_loop (fun k T h' => ∃ (i : Nat) (u5 u6 u7 u8 u9 u11 u12 u13 u14 u15 u16 u17 u18 u19 u20 u21 u22 u23 u24 u25 u26 : Value) (R : List Value), k + i = n ∧ St h0 h' (coR β no now stop n ((List.range i).map fun (j : Nat) => (j : Int)) :: F) ∧ T = .pointer (some ⟨β, 0, none⟩) :: .int .i64 no :: .int .i64 (n : Int) :: .bool stop :: .int .i64 now :: u5 :: u6 :: u7 :: u8 :: u9 :: .int .i64 0 :: u11 :: u12 :: u13 :: u14 :: u15 :: u16 :: u17 :: u18 :: u19 :: u20 :: u21 :: u22 :: u23 :: u24 :: u25 :: u26 :: .int .i64 (n : Int) :: .int .i64 (i : Int) :: R) ?_ n _ _ ⟨0, _, _, _, _, _, _, _, _, _, _, _, _, _, _, _, _, _, _, _, _, _, _, by omega, s4, rfl⟩
  rintro k T h' ⟨i, u5, u6, u7, u8, u9, u11, u12, u13, u14, u15, u16, u17, u18, u19, u20, u21, u22, u23, u24, u25, u26, R, hi, s5, rfl⟩
  refine sr (fun LL hLL => ?_)
  simp only [ptrTo, oxq, ↓reduceIte, simprocAttr, gR_some]
  refine hLL _ _ ?_
  refine wpC_seq ?_
  refine wpC_if ?_
  simp only [ptrTo, oxq, ↓reduceIte, simprocAttr, gR_some]
  refine gC_of (fun hc => ?_) (fun hc => ?_)
  · refine wpC_skip ?_
    simp only [ptrTo, oxq, ↓reduceIte, simprocAttr, gR_some]
    have hc' : i < n := by omega
    obtain ⟨B, D, es, ko, s6⟩ := coR_out s5
    have gc := s6.get
    have gb := (s6.mv 1).get
    have hm := ents_miss (i : Int) ((List.range i).map fun (j : Nat) => (j : Int)) 0 (by simp; intro x hx; omega)
    refine wpC_seq (wpC_block ?_)
    refine sr (fun LL hLL => ?_)
    simp only [ptrTo, oxq, ↓reduceIte, simprocAttr, gR_some]
    refine hLL _ _ ?_
    refine rg (fun LL hLL => ?_)
    simp only [ptrTo, oxq, ↓reduceIte, simprocAttr, gR_some, gc, gb, hm]
    refine hLL _ _ ?_
    simp only [ptrTo, oxq, ↓reduceIte, simprocAttr, gR_some]
    refine fg29 (fun R => ?_)
    have s7 := (s6.mv 1).set (.map (ents ((List.range i).map fun (j : Nat) => (j : Int)) ++ [(.int .i64 (i : Int), .int .i64 (i : Int))]))
    have e7 : ents ((List.range i).map fun (j : Nat) => (j : Int)) ++ [(.int .i64 (i : Int), .int .i64 (i : Int))] = ents ((List.range (i + 1)).map fun (j : Nat) => (j : Int)) := by simp [ents, List.range_succ]
    rw [e7] at s7
    have hw : IntKind.i64.wrap ((i : Int) + 1) = ((i + 1 : Nat) : Int) := by rw [wrap_i64 (by omega) (by omega)]; omega
    refine rg (fun LL hLL => ?_)
    simp only [ptrTo, oxq, ↓reduceIte, simprocAttr, gR_some, hw, e7]
    refine hLL _ _ ?_
    simp only [ptrTo, oxq, ↓reduceIte, simprocAttr, gR_some]
    exact ⟨k - 1, by omega, i + 1, _, _, _, _, _, _, _, _, _, _, _, _, _, _, _, _, _, _, _, _, _, _, by omega, coR_in ko (s7.mv 1), rfl⟩
  · have hin : i = n := by omega
    subst hin
    refine wpC_exit ?_
    simp only [ptrTo, oxq, ↓reduceIte, simprocAttr, gR_some]
    refine sr (fun LL hLL => ?_)
    simp only [ptrTo, oxq, ↓reduceIte, simprocAttr, gR_some]
    refine hLL _ _ ?_
    refine wpC_ret (out_ret ?_)
    simp only [ptrTo, oxq, ↓reduceIte, simprocAttr, gR_some]
    exact hk _ s5
end Go.Proofs.Cd

