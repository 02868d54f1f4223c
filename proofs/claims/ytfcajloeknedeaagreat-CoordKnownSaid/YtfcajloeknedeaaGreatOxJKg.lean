/-
  A part of the proof: what functions of the program do on an abstract heap. CONDITIONS: none.
-/
import Derived.Test.YtfcajloeknedeaaGreatOxJKf
set_option linter.unusedSimpArgs false
set_option linter.unusedVariables false
namespace Go.Proofs.Cd
open Go Go.Ox
set_option maxRecDepth 100000
set_option maxHeartbeats 4000000
/-- What the reference's block holds. -/
abbrev rfB (c : Bool) (no tasks since : Int) (stop : Bool) (l : Value) : ABlk := .cells false 0 [.bool c, .int .i64 no, .int .i64 tasks, .int .i64 since, .bool stop, l] 123
/-- The reference's coordinator with all that it was told. -/
def rfG (γ : Nat) (c : Bool) (no tasks since : Int) (stop : Bool) (LX : List AckX) : Asn :=
 exs fun la : Option Addr => exs fun lc : Nat => star [own γ (rfB c no tasks since stop (.slice la LX.length lc)), wn AckX.cells 5 33 la lc LX, star (LX.map ackA)]
section
variable {h0 h : AHeap} {F : List Asn} {γ : Nat} {c : Bool} {no tasks since : Int} {stop : Bool} {LX : List AckX}
theorem rfG_out (s : St h0 h (rfG γ c no tasks since stop LX :: F)) : ∃ la lc, St h0 h (own γ (rfB c no tasks since stop (.slice la LX.length lc)) :: wn AckX.cells 5 33 la lc LX :: star (LX.map ackA) :: F) := by
 obtain ⟨la, s1⟩ := s.ex_out
 obtain ⟨lc, s2⟩ := s1.ex_out
 exact ⟨la, lc, s2.star_out⟩
theorem rfG_in {la : Option Addr} {lc : Nat} (s : St h0 h (own γ (rfB c no tasks since stop (.slice la LX.length lc)) :: wn AckX.cells 5 33 la lc LX :: star (LX.map ackA) :: F)) : St h0 h (rfG γ c no tasks since stop LX :: F) :=
 St.ex_in la (St.ex_in lc (St.star_in (l := [_, _, _]) s))
theorem rfG_new (s : St h0 h (own γ (rfB c no tasks since stop (.slice none 0 0)) :: F)) : St h0 h (rfG γ c no tasks since stop [] :: F) := by
 have s1 : St h0 h (wn AckX.cells 5 33 none 0 ([] : List AckX) :: star [] :: own γ (rfB c no tasks since stop (.slice none 0 0)) :: F) := s.star_nil.wn_nil
 exact rfG_in (la := none) (lc := 0) (s1.mv 2)
theorem refNew_ok (s : St h0 h F) (K : Value → AHeap → Prop) (hk : ∀ γ h', St h0 h' (rfG γ false 0 0 0 false [] :: F) → K (.pointer (some ⟨γ, 0, none⟩)) h') : wpF Tryz.prog (.fn 33) [] h K := by
 refine wpF_fun 3 [.tmp 0] Tryz.func33 rfl rfl rfl rfl ?_
 refine sr (fun LL hLL => ?_)
 simp only [oxz, simprocAttr]
 refine hLL _ _ ?_
 refine sr (fun LL hLL => ?_)
 simp only [oxz, simprocAttr]
 refine hLL _ _ ?_
 refine wpC_ret (out_ret ?_)
 simp only [oxz, simprocAttr]
 exact hk _ _ (rfG_new (s.push _))
theorem refStartY (no2 tasks2 now2 : Int) (stop2 : Bool) (s : St h0 h (rfG γ true no tasks since stop LX :: F)) (K : Value → AHeap → Prop) (hk : K (.int .i64 16) h) : wpF Tryz.prog (.fn 34) [.pointer (some ⟨γ, 0, none⟩), .int .i64 no2, .int .i64 tasks2, .bool stop2, .int .i64 now2] h K := by
 obtain ⟨la, lc, s1⟩ := rfG_out s
 have g1 := s1.get
 refine wpF_fun 37 [.tmp 10] Tryz.func34 rfl rfl rfl rfl ?_
 refine sr (fun LL hLL => ?_)
 simp only [oxz, simprocAttr]
 refine hLL _ _ ?_
 refine wpC_seq (sr fun LL hLL => ?_)
 simp only [oxz, simprocAttr, g1]
 refine hLL _ _ ?_
 refine wpC_if ?_
 simp only [oxz, simprocAttr]
 refine sr (fun LL hLL => ?_)
 simp only [oxz, simprocAttr]
 refine hLL _ _ ?_
 refine wpC_ret (out_ret ?_)
 simp only [oxz, simprocAttr]
 exact hk
theorem refStartN (no2 tasks2 now2 : Int) (stop2 : Bool) (s : St h0 h (rfG γ false no tasks since stop LX :: F)) (K : Value → AHeap → Prop) (hk : ∀ h', St h0 h' (rfG γ true no2 tasks2 now2 stop2 [] :: F) → K (.int .i64 0) h') : wpF Tryz.prog (.fn 34) [.pointer (some ⟨γ, 0, none⟩), .int .i64 no2, .int .i64 tasks2, .bool stop2, .int .i64 now2] h K := by
 obtain ⟨la, lc, s1⟩ := rfG_out s
 have s1 := (s1.mv 2).drop
 have s1 := (s1.mv 1).drop
 have g1 := s1.get
 have s2 := s1.set (rfB true no tasks since stop (.slice la LX.length lc))
 have g2 := s2.get
 have s3 := s2.set (rfB true no2 tasks since stop (.slice la LX.length lc))
 have g3 := s3.get
 have s4 := s3.set (rfB true no2 tasks2 since stop (.slice la LX.length lc))
 have g4 := s4.get
 have s5 := s4.set (rfB true no2 tasks2 now2 stop (.slice la LX.length lc))
 have g5 := s5.get
 have s6 := s5.set (rfB true no2 tasks2 now2 stop2 (.slice la LX.length lc))
 have g6 := s6.get
 have s7 := s6.set (rfB true no2 tasks2 now2 stop2 (.slice none 0 0))
 refine wpF_fun 37 [.tmp 10] Tryz.func34 rfl rfl rfl rfl ?_
 refine sr (fun LL hLL => ?_)
 simp only [oxz, simprocAttr]
 refine hLL _ _ ?_
 refine wpC_seq (sr fun LL hLL => ?_)
 simp only [oxz, simprocAttr, g1]
 refine hLL _ _ ?_
 refine wpC_if ?_
 simp only [oxz, simprocAttr]
 refine wpC_skip ?_
 simp only [oxz, simprocAttr]
 refine fg11 (fun R => ?_)
 refine sr (fun LL hLL => ?_)
 simp only [oxz, simprocAttr, g1]
 refine hLL _ _ ?_
 refine sr (fun LL hLL => ?_)
 simp only [oxz, simprocAttr, g2]
 refine hLL _ _ ?_
 refine sr (fun LL hLL => ?_)
 simp only [oxz, simprocAttr, g3]
 refine hLL _ _ ?_
 refine sr (fun LL hLL => ?_)
 simp only [oxz, simprocAttr, g4]
 refine hLL _ _ ?_
 refine sr (fun LL hLL => ?_)
 simp only [oxz, simprocAttr, g5]
 refine hLL _ _ ?_
 refine sr (fun LL hLL => ?_)
 simp only [oxz, simprocAttr, g6]
 refine hLL _ _ ?_
 refine sr (fun LL hLL => ?_)
 simp only [oxz, simprocAttr]
 refine hLL _ _ ?_
 refine wpC_ret (out_ret ?_)
 simp only [oxz, simprocAttr]
 exact hk _ (rfG_new s7)
theorem refDrop_ok (s : St h0 h (rfG γ c no tasks since stop LX :: F)) (K : Value → AHeap → Prop) (hk : ∀ h', St h0 h' (rfG γ false 0 0 0 false [] :: F) → K (.tuple #[]) h') : wpF Tryz.prog (.fn 43) [.pointer (some ⟨γ, 0, none⟩)] h K := by
 obtain ⟨la, lc, s1⟩ := rfG_out s
 have s1 := (s1.mv 2).drop
 have s1 := (s1.mv 1).drop
 have g1 := s1.get
 have s2 := s1.set (rfB false no tasks since stop (.slice la LX.length lc))
 have g2 := s2.get
 have s3 := s2.set (rfB false 0 tasks since stop (.slice la LX.length lc))
 have g3 := s3.get
 have s4 := s3.set (rfB false 0 0 since stop (.slice la LX.length lc))
 have g4 := s4.get
 have s5 := s4.set (rfB false 0 0 0 stop (.slice la LX.length lc))
 have g5 := s5.get
 have s6 := s5.set (rfB false 0 0 0 false (.slice la LX.length lc))
 have g6 := s6.get
 have s7 := s6.set (rfB false 0 0 0 false (.slice none 0 0))
 refine wpF_fun 20 [] Tryz.func43 rfl rfl rfl rfl ?_
 refine sr (fun LL hLL => ?_)
 simp only [oxz, simprocAttr, g1]
 refine hLL _ _ ?_
 refine sr (fun LL hLL => ?_)
 simp only [oxz, simprocAttr, g2]
 refine hLL _ _ ?_
 refine sr (fun LL hLL => ?_)
 simp only [oxz, simprocAttr, g3]
 refine hLL _ _ ?_
 refine sr (fun LL hLL => ?_)
 simp only [oxz, simprocAttr, g4]
 refine hLL _ _ ?_
 refine sr (fun LL hLL => ?_)
 simp only [oxz, simprocAttr, g5]
 refine hLL _ _ ?_
 refine rg (fun LL hLL => ?_)
 simp only [oxz, simprocAttr, g6]
 refine hLL _ _ ?_
 refine out_normal ?_
 simp only [oxz, simprocAttr]
 exact hk _ (rfG_new s7)
theorem refRunning_ok (s : St h0 h (rfG γ c no tasks since stop LX :: F)) (K : Value → AHeap → Prop) (hk : K (.tuple #[.int .i64 no, .bool stop, .int .i64 since, .bool c]) h) : wpF Tryz.prog (.fn 44) [.pointer (some ⟨γ, 0, none⟩)] h K := by
 obtain ⟨la, lc, s1⟩ := rfG_out s
 have g1 := s1.get
 refine wpF_fun 22 [.tmp 2, .tmp 3, .tmp 4, .tmp 5] Tryz.func44 rfl rfl rfl rfl ?_
 refine sr (fun LL hLL => ?_)
 simp only [oxz, simprocAttr]
 refine hLL _ _ ?_
 refine su [some 6, some 7, some 8, some 9, some 10, some 11, some 12, some 13, some 14, some 15, some 16, some 17, some 18, some 19, some 20, some 21, some 2, some 3, some 4, some 5] 20 [0, 1, 3, 7, 0, 16, 48, 112, 0, 256, 768, 1792, 0, 4096, 12288, 28672, 15, 65791, 200703, 524287] (by rfl) (by rfl) (by decide +kernel) (by decide +kernel) (by decide +kernel) (fun LL hLL => ?_)
 simp only [oxz, simprocAttr, g1]
 refine hLL _ _ ?_
 refine wpC_ret (out_ret ?_)
 simp only [oxz, simprocAttr]
 exact hk
theorem refReady_ok (s : St h0 h (rfG γ c no tasks since stop LX :: F)) (K : Value → AHeap → Prop) (hk : K (.bool (c && decide (tasks ≤ LX.length))) h) : wpF Tryz.prog (.fn 46) [.pointer (some ⟨γ, 0, none⟩)] h K := by
 obtain ⟨la, lc, s1⟩ := rfG_out s
 have g1 := s1.get
 refine wpF_fun 19 [.tmp 2] Tryz.func46 rfl rfl rfl rfl ?_
 refine sr (fun LL hLL => ?_)
 simp only [oxz, simprocAttr]
 refine hLL _ _ ?_
 cases c
 ·refine su [some 3, some 4, some 5, some 6, some 7, some 8, some 9, some 10, some 11, some 12, some 13, some 14, some 15, some 16, some 17, some 18, some 2] 17 [0, 1, 3, 7, 15, 31, 63, 127, 255, 511, 31, 1055, 3103, 7199, 16383, 32767, 65535] (by rfl) (by rfl) (by decide +kernel) (by decide +kernel) (by decide +kernel) (fun LL hLL => ?_)
  simp only [oxz, simprocAttr, g1]
  refine hLL _ _ ?_
  refine wpC_ret (out_ret ?_)
  simp only [oxz, simprocAttr]
  exact hk
 ·refine su [some 3, some 4, some 5, some 6, some 7, some 8, some 9, some 10, some 11, some 12, some 13, some 14, some 15, some 16, some 17, some 18, some 2] 17 [0, 1, 3, 7, 15, 31, 63, 127, 255, 511, 31, 1055, 3103, 7199, 16383, 32767, 65535] (by rfl) (by rfl) (by decide +kernel) (by decide +kernel) (by decide +kernel) (fun LL hLL => ?_)
  simp only [oxz, simprocAttr, g1]
  refine hLL _ _ ?_
  refine wpC_ret (out_ret ?_)
  simp only [oxz, simprocAttr]
  exact hk
theorem refAck_ok (x : AckX) (ax : AckRd h0 F x) (sx : AckSm x) (hl : LX.length < 1000000) (s : St h0 h (rfG γ c no tasks since stop LX :: F)) (K : Value → AHeap → Prop)
  (hk1 : c = true → x.no = no → 0 ≤ x.task → x.task < tasks → (∀ y ∈ LX, y.task ≠ x.task) → ∀ y h', y.task = x.task → y.cont = x.cont → St h0 h' (rfG γ c no tasks since stop (LX ++ [y]) :: F) → K (.tuple #[]) h')
  (hk2 : ¬ (c = true ∧ x.no = no ∧ 0 ≤ x.task ∧ x.task < tasks ∧ ∀ y ∈ LX, y.task ≠ x.task) → ∀ h', St h0 h' (rfG γ c no tasks since stop LX :: F) → K (.tuple #[]) h') : wpF Tryz.prog (.fn 42) [.pointer (some ⟨γ, 0, none⟩), .agg x.cells.toArray] h K := by
 obtain ⟨la, lc, s0⟩ := rfG_out s
 obtain ⟨CX, eCX⟩ : ∃ C : List Value, C = [.int .i64 x.no, .int .i64 x.task, .slice x.oa x.offs.length x.oc, .slice x.ra x.rows.length x.rc, .slice x.ta x.outs.length x.tc] := ⟨_, rfl⟩
 have eC : x.cells = CX := by rw [eCX]; rfl
 rw [eC]
 have s1 := s0.push (.cells false 0 CX 33)
 have back : ∀ h', St h0 h' (own h.next (.cells false 0 CX 33) :: own γ (rfB c no tasks since stop (.slice la LX.length lc)) :: wn AckX.cells 5 33 la lc LX :: star (LX.map ackA) :: F) → St h0 h' (rfG γ c no tasks since stop LX :: F) := fun h' s => rfG_in s.drop
 obtain ⟨bx, ebx⟩ : ∃ b, b = h.next := ⟨_, rfl⟩
 obtain ⟨h1, e1⟩ : ∃ h1, h1 = h.push (.cells false 0 CX 33) := ⟨_, rfl⟩
 rw [← ebx] at s1 back
 rw [← e1] at s1
 refine wpF_fun 123 [] Tryz.func42 rfl rfl rfl rfl ?_
 rw [eCX] at s1 e1 back ⊢
 clear eC eCX
 refine sr (fun LL hLL => ?_)
 simp only [oxz, simprocAttr]
 refine hLL _ _ ?_
 rw [← e1, ← ebx]
 clear e1
 have gx := s1.get
 have gc := (s1.mv 1).get
 refine sm (fun T h' => h' = h1 ∧ ∃ (u1 u2 : Value) (R : List Value), c = true ∧ x.no = no ∧ 0 ≤ x.task ∧ x.task < tasks ∧ T = .pointer (some ⟨γ, 0, none⟩) :: u1 :: u2 :: .pointer (some ⟨bx, 0, none⟩) :: R) ?_ ?_
 ·cases c
  ·refine su [some 9, some 10, some 11, some 12, some 13, some 14, some 15, some 16, some 17, some 18, some 19, some 20, some 21, some 22, some 23, some 24, some 25, some 26, some 27, some 28, some 29, some 30, some 31, some 32, some 33, some 34, some 35, some 36] 28 [0, 1, 3, 7, 15, 31, 63, 127, 63, 319, 831, 1855, 4095, 8191, 16383, 32767, 65535, 131071, 262143, 524287, 1048575, 2097151, 1048575, 5242879, 13631487, 30408703, 67108863, 134217727] (by rfl) (by rfl) (by decide +kernel) (by decide +kernel) (by decide +kernel) (fun LL hLL => ?_)
   simp only [oxz, simprocAttr, gc, gx]
   refine hLL _ _ ?_
   refine wpC_if ?_
   simp only [oxz, simprocAttr]
   refine wpC_ret (out_ret ?_)
   simp only [oxz, simprocAttr]
   exact hk2 (fun h => by simp at h) _ (back _ s1)
  by_cases hno : x.no = no
  ·by_cases h0t : x.task < 0
   ·refine su [some 9, some 10, some 11, some 12, some 13, some 14, some 15, some 16, some 17, some 18, some 19, some 20, some 21, some 22, some 23, some 24, some 25, some 26, some 27, some 28, some 29, some 30, some 31, some 32, some 33, some 34, some 35, some 36] 28 [0, 1, 3, 7, 15, 31, 63, 127, 63, 319, 831, 1855, 4095, 8191, 16383, 32767, 65535, 131071, 262143, 524287, 1048575, 2097151, 1048575, 5242879, 13631487, 30408703, 67108863, 134217727] (by rfl) (by rfl) (by decide +kernel) (by decide +kernel) (by decide +kernel) (fun LL hLL => ?_)
    simp only [oxz, simprocAttr, gc, gx, hno, not_true_eq_false, eq_true h0t]
    refine hLL _ _ ?_
    refine wpC_if ?_
    simp only [oxz, simprocAttr]
    refine wpC_ret (out_ret ?_)
    simp only [oxz, simprocAttr]
    exact hk2 (fun h => by omega) _ (back _ s1)
   ·by_cases h1t : tasks ≤ x.task
    ·refine su [some 9, some 10, some 11, some 12, some 13, some 14, some 15, some 16, some 17, some 18, some 19, some 20, some 21, some 22, some 23, some 24, some 25, some 26, some 27, some 28, some 29, some 30, some 31, some 32, some 33, some 34, some 35, some 36] 28 [0, 1, 3, 7, 15, 31, 63, 127, 63, 319, 831, 1855, 4095, 8191, 16383, 32767, 65535, 131071, 262143, 524287, 1048575, 2097151, 1048575, 5242879, 13631487, 30408703, 67108863, 134217727] (by rfl) (by rfl) (by decide +kernel) (by decide +kernel) (by decide +kernel) (fun LL hLL => ?_)
     simp only [oxz, simprocAttr, gc, gx, hno, not_true_eq_false, eq_false h0t, eq_true h1t, ge_iff_le]
     refine hLL _ _ ?_
     refine wpC_if ?_
     simp only [oxz, simprocAttr]
     refine wpC_ret (out_ret ?_)
     simp only [oxz, simprocAttr]
     exact hk2 (fun h => by omega) _ (back _ s1)
    ·refine su [some 9, some 10, some 11, some 12, some 13, some 14, some 15, some 16, some 17, some 18, some 19, some 20, some 21, some 22, some 23, some 24, some 25, some 26, some 27, some 28, some 29, some 30, some 31, some 32, some 33, some 34, some 35, some 36] 28 [0, 1, 3, 7, 15, 31, 63, 127, 63, 319, 831, 1855, 4095, 8191, 16383, 32767, 65535, 131071, 262143, 524287, 1048575, 2097151, 1048575, 5242879, 13631487, 30408703, 67108863, 134217727] (by rfl) (by rfl) (by decide +kernel) (by decide +kernel) (by decide +kernel) (fun LL hLL => ?_)
     simp only [oxz, simprocAttr, gc, gx, hno, not_true_eq_false, eq_false h0t, eq_false h1t, ge_iff_le]
     refine hLL _ _ ?_
     refine wpC_if ?_
     simp only [oxz, simprocAttr]
     refine wpC_skip ?_
     simp only [oxz, simprocAttr]
     exact ⟨_, _, _, hno, by omega, by omega, rfl⟩
  ·refine su [some 9, some 10, some 11, some 12, some 13, some 14, some 15, some 16, some 17, some 18, some 19, some 20, some 21, some 22, some 23, some 24, some 25, some 26, some 27, some 28, some 29, some 30, some 31, some 32, some 33, some 34, some 35, some 36] 28 [0, 1, 3, 7, 15, 31, 63, 127, 63, 319, 831, 1855, 4095, 8191, 16383, 32767, 65535, 131071, 262143, 524287, 1048575, 2097151, 1048575, 5242879, 13631487, 30408703, 67108863, 134217727] (by rfl) (by rfl) (by decide +kernel) (by decide +kernel) (by decide +kernel) (fun LL hLL => ?_)
   simp only [oxz, simprocAttr, gc, gx, eq_false hno, not_false_eq_true]
   refine hLL _ _ ?_
   refine wpC_if ?_
   simp only [oxz, simprocAttr]
   refine wpC_ret (out_ret ?_)
   simp only [oxz, simprocAttr]
   exact hk2 (fun h => hno h.2.1) _ (back _ s1)
 rintro T h' ⟨rfl, u1, u2, R, hc, hno, h0t, h1t, rfl⟩
 refine sm (fun T h1 => h1 = h' ∧ ∃ (u1 u2 : Value) (R : List Value), (∀ y ∈ LX, y.task ≠ x.task) ∧ T = .pointer (some ⟨γ, 0, none⟩) :: u1 :: u2 :: .pointer (some ⟨bx, 0, none⟩) :: R) ?_ ?_
 ·refine sr (fun LL hLL => ?_)
  simp only [oxz, simprocAttr]
  refine hLL _ _ ?_
  refine wpC_block ?_
  refine wpC_loop (fun m T h1 => h1 = h' ∧ ∃ (i : Nat) (u1 u2 : Value) (R : List Value), m + i = LX.length ∧ (∀ (k : Nat) (hk : k < LX.length), k < i → LX[k].task ≠ x.task) ∧ T = .pointer (some ⟨γ, 0, none⟩) :: u1 :: u2 :: .pointer (some ⟨bx, 0, none⟩) :: R ∧ tget R 0 = .int .i64 i) ?_ LX.length _ _ ⟨rfl, 0, _, _, _, by omega, fun k hk h => by omega, rfl, by simp [tget_tput]⟩
  rintro m T h1 ⟨rfl, i, u1, u2, R, hmi, hn, rfl, q0⟩
  refine wpC_seq (sr fun LL hLL => ?_)
  simp only [oxz, simprocAttr, q0, gc]
  refine hLL _ _ ?_
  refine wpC_if ?_
  simp only [oxz, simprocAttr]
  refine gC_of (fun hcc => ?_) (fun hcc => ?_)
  ·refine wpC_skip ?_
   simp only [oxz, simprocAttr]
   have hi : i < LX.length := by omega
   obtain ⟨bq, oq, roq, szq, Cq, Tq, eq, pq, gq, rq, qq⟩ := ((s1.mv 2).rs AckX.len).resolve_left (by rintro rfl; simp at hi)
   have v1 : Cq[oq + i * 5 + 1]? = some (.int .i64 LX[i].task) := by rw [Nat.add_assoc]; exact Rs.cell AckX.len rq qq i hi 1 (by omega)
   rw [eq] at gc
   refine wpC_seq (wpC_block ?_)
   by_cases ht : LX[i].task = x.task
   ·refine su [some 46, some 47, some 48, some 49, some 50, some 51, some 52, some 53, some 54, some 55, some 56] 11 [0, 1, 3, 7, 0, 31, 63, 127, 0, 256, 1023] (by rfl) (by rfl) (by decide +kernel) (by decide +kernel) (by decide +kernel) (fun LL hLL => ?_)
    simp only [oxz, simprocAttr, q0, gc, gx, ixF hi, gq, v1, eq_true ht]
    refine hLL _ _ ?_
    refine wpC_if ?_
    simp only [oxz, simprocAttr]
    refine wpC_ret (out_ret ?_)
    simp only [oxz, simprocAttr]
    exact hk2 (fun h => h.2.2.2.2 _ (List.getElem_mem hi) ht) _ (back _ s1)
   ·refine su [some 46, some 47, some 48, some 49, some 50, some 51, some 52, some 53, some 54, some 55, some 56] 11 [0, 1, 3, 7, 0, 31, 63, 127, 0, 256, 1023] (by rfl) (by rfl) (by decide +kernel) (by decide +kernel) (by decide +kernel) (fun LL hLL => ?_)
    simp only [oxz, simprocAttr, q0, gc, gx, ixF hi, gq, v1, eq_false ht]
    refine hLL _ _ ?_
    refine wpC_if ?_
    simp only [oxz, simprocAttr]
    refine wpC_skip ?_
    simp only [oxz, simprocAttr]
    refine rg (fun LL hLL => ?_)
    simp only [oxz, simprocAttr, q0, wsucc (show i < 9223372036854775807 by omega)]
    refine hLL _ _ ?_
    simp only [oxz, simprocAttr]
    refine ⟨m - 1, by omega, i + 1, _, _, _, by omega, fun k hk hki => ?_, rfl, by simp [tget_tput]⟩
    by_cases e : k = i
    ·subst e; exact ht
    ·exact hn k hk (by omega)
  ·refine wpC_exit ?_
   simp only [oxz, simprocAttr]
   refine ⟨_, _, _, fun y hy => ?_, rfl⟩
   obtain ⟨k, hk, rfl⟩ := List.mem_iff_getElem.1 hy
   exact hn k hk (by omega)
 rintro T h1 ⟨rfl, u1, u2, R, hnew, rfl⟩
 obtain ⟨bb, ebb⟩ : ∃ b, b = h1.next := ⟨_, rfl⟩
 have s2 := ((((s1.push (.cells false 0 [.int .i64 0, .int .i64 0, .slice none 0 0, .slice none 0 0, .slice none 0 0] 33)).set (.cells false 0 [.int .i64 x.no, .int .i64 x.task, .slice none 0 0, .slice none 0 0, .slice none 0 0] 33)).wn_nil (f := icell) (k := 1) (e := 3)).wn_nil (f := rcell) (k := 3) (e := 63)).wn_nil (f := r2cell) (k := 2) (e := 65)
 have gz := (s1.push (.cells false 0 [.int .i64 0, .int .i64 0, .slice none 0 0, .slice none 0 0, .slice none 0 0] 33)).get
 refine sr (fun LL hLL => ?_)
 simp only [oxz, simprocAttr, gx, gz]
 refine hLL _ _ ?_
 obtain ⟨h2, e2⟩ : ∃ h2, h2 = (h1.push (.cells false 0 [.int .i64 0, .int .i64 0, .slice none 0 0, .slice none 0 0, .slice none 0 0] 33)).set h1.next (.cells false 0 [.int .i64 x.no, .int .i64 x.task, .slice none 0 0, .slice none 0 0, .slice none 0 0] 33) := ⟨_, rfl⟩
 rw [← e2, ← ebb] at s2
 rw [← e2, ← ebb]
 clear e2 gz gx gc
 have sv : ∀ (a : Option Addr) (m n : Nat), veq 6 (.slice a m n) (.slice a m n) = true := by intro a m n; simp [veq]
 have va : ∀ a b c : Int, veq 6 (.agg #[.int .i64 a, .int .i64 b, .int .i64 c]) (.agg #[.int .i64 a, .int .i64 b, .int .i64 c]) = true ∧ veq 6 (.agg #[.int .i64 a, .int .i64 b]) (.agg #[.int .i64 a, .int .i64 b]) = true := by intros; simp [veq]
 obtain ⟨G, eG⟩ : ∃ G, G = own bx (.cells false 0 [.int .i64 x.no, .int .i64 x.task, .slice x.oa x.offs.length x.oc, .slice x.ra x.rows.length x.rc, .slice x.ta x.outs.length x.tc] 33) :: own γ (rfB c no tasks since stop (.slice la LX.length lc)) :: wn AckX.cells 5 33 la lc LX :: star (LX.map ackA) :: F := ⟨_, rfl⟩
 rw [← eG] at s2
 have getx : ∀ h', St h0 h' G → h'.get bx = some (.cells false 0 [.int .i64 x.no, .int .i64 x.task, .slice x.oa x.offs.length x.oc, .slice x.ra x.rows.length x.rc, .slice x.ta x.outs.length x.tc] 33) := fun h' s => by rw [eG] at s; exact s.get
 have toF : ∀ h', St h0 h' G → St h0 h' F := fun h' s => by rw [eG] at s; exact s.drop.drop.drop.drop
 refine sm (fun T h' => ∃ (a0 : Option Addr) (d0 : Nat) (u1 u2 : Value) (R : List Value), St h0 h' (wn r2cell 2 65 none 0 ([] : List _) :: wn rcell 3 63 none 0 ([] : List _) :: wn icell 1 3 a0 d0 x.offs :: own bb (.cells false 0 [.int .i64 x.no, .int .i64 x.task, .slice a0 x.offs.length d0, .slice none 0 0, .slice none 0 0] 33) :: G) ∧ T = .pointer (some ⟨γ, 0, none⟩) :: u1 :: u2 :: .pointer (some ⟨bx, 0, none⟩) :: R ∧ tget R 1 = .pointer (some ⟨bb, 0, none⟩)) ?_ ?_
 ·refine sr (fun LL hLL => ?_)
  simp only [oxz, simprocAttr]
  refine hLL _ _ ?_
  refine wpC_block ?_
  refine wpC_loop (fun m T h' => ∃ (i : Nat) (a0 : Option Addr) (d0 : Nat) (u1 u2 : Value) (R : List Value), m + i = x.offs.length ∧ St h0 h' (wn r2cell 2 65 none 0 ([] : List _) :: wn rcell 3 63 none 0 ([] : List _) :: wn icell 1 3 a0 d0 (x.offs.take i) :: own bb (.cells false 0 [.int .i64 x.no, .int .i64 x.task, .slice a0 (x.offs.take i).length d0, .slice none 0 0, .slice none 0 0] 33) :: G) ∧ T = .pointer (some ⟨γ, 0, none⟩) :: u1 :: u2 :: .pointer (some ⟨bx, 0, none⟩) :: R ∧ tget R 1 = .pointer (some ⟨bb, 0, none⟩) ∧ tget R 2 = .int .i64 i) ?_ x.offs.length _ _ ⟨0, none, 0, _, _, _, by omega, s2, rfl, by simp [tget_tput], by simp [tget_tput]⟩
  clear s2
  rintro m T h2 ⟨i, a0, d0, u1, u2, R, hmi, s3, rfl, q1, q2⟩
  have gx := getx _ s3.drop.drop.drop.drop
  have gb := (s3.mv 3).get
  refine wpC_seq (sr fun LL hLL => ?_)
  simp only [oxz, simprocAttr, q2, gx]
  refine hLL _ _ ?_
  refine wpC_if ?_
  simp only [oxz, simprocAttr]
  refine gC_of (fun hcc => ?_) (fun hcc => ?_)
  ·refine wpC_skip ?_
   simp only [oxz, simprocAttr]
   have hi : i < x.offs.length := by omega
   have hs := sx.o
   have ht : x.offs.take (i + 1) = x.offs.take i ++ [x.offs[i]] := List.take_succ_eq_append_getElem hi
   have hli : (x.offs.take i).length = i := by rw [List.length_take]; omega
   obtain ⟨bq, oq, roq, szq, Cq, Tq, eq, pq, gq, rq, qq⟩ := (ax.o _ (toF _ s3.drop.drop.drop.drop)).resolve_left (by intro e; rw [e] at hi; simp at hi)
   rw [eq] at gx
   have wq : Cq[oq + i * 1]? = some (.int .i64 x.offs[i]) := Rs.cell icell.len rq qq i hi 0 (by omega)
   have zz : aZeros [.int .i64 0] 1 = [.int .i64 0] := rfl
   obtain ⟨aE, cE, h6, y1, y2⟩ := (s3.mv 2).app1 (bytes := 8) x.offs[i] icell.len icell.oc (by omega) (by omega)
   have y1' := y1
   simp only [icell] at y1'
   have sP := (s3.push (.cells false 1 [.int .i64 x.offs[i]] 3)).drop
   have gxP := getx _ (sP).drop.drop.drop.drop
   rw [eq] at gxP
   have gbP := (sP.mv 3).get
   obtain ⟨bqP, oqP, roqP, szqP, CqP, TqP, eqP, pqP, gqP, rqP, qqP⟩ := (ax.o _ (toF _ (sP).drop.drop.drop.drop)).resolve_left (by intro e; rw [e] at hi; simp at hi)
   rw [eq] at eqP
   cases eqP
   have wqP : CqP[oq + i * 1]? = some (.int .i64 x.offs[i]) := Rs.cell icell.len rqP qqP i hi 0 (by omega)
   have gxZ := getx _ (y2).drop.drop.drop.drop
   rw [eq] at gxZ
   have gbZ := (y2.mv 3).get
   obtain ⟨bqZ, oqZ, roqZ, szqZ, CqZ, TqZ, eqZ, pqZ, gqZ, rqZ, qqZ⟩ := (ax.o _ (toF _ (y2).drop.drop.drop.drop)).resolve_left (by intro e; rw [e] at hi; simp at hi)
   rw [eq] at eqZ
   cases eqZ
   have wqZ : CqZ[oq + i * 1]? = some (.int .i64 x.offs[i]) := Rs.cell icell.len rqZ qqZ i hi 0 (by omega)
   refine wpC_seq (wpC_block ?_)
   refine du [some 69, some 70, some 71, some 72, some 73, some 74, some 75, some 76, some 77, some 78, none] 11 [0, 1, 0, 4, 0, 28, 60, 124, 255, 511, 1023] (by rfl) (by rfl) (by decide +kernel) (by decide +kernel) (by decide +kernel) (fun LL hLL => ?_)
   simp only [oxz, simprocAttr, q1, q2, gx, gb, ixF hi, gq, wq, zz, gxP, gbP, gqP, wqP, sv, va]
   rw [y1']
   have s4 := (y2.mv 3).set (.cells false 0 [.int .i64 x.no, .int .i64 x.task, .slice aE ((x.offs.take i).length + 1) cE, .slice none 0 0, .slice none 0 0] 33)
   simp only [oxk, simprocAttr, gxZ, gbZ, gqZ, wqZ, ixF hi, sv, va]
   refine hLL _ _ ?_
   simp only [oxz, simprocAttr]
   refine rg (fun LL hLL => ?_)
   simp only [oxz, simprocAttr, q2, wsucc (show i < 9223372036854775807 by omega)]
   refine hLL _ _ ?_
   simp only [oxz, simprocAttr]
   rw [← ht] at s4
   rw [show (x.offs.take i).length + 1 = (x.offs.take (i + 1)).length by rw [hli, List.length_take]; omega] at s4 ⊢
   have s5 := (s4).sel 4 [2, 3, 1, 0]
   simp only [oxf] at s5
   exact ⟨m - 1, by omega, i + 1, aE, cE, _, _, _, by omega, s5, rfl, by simp [tget_tput, q1], by simp [tget_tput]⟩
  ·have hil : i = x.offs.length := by omega
   subst hil
   rw [List.take_length] at s3
   refine wpC_exit ?_
   simp only [oxz, simprocAttr]
   exact ⟨a0, d0, _, _, _, s3, rfl, by simp [tget_tput, q1]⟩
 clear s2
 rintro T h2 ⟨a0, d0, u1, u2, R, s2, rfl, q1⟩
 refine sm (fun T h' => ∃ (a1 : Option Addr) (d1 : Nat) (u1 u2 : Value) (R : List Value), St h0 h' (wn r2cell 2 65 none 0 ([] : List _) :: wn rcell 3 63 a1 d1 x.rows :: wn icell 1 3 a0 d0 x.offs :: own bb (.cells false 0 [.int .i64 x.no, .int .i64 x.task, .slice a0 x.offs.length d0, .slice a1 x.rows.length d1, .slice none 0 0] 33) :: G) ∧ T = .pointer (some ⟨γ, 0, none⟩) :: u1 :: u2 :: .pointer (some ⟨bx, 0, none⟩) :: R ∧ tget R 1 = .pointer (some ⟨bb, 0, none⟩)) ?_ ?_
 ·refine sr (fun LL hLL => ?_)
  simp only [oxz, simprocAttr]
  refine hLL _ _ ?_
  refine wpC_block ?_
  refine wpC_loop (fun m T h' => ∃ (i : Nat) (a1 : Option Addr) (d1 : Nat) (u1 u2 : Value) (R : List Value), m + i = x.rows.length ∧ St h0 h' (wn r2cell 2 65 none 0 ([] : List _) :: wn rcell 3 63 a1 d1 (x.rows.take i) :: wn icell 1 3 a0 d0 x.offs :: own bb (.cells false 0 [.int .i64 x.no, .int .i64 x.task, .slice a0 x.offs.length d0, .slice a1 (x.rows.take i).length d1, .slice none 0 0] 33) :: G) ∧ T = .pointer (some ⟨γ, 0, none⟩) :: u1 :: u2 :: .pointer (some ⟨bx, 0, none⟩) :: R ∧ tget R 1 = .pointer (some ⟨bb, 0, none⟩) ∧ tget R 3 = .int .i64 i) ?_ x.rows.length _ _ ⟨0, none, 0, _, _, _, by omega, s2, rfl, by simp [tget_tput, q1], by simp [tget_tput]⟩
  clear s2 q1
  rintro m T h2 ⟨i, a1, d1, u1, u2, R, hmi, s3, rfl, q1, q2⟩
  have gx := getx _ s3.drop.drop.drop.drop
  have gb := (s3.mv 3).get
  refine wpC_seq (sr fun LL hLL => ?_)
  simp only [oxz, simprocAttr, q2, gx]
  refine hLL _ _ ?_
  refine wpC_if ?_
  simp only [oxz, simprocAttr]
  refine gC_of (fun hcc => ?_) (fun hcc => ?_)
  ·refine wpC_skip ?_
   simp only [oxz, simprocAttr]
   have hi : i < x.rows.length := by omega
   have hs := sx.r
   have ht : x.rows.take (i + 1) = x.rows.take i ++ [x.rows[i]] := List.take_succ_eq_append_getElem hi
   have hli : (x.rows.take i).length = i := by rw [List.length_take]; omega
   obtain ⟨bq, oq, roq, szq, Cq, Tq, eq, pq, gq, rq, qq⟩ := (ax.r _ (toF _ s3.drop.drop.drop.drop)).resolve_left (by intro e; rw [e] at hi; simp at hi)
   rw [eq] at gx
   obtain ⟨wq, xq⟩ := Rs.row rcell.len rq qq i hi
   have zz : aZeros [.int .i64 0, .int .i64 0, .int .i64 0] 1 = [.int .i64 0, .int .i64 0, .int .i64 0] := rfl
   obtain ⟨aE, cE, h6, y1, y2⟩ := (s3.mv 1).app1 (bytes := 24) x.rows[i] rcell.len rcell.oc (by omega) (by omega)
   have y1' := y1
   simp only [rcell] at y1'
   have sP := (s3.push (.cells false 3 [.int .i64 x.rows[i].1, .int .i64 x.rows[i].2.1, .int .i64 x.rows[i].2.2] 63)).drop
   have gxP := getx _ (sP).drop.drop.drop.drop
   rw [eq] at gxP
   have gbP := (sP.mv 3).get
   obtain ⟨bqP, oqP, roqP, szqP, CqP, TqP, eqP, pqP, gqP, rqP, qqP⟩ := (ax.r _ (toF _ (sP).drop.drop.drop.drop)).resolve_left (by intro e; rw [e] at hi; simp at hi)
   rw [eq] at eqP
   cases eqP
   obtain ⟨wqP, xqP⟩ := Rs.row rcell.len rqP qqP i hi
   have gxZ := getx _ (y2).drop.drop.drop.drop
   rw [eq] at gxZ
   have gbZ := (y2.mv 3).get
   obtain ⟨bqZ, oqZ, roqZ, szqZ, CqZ, TqZ, eqZ, pqZ, gqZ, rqZ, qqZ⟩ := (ax.r _ (toF _ (y2).drop.drop.drop.drop)).resolve_left (by intro e; rw [e] at hi; simp at hi)
   rw [eq] at eqZ
   cases eqZ
   obtain ⟨wqZ, xqZ⟩ := Rs.row rcell.len rqZ qqZ i hi
   refine wpC_seq (wpC_block ?_)
   refine du [some 86, some 87, some 88, some 89, some 90, some 91, some 92, some 93, some 94, some 95, none] 11 [0, 1, 0, 4, 0, 28, 60, 124, 255, 511, 1023] (by rfl) (by rfl) (by decide +kernel) (by decide +kernel) (by decide +kernel) (fun LL hLL => ?_)
   simp only [oxz, simprocAttr, q1, q2, gx, gb, ixF hi, gq, wq, xq, rcell.len, rcell, zz, gxP, gbP, gqP, wqP, xqP, sv, va]
   rw [y1']
   have s4 := (y2.mv 3).set (.cells false 0 [.int .i64 x.no, .int .i64 x.task, .slice a0 x.offs.length d0, .slice aE ((x.rows.take i).length + 1) cE, .slice none 0 0] 33)
   simp only [oxk, simprocAttr, gxZ, gbZ, gqZ, wqZ, xqZ, rcell.len, rcell, ixF hi, sv, va]
   refine hLL _ _ ?_
   simp only [oxz, simprocAttr]
   refine rg (fun LL hLL => ?_)
   simp only [oxz, simprocAttr, q2, wsucc (show i < 9223372036854775807 by omega)]
   refine hLL _ _ ?_
   simp only [oxz, simprocAttr]
   rw [← ht] at s4
   rw [show (x.rows.take i).length + 1 = (x.rows.take (i + 1)).length by rw [hli, List.length_take]; omega] at s4 ⊢
   have s5 := (s4).sel 4 [2, 1, 3, 0]
   simp only [oxf] at s5
   exact ⟨m - 1, by omega, i + 1, aE, cE, _, _, _, by omega, s5, rfl, by simp [tget_tput, q1], by simp [tget_tput]⟩
  ·have hil : i = x.rows.length := by omega
   subst hil
   rw [List.take_length] at s3
   refine wpC_exit ?_
   simp only [oxz, simprocAttr]
   exact ⟨a1, d1, _, _, _, s3, rfl, by simp [tget_tput, q1]⟩
 clear s2 q1
 rintro T h2 ⟨a1, d1, u1, u2, R, s2, rfl, q1⟩
 refine sm (fun T h' => ∃ (a2 : Option Addr) (d2 : Nat) (u1 u2 : Value) (R : List Value), St h0 h' (wn r2cell 2 65 a2 d2 x.outs :: wn rcell 3 63 a1 d1 x.rows :: wn icell 1 3 a0 d0 x.offs :: own bb (.cells false 0 [.int .i64 x.no, .int .i64 x.task, .slice a0 x.offs.length d0, .slice a1 x.rows.length d1, .slice a2 x.outs.length d2] 33) :: G) ∧ T = .pointer (some ⟨γ, 0, none⟩) :: u1 :: u2 :: .pointer (some ⟨bx, 0, none⟩) :: R ∧ tget R 1 = .pointer (some ⟨bb, 0, none⟩)) ?_ ?_
 ·refine sr (fun LL hLL => ?_)
  simp only [oxz, simprocAttr]
  refine hLL _ _ ?_
  refine wpC_block ?_
  refine wpC_loop (fun m T h' => ∃ (i : Nat) (a2 : Option Addr) (d2 : Nat) (u1 u2 : Value) (R : List Value), m + i = x.outs.length ∧ St h0 h' (wn r2cell 2 65 a2 d2 (x.outs.take i) :: wn rcell 3 63 a1 d1 x.rows :: wn icell 1 3 a0 d0 x.offs :: own bb (.cells false 0 [.int .i64 x.no, .int .i64 x.task, .slice a0 x.offs.length d0, .slice a1 x.rows.length d1, .slice a2 (x.outs.take i).length d2] 33) :: G) ∧ T = .pointer (some ⟨γ, 0, none⟩) :: u1 :: u2 :: .pointer (some ⟨bx, 0, none⟩) :: R ∧ tget R 1 = .pointer (some ⟨bb, 0, none⟩) ∧ tget R 4 = .int .i64 i) ?_ x.outs.length _ _ ⟨0, none, 0, _, _, _, by omega, s2, rfl, by simp [tget_tput, q1], by simp [tget_tput]⟩
  clear s2 q1
  rintro m T h2 ⟨i, a2, d2, u1, u2, R, hmi, s3, rfl, q1, q2⟩
  have gx := getx _ s3.drop.drop.drop.drop
  have gb := (s3.mv 3).get
  refine wpC_seq (sr fun LL hLL => ?_)
  simp only [oxz, simprocAttr, q2, gx]
  refine hLL _ _ ?_
  refine wpC_if ?_
  simp only [oxz, simprocAttr]
  refine gC_of (fun hcc => ?_) (fun hcc => ?_)
  ·refine wpC_skip ?_
   simp only [oxz, simprocAttr]
   have hi : i < x.outs.length := by omega
   have hs := sx.t
   have ht : x.outs.take (i + 1) = x.outs.take i ++ [x.outs[i]] := List.take_succ_eq_append_getElem hi
   have hli : (x.outs.take i).length = i := by rw [List.length_take]; omega
   obtain ⟨bq, oq, roq, szq, Cq, Tq, eq, pq, gq, rq, qq⟩ := (ax.t _ (toF _ s3.drop.drop.drop.drop)).resolve_left (by intro e; rw [e] at hi; simp at hi)
   rw [eq] at gx
   obtain ⟨wq, xq⟩ := Rs.row r2cell.len rq qq i hi
   have zz : aZeros [.int .i64 0, .int .i64 0] 1 = [.int .i64 0, .int .i64 0] := rfl
   obtain ⟨aE, cE, h6, y1, y2⟩ := s3.app1 (bytes := 16) x.outs[i] r2cell.len r2cell.oc (by omega) (by omega)
   have y1' := y1
   simp only [r2cell] at y1'
   have sP := (s3.push (.cells false 2 [.int .i64 x.outs[i].1, .int .i64 x.outs[i].2] 65)).drop
   have gxP := getx _ (sP).drop.drop.drop.drop
   rw [eq] at gxP
   have gbP := (sP.mv 3).get
   obtain ⟨bqP, oqP, roqP, szqP, CqP, TqP, eqP, pqP, gqP, rqP, qqP⟩ := (ax.t _ (toF _ (sP).drop.drop.drop.drop)).resolve_left (by intro e; rw [e] at hi; simp at hi)
   rw [eq] at eqP
   cases eqP
   obtain ⟨wqP, xqP⟩ := Rs.row r2cell.len rqP qqP i hi
   have gxZ := getx _ (y2).drop.drop.drop.drop
   rw [eq] at gxZ
   have gbZ := (y2.mv 3).get
   obtain ⟨bqZ, oqZ, roqZ, szqZ, CqZ, TqZ, eqZ, pqZ, gqZ, rqZ, qqZ⟩ := (ax.t _ (toF _ (y2).drop.drop.drop.drop)).resolve_left (by intro e; rw [e] at hi; simp at hi)
   rw [eq] at eqZ
   cases eqZ
   obtain ⟨wqZ, xqZ⟩ := Rs.row r2cell.len rqZ qqZ i hi
   refine wpC_seq (wpC_block ?_)
   refine du [some 103, some 104, some 105, some 106, some 107, some 108, some 109, some 110, some 111, some 112, none] 11 [0, 1, 0, 4, 0, 28, 60, 124, 255, 511, 1023] (by rfl) (by rfl) (by decide +kernel) (by decide +kernel) (by decide +kernel) (fun LL hLL => ?_)
   simp only [oxz, simprocAttr, q1, q2, gx, gb, ixF hi, gq, wq, xq, r2cell.len, r2cell, zz, gxP, gbP, gqP, wqP, xqP, sv, va]
   rw [y1']
   have s4 := (y2.mv 3).set (.cells false 0 [.int .i64 x.no, .int .i64 x.task, .slice a0 x.offs.length d0, .slice a1 x.rows.length d1, .slice aE ((x.outs.take i).length + 1) cE] 33)
   simp only [oxk, simprocAttr, gxZ, gbZ, gqZ, wqZ, xqZ, r2cell.len, r2cell, ixF hi, sv, va]
   refine hLL _ _ ?_
   simp only [oxz, simprocAttr]
   refine rg (fun LL hLL => ?_)
   simp only [oxz, simprocAttr, q2, wsucc (show i < 9223372036854775807 by omega)]
   refine hLL _ _ ?_
   simp only [oxz, simprocAttr]
   rw [← ht] at s4
   rw [show (x.outs.take i).length + 1 = (x.outs.take (i + 1)).length by rw [hli, List.length_take]; omega] at s4 ⊢
   have s5 := (s4).sel 4 [1, 2, 3, 0]
   simp only [oxf] at s5
   exact ⟨m - 1, by omega, i + 1, aE, cE, _, _, _, by omega, s5, rfl, by simp [tget_tput, q1], by simp [tget_tput]⟩
  ·have hil : i = x.outs.length := by omega
   subst hil
   rw [List.take_length] at s3
   refine wpC_exit ?_
   simp only [oxz, simprocAttr]
   exact ⟨a2, d2, _, _, _, s3, rfl, by simp [tget_tput, q1]⟩
 clear s2 q1
 rintro T h2 ⟨a2, d2, u1, u2, R, s2, rfl, q1⟩
 obtain ⟨y, ey⟩ : ∃ y, y = (⟨x.no, x.task, x.offs, a0, d0, x.rows, a1, d1, x.outs, a2, d2⟩ : AckX) := ⟨_, rfl⟩
 rw [eG] at s2
 have gb := (s2.mv 3).get
 have gc := (s2.mv 5).get
 have ec : y.cells = [.int .i64 x.no, .int .i64 x.task, .slice a0 x.offs.length d0, .slice a1 x.rows.length d1, .slice a2 x.outs.length d2] := by rw [ey]; rfl
 have s3 := (s2).sel 8 [6, 5, 7, 0, 1, 2, 3]
 simp only [oxf] at s3
 obtain ⟨aE, cE, h6, y1, y2⟩ := s3.app1 (bytes := 88) y AckX.len AckX.ones (by omega) (by omega)
 rw [ec] at y1
 have zz : aZeros [.int .i64 0, .int .i64 0, .slice none 0 0, .slice none 0 0, .slice none 0 0] 1 = [.int .i64 0, .int .i64 0, .slice none 0 0, .slice none 0 0, .slice none 0 0] := rfl
 have vk : ∀ a b c d e f g h i j k, veq 6 (.agg #[.int .i64 a, .int .i64 b, .slice c d e, .slice f g h, .slice i j k]) (.agg #[.int .i64 a, .int .i64 b, .slice c d e, .slice f g h, .slice i j k]) = true := by intros; simp [veq]
 have sP := (s3.push (.cells false 5 y.cells 33)).drop
 rw [ec] at sP
 have gbP := (sP.mv 6).get
 have gcP := (sP.mv 1).get
 refine du [some 113, some 114, some 115, some 116, some 117, some 118, some 119, some 120, some 121, some 122, none] 11 [0, 0, 2, 6, 14, 0, 32, 126, 255, 511, 1023] (by rfl) (by rfl) (by decide +kernel) (by decide +kernel) (by decide +kernel) (fun LL hLL => ?_)
 simp only [oxz, simprocAttr, q1, gb, gc, zz, gbP, gcP, vk, sv]
 rw [y1]
 have gc6 := (y2.mv 1).get
 have gb6 := (y2.mv 6).get
 have s4 := (y2.mv 1).set (rfB c no tasks since stop (.slice aE (LX.length + 1) cE))
 simp only [oxk, simprocAttr, gc6, gb6, vk, sv]
 refine hLL _ _ ?_
 refine out_normal ?_
 simp only [oxz, simprocAttr]
 rw [show LX.length + 1 = (LX ++ [y]).length by simp] at s4 ⊢
 obtain ⟨h7, e7⟩ : ∃ h7, h7 = h6.set γ (rfB c no tasks since stop (.slice aE (LX ++ [y]).length cE)) := ⟨_, rfl⟩
 rw [← e7] at s4 ⊢
 have s5 := (s4).sel 7 [5, 4, 3, 2, 0, 1]
 simp only [oxf] at s5
 have s6 : St h0 h7 (ackA y :: star (LX.map ackA) :: own γ (rfB c no tasks since stop (.slice aE (LX ++ [y]).length cE)) :: wn AckX.cells 5 33 aE cE (LX ++ [y]) :: F) := by
  rw [ey] at s5 ⊢
  exact St.star_in (l := [_, _, _]) s5
 have s7 := (s6.mv 1).star_snoc
 have e8 : LX.map ackA ++ [ackA y] = (LX ++ [y]).map ackA := by rw [List.map_append]; rfl
 rw [e8] at s7
 exact hk1 hc hno h0t h1t hnew y _ (by rw [ey]) (by rw [ey]; rfl) (rfG_in (s7.sel 3 [1, 2, 0]))
end
end Go.Proofs.Cd

namespace Go.Proofs.Cd
open Go Go.Ox
set_option maxRecDepth 100000
set_option maxHeartbeats 4000000
variable {α : Type}
/-- What came of the first rows. -/
def layF (lt : α → α → Bool) (x : α) (A : List α) : List α := if A.any (lt x) = true then insB lt x A else A
theorem insB_hit (lt : α → α → Bool) (x y : α) : ∀ (A : List α), A.any (lt x) = true → insB lt x (A ++ [y]) = insB lt x A ++ [y]
 | [], h => by simp at h
 | z :: A, h => by
  simp only [List.cons_append, insB]
  split
  ·rfl
  ·rename_i hz
   rw [List.any_cons, Bool.or_eq_true] at h
   rw [insB_hit lt x y A (h.resolve_left hz)]; rfl
theorem insB_miss (lt : α → α → Bool) (x : α) : ∀ (A B : List α), ¬ A.any (lt x) = true → insB lt x (A ++ B) = A ++ insB lt x B
 | [], B, h => rfl
 | z :: A, B, h => by
  rw [List.any_cons, Bool.or_eq_true] at h
  simp only [List.cons_append, insB]
  rw [if_neg (fun e => h (.inl e)), insB_miss lt x A B fun e => h (.inr e)]
theorem layF_end (lt : α → α → Bool) (x : α) (A : List α) : insB lt x A = if A.any (lt x) = true then layF lt x A else layF lt x A ++ [x] := by
 unfold layF
 by_cases h : A.any (lt x) = true
 ·rw [if_pos h, if_pos h]
 ·rw [if_neg h, if_neg h]
  have := insB_miss lt x A [] h
  rw [List.append_nil] at this
  exact this
theorem layF_snoc (lt : α → α → Bool) (x y : α) (A : List α) : layF lt x (A ++ [y]) = (if ¬ A.any (lt x) = true ∧ lt x y = true then layF lt x A ++ [x] else layF lt x A) ++ [y] := by
 unfold layF
 rw [List.any_append]
 by_cases h : A.any (lt x) = true
 ·rw [if_pos (by rw [h]; rfl), if_neg (fun k => k.1 h), if_pos h, insB_hit lt x y A h]
 ·by_cases hy : lt x y = true
  ·rw [if_pos (by simp [hy]), if_pos ⟨h, hy⟩, if_neg h, insB_miss lt x A [y] h]
   simp [insB, hy]
  ·rw [if_neg (by simp only [Bool.or_eq_true]; rintro (k | k); exact h k; simp [hy] at k), if_neg (fun k => hy k.2), if_neg h]
theorem insB_len (lt : α → α → Bool) (x : α) : ∀ A : List α, (insB lt x A).length = A.length + 1
 | [] => rfl
 | y :: A => by
  unfold insB
  split
  ·rfl
  ·rw [List.length_cons, insB_len lt x A]; rfl
theorem layF_len (lt : α → α → Bool) (x : α) (A : List α) : (layF lt x A).length ≤ A.length + 1 := by
 unfold layF
 split
 ·rw [insB_len]; omega
 ·omega
theorem refOfX_ok {h0 : AHeap} {F : List Asn} {γ : Nat} {c : Bool} {no tasks since : Int} {stop : Bool} {LX : List AckX} (t : Nat) (hl : LX.length < 1000000) (h : AHeap) (s : St h0 h (rfG γ c no tasks since stop LX :: F)) (K : Value → AHeap → Prop) (hk : ∀ h', St h0 h' (rfG γ c no tasks since stop LX :: F) → K (.agg (contX LX t).cells.toArray) h') : wpF Tryz.prog (.fn 67) [.pointer (some ⟨γ, 0, none⟩), .int .i64 t] h K := by
 obtain ⟨la, lc, s0⟩ := rfG_out s
 have s1 := s0.push (.cells false 0 [.int .i64 0, .int .i64 0, .slice none 0 0, .slice none 0 0, .slice none 0 0] 33)
 obtain ⟨bx, ebx⟩ : ∃ b, b = h.next := ⟨_, rfl⟩
 obtain ⟨h1, e1⟩ : ∃ h1, h1 = h.push (.cells false 0 [.int .i64 0, .int .i64 0, .slice none 0 0, .slice none 0 0, .slice none 0 0] 33) := ⟨_, rfl⟩
 rw [← e1, ← ebx] at s1
 have gx := s1.get
 have gc := (s1.mv 1).get
 refine wpF_fun 33 [.cell 4 33] Tryz.func67 rfl rfl rfl rfl ?_
 refine sr (fun LL hLL => ?_)
 simp only [oxz, simprocAttr]
 refine hLL _ _ ?_
 rw [← e1, ← ebx]
 clear e1
 refine sm (fun T h' => h' = h1 ∧ ∃ (u2 u3 : Value) (R : List Value), (∀ (k : Nat) (hk : k < LX.length), LX[k].task ≠ (t : Int)) ∧ T = .pointer (some ⟨γ, 0, none⟩) :: .int .i64 t :: u2 :: u3 :: .pointer (some ⟨bx, 0, none⟩) :: R) ?_ ?_
 ·refine sr (fun LL hLL => ?_)
  simp only [oxz, simprocAttr]
  refine hLL _ _ ?_
  refine wpC_block ?_
  refine wpC_loop (fun m T h' => h' = h1 ∧ ∃ (i : Nat) (u2 u3 : Value) (R : List Value), m + i = LX.length ∧ (∀ (k : Nat) (hk : k < LX.length), k < i → LX[k].task ≠ (t : Int)) ∧ T = .pointer (some ⟨γ, 0, none⟩) :: .int .i64 t :: u2 :: u3 :: .pointer (some ⟨bx, 0, none⟩) :: R ∧ tget R 0 = .int .i64 i) ?_ LX.length _ _ ⟨rfl, 0, _, _, _, by omega, fun k hk h => by omega, rfl, rfl⟩
  rintro m T h' ⟨rfl, i, u2, u3, R, hmi, hn, rfl, q0⟩
  refine wpC_seq (sr fun LL hLL => ?_)
  simp only [oxz, simprocAttr, q0, gc]
  refine hLL _ _ ?_
  refine wpC_if ?_
  simp only [oxz, simprocAttr]
  refine gC_of (fun hcc => ?_) (fun hcc => ?_)
  ·refine wpC_skip ?_
   simp only [oxz, simprocAttr]
   have hi : i < LX.length := by omega
   obtain ⟨bq, oq, roq, szq, Cq, Tq, eq, pq, gq, rq, qq⟩ := ((s1.mv 2).rs AckX.len).resolve_left (by rintro rfl; simp at hi)
   have v1 : Cq[oq + i * 5 + 1]? = some (.int .i64 LX[i].task) := by rw [Nat.add_assoc]; exact Rs.cell AckX.len rq qq i hi 1 (by omega)
   obtain ⟨wq, xq⟩ := Rs.row AckX.len rq qq i hi
   rw [eq] at gc
   refine wpC_seq (wpC_block ?_)
   by_cases ht : LX[i].task = (t : Int)
   ·have hf : contX LX t = LX[i] := by
     have hff : LX.find? (fun y => decide (y.task = (t : Int))) = some LX[i] := find_first hi hn ht
     unfold contX; rw [hff]; rfl
    refine sr (fun LL hLL => ?_)
    simp only [oxz, simprocAttr, q0, gc, ixF hi, gq, v1, eq_true ht]
    refine hLL _ _ ?_
    refine wpC_if ?_
    simp only [oxz, simprocAttr]
    refine sr (fun LL hLL => ?_)
    simp only [oxz, simprocAttr, q0, gc, ixF hi, gq, wq, xq, gx, AckX.len]
    refine hLL _ _ ?_
    have s2 := s1.set (.cells false 0 LX[i].cells 33)
    refine wpC_ret (out_ret ?_)
    simp only [oxz, simprocAttr]
    simp only [s2.get, oxz, simprocAttr]
    rw [hf] at hk
    exact hk _ (rfG_in (eq ▸ s2.drop))
   ·refine sr (fun LL hLL => ?_)
    simp only [oxz, simprocAttr, q0, gc, ixF hi, gq, v1, eq_false ht]
    refine hLL _ _ ?_
    refine wpC_if ?_
    simp only [oxz, simprocAttr]
    refine wpC_skip ?_
    simp only [oxz, simprocAttr]
    refine rg (fun LL hLL => ?_)
    simp only [oxz, simprocAttr, q0, wsucc (show i < 9223372036854775807 by omega)]
    refine hLL _ _ ?_
    simp only [oxz, simprocAttr]
    refine ⟨m - 1, by omega, i + 1, _, _, _, by omega, fun k hk hki => ?_, rfl, by simp [tget_tput]⟩
    by_cases e : k = i
    ·subst e; exact ht
    ·exact hn k hk (by omega)
  ·refine wpC_exit ?_
   simp only [oxz, simprocAttr]
   exact ⟨_, _, _, fun k hk => hn k hk (by omega), rfl⟩
 rintro T h' ⟨rfl, u2, u3, R, hn, rfl⟩
 have hf : contX LX t = ⟨0, 0, [], none, 0, [], none, 0, [], none, 0⟩ := by
  have hff : LX.find? (fun y => decide (y.task = (t : Int))) = none := find_never hn
  unfold contX; rw [hff]; rfl
 refine sr (fun LL hLL => ?_)
 simp only [oxz, simprocAttr, gx]
 refine hLL _ _ ?_
 have s2 := s1.set (.cells false 0 [.int .i64 0, .int .i64 0, .slice none 0 0, .slice none 0 0, .slice none 0 0] 33)
 refine wpC_ret (out_ret ?_)
 simp only [oxz, simprocAttr]
 simp only [s2.get, oxz, simprocAttr]
 rw [hf] at hk
 exact hk _ (rfG_in s2.drop)
theorem refLay_ok {h0 : AHeap} {F : List Asn} (G : Int) (L : List Rwc) (a : Option Addr) (c : Nat) (r : Rwc) (h : AHeap) (rd : Rd h0 F rcell 3 a L) (hl : L.length < 1000000) (s : St h0 h F) (K : Value → AHeap → Prop) (hk : ∀ b d h', St h0 h' (wn rcell 3 63 b d (insB (ltg G) r L) :: F) → K (.slice b (insB (ltg G) r L).length d) h') :
  wpF Tryz.prog (.fn 68) [.slice a L.length c, .agg #[.int .i64 r.1, .int .i64 r.2.1, .int .i64 r.2.2], .int .i64 G] h K := by
 have zz : aZeros [.int .i64 0, .int .i64 0, .int .i64 0] 1 = [.int .i64 0, .int .i64 0, .int .i64 0] := rfl
 have s1 := s.push (.cells false 0 [.int .i64 r.1, .int .i64 r.2.1, .int .i64 r.2.2] 63)
 obtain ⟨bx, ebx⟩ : ∃ b, b = h.next := ⟨_, rfl⟩
 obtain ⟨h1, e1⟩ : ∃ h1, h1 = h.push (.cells false 0 [.int .i64 r.1, .int .i64 r.2.1, .int .i64 r.2.2] 63) := ⟨_, rfl⟩
 rw [← e1, ← ebx] at s1
 have gx := s1.get
 refine wpF_fun 69 [.tmp 6] Tryz.func68 rfl rfl rfl rfl ?_
 refine sr (fun LL hLL => ?_)
 simp only [oxz, simprocAttr]
 refine hLL _ _ ?_
 rw [← e1, ← ebx]
 clear e1
 refine sr (fun LL hLL => ?_)
 simp only [oxz, simprocAttr]
 refine hLL _ _ ?_
 refine sr (fun LL hLL => ?_)
 simp only [oxz, simprocAttr]
 refine hLL _ _ ?_
 refine sr (fun LL hLL => ?_)
 simp only [oxk, simprocAttr, gx]
 refine refOf_ok _ _ _ _ ?_
 simp only [oxk, simprocAttr]
 refine hLL _ _ ?_
 refine sm (fun T h' => ∃ (b : Option Addr) (d : Nat) (u1 u3 : Value) (R : List Value), St h0 h' (wn rcell 3 63 b d (layF (ltg G) r L) :: own bx (.cells false 0 [.int .i64 r.1, .int .i64 r.2.1, .int .i64 r.2.2] 63) :: F) ∧ T = .slice a L.length c :: u1 :: .int .i64 G :: u3 :: .pointer (some ⟨bx, 0, none⟩) :: R ∧ tget R 2 = .slice b (layF (ltg G) r L).length d ∧ tget R 3 = .bool (L.any (ltg G r))) ?_ ?_
 ·refine sr (fun LL hLL => ?_)
  simp only [oxz, simprocAttr]
  refine hLL _ _ ?_
  have s2 := s1.wn_nil (f := rcell) (k := 3) (e := 63)
  have hn0 : layF (ltg G) r (L.take 0) = [] := by simp [layF]
  refine wpC_block ?_
  refine wpC_loop (fun m T h' => ∃ (i : Nat) (b : Option Addr) (d : Nat) (u1 u3 : Value) (R : List Value), m + i = L.length ∧ St h0 h' (wn rcell 3 63 b d (layF (ltg G) r (L.take i)) :: own bx (.cells false 0 [.int .i64 r.1, .int .i64 r.2.1, .int .i64 r.2.2] 63) :: F) ∧ T = .slice a L.length c :: u1 :: .int .i64 G :: u3 :: .pointer (some ⟨bx, 0, none⟩) :: R ∧ tget R 2 = .slice b (layF (ltg G) r (L.take i)).length d ∧ tget R 3 = .bool ((L.take i).any (ltg G r)) ∧ tget R 4 = .int .i64 (grp r.1 G) ∧ tget R 5 = .int .i64 i) ?_ L.length _ _ ⟨0, none, 0, _, _, _, by omega, by rw [hn0]; exact s2, rfl, by rw [hn0]; rfl, rfl, rfl, rfl⟩
  clear s2 s1 gx
  rintro m T h' ⟨i, b, d, u1, u3, R, hmi, s1, rfl, q2, q3, q4, q5⟩
  have gx := (s1.mv 1).get
  refine wpC_seq (sr fun LL hLL => ?_)
  simp only [oxz, simprocAttr, q5]
  refine hLL _ _ ?_
  refine wpC_if ?_
  simp only [oxz, simprocAttr]
  refine gC_of (fun hcc => ?_) (fun hcc => ?_)
  ·refine wpC_skip ?_
   simp only [oxz, simprocAttr]
   have hi : i < L.length := by omega
   have ht : L.take (i + 1) = L.take i ++ [L[i]] := List.take_succ_eq_append_getElem hi
   have hli : (L.take i).length = i := by rw [List.length_take]; omega
   have hlf := layF_len (ltg G) r (L.take i)
   obtain ⟨bq, oq, roq, szq, Cq, Tq, eq, pq, gq, rq, qq⟩ := (rd _ s1.drop.drop).resolve_left (by rintro rfl; simp at hi)
   have v0 : Cq[oq + i * 3]? = some (.int .i64 L[i].1) := Rs.cell rcell.len rq qq i hi 0 (by omega)
   rw [eq]
   refine wpC_seq (wpC_block ?_)
   refine sr (fun LL hLL => ?_)
   simp only [oxk, simprocAttr, q5, ixF hi, gq, v0]
   refine refOf_ok _ _ _ _ ?_
   simp only [oxk, simprocAttr]
   refine hLL _ _ ?_
   refine sm (fun T h' => ∃ (b : Option Addr) (d : Nat) (u1 u3 : Value) (R : List Value), St h0 h' (wn rcell 3 63 b d (if ¬ (L.take i).any (ltg G r) = true ∧ ltg G r L[i] = true then layF (ltg G) r (L.take i) ++ [r] else layF (ltg G) r (L.take i)) :: own bx (.cells false 0 [.int .i64 r.1, .int .i64 r.2.1, .int .i64 r.2.2] 63) :: F) ∧ T = .slice (some ⟨bq, oq, none⟩) L.length c :: u1 :: .int .i64 G :: u3 :: .pointer (some ⟨bx, 0, none⟩) :: R ∧ tget R 2 = .slice b (if ¬ (L.take i).any (ltg G r) = true ∧ ltg G r L[i] = true then layF (ltg G) r (L.take i) ++ [r] else layF (ltg G) r (L.take i)).length d ∧ tget R 3 = .bool ((L.take (i + 1)).any (ltg G r)) ∧ tget R 4 = .int .i64 (grp r.1 G) ∧ tget R 5 = .int .i64 i) ?_ ?_
   ·have ha : (L.take (i + 1)).any (ltg G r) = ((L.take i).any (ltg G r) || ltg G r L[i]) := by rw [ht, List.any_append]; simp
    rw [ha]
    by_cases hh : (L.take i).any (ltg G r) = true
    ·rw [hh] at q3 ⊢
     refine su [some 29, some 30, some 31, some 32, some 33, some 34, some 35, some 36, some 37, some 38, some 39, some 40, some 41, some 42, some 43, some 44, some 45, some 46, some 47, some 48, some 49, some 50] 22 [0, 1, 3, 7, 7, 31, 63, 127, 127, 511, 1023, 2047, 2047, 8191, 16383, 32767, 2047, 67583, 262143, 524287, 1048575, 2097151] (by rfl) (by rfl) (by decide +kernel) (by decide +kernel) (by decide +kernel) (fun LL hLL => ?_)
     simp only [oxz, simprocAttr, q2, q3, q4, q5]
     refine hLL _ _ ?_
     refine wpC_if ?_
     simp only [oxz, simprocAttr]
     refine wpC_skip ?_
     simp only [oxz, simprocAttr]
     exact ⟨b, d, _, _, _, by rw [if_neg (fun k => k.1 (by simp))]; exact s1, rfl, (by rw [if_neg (fun k => k.1 (by simp))]; simp [tget_tput, q2]), by simp [tget_tput, q3], by simp [tget_tput, q4], by simp [tget_tput, q5]⟩
    ·have hf : (L.take i).any (ltg G r) = false := by simpa using hh
     rw [hf] at q3 ⊢
     by_cases hlt : ltg G r L[i] = true
     ·rw [hlt]
      rw [if_pos ⟨by simp, rfl⟩]
      obtain ⟨aE, cE, h6, y1, y2⟩ := s1.app1 (bytes := 24) r rcell.len rcell.oc (by omega) (by omega)
      have y1' := y1
      simp only [rcell] at y1'
      have fin : ∀ (LL : List Value), True := fun _ => trivial
      simp only [ltg, decide_eq_true_eq] at hlt
      by_cases hg : grp r.1 G < grp L[i].1 G
      ·refine su [some 29, some 30, some 31, some 32, some 33, some 34, some 35, some 36, some 37, some 38, some 39, some 40, some 41, some 42, some 43, some 44, some 45, some 46, some 47, some 48, some 49, some 50] 22 [0, 1, 3, 7, 7, 31, 63, 127, 127, 511, 1023, 2047, 2047, 8191, 16383, 32767, 2047, 67583, 262143, 524287, 1048575, 2097151] (by rfl) (by rfl) (by decide +kernel) (by decide +kernel) (by decide +kernel) (fun LL hLL => ?_)
       simp only [oxz, simprocAttr, q2, q3, q4, q5, eq_true hg]
       refine hLL _ _ ?_
       refine wpC_if ?_
       simp only [oxz, simprocAttr]
       refine sr (fun LL hLL => ?_)
       simp only [oxz, simprocAttr, q2, gx, zz]
       rw [y1']
       simp only [oxz, simprocAttr]
       refine hLL _ _ ?_
       refine rg (fun LL hLL => ?_)
       simp only [oxz, simprocAttr]
       refine hLL _ _ ?_
       simp only [oxz, simprocAttr]
       exact ⟨aE, cE, _, _, _, y2, rfl, by simp [tget_tput], by simp [tget_tput], by simp [tget_tput, q4], by simp [tget_tput, q5]⟩
      ·obtain ⟨hg2, hk2⟩ := hlt.resolve_left hg
       refine su [some 29, some 30, some 31, some 32, some 33, some 34, some 35, some 36, some 37, some 38, some 39, some 40, some 41, some 42, some 43, some 44, some 45, some 46, some 47, some 48, some 49, some 50] 22 [0, 1, 3, 7, 7, 31, 63, 127, 127, 511, 1023, 2047, 2047, 8191, 16383, 32767, 2047, 67583, 262143, 524287, 1048575, 2097151] (by rfl) (by rfl) (by decide +kernel) (by decide +kernel) (by decide +kernel) (fun LL hLL => ?_)
       simp only [oxz, simprocAttr, q2, q3, q4, q5, hg2, Int.lt_irrefl, ixF hi, gq, v0, gx, eq_true hk2]
       refine hLL _ _ ?_
       refine wpC_if ?_
       simp only [oxz, simprocAttr]
       refine sr (fun LL hLL => ?_)
       simp only [oxz, simprocAttr, q2, gx, zz]
       rw [y1']
       simp only [oxz, simprocAttr]
       refine hLL _ _ ?_
       refine rg (fun LL hLL => ?_)
       simp only [oxz, simprocAttr]
       refine hLL _ _ ?_
       simp only [oxz, simprocAttr]
       exact ⟨aE, cE, _, _, _, y2, rfl, by simp [tget_tput], by simp [tget_tput], by simp [tget_tput, q4], by simp [tget_tput, q5]⟩
     ·have hlf : ltg G r L[i] = false := by simpa using hlt
      rw [hlf]
      rw [if_neg (by simp)]
      simp only [ltg, decide_eq_false_iff_not, not_or, not_and] at hlf
      by_cases hg2 : grp L[i].1 G = grp r.1 G
      ·have hk2 := hlf.2 hg2.symm
       refine su [some 29, some 30, some 31, some 32, some 33, some 34, some 35, some 36, some 37, some 38, some 39, some 40, some 41, some 42, some 43, some 44, some 45, some 46, some 47, some 48, some 49, some 50] 22 [0, 1, 3, 7, 7, 31, 63, 127, 127, 511, 1023, 2047, 2047, 8191, 16383, 32767, 2047, 67583, 262143, 524287, 1048575, 2097151] (by rfl) (by rfl) (by decide +kernel) (by decide +kernel) (by decide +kernel) (fun LL hLL => ?_)
       simp only [oxz, simprocAttr, q2, q3, q4, q5, hg2, Int.lt_irrefl, ixF hi, gq, v0, gx, eq_false hk2]
       refine hLL _ _ ?_
       refine wpC_if ?_
       simp only [oxz, simprocAttr]
       refine wpC_skip ?_
       simp only [oxz, simprocAttr]
       exact ⟨b, d, _, _, _, s1, rfl, by simp [tget_tput, q2], by simp [tget_tput, q3], by simp [tget_tput, q4], by simp [tget_tput, q5]⟩
      ·refine su [some 29, some 30, some 31, some 32, some 33, some 34, some 35, some 36, some 37, some 38, some 39, some 40, some 41, some 42, some 43, some 44, some 45, some 46, some 47, some 48, some 49, some 50] 22 [0, 1, 3, 7, 7, 31, 63, 127, 127, 511, 1023, 2047, 2047, 8191, 16383, 32767, 2047, 67583, 262143, 524287, 1048575, 2097151] (by rfl) (by rfl) (by decide +kernel) (by decide +kernel) (by decide +kernel) (fun LL hLL => ?_)
       simp only [oxz, simprocAttr, q2, q3, q4, q5, eq_false hlf.1, eq_false hg2]
       refine hLL _ _ ?_
       refine wpC_if ?_
       simp only [oxz, simprocAttr]
       refine wpC_skip ?_
       simp only [oxz, simprocAttr]
       exact ⟨b, d, _, _, _, s1, rfl, by simp [tget_tput, q2], by simp [tget_tput, q3], by simp [tget_tput, q4], by simp [tget_tput, q5]⟩
   clear s1 q2 q3 q4 q5 gx gq
   rintro T h2 ⟨b, d, u1, u3, R, s1, rfl, q2, q3, q4, q5⟩
   have hs := layF_snoc (ltg G) r L[i] (L.take i)
   rw [← ht] at hs
   obtain ⟨M, eM⟩ : ∃ M, M = (if ¬ (L.take i).any (ltg G r) = true ∧ ltg G r L[i] = true then layF (ltg G) r (L.take i) ++ [r] else layF (ltg G) r (L.take i)) := ⟨_, rfl⟩
   rw [← eM] at hs s1 q2
   have hM : M.length ≤ i + 2 := by rw [eM]; split <;> (try rw [List.length_append, List.length_singleton]) <;> omega
   clear eM
   obtain ⟨bq2, oq2, roq2, szq2, Cq2, Tq2, eq2, pq2, gq2, rq2, qq2⟩ := (rd _ s1.drop.drop).resolve_left (by rintro rfl; simp at hi)
   rw [eq] at eq2
   cases eq2
   obtain ⟨w2, x2⟩ := Rs.row rcell.len rq2 qq2 i hi
   obtain ⟨aE, cE, h6, y1, y2⟩ := s1.app1 (bytes := 24) L[i] rcell.len rcell.oc (by omega) (by omega)
   have y1' := y1
   simp only [rcell] at y1'
   refine rg (fun LL hLL => ?_)
   simp only [oxz, simprocAttr, q2, q5, ixF hi, gq2, w2, x2, rcell.len, rcell, zz]
   rw [y1']
   simp only [oxz, simprocAttr]
   refine hLL _ _ ?_
   simp only [oxz, simprocAttr]
   refine rg (fun LL hLL => ?_)
   simp only [oxz, simprocAttr, q5, wsucc (show i < 9223372036854775807 by omega)]
   refine hLL _ _ ?_
   simp only [oxz, simprocAttr]
   rw [← hs] at y2
   have hs2 : M.length + 1 = (layF (ltg G) r (L.take (i + 1))).length := by rw [hs]; simp
   exact ⟨m - 1, by omega, i + 1, aE, cE, _, _, _, by omega, y2, rfl, by simp [tget_tput, hs2], by simp [tget_tput, q3], by simp [tget_tput, q4], by simp [tget_tput]⟩
  ·have hil : i = L.length := by omega
   subst hil
   rw [List.take_length] at s1 q2 q3
   refine wpC_exit ?_
   simp only [oxz, simprocAttr]
   exact ⟨b, d, _, _, _, s1, rfl, by simp [tget_tput, q2], by simp [tget_tput, q3]⟩
 clear s1 gx
 rintro T h' ⟨b, d, u1, u3, R, s1, rfl, q2, q3⟩
 have gx := (s1.mv 1).get
 have he := layF_end (ltg G) r L
 have hlf := layF_len (ltg G) r L
 by_cases hh : L.any (ltg G r) = true
 ·rw [hh] at q3
  rw [if_pos hh] at he
  refine wpC_seq (sr fun LL hLL => ?_)
  simp only [oxz, simprocAttr, q3]
  refine hLL _ _ ?_
  refine wpC_if ?_
  simp only [oxz, simprocAttr]
  refine wpC_skip ?_
  simp only [oxz, simprocAttr]
  refine sr (fun LL hLL => ?_)
  simp only [oxz, simprocAttr, q2]
  refine hLL _ _ ?_
  refine wpC_ret (out_ret ?_)
  simp only [oxz, simprocAttr]
  rw [← he] at s1 ⊢
  exact hk _ _ _ (s1.mv 1).drop
 ·have hf : L.any (ltg G r) = false := by simpa using hh
  rw [hf] at q3
  rw [if_neg hh] at he
  obtain ⟨aE, cE, h6, y1, y2⟩ := s1.app1 (bytes := 24) r rcell.len rcell.oc (by omega) (by omega)
  have y1' := y1
  simp only [rcell] at y1'
  refine wpC_seq (sr fun LL hLL => ?_)
  simp only [oxz, simprocAttr, q3]
  refine hLL _ _ ?_
  refine wpC_if ?_
  simp only [oxz, simprocAttr]
  refine rg (fun LL hLL => ?_)
  simp only [oxz, simprocAttr, q2, gx, zz]
  rw [y1']
  simp only [oxz, simprocAttr]
  refine hLL _ _ ?_
  simp only [oxz, simprocAttr]
  refine sr (fun LL hLL => ?_)
  simp only [oxz, simprocAttr]
  refine hLL _ _ ?_
  refine wpC_ret (out_ret ?_)
  simp only [oxz, simprocAttr]
  rw [← he] at y2
  rw [show (layF (ltg G) r L).length + 1 = (insB (ltg G) r L).length by rw [he]; simp]
  exact hk _ _ _ (y2.mv 1).drop
theorem preT_succ (P : List Int) (op : Nat) (hop : op < P.length) : preT P (op + 1) = preT P op ++ tskOp op P[op] := by
 rw [preT, List.getElem?_eq_getElem hop]; rfl
theorem refTasks_ok {h0 : AHeap} {F : List Asn} (P : List Int) (a : Option Addr) (c : Nat) (h : AHeap) (rd : Rd h0 F icell 1 a P) (hl : P.length ≤ 1000) (hP : ∀ x ∈ P, x ≤ 1000) (s : St h0 h F) (K : Value → AHeap → Prop) (hk : ∀ b d h', St h0 h' (wn spc 2 52 b d (tasksL P) :: F) → K (.slice b (tasksL P).length d) h') :
  wpF Tryz.prog (.fn 66) [.slice a P.length c] h K := by
 have zz : aZeros [.int .i64 0, .int .i64 0] 1 = [.int .i64 0, .int .i64 0] := rfl
 refine wpF_fun 27 [.tmp 2] Tryz.func66 rfl rfl rfl rfl ?_
 refine sr (fun LL hLL => ?_)
 simp only [oxz, simprocAttr]
 refine hLL _ _ ?_
 refine sr (fun LL hLL => ?_)
 simp only [oxz, simprocAttr]
 refine hLL _ _ ?_
 refine sm (fun T h' => ∃ (b : Option Addr) (d : Nat) (u0 u1 u2 : Value) (R : List Value), St h0 h' (wn spc 2 52 b d (tasksL P) :: F) ∧ T = u0 :: u1 :: u2 :: .slice b (tasksL P).length d :: R) ?_ ?_
 ·refine sr (fun LL hLL => ?_)
  simp only [oxz, simprocAttr]
  refine hLL _ _ ?_
  refine fg5 (fun R => ?_)
  have s0 := s.wn_nil (f := spc) (k := 2) (e := 52)
  refine wpC_block ?_
  refine wpC_loop (fun m T h' => ∃ (op : Nat) (b : Option Addr) (d : Nat) (u1 u2 : Value) (R : List Value), m + op = P.length ∧ St h0 h' (wn spc 2 52 b d (preT P op) :: F) ∧ T = .slice a P.length c :: u1 :: u2 :: .slice b (preT P op).length d :: .int .i64 op :: R) ?_ P.length _ _ ⟨0, none, 0, _, _, R, by omega, s0, rfl⟩
  rintro m T h' ⟨op, b, d, u1, u2, R, hmi, s1, rfl⟩
  refine wpC_seq (sr fun LL hLL => ?_)
  simp only [oxz, simprocAttr]
  refine hLL _ _ ?_
  refine wpC_if ?_
  simp only [oxz, simprocAttr]
  refine gC_of (fun hc => ?_) (fun hc => ?_)
  ·refine wpC_skip ?_
   simp only [oxz, simprocAttr]
   refine fg5 (fun R => ?_)
   have hop : op < P.length := by omega
   have hPo := hP _ (List.getElem_mem hop)
   have hpf := preT_few P (B := 1000) hP op
   have hop2 : op * 1000 ≤ 1000000 := by omega
   have hps := preT_succ P op hop
   obtain ⟨k, ek⟩ : ∃ k, k = P[op] := ⟨_, rfl⟩
   rw [← ek] at hPo hps
   refine sm (fun T h' => ∃ (b : Option Addr) (d : Nat) (u1 u2 : Value) (R : List Value), St h0 h' (wn spc 2 52 b d (preT P (op + 1)) :: F) ∧ T = .slice a P.length c :: u1 :: u2 :: .slice b (preT P (op + 1)).length d :: .int .i64 op :: R) ?_ ?_
   ·refine wpC_block ?_
    refine sr (fun LL hLL => ?_)
    simp only [oxz, simprocAttr]
    refine hLL _ _ ?_
    refine xp5 1 (by repeat (first | exact tput_le _ _ _ _ (.inr (by omega)) | refine tput_le _ _ _ _ (.inl ?_))) (fun R => ?_)
    simp only [oxz, simprocAttr, show List.range 1 = [0] from rfl]
    refine fg6 (fun R => ?_)
    refine wpC_block ?_
    refine wpC_loop (fun m T h' => ∃ (t : Nat) (b : Option Addr) (d : Nat) (u1 u2 : Value) (R : List Value), m + t = k.toNat ∧ St h0 h' (wn spc 2 52 b d (preT P op ++ (List.range t).map fun t => (op, t)) :: F) ∧ T = .slice a P.length c :: u1 :: u2 :: .slice b ((preT P op).length + t) d :: .int .i64 op :: .int .i64 t :: R) ?_ k.toNat _ _ ⟨0, b, d, _, _, R, by omega, by simpa using s1, rfl⟩
    clear s1
    rintro m2 T h' ⟨t, b, d, u1, u2, R, hmt, s1, rfl⟩
    obtain ⟨bq, oq, roq, szq, Cq, Tq, eq, pq, gq, rq, qq⟩ := (rd _ s1.drop).resolve_left (by rintro rfl; simp at hop)
    have wq : Cq[oq + op * 1]? = some (.int .i64 k) := by rw [ek]; exact Rs.cell icell.len rq qq op hop 0 (by omega)
    by_cases ht : (t : Int) < k
    ·rw [eq]
     refine wpC_seq (sr fun LL hLL => ?_)
     simp only [oxz, simprocAttr, ixF hop, gq, wq, eq_true ht]
     refine hLL _ _ ?_
     refine wpC_if ?_
     simp only [oxz, simprocAttr]
     refine wpC_skip ?_
     simp only [oxz, simprocAttr]
     refine fg6 (fun R => ?_)
     have hlt : (preT P op ++ (List.range t).map fun t => (op, t)).length = (preT P op).length + t := by simp
     have hll : (preT P op ++ (List.range t).map fun t => (op, t)).length ≤ 1000000 + 1000 := by rw [List.length_append]; simp; omega
     obtain ⟨aE, cE, h6, y1, y2⟩ := s1.app1 (bytes := 16) ((op, t) : Nat × Nat) spc.len spc.oc (by omega) (by omega)
     have y1' := y1
     simp only [spc] at y1'
     rw [hlt] at y1'
     refine wpC_seq (wpC_block ?_)
     refine rg (fun LL hLL => ?_)
     simp only [oxz, simprocAttr, zz]
     rw [y1']
     simp only [oxz, simprocAttr]
     refine hLL _ _ ?_
     simp only [oxz, simprocAttr]
     refine fg6 (fun R => ?_)
     refine rg (fun LL hLL => ?_)
     simp only [oxz, simprocAttr, wsucc (show t < 9223372036854775807 by omega)]
     refine hLL _ _ ?_
     simp only [oxz, simprocAttr]
     rw [List.append_assoc, show ((List.range t).map fun t => (op, t)) ++ [(op, t)] = (List.range (t + 1)).map fun t => (op, t) by rw [List.range_succ, List.map_append]; rfl] at y2
     exact ⟨m2 - 1, by omega, t + 1, aE, cE, _, _, _, by omega, y2, rfl⟩
    ·rw [eq]
     refine wpC_seq (sr fun LL hLL => ?_)
     simp only [oxz, simprocAttr, ixF hop, gq, wq, eq_false ht]
     refine hLL _ _ ?_
     refine wpC_if ?_
     simp only [oxz, simprocAttr]
     refine wpC_exit ?_
     simp only [oxz, simprocAttr]
     have ht' : t = k.toNat := by omega
     have e2 : preT P op ++ (List.range t).map (fun t => (op, t)) = preT P (op + 1) := by rw [hps, ht']; rfl
     have e3 : (preT P op).length + t = (preT P (op + 1)).length := by rw [← e2]; simp
     rw [e2] at s1
     rw [e3]
     exact ⟨b, d, _, _, _, s1, rfl⟩
   clear s1
   rintro T h' ⟨b, d, u1, u2, R, s1, rfl⟩
   refine rg (fun LL hLL => ?_)
   simp only [oxz, simprocAttr, wsucc (show op < 9223372036854775807 by omega)]
   refine hLL _ _ ?_
   simp only [oxz, simprocAttr]
   exact ⟨m - 1, by omega, op + 1, b, d, _, _, _, by omega, s1, rfl⟩
  ·have hil : op = P.length := by omega
   subst hil
   refine wpC_exit ?_
   simp only [oxz, simprocAttr]
   exact ⟨b, d, _, _, _, _, s1, rfl⟩
 rintro T h' ⟨b, d, u0, u1, u2, R, s1, rfl⟩
 refine sr (fun LL hLL => ?_)
 simp only [oxz, simprocAttr]
 refine hLL _ _ ?_
 refine wpC_ret (out_ret ?_)
 simp only [oxz, simprocAttr]
 exact hk _ _ _ s1
end Go.Proofs.Cd

namespace Go.Proofs.Cd
open Go Go.Ox
set_option maxRecDepth 100000
set_option maxHeartbeats 8000000
theorem layO_snoc (o : OpX) (X : List AckX) (x : AckX) : layO o (X ++ [x]) = offOne (layO o X) x.offs := by
 unfold layO
 split
 ·rw [List.map_append, offsL, List.foldl_append]; rfl
 ·rfl
theorem layR_snoc (G : Int) (o : OpX) (X : List AckX) (x : AckX) : layR G o (X ++ [x]) = if o.kind = 5 ∨ o.kind = 6 then x.rows.foldl (fun acc r => insB (ltg G) r acc) (layR G o X) else [] := by
 unfold layR
 split
 ·rw [List.map_append, List.flatten_append, sortB, List.foldl_append]; simp [sortB]
 ·rfl
theorem layT_snoc (o : OpX) (X : List AckX) (x : AckX) : layT o (X ++ [x]) = if o.kind = 8 then layT o X ++ x.outs else [] := by
 unfold layT
 split
 ·rw [List.map_append, List.flatten_append]; simp
 ·rfl
theorem foldB_len (lt : Rwc → Rwc → Bool) : ∀ (Z A : List Rwc), (Z.foldl (fun acc r => insB lt r acc) A).length = A.length + Z.length
 | [], A => rfl
 | z :: Z, A => by rw [List.foldl_cons, foldB_len lt Z, insB_len, List.length_cons]; omega
theorem layR_few {G : Int} {o : OpX} {X : List AckX} (hX : ∀ x ∈ X, AckSm x) : (layR G o X).length ≤ X.length * 100 := by
 have h1 := flat_few (B := 100) (X.map AckX.rows) fun l hl => by
  obtain ⟨x, hx, rfl⟩ := List.mem_map.1 hl
  exact (hX x hx).r
 rw [List.length_map] at h1
 rw [layR_len]
 split <;> omega
theorem layT_few {o : OpX} {X : List AckX} (hX : ∀ x ∈ X, AckSm x) : (layT o X).length ≤ X.length * 100 := by
 have h1 := flat_few (B := 100) (X.map AckX.outs) fun l hl => by
  obtain ⟨x, hx, rfl⟩ := List.mem_map.1 hl
  exact (hX x hx).t
 rw [List.length_map] at h1
 unfold layT
 split
 ·exact h1
 ·simp
theorem contX_rs {h0 h : AHeap} {F : List Asn} {γ : Nat} {c : Bool} {no tasks since : Int} {stop : Bool} {LX : List AckX} (s : St h0 h (rfG γ c no tasks since stop LX :: F)) (t : Nat) : AckRs h (contX LX t) := by
 obtain ⟨la, lc, s1⟩ := rfG_out s
 unfold contX
 cases hf : LX.find? fun y => decide (y.task = (t : Int)) with
 | none => exact ⟨.inl rfl, fun _ => ⟨rfl, rfl⟩, .inl rfl, fun _ => ⟨rfl, rfl⟩, .inl rfl, fun _ => ⟨rfl, rfl⟩⟩
 | some x => exact ackA_rs (List.mem_of_find?_eq_some hf) (s1.mv 2)
theorem contX_sm {LX : List AckX} (h : ∀ x ∈ LX, AckSm x) (t : Nat) : AckSm (contX LX t) := by
 unfold contX
 cases hf : LX.find? fun y => decide (y.task = (t : Int)) with
 | none => exact ⟨by simp, by simp, by simp⟩
 | some x => exact h x (List.mem_of_find?_eq_some hf)
theorem refManN_ok {h0 : AHeap} {F : List Asn} (G : Int) (sa : Option Addr) (sn sc : Nat) (pa : Option Addr) (pc : Nat) (P : List Int) (rP : Rd h0 F icell 1 pa P) (hP : P.length ≤ 12) (hPb : ∀ x ∈ P, 1 ≤ x ∧ x ≤ 8) {γ : Nat} {c : Bool} {no tasks since : Int} {stop : Bool} {LX : List AckX} (h : AHeap) (s : St h0 h (rfG γ c no tasks since stop LX :: F))
  (hno : (c && decide (tasks ≤ LX.length)) = true → ¬ ((tasksL P).length : Int) = tasks) (K : Value → AHeap → Prop) (hk : ∀ h', St h0 h' (rfG γ c no tasks since stop LX :: F) → K (.tuple #[.agg #[.int .i64 0, .slice none 0 0, .slice none 0 0, .slice none 0 0, .slice none 0 0], .bool false]) h') :
  wpF Tryz.prog (.fn 45) [.pointer (some ⟨γ, 0, none⟩), .agg #[.int .i64 G, .slice sa sn sc], .slice pa P.length pc] h K := by
 have s1 := (s.push (.cells false 0 [.int .i64 G, .slice sa sn sc] 24)).push (.cells false 0 manZ 48)
 obtain ⟨bs, ebs⟩ : ∃ b, b = h.next := ⟨_, rfl⟩
 obtain ⟨br, ebr⟩ : ∃ b, b = (h.push (.cells false 0 [.int .i64 G, .slice sa sn sc] 24)).next := ⟨_, rfl⟩
 obtain ⟨h1, e1⟩ : ∃ h1, h1 = (h.push (.cells false 0 [.int .i64 G, .slice sa sn sc] 24)).push (.cells false 0 manZ 48) := ⟨_, rfl⟩
 have ebr2 : br = h.next + 1 := by rw [ebr, AHeap.next_push]
 rw [← e1, ← ebs, ← ebr] at s1
 refine wpF_fun 179 [.cell 6 48, .tmp 7] Tryz.func45 rfl rfl rfl rfl ?_
 refine sr (fun LL hLL => ?_)
 simp only [oxz, simprocAttr]
 refine hLL _ _ ?_
 rw [← ebr2, ← e1, ← ebs]
 clear e1
 refine sr (fun LL hLL => ?_)
 simp only [oxk, simprocAttr]
 refine refTasks_ok P pa pc _ (rdUps [_, _, _] rP) (by omega) (fun x hx => by have := hPb x hx; omega) s1 _ fun ab ad h2 s2 => ?_
 simp only [oxk, simprocAttr]
 refine hLL _ _ ?_
 obtain ⟨la, lc, s3⟩ := rfG_out (s2.mv 3)
 have gc := s3.get
 have gr := (s2.mv 1).get
 refine wpC_seq (sr fun LL hLL => ?_)
 simp only [oxk, simprocAttr]
 refine refReady_ok (s2.mv 3) _ ?_
 cases hr : (c && decide (tasks ≤ LX.length))
 ·simp only [oxk, simprocAttr]
  refine hLL _ _ ?_
  refine wpC_if ?_
  simp only [oxz, simprocAttr]
  refine sr (fun LL hLL => ?_)
  simp only [oxz, simprocAttr, gr]
  refine hLL _ _ ?_
  have s4 := (s2.mv 1).set (.cells false 0 manZ 48)
  refine wpC_ret (out_ret ?_)
  simp only [oxz, simprocAttr]
  simp only [s4.get, oxz, simprocAttr]
  exact hk _ ((s4.sel 4 [3]))
 ·have hne := hno hr
  simp only [oxk, simprocAttr, gc, eq_false hne, not_false_eq_true]
  refine hLL _ _ ?_
  refine wpC_if ?_
  simp only [oxz, simprocAttr]
  refine sr (fun LL hLL => ?_)
  simp only [oxz, simprocAttr, gr]
  refine hLL _ _ ?_
  have s4 := (s2.mv 1).set (.cells false 0 manZ 48)
  refine wpC_ret (out_ret ?_)
  simp only [oxz, simprocAttr]
  simp only [s4.get, oxz, simprocAttr]
  exact hk _ ((s4.sel 4 [3]))
end Go.Proofs.Cd

