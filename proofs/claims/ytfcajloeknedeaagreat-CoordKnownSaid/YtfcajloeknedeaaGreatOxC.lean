/-
 WHAT EACH OPERATION DOES ON THE ABSTRACT SIDE, part 2: the operations one by one.
-/
import Derived.Test.YtfcajloeknedeaaGreatOxB
set_option linter.unusedSimpArgs false
set_option linter.unusedVariables false
namespace Go.Ox

/-! ### Operations that look at nothing but the program -/
def pureRun {α : Type} (P : Program) : Sem α → Option α
 | .pure a => some a
 | .program k => pureRun P (k P)
 | _ => none

theorem pureRun_sound {α : Type} {P : Program} : ∀ (s : Sem α) {a : α}, pureRun P s = some a → ∀ w, s.run P w = .ok a w
 | .pure b, a, h, w => by simp [pureRun] at h; subst h; rfl
 | .program k, a, h, w => by simp only [pureRun] at h; simp only [Sem.run]; exact pureRun_sound (k P) h w
 | .load .., _, h, _ | .store .., _, h, _ | .new .., _, h, _ | .shape .., _, h, _ | .freeze .., _, h, _ | .frozen .., _, h, _ | .getObj .., _, h, _ | .setObj .., _, h, _
 | .choose .., _, h, _ | .sys .., _, h, _ | .mark .., _, h, _ | .halt _, _, h, _ => by simp [pureRun] at h

/-- What an operation has come to on both sides. -/
def OK (P : Program) (ρ : Emb) (h : AHeap) (w : World) (s : Sem Value) (v : Value) (h' : AHeap) : Prop :=
 ∃ x w' ρ', s.run P w = .ok x w' ∧ VR ρ' v x ∧ Step True ρ ρ' h h' w w'

theorem OK.still {P : Program} {ρ : Emb} {h : AHeap} {w : World} (hr : HR ρ h w) {s : Sem Value} {v x : Value} (hs : s.run P w = .ok x w) (hv : VR ρ v x) : OK P ρ h w s v h :=
 ⟨x, w, ρ, hs, hv, Step.refl hr⟩

/-! ### Numbers -/
def aInt (op : BinOp) (k : IntKind) (a : Int) (k' : IntKind) (b : Int) : Option Value :=
 match op with
 | .shl => if b < 0 then none else some (.int k (k.wrap (a * 2 ^ (min b.toNat k.bits))))
 | .shr => if b < 0 then none else some (.int k (a.fdiv (2 ^ (min b.toNat k.bits))))
 | op => if k ≠ k' then none else
  match op with
  | .add => some (.int k (k.wrap (a + b)))
  | .sub => some (.int k (k.wrap (a - b)))
  | .mul => some (.int k (k.wrap (a * b)))
  | .quo => if b = 0 then none else some (.int k (k.wrap (a.tdiv b)))
  | .rem => if b = 0 then none else some (.int k (a.tmod b))
  | .and => some (.int k (k.wrap (BitVec.ofInt k.bits a &&& BitVec.ofInt k.bits b).toNat))
  | .or => some (.int k (k.wrap (BitVec.ofInt k.bits a ||| BitVec.ofInt k.bits b).toNat))
  | .xor => some (.int k (k.wrap (BitVec.ofInt k.bits a ^^^ BitVec.ofInt k.bits b).toNat))
  | .andNot => some (.int k (k.wrap (BitVec.ofInt k.bits a &&& ~~~ BitVec.ofInt k.bits b).toNat))
  | .eql => some (.bool (a == b))
  | .neq => some (.bool (a != b))
  | .lss => some (.bool (decide (a < b)))
  | .leq => some (.bool (decide (a ≤ b)))
  | .gtr => some (.bool (decide (a > b)))
  | .geq => some (.bool (decide (a ≥ b)))
  | _ => none

def aNil (P : Program) (t : TypeId) : Value → Value → Option Bool
 | .pointer (some _), .pointer none | .pointer none, .pointer (some _) => match P.underlying t with | some (.pointer _) => some false | _ => none
 | .slice (some _) _ _, .slice none _ _ | .slice none _ _, .slice (some _) _ _ => match P.underlying t with | some (.slice _) => some false | _ => none
 | .map (some _), .map none | .map none, .map (some _) => match P.underlying t with | some (.map _ _) => some false | _ => none
 | .func _ _ _, .nilFunc | .nilFunc, .func _ _ _ => match P.underlying t with | some (.func _ _ _) => some false | _ => none
 | .iface _ _, .nilIface | .nilIface, .iface _ _ => match P.underlying t with | some (.interface _) => some false | _ => none
 | _, _ => none

def aBin (P : Program) (op : BinOp) (t : TypeId) (x y : Operand) (a b : Value) : Option Value :=
 match a, b with
 | .int k a, .int k' b => aInt op k a k' b
 | a, b =>
  if plain 4 a && plain 4 b then
   match pureRun P (do eqGuard op t x y a b; binOp op t a b) with
   | some v => if plain 4 v then some v else none
   | none => none
  else match op with
   | .eql => (aNil P t a b).map .bool
   | .neq => (aNil P t a b).map fun r => .bool !r
   | _ => none

section
variable {P : Program} {t : TypeId} (d : Nat) (w : World)
theorem eq_p1 {e : TypeId} (h : P.underlying t = some (.pointer e)) (a : Addr) : (Op.equalIn (d + 1) t (.pointer (some a)) (.pointer none)).run P w = .ok false w := by simp [Op.equalIn, r_und h]
theorem eq_p2 {e : TypeId} (h : P.underlying t = some (.pointer e)) (a : Addr) : (Op.equalIn (d + 1) t (.pointer none) (.pointer (some a))).run P w = .ok false w := by simp [Op.equalIn, r_und h]
theorem eq_s1 {e : TypeId} (h : P.underlying t = some (.slice e)) (a : Addr) (l c l' c' : Nat) : (Op.equalIn (d + 1) t (.slice (some a) l c) (.slice none l' c')).run P w = .ok false w := by simp [Op.equalIn, r_und h]
theorem eq_s2 {e : TypeId} (h : P.underlying t = some (.slice e)) (a : Addr) (l c l' c' : Nat) : (Op.equalIn (d + 1) t (.slice none l c) (.slice (some a) l' c')).run P w = .ok false w := by simp [Op.equalIn, r_und h]
theorem eq_m1 {k e : TypeId} (h : P.underlying t = some (.map k e)) (a : Nat) : (Op.equalIn (d + 1) t (.map (some a)) (.map none)).run P w = .ok false w := by simp [Op.equalIn, r_und h]
theorem eq_m2 {k e : TypeId} (h : P.underlying t = some (.map k e)) (a : Nat) : (Op.equalIn (d + 1) t (.map none) (.map (some a))).run P w = .ok false w := by simp [Op.equalIn, r_und h]
theorem eq_f1 {p r : Array TypeId} {v : Bool} (h : P.underlying t = some (.func p r v)) (f : Fn) (x y : Array Value) : (Op.equalIn (d + 1) t (.func f x y) .nilFunc).run P w = .ok false w := by simp [Op.equalIn, r_und h]
theorem eq_f2 {p r : Array TypeId} {v : Bool} (h : P.underlying t = some (.func p r v)) (f : Fn) (x y : Array Value) : (Op.equalIn (d + 1) t .nilFunc (.func f x y)).run P w = .ok false w := by simp [Op.equalIn, r_und h]
theorem eq_i1 {ms : Array (String × TypeId)} (h : P.underlying t = some (.interface ms)) (u : TypeId) (x : Value) : (Op.equalIn (d + 1) t (.iface u x) .nilIface).run P w = .ok false w := by simp [Op.equalIn, r_und h]
theorem eq_i2 {ms : Array (String × TypeId)} (h : P.underlying t = some (.interface ms)) (u : TypeId) (x : Value) : (Op.equalIn (d + 1) t .nilIface (.iface u x)).run P w = .ok false w := by simp [Op.equalIn, r_und h]
end

section
variable {P : Program}

theorem aInt_sound {op : BinOp} {t : TypeId} {x y : Operand} {k k' : IntKind} {a b : Int} {v : Value} (h : aInt op k a k' b = some v) (w : World) :
  (do eqGuard op t x y (.int k a) (.int k' b); binOp op t (.int k a) (.int k' b) : Sem Value).run P w = .ok v w := by
 have hg : (eqGuard op t x y (.int k a) (.int k' b)).run P w = .ok () w := by
  unfold eqGuard; cases op <;> simp
 simp only [Sem.run_bind, hg, Result.andThen_ok]
 cases op <;> simp only [aInt] at h <;> (try (split at h <;> first | (cases h; done) | skip)) <;> (try (split at h <;> first | (cases h; done) | skip)) <;>
  (try obtain rfl := Option.some.inj h) <;> (try cases h) <;> simp_all [binOp, Op.shift, Op.intArith, Op.intDiv, Op.intBits, Op.intCmp] <;> (intro hlt; omega)

theorem aNil_sound {ρ : Emb} {op : BinOp} {t : TypeId} {x y : Operand} {a b a' b' : Value} {r : Bool} (h : aNil P t a b = some r) (ha : VR ρ a a') (hb : VR ρ b b') (w : World) :
  (eqGuard op t x y a' b').run P w = .ok () w ∧ (Op.equal t a' b').run P w = .ok r w ∧ (∀ k n, a' ≠ .int k n) ∧ (∀ s, a' ≠ .string s) ∧ (∀ k n, a' ≠ .float k n) ∧ (∀ k n m, a' ≠ .complex k n m) := by
 unfold aNil at h
 split at h <;> (try (cases h; done)) <;> split at h <;> (try (cases h; done)) <;> rename_i hu <;> obtain rfl := Option.some.inj h <;> cases ha <;> cases hb <;>
  (refine ⟨?_, ?_, ?_, ?_, ?_, ?_⟩ <;> first | (intros; simp; done) | (unfold eqGuard; cases op <;> simp; done) | exact eq_p1 9999 w hu _ | exact eq_p2 9999 w hu _ | exact eq_s1 9999 w hu _ _ _ _ _ | exact eq_s2 9999 w hu _ _ _ _ _ | exact eq_m1 9999 w hu _ | exact eq_m2 9999 w hu _ | exact eq_f1 9999 w hu _ _ _ | exact eq_f2 9999 w hu _ _ _ | exact eq_i1 9999 w hu _ _ | exact eq_i2 9999 w hu _ _)

theorem aBin_sound {ρ : Emb} {h : AHeap} {w : World} (hr : HR ρ h w) {op : BinOp} {t : TypeId} {x y : Operand} {a b a' b' : Value} {v : Value} (hs : aBin P op t x y a b = some v) (ha : VR ρ a a') (hb : VR ρ b b') :
  OK P ρ h w (do eqGuard op t x y a' b'; binOp op t a' b') v h := by
 unfold aBin at hs
 split at hs
 ·obtain rfl := ha.int_inv
  obtain rfl := hb.int_inv
  refine OK.still hr (aInt_sound hs w) ?_
  cases op <;> simp only [aInt] at hs <;> (try (split at hs <;> first | (cases hs; done) | skip)) <;> (try (split at hs <;> first | (cases hs; done) | skip)) <;>
   (try obtain rfl := Option.some.inj hs) <;> (try cases hs) <;> first | exact .int _ _ | exact .bool _
 ·split at hs
  ·rename_i hp
   simp only [Bool.and_eq_true] at hp
   obtain rfl := plain_eq 4 _ _ hp.1 ha
   obtain rfl := plain_eq 4 _ _ hp.2 hb
   split at hs
   ·rename_i v' hv'
    split at hs
    ·rename_i hpv
     obtain rfl := Option.some.inj hs
     exact OK.still hr (pureRun_sound _ hv' w) (plain_self 4 _ hpv)
    ·cases hs
   ·cases hs
  ·split at hs
   ·cases hn : aNil P t a b with
    | none => simp [hn] at hs
    | some r =>
     simp [hn] at hs; subst hs
     obtain ⟨h1, h2, h3, h4, h5, h6⟩ := aNil_sound (op := .eql) (x := x) (y := y) hn ha hb w
     refine OK.still hr ?_ (.bool r)
     simp only [Sem.run_bind, h1, Result.andThen_ok]
     cases a' <;> simp_all [binOp]
   ·cases hn : aNil P t a b with
    | none => simp [hn] at hs
    | some r =>
     simp [hn] at hs; subst hs
     obtain ⟨h1, h2, h3, h4, h5, h6⟩ := aNil_sound (op := .neq) (x := x) (y := y) hn ha hb w
     refine OK.still hr ?_ (.bool !r)
     simp only [Sem.run_bind, h1, Result.andThen_ok]
     cases a' <;> simp_all [binOp]
   ·cases hs
end
end Go.Ox
