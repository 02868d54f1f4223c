/-
  REASONING ABOUT THE ABSTRACT RUN, part 4: laws that hang on a type's form.
-/
import Derived.Test.YtfcajloeknedeaaGreatOxR
set_option linter.unusedSimpArgs false
set_option linter.unusedVariables false
namespace Go.Ox
section
variable {P : Program} {h : AHeap}

/-! ### structs -/
def lk (pl : List (Nat × Nat)) (i : Nat) : Option (Nat × Nat) := pl[i]?
theorem lk_zero (p : Nat × Nat) (ps : List (Nat × Nat)) : lk (p :: ps) 0 = some p := congrArg id rfl
theorem lk_succ (p : Nat × Nat) (ps : List (Nat × Nat)) (n : Nat) : lk (p :: ps) (n + 1) = lk ps n := congrArg id rfl
def bdF : Option (List Value) → Option Value
  | some r => some (.agg r.toArray)
  | none => none
theorem bdF_some (r : List Value) : bdF (some r) = some (.agg r.toArray) := congrArg id rfl
def fil (place : Nat → Option (Nat × Nat)) (c : List Value) (v : Array Value) (rest : List (Nat × Value)) : Option (Nat × Nat) → Option (List Value)
  | some (off, size) => if v.size = size ∧ off + v.size ≤ c.length then aFill place (splice c off v.toList) rest else none
  | none => none
theorem fil_some (place : Nat → Option (Nat × Nat)) (c : List Value) (v : List Value) (rest : List (Nat × Value)) (off size : Nat) :
    fil place c v.toArray rest (some (off, size)) = if v.length = size ∧ off + v.length ≤ c.length then aFill place (splice c off v) rest else none := by simp [fil]
theorem aFill_nil (place : Nat → Option (Nat × Nat)) (c : List Value) : aFill place c [] = some c := congrArg id rfl
theorem aFill_cons (place : Nat → Option (Nat × Nat)) (c : List Value) (i : Nat) (v : Value) (rest : List (Nat × Value)) : aFill place c ((i, v) :: rest) = fil place c v.cells rest (place i) := by
  simp only [aFill, fil]
  cases place i with
  | none => rfl
  | some p => obtain ⟨off, size⟩ := p; simp
theorem aBuild_of {t : TypeId} {zs : List Value} {fs : Array Field} {pl : List (Nat × Nat)} (hz : aZero P t = some zs) (hu : P.underlying t = some (.struct fs)) (hp : aPlaces P fs.toList = some pl) (ps : List (Nat × Value)) :
    aBuild P t ps = bdF (aFill (lk pl) zs ps) := by
  have e : (fun x => pl.toArray[x]?) = lk pl := by funext x; simp [lk]
  simp only [aBuild, hz, hu, hp, e]
  cases aFill (lk pl) zs ps <;> rfl

/-! ### slices -/
theorem add_none (b o n : Nat) : Addr.add ⟨b, o, none⟩ n = ⟨b, o + n, none⟩ := by
  unfold Addr.add; split
  · rename_i h; subst h; rfl
  · rfl
theorem aIndexAddr_s {t e : TypeId} {ti : TypeInfo} {n : Nat} {b o len cap : Nat} {k : IntKind} {i : Int} (hu : P.underlying t = some (.slice e)) (hi : P.info? e = some ti) (hn : ti.size = n) :
    aIndexAddr P t (.slice (some ⟨b, o, none⟩) len cap) (.int k i) = if 0 ≤ i ∧ i < len then some (.pointer (some ⟨b, o + i.toNat * n, none⟩)) else none := by
  subst hn; simp only [aIndexAddr, hu, hi, add_none]
def msF (size bytes : Nat) (zs : List Value) (e : TypeId) (l c : Int) : Option (ABlk × (Nat → Value)) :=
  if (0 ≤ l ∧ l ≤ c ∧ c < 4611686018427387904) ∧ (bytes : Int) * c ≤ 281474976710656 then some (.cells false size (aZeros zs c.toNat) e, fun β => .slice (some ⟨β, 0, none⟩) l.toNat c.toNat) else none
theorem bMakeSlice_s {t e : TypeId} {ti : TypeInfo} {zs : List Value} {n m : Nat} {k k' : IntKind} {l c : Int} (hu : P.underlying t = some (.slice e)) (hi : P.info? e = some ti) (hz : aZero P e = some zs) (hn : ti.size = n + 1) (hm : ti.bytes = m) :
    bMakeSlice P t (.int k l) (.int k' c) = msF (n + 1) m zs e l c := by
  subst hm
  simp only [bMakeSlice, hu, hi, hz, msF, hn]
  by_cases h1 : (0 ≤ l ∧ l ≤ c ∧ c < 4611686018427387904) ∧ (ti.bytes : Int) * c ≤ 281474976710656
  · rw [if_pos h1, if_neg (by omega)]
  · rw [if_neg h1, if_pos (by omega)]
theorem msF_of {size bytes : Nat} {zs : List Value} {e : TypeId} {l c : Int} (h1 : 0 ≤ l) (h2 : l ≤ c) (h3 : c < 4611686018427387904) (h4 : (bytes : Int) * c ≤ 281474976710656) :
    msF size bytes zs e l c = some (.cells false size (aZeros zs c.toNat) e, fun β => .slice (some ⟨β, 0, none⟩) l.toNat c.toNat) := if_pos ⟨⟨h1, h2, h3⟩, h4⟩
def bsF (size : Nat) (e : TypeId) (len : Nat) : Option (List Value) → Option (ABlk × (Nat → Value))
  | some r => if len * size ≤ 16777216 then some (.cells false size r e, fun β => .slice (some ⟨β, 0, none⟩) len len) else none
  | none => none
theorem bsF_some (size : Nat) (e : TypeId) (len : Nat) (r : List Value) : bsF size e len (some r) = if len * size ≤ 16777216 then some (.cells false size r e, fun β => .slice (some ⟨β, 0, none⟩) len len) else none := congrArg id rfl
theorem bBuildSlice_s {t e : TypeId} {ti : TypeInfo} {zs : List Value} {n len : Nat} {ps : List (Nat × Value)} (hu : P.underlying t = some (.slice e)) (hi : P.info? e = some ti) (hz : aZero P e = some zs) (hn : ti.size = n + 1) :
    bBuildSlice P t len ps = bsF (n + 1) e len (aFill (fun j => some (j * (n + 1), n + 1)) (aZeros zs len) ps) := by
  simp only [bBuildSlice, hu, hi, hz, hn]
  by_cases h1 : len * (n + 1) ≤ 16777216
  · rw [if_neg (by omega)]
    cases aFill (fun j => some (j * (n + 1), n + 1)) (aZeros zs len) ps with
    | none => rfl
    | some r => simp only [bsF, if_pos h1]
  · rw [if_pos (by omega)]
    cases aFill (fun j => some (j * (n + 1), n + 1)) (aZeros zs len) ps with
    | none => rfl
    | some r => simp only [bsF, if_neg h1]
def lnM : Option ABlk → Option Value
  | some (.map es) => some (.int .i64 es.length)
  | _ => none
theorem lnM_eq (es : List (Value × Value)) : lnM (some (.map es)) = some (.int .i64 es.length) := congrArg id rfl
theorem aLen_m {t k e : TypeId} {r : Nat} (hu : P.underlying t = some (.map k e)) : aLen P h t (.map (some r)) = lnM (h.get r) := by
  simp only [aLen, hu, lnM]
  cases h.get r with
  | none => rfl
  | some b => cases b <;> rfl
theorem aClear_s {t e : TypeId} {zs : List Value} {b o m c : Nat} (hu : P.underlying t = some (.slice e)) (hz : aZero P e = some zs) :
    aClear P h t (.slice (some ⟨b, o, none⟩) m c) = if m = 0 then some h else gPut h b o (aZeros zs m) (h.get b) := by
  simp only [aClear, hu, hz, store_eq]
/-- The first n elements of a slice. -/
def fst (h : AHeap) (size n : Nat) : Option Addr → Option (List Value)
  | some a => if n * size = 0 then some [] else h.load a (n * size)
  | none => if n = 0 then some [] else none
def apF (h : AHeap) (size bytes : Nat) (e : TypeId) (a : Option Addr) (len cap : Nat) (b : Option Addr) (n d : Nat) : Option (Value × AHeap) :=
  if (len + n) * bytes > 2 ^ 47 ∨ len + n ≥ 2 ^ 62 then none else
  match fst h size n b with
  | none => none
  | some new => match a with
    | none => if len ≠ 0 ∨ cap ≠ 0 then none else if n = 0 then some (.slice none 0 0, h) else some (.slice (some ⟨h.next, 0, none⟩) n (big + n), h.push (.cells false size new e))
    | some a =>
      if len + n ≤ (if cap < big then cap else cap - big) then
        if n = 0 then some (.slice (some a) len cap, h)
        else match h.store (a.add (len * size)) new with
          | some h' => some (.slice (some a) (len + n) cap, h')
          | none => none
      else match fst h size len (some a) with
        | none => none
        | some old =>
          if cap < big then some (.slice (some ⟨h.next, 0, none⟩) (len + n) (big + (len + n)), h.push (.cells false size (old ++ new) e))
          else match h.get a.block with
            | some (.cells false sz c el') =>
              if sz = size ∧ el' = e ∧ a.spot = none ∧ a.off + len * size ≤ c.length ∧ new.all Value.oneCell' = true then
                some (.slice (some ⟨h.next, 0, none⟩) (len + n) (big + (len + n)), (h.del a.block).push (.cells false size (old ++ new) e))
              else none
            | _ => none
theorem aFirst_fst (h : AHeap) (m x : Nat) (l : Addr) (c : Nat) : aFirst h m x (.slice (some l) x c) = fst h m x (some l) := by
  simp only [aFirst, fst, Nat.lt_irrefl, if_false]
theorem aAppend_s {t e : TypeId} {ti : TypeInfo} {zs : List Value} {m k len cap n d : Nat} {a b : Option Addr} (hu : P.underlying t = some (.slice e)) (hi : P.info? e = some ti) (hz : aZero P e = some zs) (hn : ti.size = m + 1) (hm : ti.bytes = k) :
    aAppend P h t (.slice a len cap) (.slice b n d) = apF h (m + 1) k e a len cap b n d := by
  subst hm
  have h1 : aFirst h (m + 1) n (.slice b n d) = fst h (m + 1) n b := by
    cases b with
    | none => rfl
    | some l => exact aFirst_fst ..
  simp only [aAppend, hu, hi, hz, hn, apF, h1]
  rw [if_neg (by omega)]
  split
  · rfl
  · cases fst h (m + 1) n b with
    | none => rfl
    | some new =>
      cases a with
      | none => rfl
      | some a => simp only [aFirst_fst]; rfl

/-- To append to a slice that is none yet. -/
theorem apF_nil {size bytes : Nat} {e : TypeId} {b : Option Addr} {n d : Nat} {new : List Value} (h1 : n * bytes ≤ 140737488355328) (h2 : n < 4611686018427387904) (h3 : fst h size n b = some new) (h4 : n ≠ 0) :
    apF h size bytes e none 0 0 b n d = some (.slice (some ⟨h.next, 0, none⟩) n (big + n), h.push (.cells false size new e)) := by
  simp only [apF, Nat.zero_add, h3]
  rw [if_neg (by omega)]
  simp [h4]
theorem apF_zero {size bytes : Nat} {e : TypeId} {b : Option Addr} {d : Nat} {new : List Value} (h1 : 0 * bytes ≤ 140737488355328) (h3 : fst h size 0 b = some new) :
    apF h size bytes e none 0 0 b 0 d = some (.slice none 0 0, h) := by
  simp only [apF, Nat.zero_add, h3]
  rw [if_neg (by omega)]
  simp
/-- .. to one whose block is its own. -/
theorem apF_own {size bytes : Nat} {e : TypeId} {β len : Nat} {b : Option Addr} {n d : Nat} {new old : List Value} (h1 : (len + n) * bytes ≤ 140737488355328) (h2 : len + n < 4611686018427387904) (h3 : fst h size n b = some new) (h4 : n ≠ 0)
    (hg : h.get β = some (.cells false size old e)) (ho : len * size = old.length) (hc : new.all Value.oneCell' = true) :
    apF h size bytes e (some ⟨β, 0, none⟩) len (big + len) b n d = some (.slice (some ⟨h.next, 0, none⟩) (len + n) (big + (len + n)), (h.del β).push (.cells false size (old ++ new) e)) := by
  have hb : ¬ big + len < big := by omega
  have hf : fst h size len (some ⟨β, 0, none⟩) = some old := by
    simp only [fst]
    split
    · rename_i h0; rw [h0] at ho; have := List.eq_nil_of_length_eq_zero ho.symm; rw [this]
    · rw [load_eq, hg, gCells_eq, if_pos (by omega), List.drop_zero, ho, List.take_length]
  simp only [apF, h3, hf, hg, if_neg hb]
  rw [if_neg (by omega), if_neg (by omega), if_pos ⟨trivial, trivial, trivial, by omega, hc⟩]

/-! ### maps of numbers -/
def mF (k : IntKind) (n : Int) : Option ABlk → Option (Option (Nat × Value))
  | some (.map es) => mFind k n es 0
  | _ => none
theorem mF_eq (k : IntKind) (n : Int) (es : List (Value × Value)) : mF k n (some (.map es)) = mFind k n es 0 := congrArg id rfl
theorem mFind_nil (k : IntKind) (n : Int) (i : Nat) : mFind k n [] i = some none := congrArg id rfl
theorem mFind_cons (k : IntKind) (n m : Int) (v : Value) (es : List (Value × Value)) (i : Nat) : mFind k n ((.int k m, v) :: es) i = if n = m then some (some (i, v)) else mFind k n es (i + 1) := by simp [mFind]
def lkF (z : Value) (ok : Bool) : Option (Option (Nat × Value)) → Option Value
  | some (some (_, v)) => some (if ok then .tuple #[v, .bool true] else v)
  | some none => some (if ok then .tuple #[z, .bool false] else z)
  | none => none
theorem lkF_hit (z : Value) (ok : Bool) (i : Nat) (v : Value) : lkF z ok (some (some (i, v))) = some (if ok = true then .tuple #[v, .bool true] else v) := congrArg id rfl
theorem lkF_miss (z : Value) (ok : Bool) : lkF z ok (some none) = some (if ok = true then .tuple #[z, .bool false] else z) := congrArg id rfl
theorem aLookup_m {t k e : TypeId} {kk : IntKind} {ti : TypeInfo} {z : Value} {r : Nat} {kd : IntKind} {n : Int} {ok : Bool} (hu : P.underlying t = some (.map k e)) (hk : P.underlying k = some (.int kk)) (hi : P.info? e = some ti) (hz : ti.zero = some z) (hp : plain 6 z = true) :
    aLookup P h t (.map (some r)) (.int kd n) ok = lkF z ok (mF kd n (h.get r)) := by
  simp only [aLookup, hu, hk, hi, hz]
  cases h.get r with
  | none => rfl
  | some b => cases b <;> first | rfl | skip
              rename_i es
              simp only [mF, lkF]
              cases mFind kd n es 0 with
              | none => rfl
              | some x => cases x <;> simp [hp]
theorem aLookup_n {t k e : TypeId} {kk : IntKind} {ti : TypeInfo} {z : Value} {kd : IntKind} {n : Int} {ok : Bool} (hu : P.underlying t = some (.map k e)) (hk : P.underlying k = some (.int kk)) (hi : P.info? e = some ti) (hz : ti.zero = some z) (hp : plain 6 z = true) :
    aLookup P h t (.map none) (.int kd n) ok = lkF z ok (some none) := by
  simp only [aLookup, hu, hk, hi, hz, lkF, hp, if_true]
def muF (h : AHeap) (r : Nat) (k : IntKind) (n : Int) (y : Value) : Option ABlk → Option AHeap
  | some (.map es) => match mFind k n es 0 with
    | some (some (j, _)) => some (h.set r (.map (es.set j (.int k n, y))))
    | some none => some (h.set r (.map (es ++ [(.int k n, y)])))
    | none => none
  | _ => none
def muG (h : AHeap) (r : Nat) (k : IntKind) (n : Int) (y : Value) (es : List (Value × Value)) : Option (Option (Nat × Value)) → Option AHeap
  | some (some (j, _)) => some (h.set r (.map (es.set j (.int k n, y))))
  | some none => some (h.set r (.map (es ++ [(.int k n, y)])))
  | none => none
theorem muF_eq (r : Nat) (k : IntKind) (n : Int) (y : Value) (es : List (Value × Value)) : muF h r k n y (some (.map es)) = muG h r k n y es (mFind k n es 0) := congrArg id rfl
theorem muG_hit (r : Nat) (k : IntKind) (n : Int) (y : Value) (es : List (Value × Value)) (j : Nat) (v : Value) : muG h r k n y es (some (some (j, v))) = some (h.set r (.map (es.set j (.int k n, y)))) := congrArg id rfl
theorem muG_miss (r : Nat) (k : IntKind) (n : Int) (y : Value) (es : List (Value × Value)) : muG h r k n y es (some none) = some (h.set r (.map (es ++ [(.int k n, y)]))) := congrArg id rfl
theorem aMapSet_m {t k e : TypeId} {kk : IntKind} {r : Nat} {kd : IntKind} {n : Int} {y : Value} (hu : P.underlying t = some (.map k e)) (hk : P.underlying k = some (.int kk)) : aMapSet P h t (.map (some r)) (.int kd n) y = muF h r kd n y (h.get r) := by
  simp only [aMapSet, hu, hk]
  cases h.get r with
  | none => rfl
  | some b => cases b <;> rfl
theorem bMakeMap_none (t : TypeId) : bMakeMap P t none = some (.map [], fun β => .map (some β)) := congrArg id rfl
end
end Go.Ox
