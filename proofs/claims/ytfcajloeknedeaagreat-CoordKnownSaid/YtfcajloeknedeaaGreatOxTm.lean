/-
 A TABLE of states, as a list of keys with cells: plain laws. CONDITIONS: none.
-/
import Derived.Test.YtfcajloeknedeaaGreatOxSo
import Derived.Test.YtfcajloeknedeaaGreatOxFg
set_option linter.unusedSimpArgs false
set_option linter.unusedVariables false
namespace Go.Ox
abbrev Cl := Int × Int
abbrev Tb := List (Int × Cl)
def clV (c : Cl) : Value := .agg #[.int .i64 c.1, .int .i64 c.2]
def tbV (M : Tb) : List (Value × Value) := M.map fun x => (.int .i64 x.1, clV x.2)
def tbK (M : Tb) : List Int := M.map (·.1)
def tgt : Tb → Int → Cl
 | [], _ => (0, 0)
 | x :: M, k => if k = x.1 then x.2 else tgt M k
def tset : Tb → Int → Cl → Tb
 | [], k, c => [(k, c)]
 | x :: M, k, c => if k = x.1 then (k, c) :: M else x :: tset M k c
def tdel : Tb → Int → Tb
 | [], _ => []
 | x :: M, k => if k = x.1 then M else x :: tdel M k
def tpt (M : Tb) (k : Int) (c : Cl) : Tb := if c = (0, 0) then tdel M k else tset M k c

theorem tbV_keys (M : Tb) : (tbV M).map (·.1) = (tbK M).map (Value.int .i64) := by simp [tbV, tbK]
theorem tbK_len (M : Tb) : (tbK M).length = M.length := by simp [tbK]
theorem tbK_cons (x : Int × Cl) (M : Tb) : tbK (x :: M) = x.1 :: tbK M := rfl
theorem tbV_cons (x : Int × Cl) (M : Tb) : tbV (x :: M) = (.int .i64 x.1, clV x.2) :: tbV M := rfl
theorem tb_miss {k : Int} : ∀ {M : Tb} (j : Nat), ¬ k ∈ tbK M → mFind .i64 k (tbV M) j = some none ∧ tgt M k = (0, 0) ∧ tdel M k = M ∧ ∀ c, tset M k c = M ++ [(k, c)]
 | [], j, _ => ⟨rfl, rfl, rfl, fun _ => rfl⟩
 | x :: M, j, h => by
  rw [tbK_cons, List.mem_cons, not_or] at h
  obtain ⟨h1, h2, h3, h4⟩ := tb_miss (j + 1) h.2
  refine ⟨by rw [tbV_cons, mFind_cons, if_neg h.1]; exact h1, by rw [tgt, if_neg h.1]; exact h2, by rw [tdel, if_neg h.1, h3], fun c => by rw [tset, if_neg h.1, h4]; rfl⟩
theorem tb_hit {k : Int} : ∀ {M : Tb} (j : Nat), k ∈ tbK M → ∃ p, mFind .i64 k (tbV M) j = some (some (j + p, clV (tgt M k))) ∧ (tbV M).eraseIdx p = tbV (tdel M k) ∧ ∀ c, (tbV M).set p (.int .i64 k, clV c) = tbV (tset M k c)
 | [], _, h => by cases h
 | x :: M, j, h => by
  rw [tbV_cons, mFind_cons]
  by_cases h1 : k = x.1
  ·exact ⟨0, by rw [if_pos h1, tgt, if_pos h1]; rfl, by rw [tdel, if_pos h1]; rfl, fun c => by rw [tset, if_pos h1]; rfl⟩
  ·obtain ⟨p, k1, k2, k3⟩ := tb_hit (j + 1) ((List.mem_cons.1 h).resolve_left h1)
   exact ⟨p + 1, by rw [if_neg h1, k1, tgt, if_neg h1]; congr 3; omega, by rw [tdel, if_neg h1, List.eraseIdx_cons_succ, k2]; rfl, fun c => by rw [tset, if_neg h1, List.set_cons_succ, k3]; rfl⟩
theorem tb_lookup (M : Tb) (k : Int) : lkF (clV (0, 0)) false (mFind .i64 k (tbV M) 0) = some (clV (tgt M k)) := by
 by_cases h : k ∈ tbK M
 ·obtain ⟨p, h1, _⟩ := tb_hit 0 h
  rw [h1]; rfl
 ·obtain ⟨h1, h2, _⟩ := tb_miss 0 h
  rw [h1, h2]; rfl
theorem tb_put (h : AHeap) (r : Nat) (M : Tb) (k : Int) (c : Cl) : muG h r .i64 k (clV c) (tbV M) (mFind .i64 k (tbV M) 0) = some (h.set r (.map (tbV (tset M k c)))) := by
 by_cases hk : k ∈ tbK M
 ·obtain ⟨p, h1, _, h3⟩ := tb_hit 0 hk
  rw [h1, muG_hit, Nat.zero_add, h3]
 ·obtain ⟨h1, _, _, h4⟩ := tb_miss 0 hk
  rw [h1, muG_miss, h4]
  simp [tbV]
theorem St.tb_del {P : Program} {h0 h : AHeap} {F : List Asn} {r : Nat} {M : Tb} {t kt et : TypeId} {kk : IntKind} (s : St h0 h (own r (.map (tbV M)) :: F)) (ht : P.underlying t = some (.map kt et)) (hk : P.underlying kt = some (.int kk)) (k : Int) :
  ∃ h', aDelete P h t (.map (some r)) (.int .i64 k) = some h' ∧ St h0 h' (own r (.map (tbV (tdel M k))) :: F) := by
 have hg := s.get
 by_cases hm : k ∈ tbK M
 ·obtain ⟨p, h1, h2, _⟩ := tb_hit 0 hm
  refine ⟨h.set r (.map (tbV (tdel M k))), ?_, s.set _⟩
  simp only [aDelete, ht, hk, hg, h1, Nat.zero_add, h2]
 ·obtain ⟨h1, _, h3, _⟩ := tb_miss 0 hm
  refine ⟨h, ?_, by rw [h3]; exact s⟩
  simp only [aDelete, ht, hk, hg, h1]

/-- A table as it should be: each key once, none without a state. -/
structure TbOk (M : Tb) : Prop where
 nd : (tbK M).Nodup
 nz : ∀ x ∈ M, x.2 ≠ (0, 0)
 wf : ∀ k ∈ tbK M, (Lit.int .i64 k).wf = true
theorem TbOk.nil : TbOk [] := ⟨List.nodup_nil, by simp, by simp [tbK]⟩
theorem tgt_set : ∀ (M : Tb) (k : Int) (c : Cl) (j : Int), tgt (tset M k c) j = if j = k then c else tgt M j
 | [], k, c, j => rfl
 | x :: M, k, c, j => by
  rw [tset]
  by_cases h : k = x.1
  ·rw [if_pos h]
   simp only [tgt]
   split
   ·rfl
   ·rw [if_neg (by rw [← h]; assumption)]
  ·rw [if_neg h]
   simp only [tgt, tgt_set M k c j]
   by_cases h1 : j = x.1
   ·rw [if_pos h1, if_neg (fun e => h (by rw [← e, h1]))]; rw [if_pos h1]
   ·rw [if_neg h1, if_neg h1]
theorem tgt_mem : ∀ {M : Tb} {k : Int}, ¬ k ∈ tbK M → tgt M k = (0, 0) := fun h => (tb_miss 0 h).2.1
theorem tgt_del : ∀ {M : Tb} (_ : (tbK M).Nodup) (k j : Int), tgt (tdel M k) j = if j = k then (0, 0) else tgt M j
 | [], _, k, j => by simp [tdel, tgt]
 | x :: M, hn, k, j => by
  rw [tbK_cons, List.nodup_cons] at hn
  rw [tdel]
  by_cases h : k = x.1
  ·rw [if_pos h]
   by_cases h1 : j = k
   ·rw [if_pos h1, h1, h]; exact tgt_mem hn.1
   ·rw [if_neg h1, tgt, if_neg (by rw [← h]; exact h1)]
  ·rw [if_neg h]
   simp only [tgt, tgt_del hn.2 k j]
   by_cases h1 : j = x.1
   ·rw [if_pos h1, if_neg (fun e => h (by rw [← e, h1]))]; rw [if_pos h1]
   ·rw [if_neg h1, if_neg h1]
theorem tbK_set : ∀ (M : Tb) (k : Int) (c : Cl), tbK (tset M k c) = if k ∈ tbK M then tbK M else tbK M ++ [k]
 | [], k, c => by simp [tset, tbK]
 | x :: M, k, c => by
  rw [tset]
  by_cases h : k = x.1
  ·rw [if_pos h, tbK_cons, tbK_cons, if_pos (by simp [h])]; rw [h]
  ·rw [if_neg h, tbK_cons, tbK_set M k c, tbK_cons]
   by_cases h2 : k ∈ tbK M
   ·rw [if_pos h2, if_pos (by simp [h2])]
   ·rw [if_neg h2, if_neg (by simp [h2, h])]; rfl
theorem tbK_del : ∀ (M : Tb) (k : Int), tbK (tdel M k) = (tbK M).erase k
 | [], k => rfl
 | x :: M, k => by
  rw [tdel, tbK_cons, List.erase_cons]
  by_cases h : k = x.1
  ·rw [if_pos h, h]; simp
  ·rw [if_neg h, tbK_cons, tbK_del M k]
   have : (x.1 == k) = false := by simpa using fun e => h (Eq.symm e)
   rw [this]; rfl
theorem TbOk.iff {M : Tb} (ok : TbOk M) (k : Int) : k ∈ tbK M ↔ tgt M k ≠ (0, 0) := by
 obtain ⟨hn, hz, hw⟩ := ok
 clear hw
 induction M with
 | nil => simp [tbK, tgt]
 | cons x M ih =>
  rw [tbK_cons, List.nodup_cons] at hn
  rw [tbK_cons, List.mem_cons, tgt]
  by_cases h : k = x.1
  ·rw [if_pos h]; simp only [h, true_or, true_iff]; exact hz x (by simp)
  ·rw [if_neg h, ← ih hn.2 (fun y hy => hz y (by simp [hy]))]
   simp [h]
theorem mem_tset {M : Tb} {k : Int} {c : Cl} {x : Int × Cl} (h : x ∈ tset M k c) : x ∈ M ∨ x = (k, c) := by
 induction M with
 | nil => simp [tset] at h; exact .inr h
 | cons y M ih =>
  rw [tset] at h
  split at h
  ·rcases List.mem_cons.1 h with h | h
   ·exact .inr h
   ·exact .inl (by simp [h])
  ·rcases List.mem_cons.1 h with h | h
   ·exact .inl (by simp [h])
   ·rcases ih h with h | h
    ·exact .inl (by simp [h])
    ·exact .inr h
theorem mem_tdel {M : Tb} {k : Int} {x : Int × Cl} (h : x ∈ tdel M k) : x ∈ M := by
 induction M with
 | nil => simp [tdel] at h
 | cons y M ih =>
  rw [tdel] at h
  split at h
  ·simp [h]
  ·rcases List.mem_cons.1 h with h | h
   ·simp [h]
   ·simp [ih h]
theorem TbOk.put {M : Tb} (ok : TbOk M) {k : Int} (hk : (Lit.int .i64 k).wf = true) (c : Cl) : TbOk (tpt M k c) := by
 unfold tpt
 split
 ·exact ⟨by rw [tbK_del]; exact ok.nd.erase _, fun x hx => ok.nz x (mem_tdel hx), fun j hj => ok.wf j (by rw [tbK_del] at hj; exact List.mem_of_mem_erase hj)⟩
 ·rename_i hc
  refine ⟨?_, fun x hx => ?_, fun j hj => ?_⟩
  ·rw [tbK_set]
   split
   ·exact ok.nd
   ·rename_i hm
    rw [List.nodup_append]
    exact ⟨ok.nd, by simp, fun a ha b hb e => hm (by simp at hb; rw [← hb, ← e]; exact ha)⟩
  ·rcases mem_tset hx with h | h
   ·exact ok.nz x h
   ·rw [h]; exact hc
  ·rw [tbK_set] at hj
   split at hj
   ·exact ok.wf j hj
   ·rcases List.mem_append.1 hj with h | h
    ·exact ok.wf j h
    ·simp at h; rw [h]; exact hk
theorem TbOk.del {M : Tb} (ok : TbOk M) (k : Int) : TbOk (tdel M k) :=
 ⟨by rw [tbK_del]; exact ok.nd.erase _, fun x hx => ok.nz x (mem_tdel hx), fun j hj => ok.wf j (by rw [tbK_del] at hj; exact List.mem_of_mem_erase hj)⟩
theorem TbOk.get_put {M : Tb} (ok : TbOk M) (k : Int) (c : Cl) (j : Int) : tgt (tpt M k c) j = if j = k then c else tgt M j := by
 unfold tpt
 split
 ·rename_i h; rw [tgt_del ok.nd, h]
 ·exact tgt_set M k c j
/-- All states, by groups, and keys. -/
abbrev Rw := Int × Cl
def rowK (M : Tb) (L : List Int) : List Rw := L.map fun k => (k, tgt M k)
def rowsOf (g : Int) (M : Tb) : List Rw := rowK M (keySort g (tbK M))
def keysIn (g lo hi : Int) (M : Tb) : List Int := (keySort g (tbK M)).filter fun k => decide (lo ≤ grp k g) && decide (grp k g < hi)
def tlay (M : Tb) (l : List Rw) : Tb := l.foldl (fun M r => tpt M r.1 r.2) M
def tcut (M : Tb) (L : List Int) : Tb := L.foldl (fun M k => tdel M k) M
theorem rows_ext {g : Int} {M N : Tb} (hM : TbOk M) (hN : TbOk N) (h : ∀ k, tgt M k = tgt N k) : rowsOf g M = rowsOf g N := by
 have hp : (tbK M).Perm (tbK N) := by
  rw [List.perm_ext_iff_of_nodup hM.nd hN.nd]
  intro k
  rw [hM.iff, hN.iff, h]
 unfold rowsOf
 rw [keySort_congr g hp]
 exact List.map_congr_left fun k _ => by rw [h]
theorem TbOk.lay {M : Tb} (ok : TbOk M) : ∀ {l : List Rw}, (∀ r ∈ l, (Lit.int .i64 r.1).wf = true) → TbOk (tlay M l) := by
 intro l
 induction l generalizing M with
 | nil => intro _; exact ok
 | cons r l ih => intro h; exact ih (ok.put (h r (by simp)) r.2) fun x hx => h x (by simp [hx])
theorem TbOk.cut {M : Tb} (ok : TbOk M) : ∀ (L : List Int), TbOk (tcut M L) := by
 intro L
 induction L generalizing M with
 | nil => exact ok
 | cons k L ih => exact ih (ok.del k)
/-- The last row of a key in a list: none, if it has none. -/
def lastOf (l : List Rw) (k : Int) : Option Cl := l.foldl (fun o r => if r.1 = k then some r.2 else o) none
theorem lastOf_from (l : List Rw) (k : Int) (o : Option Cl) : l.foldl (fun o r => if r.1 = k then some r.2 else o) o = (lastOf l k).or o := by
 induction l generalizing o with
 | nil => cases o <;> rfl
 | cons r l ih =>
  unfold lastOf
  simp only [List.foldl_cons]
  rw [ih, ih (if r.1 = k then some r.2 else none)]
  split
  ·cases lastOf l k <;> rfl
  ·cases lastOf l k <;> cases o <;> rfl
theorem lastOf_cons (r : Rw) (l : List Rw) (k : Int) : lastOf (r :: l) k = (lastOf l k).or (if r.1 = k then some r.2 else none) := lastOf_from l k _
theorem TbOk.get_lay {M : Tb} (ok : TbOk M) {l : List Rw} (hl : ∀ r ∈ l, (Lit.int .i64 r.1).wf = true) (k : Int) : tgt (tlay M l) k = ((lastOf l k).getD (tgt M k)) := by
 induction l generalizing M with
 | nil => rfl
 | cons r l ih =>
  have h1 := ih (ok.put (hl r (by simp)) r.2) (fun x hx => hl x (by simp [hx]))
  show tgt (tlay (tpt M r.1 r.2) l) k = _
  rw [h1, lastOf_cons, ok.get_put]
  cases lastOf l k with
  | some c => rfl
  | none =>
   show (if k = r.1 then r.2 else tgt M k) = (if r.1 = k then some r.2 else none).getD (tgt M k)
   by_cases h : r.1 = k
   ·rw [if_pos h, if_pos h.symm]; rfl
   ·rw [if_neg h, if_neg (fun e => h e.symm)]; rfl
theorem TbOk.get_cut {M : Tb} (ok : TbOk M) (L : List Int) (k : Int) : tgt (tcut M L) k = if k ∈ L then (0, 0) else tgt M k := by
 induction L generalizing M with
 | nil => rfl
 | cons j L ih =>
  show tgt (tcut (tdel M j) L) k = _
  rw [ih (ok.del j), tgt_del ok.nd]
  by_cases h1 : k ∈ L
  ·rw [if_pos h1, if_pos (by simp [h1])]
  ·rw [if_neg h1]
   by_cases h2 : k = j
   ·rw [if_pos h2, if_pos (by simp [h2])]
   ·rw [if_neg h2, if_neg (by simp [h1, h2])]
theorem lastOf_rowK {M : Tb} {L : List Int} (k : Int) : lastOf (rowK M L) k = if k ∈ L then some (tgt M k) else none := by
 induction L with
 | nil => rfl
 | cons j L ih =>
  show lastOf ((j, tgt M j) :: rowK M L) k = _
  rw [lastOf_cons, ih]
  by_cases h1 : k ∈ L
  ·rw [if_pos h1, if_pos (List.mem_cons_of_mem _ h1)]; rfl
  ·rw [if_neg h1]
   by_cases h2 : j = k
   ·subst h2
    rw [if_pos rfl, if_pos (List.mem_cons_self ..)]; rfl
   ·rw [if_neg h2, if_neg (fun h => (List.mem_cons.1 h).elim (fun e => h2 e.symm) h1)]; rfl
end Go.Ox
