/-
 A TABLE of states: what is cut out, and laid elsewhere: plain laws. CONDITIONS: none.
-/
import Derived.Test.YtfcajloeknedeaaGreatOxTm
set_option linter.unusedSimpArgs false
set_option linter.unusedVariables false
namespace Go.Ox
theorem mem_keysIn {g lo hi : Int} {M : Tb} {k : Int} : k ∈ keysIn g lo hi M ↔ k ∈ tbK M ∧ lo ≤ grp k g ∧ grp k g < hi := by
 unfold keysIn
 rw [List.mem_filter, (keySort_perm g (tbK M)).mem_iff]
 simp
theorem TbOk.mem_cut {M : Tb} (ok : TbOk M) (L : List Int) (k : Int) : k ∈ tbK (tcut M L) ↔ k ∈ tbK M ∧ ¬ k ∈ L := by
 rw [(ok.cut L).iff, ok.get_cut, ok.iff]
 by_cases h : k ∈ L
 ·simp [h]
 ·simp [h]
theorem rowK_wf {M : Tb} (ok : TbOk M) {L : List Int} (hL : ∀ k ∈ L, k ∈ tbK M) : ∀ r ∈ rowK M L, (Lit.int .i64 r.1).wf = true := fun r hr => by
 obtain ⟨k, hk, rfl⟩ := List.mem_map.1 hr
 exact ok.wf k (hL k hk)
theorem keysIn_sub (g lo hi : Int) (M : Tb) : ∀ k ∈ keysIn g lo hi M, k ∈ tbK M := fun k hk => (mem_keysIn.1 hk).1
/-- What was cut out, laid into a new table. -/
theorem TbOk.get_moved {M : Tb} (ok : TbOk M) {L : List Int} (hL : ∀ k ∈ L, k ∈ tbK M) (k : Int) : tgt (tlay [] (rowK M L)) k = if k ∈ L then tgt M k else (0, 0) := by
 rw [TbOk.nil.get_lay (rowK_wf ok hL), lastOf_rowK]
 split <;> rfl
/-- .. and laid back. -/
theorem TbOk.back {M : Tb} (ok : TbOk M) (g lo hi : Int) (h0 : 1 ≤ g) (h1 : g ≤ 64) : ∀ C, C = tlay [] (rowK M (keysIn g lo hi M)) →
  TbOk C ∧ (tcut C (keysIn g 0 g C)).length = 0 ∧ rowsOf g (tlay (tcut M (keysIn g lo hi M)) (rowK C (keysIn g 0 g C))) = rowsOf g M := by
 intro C hC
 have okC : TbOk C := by rw [hC]; exact TbOk.nil.lay (rowK_wf ok (keysIn_sub _ _ _ _))
 have gC : ∀ k, tgt C k = if k ∈ keysIn g lo hi M then tgt M k else (0, 0) := fun k => by rw [hC]; exact ok.get_moved (keysIn_sub _ _ _ _) k
 have hall : ∀ k, k ∈ keysIn g 0 g C ↔ k ∈ tbK C := fun k => by
  have := grp_lt k g
  rw [mem_keysIn]
  exact ⟨fun h => h.1, fun h => ⟨h, this.1, this.2.2 h0 h1⟩⟩
 refine ⟨okC, ?_, ?_⟩
 ·rw [← tbK_len]
  refine List.length_eq_zero_iff.2 (List.eq_nil_iff_forall_not_mem.2 fun k hk => ?_)
  rw [okC.mem_cut, hall] at hk
  exact hk.2 hk.1
 ·refine rows_ext ((ok.cut _).lay (rowK_wf okC (keysIn_sub _ _ _ _))) ok fun k => ?_
  rw [(ok.cut _).get_lay (rowK_wf okC (keysIn_sub _ _ _ _)), lastOf_rowK, ok.get_cut]
  have h2 := okC.iff k
  have h3 := gC k
  by_cases a : k ∈ keysIn g lo hi M
  ·rw [if_pos a] at h3
   have hM := (ok.iff k).1 (keysIn_sub _ _ _ _ k a)
   rw [if_pos ((hall k).2 (h2.2 (by rw [h3]; exact hM))), h3]; rfl
  ·rw [if_neg a] at h3
   rw [if_neg (fun h => h2.1 ((hall k).1 h) h3), if_neg a]; rfl
end Go.Ox
