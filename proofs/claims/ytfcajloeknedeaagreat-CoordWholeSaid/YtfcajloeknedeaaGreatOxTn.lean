/-
  A TABLE of states: what is cut out, and laid elsewhere: plain laws. CONDITIONS: none.
-/
import Derived.Test.YtfcajloeknedeaaGreatOxTm
set_option linter.unusedSimpArgs false
set_option linter.unusedVariables false
namespace Go.Ox
theorem sorted_ext {g : Int} {L M : List Int} (h1 : L.Pairwise (fun x y => keyLe g x y = true)) (h2 : M.Pairwise (fun x y => keyLe g x y = true)) (n1 : L.Nodup) (n2 : M.Nodup) (h : ∀ k, k ∈ L ↔ k ∈ M) : L = M :=
  List.Perm.eq_of_pairwise (fun _ _ _ _ h1 h2 => keyLe_anti g h1 h2) h1 h2 ((List.perm_ext_iff_of_nodup n1 n2).2 h)
theorem mem_keysIn {g lo hi : Int} {M : Tb} {k : Int} : k ∈ keysIn g lo hi M ↔ k ∈ tbK M ∧ lo ≤ grp k g ∧ grp k g < hi := by
  unfold keysIn
  rw [List.mem_filter, (keySort_perm g (tbK M)).mem_iff]
  simp
theorem keysIn_sorted (g lo hi : Int) (M : Tb) : (keysIn g lo hi M).Pairwise (fun x y => keyLe g x y = true) := (keySort_sorted g _).filter _
theorem TbOk.keysIn_nodup {M : Tb} (ok : TbOk M) (g lo hi : Int) : (keysIn g lo hi M).Nodup := ((keySort_perm g (tbK M)).nodup_iff.2 ok.nd).filter _
theorem TbOk.mem_cut {M : Tb} (ok : TbOk M) (L : List Int) (k : Int) : k ∈ tbK (tcut M L) ↔ k ∈ tbK M ∧ ¬ k ∈ L := by
  rw [(ok.cut L).iff, ok.get_cut, ok.iff]
  by_cases h : k ∈ L
  · simp [h]
  · simp [h]
theorem TbOk.cut_len {M : Tb} (ok : TbOk M) : ∀ {L : List Int}, L.Nodup → (∀ k ∈ L, k ∈ tbK M) → (tcut M L).length + L.length = M.length := by
  intro L
  induction L generalizing M with
  | nil => intro _ _; rfl
  | cons j L ih =>
    intro hn hm
    rw [List.nodup_cons] at hn
    have h1 := ih (ok.del j) hn.2 (fun k hk => by
      rw [tbK_del]
      exact (List.mem_erase_of_ne (fun e => hn.1 (by rw [← e]; exact hk))).2 (hm k (by simp [hk])))
    have h2 := congrArg List.length (tbK_del M j)
    have h3 := hm j (by simp)
    rw [tbK_len, List.length_erase_of_mem h3, tbK_len] at h2
    have h4 : 0 < M.length := by rw [← tbK_len]; exact List.length_pos_of_mem h3
    show (tcut (tdel M j) L).length + (L.length + 1) = M.length
    omega
/-- Cut in two pieces. -/
theorem TbOk.keys_two {M : Tb} (ok : TbOk M) (g : Int) {lo mid hi : Int} (h1 : lo ≤ mid) (h2 : mid ≤ hi) : keysIn g lo hi M = keysIn g lo mid M ++ keysIn g mid hi (tcut M (keysIn g lo mid M)) := by
  refine sorted_ext (keysIn_sorted g lo hi M) ?_ (ok.keysIn_nodup g lo hi) ?_ fun k => ?_
  · rw [List.pairwise_append]
    refine ⟨keysIn_sorted .., keysIn_sorted .., fun x hx y hy => ?_⟩
    rw [mem_keysIn] at hx hy
    rw [keyLe_iff]; omega
  · rw [List.nodup_append]
    refine ⟨ok.keysIn_nodup .., (ok.cut _).keysIn_nodup .., fun x hx y hy e => ?_⟩
    rw [mem_keysIn] at hx hy
    subst e; omega
  · rw [List.mem_append, mem_keysIn, mem_keysIn, mem_keysIn, ok.mem_cut, mem_keysIn]
    constructor
    · rintro ⟨a, b, c⟩
      by_cases h : grp k g < mid
      · exact .inl ⟨a, b, h⟩
      · exact .inr ⟨⟨a, fun h' => h h'.2.2⟩, by omega, c⟩
    · rintro (⟨a, b, c⟩ | ⟨⟨a, _⟩, b, c⟩)
      · exact ⟨a, b, by omega⟩
      · exact ⟨a, by omega, c⟩
theorem rowK_append (M : Tb) (K L : List Int) : rowK M (K ++ L) = rowK M K ++ rowK M L := List.map_append ..
theorem TbOk.rows_two {M : Tb} (ok : TbOk M) (g : Int) {lo mid hi : Int} (h1 : lo ≤ mid) (h2 : mid ≤ hi) : rowK M (keysIn g lo hi M) = rowK M (keysIn g lo mid M) ++ rowK (tcut M (keysIn g lo mid M)) (keysIn g mid hi (tcut M (keysIn g lo mid M))) := by
  rw [ok.keys_two g h1 h2, rowK_append]
  congr 1
  refine List.map_congr_left fun k hk => ?_
  rw [mem_keysIn, ok.mem_cut] at hk
  rw [ok.get_cut, if_neg hk.1.2]
theorem TbOk.cut_two {M : Tb} (ok : TbOk M) (g : Int) {lo mid hi : Int} (h1 : lo ≤ mid) (h2 : mid ≤ hi) : rowsOf g (tcut M (keysIn g lo hi M)) = rowsOf g (tcut (tcut M (keysIn g lo mid M)) (keysIn g mid hi (tcut M (keysIn g lo mid M)))) := by
  refine rows_ext (ok.cut _) ((ok.cut _).cut _) fun k => ?_
  rw [ok.get_cut, (ok.cut _).get_cut, ok.get_cut, ok.keys_two g h1 h2]
  by_cases a : k ∈ keysIn g lo mid M <;> by_cases b : k ∈ keysIn g mid hi (tcut M (keysIn g lo mid M)) <;> simp [a, b]
theorem rowK_wf {M : Tb} (ok : TbOk M) {L : List Int} (hL : ∀ k ∈ L, k ∈ tbK M) : ∀ r ∈ rowK M L, (Lit.int .i64 r.1).wf = true := fun r hr => by
  obtain ⟨k, hk, rfl⟩ := List.mem_map.1 hr
  exact ok.wf k (hL k hk)
theorem keysIn_sub (g lo hi : Int) (M : Tb) : ∀ k ∈ keysIn g lo hi M, k ∈ tbK M := fun k hk => (mem_keysIn.1 hk).1
/-- What was cut out, laid into a new table. -/
theorem TbOk.get_moved {M : Tb} (ok : TbOk M) {L : List Int} (hL : ∀ k ∈ L, k ∈ tbK M) (k : Int) : tgt (tlay [] (rowK M L)) k = if k ∈ L then tgt M k else (0, 0) := by
  rw [TbOk.nil.get_lay (rowK_wf ok hL), lastOf_rowK]
  split <;> rfl
/-- .. and laid back. -/
theorem TbOk.back {M : Tb} (ok : TbOk M) (g lo hi : Int) (h0 : 1 ≤ g) (h1 : g ≤ 64) : ∀ C, C = tlay [] (rowK M (keysIn g lo hi M)) →
    TbOk C ∧ (tcut C (keysIn g 0 g C)).length = 0 ∧ rowsOf g (tlay (tcut M (keysIn g lo hi M)) (rowK C (keysIn g 0 g C))) = rowsOf g M := by
  intro C hC
  have okC : TbOk C := by rw [hC]; exact TbOk.nil.lay (rowK_wf ok (keysIn_sub _ _ _ _))
  have gC : ∀ k, tgt C k = if k ∈ keysIn g lo hi M then tgt M k else (0, 0) := fun k => by rw [hC]; exact ok.get_moved (keysIn_sub _ _ _ _) k
  have hall : ∀ k, k ∈ keysIn g 0 g C ↔ k ∈ tbK C := fun k => by
    have := grp_lt k g
    rw [mem_keysIn]
    exact ⟨fun h => h.1, fun h => ⟨h, this.1, this.2.2 h0 h1⟩⟩
  refine ⟨okC, ?_, ?_⟩
  · rw [← tbK_len]
    refine List.length_eq_zero_iff.2 (List.eq_nil_iff_forall_not_mem.2 fun k hk => ?_)
    rw [okC.mem_cut, hall] at hk
    exact hk.2 hk.1
  · refine rows_ext ((ok.cut _).lay (rowK_wf okC (keysIn_sub _ _ _ _))) ok fun k => ?_
    rw [(ok.cut _).get_lay (rowK_wf okC (keysIn_sub _ _ _ _)), lastOf_rowK, ok.get_cut]
    have h2 := okC.iff k
    have h3 := gC k
    by_cases a : k ∈ keysIn g lo hi M
    · rw [if_pos a] at h3
      have hM := (ok.iff k).1 (keysIn_sub _ _ _ _ k a)
      rw [if_pos ((hall k).2 (h2.2 (by rw [h3]; exact hM))), h3]; rfl
    · rw [if_neg a] at h3
      rw [if_neg (fun h => h2.1 ((hall k).1 h) h3), if_neg a]; rfl
end Go.Ox
