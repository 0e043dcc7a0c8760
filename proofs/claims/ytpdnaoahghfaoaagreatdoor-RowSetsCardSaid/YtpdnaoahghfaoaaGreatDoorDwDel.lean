/- slices.Delete of one element of several cells: the library's own text. -/
import Derived.Test.YtpdnaoahghfaoaaGreatDoorDwIns
import Derived.Deep.LoopGhost
import Derived.Lib.SlicesDelete
set_option linter.unusedSimpArgs false
set_option linter.unusedVariables false
set_option linter.unusedVariables false
set_option linter.unusedSimpArgs false
namespace Go.Proofs.DwT
open Go Go.Lib Go.RowKit Go.Shelf Go.Proofs.DeT

set_option maxHeartbeats 4000000 in
set_option maxRecDepth 1000000 in
theorem del_one (b off n c i j : Nat) (hj : j = i + 1) (cs : List Value) (w : World) (hi : i < n) (hnc : n ≤ c) (hc63 : c ≤ 9223372036854775807)
    (hcl : cs.length = n * 5) (hcs : ∀ j v, cs[j]? = some v → w.cell? ⟨b, off + j, none⟩ = some v) (hfz : ∀ j, j < n * 5 → w.frozen? ⟨b, off + j, none⟩ = false) (h1c : ∀ v ∈ cs, v.oneCell' = true) :
    Calls Tryz.prog 79 #[.slice (some ⟨b, off, none⟩) n c, .int .i64 i, .int .i64 j] w fun e w' =>
      ∃ Z : Array Value, Z.size = 5 ∧ e = .returned (.slice (some ⟨b, off, none⟩) (n - 1) c) ∧ w' = (w.drew.setCells b (off + i * 5) (cs.drop ((i + 1) * 5))).setCells b (off + (n - 1) * 5) (Builtin.zeroCells Z 1).toList := by
  obtain ⟨i0, z, hi0, hz0, hzc, hzs, hzb⟩ := insInfo
  have ht := Tryz.underlying24
  have u24 := run_underlying ht
  have mixed := dmx
  obtain ⟨news, hnews⟩ : ∃ news, news = cs.drop (j * 5) := ⟨_, rfl⟩
  have hlen : news.length = (n - j) * 5 := by rw [hnews, List.length_drop, hcl]; omega
  obtain ⟨A, hA, hsrc⟩ : ∃ A : Addr, (if c = j then some (⟨b, off, none⟩ : Addr) else some ⟨b, off + j * 5, none⟩) = some A ∧ (∀ t u, news[t]? = some u → w.drew.cell? (A.add t) = some u) := by
    by_cases h : c = j
    · refine ⟨⟨b, off, none⟩, by simp [h], fun t u hu => ?_⟩
      have h0 : news.length = 0 := by rw [hlen]; omega
      rw [List.length_eq_zero_iff.1 h0] at hu
      simp at hu
    · refine ⟨⟨b, off + j * 5, none⟩, by simp [h], fun t u hu => ?_⟩
      rw [hnews, List.getElem?_drop] at hu
      rw [Addr.add_lit, Nat.add_assoc]
      exact hcs _ u hu
  have s1 : news.length = (n - j) * i0.size := by rw [hzs]; exact hlen
  have s2 : ∀ u ∈ news, u.oneCell' = true := fun u hu => h1c u (by rw [hnews] at hu; exact List.mem_of_mem_drop hu)
  have hsome : ∀ j, j < n * 5 → (w.cell? ⟨b, off + j, none⟩).isSome = true := fun j hj => by rw [hcs j _ (List.getElem?_eq_getElem (by omega))]; rfl
  have s3 : ∀ t, t < news.length → (w.drew.cell? ⟨b, off + i * 5 + t, none⟩).isSome = true ∧ w.drew.frozen? ⟨b, off + i * 5 + t, none⟩ = false := by
    intro t ht
    rw [hlen] at ht
    rw [Nat.add_assoc]
    exact ⟨hsome _ (by omega), hfz _ (by omega)⟩
  obtain ⟨W1, hW1⟩ : ∃ W1, W1 = w.drew.setCells b (off + i * 5) news := ⟨_, rfl⟩
  have hsome1 : ∀ j, j < n * 5 → (W1.cell? ⟨b, off + j, none⟩).isSome = true := fun j hj => by
    rw [hW1]
    exact isSome_setCells b _ _ _ (fun t ht => (s3 t ht).1) _ (hsome j hj)
  have hfz1 : ∀ j, j < n * 5 → W1.frozen? ⟨b, off + j, none⟩ = false := fun j hj => by rw [hW1, World.frozen?_setCells]; exact hfz j hj
  have hv : ∀ w, (zeroValue 71).run Tryz.prog w = .ok z w := fun w => by simp [zeroValue, typeInfo, hi0, hz0]
  have h1z : ∀ v ∈ z.cells.toList, v.oneCell' = true := by
    have h : ∃ z', Tryz.prog.info? 71 = some i0 ∧ i0.zero = some z' ∧ z'.cells.toList.all Value.oneCell' = true := by
      have h : ((Tryz.prog.info? 71).bind fun i => i.zero.map fun z => z.cells.toList.all Value.oneCell') = some true := by kernel_rfl
      rw [hi0] at h
      simp only [Option.bind_some, hz0, Option.map_some, Option.some.injEq] at h
      exact ⟨z, hi0, hz0, h⟩
    obtain ⟨z', _, h2, h3⟩ := h
    rw [hz0] at h2
    cases h2
    exact List.all_eq_true.1 h3
  have hcl' : ∀ ty, (Builtin.clear_ #[24] ty #[.slice (some ⟨b, off + (n - 1) * 5, none⟩) 1 (c - (n - 1))]).run Tryz.prog W1 = .ok (.tuple #[]) (W1.setCells b (off + (n - 1) * 5) (Builtin.zeroCells z.cells 1).toList) :=
    fun ty => Lib.run_clear_wide W1 _ _ ty z 5 (by omega) ht hv hzc h1z b (off + (n - 1) * 5) 1 _ (by omega) (fun t ht => by rw [Nat.add_assoc]; exact hsome1 _ (by omega)) (fun t ht => by rw [Nat.add_assoc]; exact hfz1 _ (by omega))
  have hic : i ≤ c := by omega
  have hjc : j ≤ c := by omega
  have hne : ¬ ((i : Int) = (j : Int)) := by omega
  have hij : i ≤ j := by omega
  have hjn : j ≤ n := by omega
  have hfin : news = cs.drop ((i + 1) * 5) := by rw [hnews, hj]
  have hlen2 : i + (n - j) = n - 1 := by omega
  have hsub : n - (n - 1) = 1 := by omega
  have hci : ¬ (c = n - 1) := by omega
  clear hnews hj hcs hsome hsome1 hfz hfz1
  generalize z.cells = Z at *
  refine Calls.mono (R := fun e w' => e = .returned (.slice (some ⟨b, off, none⟩) (n - 1) c) ∧ w' = W1.setCells b (off + (n - 1) * 5) (Builtin.zeroCells Z 1).toList) ?_ fun e w' ⟨h1, h2⟩ => ⟨Z, hzc, h1, by rw [h2, hW1, hfin]⟩
  have hW : Hid (W1 = w.drew.setCells b (off + i * 5) news) := hW1
  clear hW1 hfin
  go_enter Tryz.func79, Tryz.ntmps79
  go_wp2_with fail
  go_region_law_o (refine step_append_room rfl (.tmp 22) (.tmp 25) 24 rfl 71 i0 5 ht hi0 hzs b off i c (by simp [Act.eval, Act.put]) A (n - j) (c - j) news (by simp [Act.eval, Act.put]) hlen hsrc s2 (by omega) s3 ?_; rw [← hW.out])
  go_wp2
  go_ret
  exact ⟨rfl, rfl⟩
end Go.Proofs.DwT
