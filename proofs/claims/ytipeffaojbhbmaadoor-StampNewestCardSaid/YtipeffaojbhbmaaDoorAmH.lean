/- An abstract machine over Go's operations: append, copy, clear are sound. -/
import Derived.Test.YtipeffaojbhbmaaDoorAmG
set_option linter.unusedSimpArgs false
set_option linter.unusedVariables false
namespace Go.AM
open Go

theorem Sim.heap {φ H} {w w1 : World} (hs : Sim φ H w) (h : w1.heap = w.heap) : Sim φ H w1 :=
  ⟨fun i b hg => by obtain ⟨c, e, fr, hB, r⟩ := hs.cov i b hg; exact ⟨c, e, fr, by rw [h]; exact hB, r⟩, hs.apart, hs.par, hs.parlt⟩

theorem Step.draw {base φ H w} {w1 : World} (hs : Sim φ H w) (h : w1.heap = w.heap) (ho : w1.os = w.os) (ht : w1.tape = w.tape) (hu : w1.output = w.output) : Step base φ H w φ H w1 :=
  ⟨Nat.le_refl _, fun _ _ => rfl, by rw [h]; exact Nat.le_refl _, ho, ht, hu, fun _ _ _ => by rw [h], fun h b' _ hb => ⟨b', hb, id⟩, fun h b hb hg hr => .inr ⟨h, b, hb, hg, hr, rfl⟩, hs.heap h⟩

theorem run_first {P : Program} {φ H w} (hs : Sim φ H w) {sz n m : Nat} {x x' : Value} {new : List Value} (h : firstA H sz n x = some new) (hx : VRel H.length φ x x') (hl : lenA x = some m) (hn : n ≤ m) :
    ∃ new', LRel H.length φ new new' ∧ (Builtin.firstCells sz n x').run P w = .ok new'.toArray w := by
  cases hx <;> simp only [firstA] at h <;> try (cases h; done)
  case slNil => cases h; exact ⟨[], .nil, rfl⟩
  case string s =>
    cases h
    refine ⟨_, .of_scalar (fun v hv => ?_), ?_⟩
    · simp only [List.mem_map] at hv
      obtain ⟨b, _, rfl⟩ := hv
      rfl
    · simp only [Builtin.firstCells, Sem.run_pure]
      congr 1
      apply Array.ext'
      simp
  case sl hd o l mm c hh hl' hm hf =>
    split at h
    · rename_i h0
      cases h
      exact ⟨[], .nil, by simp [Builtin.firstCells, loadCells, loadCellsFrom, h0]⟩
    obtain ⟨cs', hrel, _, _, hrun⟩ := run_read (P := P) hs h
    exact ⟨cs', hrel, by simpa [Builtin.firstCells] using hrun⟩
  case slEmp _ _ b hhn =>
    simp only [lenA, Option.some.injEq] at hl
    have : n = 0 := by omega
    subst this
    simp at h
    subst h
    exact ⟨[], .nil, by simp [Builtin.firstCells, loadCells, loadCellsFrom]⟩
  case slFree b =>
    simp only [lenA, Option.some.injEq] at hl
    have : n = 0 := by omega
    subst this
    simp at h
    subst h
    exact ⟨[], .nil, by simp [Builtin.firstCells, loadCells, loadCellsFrom]⟩

theorem run_lenOf {P : Program} {n φ x x' m} (h : lenA x = some m) (hx : VRel n φ x x') (w : World) : (Builtin.lenOf x').run P w = .ok m w := by
  cases hx <;> simp only [lenA] at h <;> try (cases h; done)
  all_goals cases h; rfl

/-- A block is written no more. -/
theorem step_ro {base φ H w} (hs : Sim φ H w) {h : Nat} {b : Blk} (hg : hget H h = some b) : Step base φ H w φ (hset H h (some { b with rw := false })) w := by
  have hlt := hget_lt hg
  have back : ∀ i c, hget (hset H h (some { b with rw := false })) i = some c → ∃ c0, hget H i = some c0 ∧ (c.rw = true → c0.rw = true ∧ i ≠ h) ∧ c0.cells = c.cells ∧ c0.sz = c.sz ∧ c0.lo = c.lo ∧ c0.par = c.par ∧ (i ≠ h → c0 = c) ∧ (c0.rw = false → c.rw = false) := by
    intro i c hi
    by_cases he : i = h
    · subst he
      rw [hget_set_eq hlt] at hi
      cases hi
      exact ⟨b, hg, (fun h => by cases h), rfl, rfl, rfl, rfl, (fun h => absurd rfl h), fun _ => rfl⟩
    · rw [hget_set_ne (Ne.symm he)] at hi
      exact ⟨c, hi, fun h => ⟨h, he⟩, rfl, rfl, rfl, rfl, fun _ => rfl, id⟩
  refine ⟨by simp [length_hset], fun _ _ => rfl, Nat.le_refl _, rfl, rfl, rfl, fun _ _ _ => rfl, ?_, ?_, ?_, ?_, ?_, ?_⟩
  · intro i c _ hi
    obtain ⟨c0, k0, k1, _⟩ := back i c hi
    exact ⟨c0, k0, fun hr => (k1 hr).1⟩
  · intro i c hb hi hr
    obtain ⟨c0, k0, k1, _⟩ := back i c hi
    exact .inr ⟨i, c0, hb, k0, (k1 hr).1, rfl⟩
  · intro i c hi
    obtain ⟨c0, k0, k1, k2, k3, k4, k5, k6, _⟩ := back i c hi
    obtain ⟨d, e, fr, hB, g1, g2, g3, g4, g5, g6⟩ := hs.cov i c0 k0
    rw [length_hset]
    exact ⟨d, e, fr, hB, k2 ▸ g1, g2, g3.trans k3, k2 ▸ g4, fun hr => g5 (k1 hr).1, by rw [← k4, ← k2]; exact g6⟩
  · intro i j c d hne hi hj hr
    obtain ⟨c0, k0, k1, k2, k3, k4, k5, k6, _⟩ := back i c hi
    obtain ⟨d0, l0, l1, l2, l3, l4, l5, l6, l7⟩ := back j d hj
    have := hs.apart i j c0 d0 hne k0 l0 (k1 hr).1
    obtain rfl := k6 (k1 hr).2
    have hle : rEnd (φ j) d ≤ rEnd (φ j) d0 := by
      obtain ⟨_, _, _, _, q1, _⟩ := hs.cov j d0 l0
      unfold rEnd
      rw [l2] at q1 ⊢
      cases hd : d.rw with
      | true => rw [(l1 hd).1]; exact Nat.le_refl _
      | false => simp only [Bool.false_eq_true, if_false]; split <;> omega
    omega
  · intro i c p d hi hp hj
    obtain ⟨c0, k0, k1, k2, k3, k4, k5, k6, _⟩ := back i c hi
    obtain ⟨d0, l0, l1, l2, l3, l4, l5, l6, l7⟩ := back p d hj
    exact l7 (hs.par i c0 p d0 k0 (k5 ▸ hp) l0)
  · intro i c p hi hp
    obtain ⟨c0, k0, k1, k2, k3, k4, k5, k6, _⟩ := back i c hi
    rw [length_hset]
    exact hs.parlt i c0 p k0 (k5 ▸ hp)

/-- A block goes on under a new number; the old one may be read on. -/
theorem step_fork {base φ H w} (hs : Sim φ H w) {h : Nat} {b : Blk} (hg : hget H h = some b) (hrw : b.rw = true) (hbase : base ≤ h) {o fin : Nat} (ho : o ≤ b.cells.length) (hf : fin ≤ (φ h).fin) (hf2 : (φ h).base + b.cells.length ≤ fin) :
    Step base φ H w (extP φ H.length ⟨(φ h).B, (φ h).base + o, fin, b.sz⟩) (newB (hset H h (some { b with rw := false })) ⟨b.cells.drop o, b.sz, true, b.cells.length - o, h :: b.par⟩) w := by
  have hlt := hget_lt hg
  have st := step_ro (base := base) hs hg
  have hl : (hset H h (some { b with rw := false })).length = H.length := length_hset
  have hlen : (newB (hset H h (some { b with rw := false })) ⟨b.cells.drop o, b.sz, true, b.cells.length - o, h :: b.par⟩).length = H.length + 1 := by simp [newB, length_hset]
  have hk : ∀ i, i < H.length → extP φ H.length ⟨(φ h).B, (φ h).base + o, fin, b.sz⟩ i = φ i := fun i hi => extP_lt hi
  have hold : ∀ i c, i < H.length → hget (newB (hset H h (some { b with rw := false })) ⟨b.cells.drop o, b.sz, true, b.cells.length - o, h :: b.par⟩) i = some c → hget (hset H h (some { b with rw := false })) i = some c := fun i c hi hg' => by
    rwa [newB, hget_new_old (by rw [hl]; exact hi)] at hg'
  have hnew : hget (newB (hset H h (some { b with rw := false })) ⟨b.cells.drop o, b.sz, true, b.cells.length - o, h :: b.par⟩) H.length = some ⟨b.cells.drop o, b.sz, true, b.cells.length - o, h :: b.par⟩ := by
    have := hget_new_at (H := hset H h (some { b with rw := false })) (b := some ⟨b.cells.drop o, b.sz, true, b.cells.length - o, h :: b.par⟩)
    rw [hl] at this
    exact this
  have hroh : hget (hset H h (some { b with rw := false })) h = some { b with rw := false } := hget_set_eq hlt
  obtain ⟨c, e, fr, hB, g1, g2, g3, g4, g5, g6⟩ := hs.cov h b hg
  have s2 : Step base φ (hset H h (some { b with rw := false })) w (extP φ H.length ⟨(φ h).B, (φ h).base + o, fin, b.sz⟩) (newB (hset H h (some { b with rw := false })) ⟨b.cells.drop o, b.sz, true, b.cells.length - o, h :: b.par⟩) w → Step base φ H w (extP φ H.length ⟨(φ h).B, (φ h).base + o, fin, b.sz⟩) (newB (hset H h (some { b with rw := false })) ⟨b.cells.drop o, b.sz, true, b.cells.length - o, h :: b.par⟩) w := fun s => st.trans s
  refine ⟨by omega, hk, Nat.le_refl _, rfl, rfl, rfl, fun _ _ _ => rfl, ?_, ?_, ?_, ?_, ?_, ?_⟩
  · intro i c hi hg'
    exact st.old i c hi (hold i c hi hg')
  · intro i c hi hg' hr
    have hlt' := hget_lt hg'
    rw [hlen] at hlt'
    rcases Nat.lt_or_ge i H.length with h1 | h1
    · rw [hk i h1]; exact st.later i c hi (hold i c h1 hg') hr
    · have : i = H.length := by omega
      subst this
      rw [extP_eq]
      exact .inr ⟨h, b, hbase, hg, hrw, rfl⟩
  · intro i d hg'
    have hlt' := hget_lt hg'
    rw [hlen] at hlt' ⊢
    rcases Nat.lt_or_ge i H.length with h1 | h1
    · obtain ⟨c', e', fr', hB', k1, k2, k3, k4, k5⟩ := st.sim.cov i d (hold i d h1 hg')
      rw [hk i h1]
      exact ⟨c', e', fr', hB', k1, k2, k3, fun j v hv => let ⟨v', hv', hr⟩ := k4 j v hv; ⟨v', hv', hr.mono (by rw [hl]; omega) (by rw [hl]; exact hk)⟩, k5⟩
    · have : i = H.length := by omega
      subst this
      rw [hnew] at hg'
      cases hg'
      rw [extP_eq]
      refine ⟨c, e, fr, hB, by simp; omega, by simp; omega, rfl, fun j v hv => ?_, fun _ j h1 h2 => g5 hrw j (by simp at h1; omega) (by simp at h2; omega), by simp⟩
      rw [List.getElem?_drop] at hv
      obtain ⟨v', hv', hr⟩ := g4 (o + j) v hv
      exact ⟨v', by simpa [Nat.add_assoc] using hv', hr.mono (by omega) hk⟩
  · intro i j c d hne h1 h2 hr
    have l1 := hget_lt h1
    have l2 := hget_lt h2
    rw [hlen] at l1 l2
    rcases Nat.lt_or_ge i H.length with a1 | a1 <;> rcases Nat.lt_or_ge j H.length with a2 | a2
    · rw [hk i a1, hk j a2]
      exact st.sim.apart i j c d hne (hold i c a1 h1) (hold j d a2 h2) hr
    · have : j = H.length := by omega
      subst this
      have hi := hold i c a1 h1
      rw [hnew] at h2
      cases h2
      rw [hk i a1, extP_eq]
      have hih : i ≠ h := by
        intro he
        subst he
        rw [hroh] at hi
        cases hi
        cases hr
      have hi0 : hget H i = some c := by rwa [hget_set_ne (Ne.symm hih)] at hi
      have := hs.apart i h c b hih hi0 hg hr
      have hnp : h ∉ c.par := fun hm => by
        have := hs.par i c h b hi0 hm hg
        rw [hrw] at this
        cases this
      have hnp2 : H.length ∉ c.par := fun hm => absurd (hs.parlt i c _ hi0 hm) (Nat.lt_irrefl _)
      have w1 : wBeg (φ i) c h = (φ i).base := by unfold wBeg; simp [hnp]
      have w2 : wBeg (φ i) c H.length = (φ i).base := by unfold wBeg; simp [hnp2]
      have r1 : rEnd (φ h) b = (φ h).fin := by unfold rEnd; simp [hrw]
      rw [w2]
      rw [w1, r1] at this
      simp only [rEnd, if_true]
      omega
    · have : i = H.length := by omega
      subst this
      have hj := hold j d a2 h2
      rw [hnew] at h1
      cases h1
      rw [hk j a2, extP_eq]
      by_cases hjh : j = h
      · subst hjh
        rw [hroh] at hj
        cases hj
        right; right
        simp only [rEnd, wBeg, List.mem_cons, true_or, if_true, Bool.false_eq_true, if_false]
        omega
      · have hj0 : hget H j = some d := by rwa [hget_set_ne (Ne.symm hjh)] at hj
        have := hs.apart h j b d (Ne.symm hjh) hg hj0 hrw
        by_cases hjp : j ∈ b.par
        · have w1 : wBeg (φ h) b j = (φ h).base + b.lo := by unfold wBeg; simp [hjp]
          rw [w1] at this
          simp only [wBeg, List.mem_cons, hjp, or_true, if_true]
          omega
        · have w1 : wBeg (φ h) b j = (φ h).base := by unfold wBeg; simp [hjp]
          rw [w1] at this
          simp only [wBeg, List.mem_cons, hjp, hjh, or_self, if_false]
          omega
    · omega
  · intro i c p d hi hp hj
    have l1 := hget_lt hi
    rw [hlen] at l1
    rcases Nat.lt_or_ge i H.length with a1 | a1
    · have hi' := hold i c a1 hi
      have hpl := st.sim.parlt i c p hi' hp
      rw [hl] at hpl
      exact st.sim.par i c p d hi' hp (hold p d hpl hj)
    · have : i = H.length := by omega
      subst this
      rw [hnew] at hi
      cases hi
      rcases List.mem_cons.1 hp with rfl | hp
      · have hj' := hold _ d hlt hj
        rw [hroh] at hj'
        cases hj'
        rfl
      · have hpl := hs.parlt h b p hg hp
        have hj' := hold p d hpl hj
        have hb' : (({ b with rw := false } : Blk)).par = b.par := rfl
        exact st.sim.par h { b with rw := false } p d hroh (by rw [hb']; exact hp) hj'
  · intro i c p hi hp
    have l1 := hget_lt hi
    rw [hlen] at l1 ⊢
    rcases Nat.lt_or_ge i H.length with a1 | a1
    · have := st.sim.parlt i c p (hold i c a1 hi) hp
      rw [hl] at this
      omega
    · have : i = H.length := by omega
      subst this
      rw [hnew] at hi
      cases hi
      rcases List.mem_cons.1 hp with rfl | hp
      · omega
      · have := hs.parlt h b p hg hp
        omega

/-- One cell more, behind the last, where there is room. -/
theorem step_grow {base φ H w} (hs : Sim φ H w) {h : Nat} {b : Blk} (hg : hget H h = some b) (hrw : b.rw = true) (hbase : base ≤ h) (ho : (φ h).base + b.cells.length < (φ h).fin) {v v' : Value} (hv : VRel H.length φ v v') :
    (∃ u, w.cell? ⟨(φ h).B, (φ h).base + b.cells.length, none⟩ = some u) ∧ w.frozen? ⟨(φ h).B, (φ h).base + b.cells.length, none⟩ = false ∧
      Step base φ H w φ (hset H h (some { b with cells := b.cells ++ [v] })) (w.setCell ⟨(φ h).B, (φ h).base + b.cells.length, none⟩ v') := by
  obtain ⟨c, e, fr, hB, g1, g2, g3, g4, g5, g6⟩ := hs.cov h b hg
  have hlt := hget_lt hg
  have hcs : (φ h).base + b.cells.length < c.size := by omega
  have hnew : (w.setCell ⟨(φ h).B, (φ h).base + b.cells.length, none⟩ v').heap[(φ h).B]? = some (.cells (c.setIfInBounds ((φ h).base + b.cells.length) v') e fr) := by
    simp [World.setCell, Array.getElem?_modify, hB]
  have hoth : ∀ k, k ≠ (φ h).B → (w.setCell ⟨(φ h).B, (φ h).base + b.cells.length, none⟩ v').heap[k]? = w.heap[k]? := fun k hk => heap_setCell_other w _ k v' hk
  refine ⟨⟨_, by rw [cell_of_row w _ _ c e fr hB]; exact Array.getElem?_eq_getElem hcs⟩, ?_, ?_⟩
  · have := g5 hrw ((φ h).base + b.cells.length) (by omega) (by omega)
    simp only [World.frozen?, hB]
    simp only [Bool.and_eq_false_imp, decide_eq_true_eq, decide_eq_false_iff_not]
    omega
  · have back : ∀ h' b', hget (hset H h (some { b with cells := b.cells ++ [v] })) h' = some b' → ∃ b0, hget H h' = some b0 ∧ b0.rw = b'.rw ∧ b0.lo = b'.lo ∧ b0.par = b'.par ∧ rEnd (φ h') b0 = rEnd (φ h') b' := by
      intro h' b' hg'
      by_cases he : h' = h
      · subst he
        rw [hget_set_eq hlt] at hg'
        cases hg'
        exact ⟨b, hg, rfl, rfl, rfl, by unfold rEnd; simp [hrw]⟩
      · rw [hget_set_ne (Ne.symm he)] at hg'
        exact ⟨b', hg', rfl, rfl, rfl, rfl⟩
    refine ⟨by simp [length_hset], fun _ _ => rfl, by simp [World.setCell], rfl, rfl, rfl, ?_, ?_, ?_, ?_, ?_, ?_, ?_⟩
    · intro k hk hn
      exact hoth k fun e => hn h b hbase hg hrw e.symm
    · intro h' b' hh' hg'
      obtain ⟨b0, k0, k1, _⟩ := back h' b' hg'
      exact ⟨b0, k0, fun hr => k1.trans hr⟩
    · intro h' b' hb' hg' hr'
      obtain ⟨b0, k0, k1, _⟩ := back h' b' hg'
      exact .inr ⟨h', b0, hb', k0, k1.trans hr', rfl⟩
    · intro h' b' hg'
      rw [length_hset]
      by_cases he : h' = h
      · subst he
        rw [hget_set_eq hlt] at hg'
        cases hg'
        refine ⟨_, e, fr, hnew, by simp; omega, by simpa using g2, g3, fun i u hu => ?_, g5, by simp; omega⟩
        rcases Nat.lt_trichotomy i b.cells.length with hi | hi | hi
        · simp only [List.getElem?_append_left hi] at hu
          obtain ⟨u', hu', hrel⟩ := g4 i u hu
          exact ⟨u', by rw [Array.getElem?_setIfInBounds_ne (by omega)]; exact hu', hrel⟩
        · subst hi
          simp at hu
          subst hu
          exact ⟨v', by simp [hcs], hv⟩
        · rw [List.getElem?_eq_none (by simp; omega)] at hu
          cases hu
      · rw [hget_set_ne (Ne.symm he)] at hg'
        obtain ⟨c', e', fr', hB', k1, k2, k3, k4, k5, k6⟩ := hs.cov h' b' hg'
        by_cases hBB : (φ h').B = (φ h).B
        · rw [hBB, hB] at hB'
          cases hB'
          refine ⟨_, e, fr, by rw [hBB]; exact hnew, k1, by simpa using k2, k3, fun i u hu => ?_, k5, k6⟩
          obtain ⟨u', hu', hrel⟩ := k4 i u hu
          refine ⟨u', ?_, hrel⟩
          have hi := (List.getElem?_eq_some_iff.1 hu).1
          have := hs.apart h h' b b' (Ne.symm he) hg hg' hrw
          have q1 := @wBeg_le (φ h) b h'
          have q2 := le_rEnd k1
          rw [Array.getElem?_setIfInBounds_ne (by omega)]
          exact hu'
        · exact ⟨c', e', fr', by rw [hoth _ hBB]; exact hB', k1, k2, k3, k4, k5, k6⟩
    · intro h1 h2 b1 b2 hne k1 k2 kr
      obtain ⟨b1', k1', e1, e1l, e1p, _⟩ := back h1 b1 k1
      obtain ⟨b2', k2', e2, e2l, e2p, e2r⟩ := back h2 b2 k2
      have := hs.apart h1 h2 b1' b2' hne k1' k2' (e1.trans kr)
      rw [e2r] at this
      unfold wBeg at this ⊢
      rw [e1l, e1p] at this
      exact this
    · intro h1 b1 p b' k1 hp k2
      obtain ⟨b1', k1', e1, e1l, e1p, _⟩ := back h1 b1 k1
      obtain ⟨b2', k2', e2, _⟩ := back p b' k2
      rw [← e2]
      exact hs.par h1 b1' p b2' k1' (e1p ▸ hp) k2'
    · intro h1 b1 p k1 hp
      obtain ⟨b1', k1', e1, e1l, e1p, _⟩ := back h1 b1 k1
      rw [length_hset]
      exact hs.parlt h1 b1' p k1' (e1p ▸ hp)

theorem hset_same {H : Heap} {h : Nat} {b : Blk} (hg : hget H h = some b) : hset H h (some b) = H := by
  have hlt := hget_lt hg
  apply List.ext_getElem?
  intro k
  simp only [hset, List.getElem?_set]
  split
  · rename_i hk; subst hk
    simp only [hget] at hg
    rw [List.getElem?_eq_getElem hlt] at hg ⊢
    simp at hg
    simp [hlt, hg]
  · rfl

theorem run_growAux {P : Program} {base φ} {h : Nat} {a : Addr} : ∀ (vs vs' : List Value) (i : Nat) {H w} (_ : Sim φ H w) {b : Blk} (_ : hget H h = some b) (_ : b.rw = true) (_ : base ≤ h)
    (_ : a = ⟨(φ h).B, a.off, none⟩) (_ : a.off + i = (φ h).base + b.cells.length) (_ : (φ h).base + b.cells.length + vs.length ≤ (φ h).fin) (_ : vs.all Value.oneCell' = true) (_ : LRel H.length φ vs vs'),
    ∃ w', (storeCells a vs' i).run P w = .ok () w' ∧ Step base φ H w φ (hset H h (some { b with cells := b.cells ++ vs })) w'
  | [], [], i, H, w, hs, b, hg, _, _, _, _, _, _, _ => by
    refine ⟨w, rfl, ?_⟩
    have : hset H h (some { b with cells := b.cells ++ [] }) = H := by simpa using hset_same hg
    rw [this]
    exact .refl hs
  | [], _ :: _, _, _, _, _, _, _, _, _, _, _, _, _, h => by simp [LRel] at h
  | _ :: _, [], _, _, _, _, _, _, _, _, _, _, _, _, h => by simp [LRel] at h
  | v :: vs, v' :: vs', i, H, w, hs, b, hg, hrw, hb, ha, hi, hl, h1, hrel => by
    simp only [List.length_cons] at hl
    simp only [List.all_cons, Bool.and_eq_true] at h1
    have hlt := hget_lt hg
    obtain ⟨⟨u, hu⟩, hfz, st⟩ := step_grow hs hg hrw hb (by omega) hrel.head
    have hg1 : hget (hset H h (some { b with cells := b.cells ++ [v] })) h = some { b with cells := b.cells ++ [v] } := hget_set_eq hlt
    obtain ⟨w', hrun, st'⟩ := run_growAux (P := P) (base := base) (h := h) (a := a) vs vs' (i + 1) st.sim hg1 hrw hb ha (by simp; omega) (by simp; omega) h1.2 (by rw [length_hset]; exact hrel.tail)
    refine ⟨w', ?_, ?_⟩
    · rw [ha] at hrun ⊢
      simp only [storeCells, Sem.run_bind, add_none]
      rw [hi, run_store P w _ v' .plain (by rw [hrel.head.oneCell]; exact h1.1), hu]
      simp only [hfz, Bool.false_eq_true, if_false, Result.andThen]
      exact hrun
    · have := st.trans st'
      rw [hset_hset] at this
      simpa using this

theorem run_append_room {P : Program} {at_ : Array TypeId} {ty : TypeId} {x : Value} {st xt e : TypeId} {a : Option Addr} {len cap n : Nat} {info : TypeInfo} {d : TypeDesc} {w w' : World} {new : List Value}
    (h0 : at_[0]? = some st) (hu : P.underlying st = some (.slice e)) (h1 : at_[1]? = some xt) (hx : P.underlying xt = some d) (hd : (∃ u, d = .slice u) ∨ d = .string)
    (hi : P.info? e = some info) (hn : (Builtin.lenOf x).run P w = .ok n w) (hle : len + n ≤ cap)
    (hf : (Builtin.firstCells info.size n x).run P w = .ok new.toArray w) (hst : ∀ b, a = some b → (storeCells (b.add (len * info.size)) new).run P w = .ok () w') (hnone : a = none → w' = w) :
    (Builtin.append_ at_ ty #[.slice a len cap, x]).run P w = .ok (.slice a (len + n) cap) w' := by
  cases a with
  | none =>
    obtain rfl := hnone rfl
    rcases hd with ⟨u, rfl⟩ | rfl <;>
      simp [Builtin.append_, h0, h1, run_underA hu, run_underA hx, sizeOf, typeInfo, zeroValue, hi, hn, hle, hf]
  | some b =>
    have hst := hst b rfl
    rcases hd with ⟨u, rfl⟩ | rfl <;>
      simp [Builtin.append_, h0, h1, run_underA hu, run_underA hx, sizeOf, typeInfo, zeroValue, hi, hn, hle, hf, hst]

theorem run_append_new {P : Program} {at_ : Array TypeId} {ty : TypeId} {x : Value} {st xt e : TypeId} {a : Option Addr} {len cap n : Nat} {info : TypeInfo} {z : Value} {d : TypeDesc} {w : World} {new old : List Value}
    (h0 : at_[0]? = some st) (hu : P.underlying st = some (.slice e)) (h1 : at_[1]? = some xt) (hx : P.underlying xt = some d) (hd : (∃ u, d = .slice u) ∨ d = .string)
    (hi : P.info? e = some info) (hz : info.zero = some z) (hn : (Builtin.lenOf x).run P w = .ok n w) (hle : cap < len + n) (hb : (len + n) * info.bytes ≤ 2 ^ 47) (hc : len + n < 2 ^ 62)
    (hf : (Builtin.firstCells info.size n x).run P w.drew = .ok new.toArray w.drew) (ho : (Builtin.firstCells info.size len (.slice a len cap)).run P w.drew = .ok old.toArray w.drew) :
    (Builtin.append_ at_ ty #[.slice a len cap, x]).run P w = .ok (.slice (some ⟨w.heap.size, 0, none⟩) (len + n) (grownCap w (len + n) cap e))
      (w.drew.alloc (.cells (old.toArray ++ new.toArray ++ Builtin.zeroCells z.cells (grownCap w (len + n) cap e - (len + n))) e)) := by
  have hle' : ¬ (len + n ≤ cap) := by omega
  have h63 : ¬ (9223372036854775807 < ((len : Int) + (n : Int))) := by omega
  have h48 : ¬ (281474976710656 < Builtin.nextslicecap (len + n) cap * info.bytes) := by
    have := nextslicecap_le hle
    have h2 := Nat.mul_le_mul_right info.bytes this
    have h3 : 2 * (len + n) * info.bytes = 2 * ((len + n) * info.bytes) := Nat.mul_assoc ..
    omega
  rcases hd with ⟨u, rfl⟩ | rfl <;>
    (simp [Builtin.append_, h0, h1, run_underA hu, run_underA hx, sizeOf, typeInfo, zeroValue, hi, hz, hn, hle', h63, h48, Question.forced, hf, ho, newRow, grownCap]
     congr 2
     apply Array.ext'
     simp [List.append_assoc])

theorem readA_len {H : Heap} {a : Addr} {n : Nat} {cs : List Value} (h : readA H a n = some cs) : cs.length = n := by
  unfold readA at h
  split at h
  · cases h
  · split at h
    · split at h
      · cases h; simp; omega
      · cases h
    · cases h

/-- Behind an append that made a new row. -/
theorem sound_grown {P : Program} {base φ H w} (hs : Sim φ H w) {old old' new new' : List Value} {e : TypeId} {info : TypeInfo} {z : Value} {need cap lo : Nat} {par : List Nat} {s : Sem Value}
    (ho : LRel H.length φ old old') (hn : LRel H.length φ new new') (hz : z.cells.size = info.size) (hl : old.length + new.length = need * info.size) (hlo : lo ≤ (old ++ new).length) (hpar : ∀ p ∈ par, p < H.length ∧ ∀ b', hget H p = some b' → b'.rw = false)
    (hr : s.run P w = .ok (.slice (some ⟨w.heap.size, 0, none⟩) need (grownCap w need cap e)) (w.drew.alloc (.cells (old'.toArray ++ new'.toArray ++ Builtin.zeroCells z.cells (grownCap w need cap e - need)) e))) :
    Sound P base φ H w s (.slice (some (atNew H)) need need) (newB H ⟨old ++ new, info.size, true, lo, par⟩) := by
  have hge := grownCap_ge w need cap e
  have hsz : (old'.toArray ++ new'.toArray ++ Builtin.zeroCells z.cells (grownCap w need cap e - need)).size = grownCap w need cap e * info.size := by
    have h1 := ho.1
    have h2 := hn.1
    simp only [Array.size_append, List.size_toArray, Builtin.zeroCells, Array.size_map, Array.size_range, hz]
    rw [← h1, ← h2, hl, ← Nat.add_mul]
    congr 1
    omega
  have hdr : Step base φ H w φ H w.drew := .draw hs rfl rfl rfl rfl
  have hle : (old ++ new).length ≤ (old'.toArray ++ new'.toArray ++ Builtin.zeroCells z.cells (grownCap w need cap e - need)).size := by
    rw [hsz, List.length_append, hl]
    exact Nat.mul_le_mul_right _ hge
  have st := step_newB (base := base) (nb := ⟨old ++ new, info.size, true, lo, par⟩) (e := e) (fr := (0, 0)) (w1 := w.drew.alloc (.cells (old'.toArray ++ new'.toArray ++ Builtin.zeroCells z.cells (grownCap w need cap e - need)) e))
    hdr.sim rfl rfl rfl rfl hle (Nat.le_refl _) (fun i _ h => by simp at h) hlo hpar (fun i v hv => by
      have hon := ho.append hn
      have hi := (List.getElem?_eq_some_iff.1 hv).1
      have hi' : i < (old' ++ new').length := by rw [← hon.1]; exact hi
      refine ⟨(old' ++ new')[i], ?_, hon.2 i v _ hv (List.getElem?_eq_getElem hi')⟩
      rw [Array.getElem?_append_left (by simpa using hi')]
      rw [List.append_toArray, List.getElem?_toArray, List.getElem?_eq_getElem hi'])
  refine ⟨_, _, _, hr, hdr.trans st, ?_⟩
  have := VRel.sl (n := (newB H ⟨old ++ new, info.size, true, lo, par⟩).length) (φ := extP φ H.length ⟨w.drew.heap.size, 0, (old'.toArray ++ new'.toArray ++ Builtin.zeroCells z.cells (grownCap w need cap e - need)).size, info.size⟩) H.length 0 need need (grownCap w need cap e)
    (by simp [newB]) (Nat.le_refl _) hge (by rw [extP_eq]; simp only [hsz]; omega)
  rw [extP_eq] at this
  simpa [atNew] using this

theorem sound_append {P : Program} {base φ H w} (hs : Sim φ H w) {at_ : Array TypeId} {ty : TypeId} {s x s' x' v : Value} {H' : Heap} (h : appendA P base at_ s x H = some (v, H')) (hsr : VRel H.length φ s s') (hxr : VRel H.length φ x x') :
    Sound P base φ H w (Builtin.append_ at_ ty #[s', x']) v H' := by
  simp only [appendA, Option.bind_eq_bind] at h
  cases h0 : at_[0]? with
  | none => simp [h0] at h
  | some st =>
  cases hu : P.underlying st with
  | none => simp [h0, hu] at h
  | some d0 =>
  cases d0 <;> try (simp [h0, hu] at h; done)
  rename_i e
  cases h1 : at_[1]? with
  | none => simp [h0, hu, h1] at h
  | some xt =>
  simp only [h0, hu, h1, Option.bind_some] at h
  split at h
  · cases h
  rename_i hxt
  cases hx : P.underlying xt with
  | none => simp [hx] at hxt
  | some d =>
  have hd : (∃ u, d = .slice u) ∨ d = .string := by
    cases d <;> simp [hx] at hxt
    · exact .inr rfl
    · exact .inl ⟨_, rfl⟩
  cases hi : P.info? e with
  | none => simp [hi, sizeA] at h
  | some info =>
  have hszA : sizeA P e = some info.size := by simp [sizeA, hi]
  simp only [hszA, hi, Option.bind_some] at h
  cases hz : info.zero with
  | none => simp [hz] at h
  | some z =>
  simp only [hz, Option.bind_some] at h
  split at h
  · cases h
  rename_i hzs
  have hzs : z.cells.size = info.size := by simpa using hzs
  cases hn : lenA x with
  | none => simp [hn] at h
  | some n =>
  cases hf : firstA H info.size n x with
  | none => simp [hn, hf] at h
  | some new =>
  simp only [hn, hf, Option.bind_some] at h
  have hnr := run_lenOf (P := P) hn hxr w
  obtain ⟨new', hnew, hfr⟩ := run_first (P := P) hs hf hxr hn (Nat.le_refl _)
  have hdr : Sim φ H w.drew := hs.heap rfl
  obtain ⟨new2, hnew2, hfr2⟩ := run_first (P := P) hdr hf hxr hn (Nat.le_refl _)
  cases s <;> try (simp at h; done)
  rename_i a len cap
  simp only at h
  split at h
  · cases h
  rename_i hnl
  have hnl : new.length = n * info.size := by simpa using hnl
  split at h
  · rename_i hle
    split at h
    · rename_i h0n
      simp only [Option.some.injEq, Prod.mk.injEq] at h
      obtain ⟨rfl, rfl⟩ := h
      have hn0 : new' = [] := by
        have := hnew.1
        rw [hnl, h0n] at this
        exact List.eq_nil_of_length_eq_zero this.symm
      subst hn0
      cases hsr with
      | slNil _ _ => exact .pure hs (run_append_room h0 hu h1 hx hd hi hnr hle hfr (fun b hb => by cases hb) (fun _ => rfl)) (.slNil _ _)
      | sl hd' o _ _ c hh hl hm hff => exact .pure hs (run_append_room (w' := w) h0 hu h1 hx hd hi hnr (by omega) hfr (fun b _ => rfl) (fun hb => rfl)) (.sl hd' o _ _ c hh hle hm hff)
      | slEmp _ _ b hhn =>
        have hn0 : n = 0 := by omega
        subst hn0
        exact .pure hs (run_append_room (w' := w) h0 hu h1 hx hd hi hnr (by omega) hfr (fun b _ => rfl) (fun hb => rfl)) (.slEmp _ _ _ hhn)
      | slFree b =>
        have hn0 : n = 0 := by omega
        subst hn0
        exact .pure hs (run_append_room (w' := w) h0 hu h1 hx hd hi hnr (by omega) hfr (fun b _ => rfl) (fun hb => rfl)) (.slFree _)
    · rename_i h0n
      cases a with
      | none => simp at h
      | some a =>
        simp only at h
        split at h
        · cases h
        · rename_i hsp
          cases hw : writeA base ⟨a.block, a.off + len * info.size, none⟩ new H with
          | none => simp [hw] at h
          | some H1 =>
            simp only [hw, Option.bind_some, Option.some.injEq, Prod.mk.injEq] at h
            obtain ⟨rfl, rfl⟩ := h
            obtain ⟨w', hwr, hst⟩ := run_writeA (P := P) hs hw hnew
            cases hsr with
            | sl hd' o _ _ c hh hl hm hff =>
              refine ⟨_, w', φ, run_append_room (w' := w') h0 hu h1 hx hd hi hnr (by omega) hfr (fun b hb => ?_) (fun hb => by cases hb), hst, hst.vrel (.sl hd' o _ _ c hh hle hm hff)⟩
              cases hb
              rw [add_none, Nat.add_assoc]
              exact hwr
            | slEmp _ _ b hhn => exact absurd (by rw [show n = 0 by omega, Nat.zero_mul]) h0n
            | slFree b => exact absurd (by rw [show n = 0 by omega, Nat.zero_mul]) h0n
  · rename_i hle
    split at h
    · cases h
    · rename_i hb
      simp only [not_or, Decidable.not_not, Bool.not_eq_false] at hb
      obtain ⟨⟨hb1, hb2, hb3⟩, hb4⟩ := hb
      cases a with
      | none =>
        simp only at h
        split at h
        · rename_i hlc
          obtain ⟨rfl, rfl⟩ := hlc
          simp only [Option.some.injEq, Prod.mk.injEq] at h
          obtain ⟨rfl, rfl⟩ := h
          cases hsr with
          | slNil _ _ =>
            have := run_append_new (w := w) (a := none) (len := 0) (cap := 0) (old := []) h0 hu h1 hx hd hi hz hnr (by omega) (by simpa using hb1) (by simpa using hb2) hfr2 rfl (ty := ty)
            have hg := sound_grown (P := P) (base := base) (old := []) (old' := []) (new := new) (new' := new2) (need := 0 + n) (cap := 0) (info := info) (z := z) (e := e) (lo := 0) (par := []) hs .nil hnew2 hzs (by simpa using hnl) (Nat.zero_le _) (fun p hp => by cases hp) this
            simpa [newA] using hg
        · cases h
      | some a =>
        simp only at h
        split at h
        · rename_i hsp
          split at h
          · rename_i hlc
            obtain ⟨rfl, rfl⟩ := hlc
            simp only [Option.some.injEq, Prod.mk.injEq] at h
            obtain ⟨rfl, rfl⟩ := h
            cases hsr with
            | slFree b =>
              have hfo : (Builtin.firstCells info.size 0 (.slice (some b) 0 0)).run P w.drew = .ok #[] w.drew := by simp [Builtin.firstCells, loadCells, loadCellsFrom]
              have := run_append_new (w := w) (a := some b) (len := 0) (cap := 0) (old := []) h0 hu h1 hx hd hi hz hnr (by omega) (by simpa using hb1) (by simpa using hb2) hfr2 hfo (ty := ty)
              have hg := sound_grown (P := P) (base := base) (old := []) (old' := []) (new := new) (new' := new2) (need := 0 + n) (cap := 0) (info := info) (z := z) (e := e) (lo := 0) (par := []) hs .nil hnew2 hzs (by simpa using hnl) (Nat.zero_le _) (fun p hp => by cases hp) this
              simpa [newA] using hg
            | slEmp => simp at hsp
            | sl => simp at hsp
          · cases h
        · rename_i hsp
          have hsp : a.spot.isSome = false := by simpa using hsp
          cases hg : hget H a.block with
          | none => simp [hg] at h
          | some b =>
            simp only [hg, Option.bind_some] at h
            split at h
            · rename_i hc
              obtain ⟨hrw, hbase, hbsz, htail⟩ := hc
              simp only [Option.some.injEq, Prod.mk.injEq] at h
              obtain ⟨rfl, rfl⟩ := h
              have hlt := hget_lt hg
              have hrd : readA H a (len * info.size) = some (b.cells.drop a.off) := by
                simp only [readA, hsp, Bool.false_eq_true, if_false, hg]
                rw [if_pos (by omega)]
                congr 1
                exact List.take_of_length_le (by simp; omega)
              obtain ⟨old', hold, hol, _, hro⟩ := run_read (P := P) hdr hrd
              have hk := step_ro (base := base) hs hg
              have hlen : (hset H a.block (some { b with rw := false })).length = H.length := length_hset
              have hbl : (b.cells.drop a.off).length = len * info.size := by simp; omega
              have hpar : ∀ p ∈ a.block :: b.par, p < (hset H a.block (some { b with rw := false })).length ∧ ∀ b', hget (hset H a.block (some { b with rw := false })) p = some b' → b'.rw = false := by
                intro p hp
                have hroh : hget (hset H a.block (some { b with rw := false })) a.block = some { b with rw := false } := hget_set_eq hlt
                rcases List.mem_cons.1 hp with rfl | hp
                · exact ⟨by omega, fun b' hb' => by rw [hroh] at hb'; cases hb'; rfl⟩
                · exact ⟨hk.sim.parlt a.block { b with rw := false } p hroh hp, fun b' hb' => hk.sim.par a.block { b with rw := false } p b' hroh hp hb'⟩
              have realloc : ∀ (a' : Addr) (c : Nat), c < len + n → (Builtin.firstCells info.size len (.slice (some a') len c)).run P w.drew = .ok old'.toArray w.drew →
                  Sound P base φ H w (Builtin.append_ at_ ty #[.slice (some a') len c, x']) (.slice (some (atNew H)) (len + n) (len + n)) (newB (hset H a.block (some { b with rw := false })) ⟨b.cells.drop a.off ++ new, info.size, true, len * info.size, a.block :: b.par⟩) := by
                intro a' c hcl hfo
                have hrun := run_append_new (w := w) (a := some a') (len := len) (cap := c) h0 hu h1 hx hd hi hz hnr hcl hb1 hb2 hfr2 hfo (ty := ty)
                have hgr := sound_grown (P := P) (base := base) (old := b.cells.drop a.off) (old' := old') (new := new) (new' := new2) (need := len + n) (cap := c) (info := info) (z := z) (e := e) (lo := len * info.size) (par := a.block :: b.par) hk.sim
                  (by rw [hlen]; exact hold) (by rw [hlen]; exact hnew2) hzs (by rw [hnl, Nat.add_mul]; simp; omega) (by rw [List.length_append, hbl]; omega) hpar hrun
                obtain ⟨v', w', φ', r1, r2, r3⟩ := hgr
                refine ⟨v', w', φ', r1, hk.trans r2, ?_⟩
                simpa [atNew, hlen] using r3
              cases hsr with
              | slFree b' => simp [freeA] at hsp
              | slEmp _ _ b' hhn =>
                refine realloc b' 0 (by omega) ?_
                have ho0 : old' = [] := by
                  have := hold.1
                  simp at this
                  exact List.eq_nil_of_length_eq_zero (by simp at htail; omega)
                subst ho0
                simp [Builtin.firstCells, loadCells, loadCellsFrom]
              | sl hd' o _ _ c hh hl hm hff =>
                rcases Nat.lt_or_ge c (len + n) with hcl | hcl
                · exact realloc _ c hcl (by simpa [Builtin.firstCells] using hro)
                · obtain ⟨_, _, _, _, _, _, hszp, _⟩ := hs.cov hd' b hg
                  have hpz : (φ hd').sz = info.size := by rw [hszp, hbsz]
                  rw [hpz] at hff
                  have hlc : len * info.size ≤ c * info.size := Nat.mul_le_mul_right _ (by omega)
                  simp only at htail hg hrw hbase
                  have hmv := step_fork (base := base) (o := o) (fin := (φ hd').base + o + c * info.size) hs hg hrw hbase (by omega) hff (by omega)
                  have hnewg : hget (newB (hset H hd' (some { b with rw := false })) ⟨b.cells.drop o, b.sz, true, b.cells.length - o, hd' :: b.par⟩) H.length = some ⟨b.cells.drop o, b.sz, true, b.cells.length - o, hd' :: b.par⟩ := by
                    have := hget_new_at (H := hset H hd' (some { b with rw := false })) (b := some ⟨b.cells.drop o, b.sz, true, b.cells.length - o, hd' :: b.par⟩)
                    rw [length_hset] at this
                    exact this
                  have hncm : n * info.size + len * info.size ≤ c * info.size := by rw [← Nat.add_mul]; exact Nat.mul_le_mul_right _ (by omega)
                  obtain ⟨w', hrun, hst⟩ := run_growAux (P := P) (base := base) (h := H.length) (a := ⟨(φ hd').B, (φ hd').base + o + len * info.size, none⟩) new new' 0 hmv.sim hnewg rfl (by omega) (by rw [extP_eq])
                    (by rw [extP_eq]; simp; omega) (by rw [extP_eq]; simp; omega) hb4 (hmv.lrel hnew)
                  have hset_new : hset (newB (hset H hd' (some { b with rw := false })) ⟨b.cells.drop o, b.sz, true, b.cells.length - o, hd' :: b.par⟩) H.length (some ⟨b.cells.drop o ++ new, b.sz, true, b.cells.length - o, hd' :: b.par⟩) = newB (hset H hd' (some { b with rw := false })) ⟨b.cells.drop o ++ new, info.size, true, len * info.size, hd' :: b.par⟩ := by
                    rw [hbsz, show b.cells.length - o = len * info.size by omega]
                    have key : ∀ (K : Heap) (x y : Option Blk), K.length = H.length → (K ++ [x]).set H.length y = K ++ [y] := by
                      intro K x y h
                      rw [← h, List.set_append_right _ _ (Nat.le_refl _)]
                      simp
                    exact key _ _ _ (by simp [hset])
                  rw [hset_new] at hst
                  refine ⟨_, w', _, run_append_room (w' := w') h0 hu h1 hx hd hi hnr hcl hfr (fun b0 hb0 => ?_) (fun hb0 => by cases hb0), hmv.trans hst, ?_⟩
                  · cases hb0
                    rw [add_none]
                    exact hrun
                  · have := VRel.sl (n := (newB (hset H hd' (some { b with rw := false })) ⟨b.cells.drop o ++ new, info.size, true, len * info.size, hd' :: b.par⟩).length) (φ := extP φ H.length ⟨(φ hd').B, (φ hd').base + o, (φ hd').base + o + c * info.size, b.sz⟩) H.length 0 (len + n) (len + n) c
                      (by simp [newB, length_hset]) (Nat.le_refl _) hcl (by rw [extP_eq]; simp [hbsz])
                    rw [extP_eq] at this
                    simpa [atNew] using this
            · cases h

end Go.AM
