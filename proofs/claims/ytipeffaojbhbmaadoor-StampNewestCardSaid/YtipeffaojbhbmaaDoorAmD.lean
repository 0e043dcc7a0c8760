/- An abstract machine over Go's operations: cells read and written. -/
import Derived.Test.YtipeffaojbhbmaaDoorAmC
set_option linter.unusedSimpArgs false
set_option linter.unusedVariables false
namespace Go.AM
open Go

theorem add_none (B o j : Nat) : (⟨B, o, none⟩ : Addr).add j = ⟨B, o + j, none⟩ := by unfold Addr.add; split <;> simp_all

theorem ptr_inv {n φ x'} {a : Addr} (h : VRel n φ (.pointer (some a)) x') (hs : a.spot.isSome = false) :
    a.block < n ∧ a = ⟨a.block, a.off, none⟩ ∧ x' = .pointer (some ⟨(φ a.block).B, (φ a.block).base + a.off, none⟩) := by
  cases h with
  | ptr h o hn => exact ⟨hn, rfl, rfl⟩

theorem run_isAgg {P : Program} {t : TypeId} {b : Bool} (h : isAggA P t = some b) (w : World) : (isAgg t).run P w = .ok b w := by
  unfold isAggA at h
  cases hu : P.underlying t with
  | none => simp [hu] at h
  | some d =>
    unfold isAgg
    rw [Sem.run_bind]
    have : (underlying t).run P w = .ok d w := by simp [underlying, hu]
    rw [this]
    simp only [hu, Option.map_some, Option.some.injEq] at h
    subst h
    cases d <;> simp

theorem run_sizeOf {P : Program} {t : TypeId} {n : Nat} (h : sizeA P t = some n) (w : World) : (sizeOf t).run P w = .ok n w := by
  unfold sizeA at h
  cases hi : P.info? t with
  | none => simp [hi] at h
  | some i => simp [hi] at h; simp [sizeOf, typeInfo, hi, h]

theorem run_underA {P : Program} {t : TypeId} {d : TypeDesc} (h : P.underlying t = some d) (w : World) : (underlying t).run P w = .ok d w := by simp [underlying, h]
theorem run_infoA {P : Program} {t : TypeId} {d : TypeInfo} (h : P.info? t = some d) (w : World) : (typeInfo t).run P w = .ok d w := by simp [typeInfo, h]
theorem run_zeroA {P : Program} {t : TypeId} {v : Value} (h : zeroA P t = some v) (w : World) : (zeroValue t).run P w = .ok v w := by
  unfold zeroA at h
  cases hi : P.info? t with
  | none => simp [hi] at h
  | some i => simp [hi] at h; simp [zeroValue, typeInfo, hi, h]

theorem run_read {P : Program} {φ H w} (hs : Sim φ H w) {a : Addr} {n : Nat} {cs : List Value} (hr : readA H a n = some cs) :
    ∃ cs', LRel H.length φ cs cs' ∧ cs.length = n ∧ (∀ (j : Nat) (v : Value), cs'[j]? = some v → w.cell? ⟨(φ a.block).B, (φ a.block).base + a.off + j, none⟩ = some v) ∧
      (loadCells ⟨(φ a.block).B, (φ a.block).base + a.off, none⟩ n).run P w = .ok cs'.toArray w := by
  unfold readA at hr
  split at hr
  · cases hr
  cases hg : hget H a.block with
  | none => simp [hg] at hr
  | some b =>
    simp only [hg] at hr
    split at hr
    · rename_i hlen
      cases hr
      obtain ⟨c, e, fr, hB, g1, g2, g3, g4, g5, g6⟩ := hs.cov a.block b hg
      have hl : ((b.cells.drop a.off).take n).length = n := by simp; omega
      have hcell : ∀ j, j < n → ∃ v v', b.cells[a.off + j]? = some v ∧ c[(φ a.block).base + a.off + j]? = some v' ∧ VRel H.length φ v v' := by
        intro j hj
        have hlt : a.off + j < b.cells.length := by omega
        obtain ⟨v', hv', hrel⟩ := g4 (a.off + j) b.cells[a.off + j] (List.getElem?_eq_getElem hlt)
        exact ⟨_, v', List.getElem?_eq_getElem hlt, by rwa [← Nat.add_assoc] at hv', hrel⟩
      refine ⟨(c.toList.drop ((φ a.block).base + a.off)).take n, ⟨?_, ?_⟩, hl, ?_, ?_⟩
      · rw [hl]; simp; omega
      · intro i v v' hv hv'
        have hi : i < n := by
          have := (List.getElem?_eq_some_iff.1 hv).1
          omega
        obtain ⟨u, u', hu, hu', hrel⟩ := hcell i hi
        simp [List.getElem?_take, hi, List.getElem?_drop] at hv hv'
        rw [hv] at hu
        rw [hv'] at hu'
        cases hu; cases hu'
        exact hrel
      · intro j v hv
        have hj : j < n := by
          have := (List.getElem?_eq_some_iff.1 hv).1
          simp at this; omega
        simp [List.getElem?_take, hj, List.getElem?_drop] at hv
        rw [cell_of_row w _ _ c e fr hB]
        exact hv
      · have hl' : ((c.toList.drop ((φ a.block).base + a.off)).take n).length = n := by simp; omega
        have := run_loadCells_list (P := P) w ⟨(φ a.block).B, (φ a.block).base + a.off, none⟩ ((c.toList.drop ((φ a.block).base + a.off)).take n) (fun j v hv => by
          have hj : j < n := by
            have := (List.getElem?_eq_some_iff.1 hv).1
            omega
          simp [List.getElem?_take, hj, List.getElem?_drop] at hv
          rw [add_none, cell_of_row w _ _ c e fr hB]
          exact hv)
        rw [hl'] at this
        exact this
    · cases hr

theorem run_loadVarA {P : Program} {φ H w} (hs : Sim φ H w) {t : TypeId} {x x' v : Value} (hl : loadA P t x H = some v) (hx : VRel H.length φ x x') :
    ∃ v' a', x' = .pointer (some a') ∧ (loadVar t a').run P w = .ok v' w ∧ VRel H.length φ v v' := by
  cases x with
  | pointer p =>
    cases p with
    | none => simp [loadA] at hl
    | some a =>
      simp only [loadA] at hl
      cases hagg : isAggA P t with
      | none => simp [hagg] at hl
      | some b =>
        have hra := fun w => run_isAgg hagg w
        cases b with
        | true =>
          simp only [hagg, Option.bind_eq_bind, Option.bind_some, if_true] at hl
          cases hsz : sizeA P t with
          | none => simp [hsz] at hl
          | some n =>
            simp only [hsz, Option.bind_some] at hl
            cases hrd : readA H a n with
            | none => simp [hrd] at hl
            | some cs =>
              simp only [hrd, Option.bind_some, Option.some.injEq] at hl
              subst hl
              have hsp : a.spot.isSome = false := by
                unfold readA at hrd
                split at hrd
                · cases hrd
                · rename_i h; simpa using h
              obtain ⟨hn, ha, rfl⟩ := ptr_inv hx hsp
              obtain ⟨cs', hrel, _, _, hrun⟩ := run_read (P := P) hs hrd
              exact ⟨.agg cs'.toArray, _, rfl, by simp [loadVar, Sem.run_bind, hra, run_sizeOf hsz, hrun], .agg_of hrel⟩
        | false =>
          simp only [hagg, Option.bind_eq_bind, Option.bind_some, Bool.false_eq_true, if_false] at hl
          split at hl
          · cases hl
          · rename_i hsp
            have hsp : a.spot.isSome = false := by simpa using hsp
            obtain ⟨hn, ha, rfl⟩ := ptr_inv hx hsp
            cases hg : hget H a.block with
            | none => simp [hg] at hl
            | some b =>
              simp only [hg, Option.bind_some] at hl
              obtain ⟨c, e, fr, hB, g1, g2, g3, g4, g5, g6⟩ := hs.cov a.block b hg
              obtain ⟨v', hv', hrel⟩ := g4 a.off v hl
              refine ⟨v', _, rfl, ?_, hrel⟩
              have hcell : w.cell? ⟨(φ a.block).B, (φ a.block).base + a.off, none⟩ = some v' := by rw [cell_of_row w _ _ c e fr hB]; exact hv'
              simp [loadVar, Sem.run_bind, hra, hcell]
  | _ => simp [loadA] at hl

theorem wBeg_le {p : Place} {b : Blk} {h : Nat} : wBeg p b h ≤ p.base + b.lo := by unfold wBeg; split <;> omega
theorem le_wBeg {p : Place} {b : Blk} {h : Nat} : p.base ≤ wBeg p b h := by unfold wBeg; split <;> omega
theorem le_rEnd {p : Place} {b : Blk} (h : p.base + b.cells.length ≤ p.fin) : p.base + b.cells.length ≤ rEnd p b := by unfold rEnd; split <;> omega
theorem rEnd_le {p : Place} {b : Blk} (h : p.base + b.cells.length ≤ p.fin) : rEnd p b ≤ p.fin := by unfold rEnd; split <;> omega

/-- One cell is written. -/
theorem step_cell {base φ H w} (hs : Sim φ H w) {h : Nat} {b : Blk} (hg : hget H h = some b) (hrw : b.rw = true) (hbase : base ≤ h) {o : Nat} (ho : o < b.cells.length) (hlo : b.lo ≤ o) {v v' : Value} (hv : VRel H.length φ v v') :
    (∃ u, w.cell? ⟨(φ h).B, (φ h).base + o, none⟩ = some u) ∧ w.frozen? ⟨(φ h).B, (φ h).base + o, none⟩ = false ∧
      Step base φ H w φ (hset H h (some { b with cells := b.cells.set o v })) (w.setCell ⟨(φ h).B, (φ h).base + o, none⟩ v') := by
  obtain ⟨c, e, fr, hB, g1, g2, g3, g4, g5, g6⟩ := hs.cov h b hg
  have hlt := hget_lt hg
  have hcs : (φ h).base + o < c.size := by omega
  have hnew : (w.setCell ⟨(φ h).B, (φ h).base + o, none⟩ v').heap[(φ h).B]? = some (.cells (c.setIfInBounds ((φ h).base + o) v') e fr) := by
    simp [World.setCell, Array.getElem?_modify, hB]
  have hoth : ∀ k, k ≠ (φ h).B → (w.setCell ⟨(φ h).B, (φ h).base + o, none⟩ v').heap[k]? = w.heap[k]? := fun k hk => heap_setCell_other w _ k v' hk
  refine ⟨⟨_, by rw [cell_of_row w _ _ c e fr hB]; exact Array.getElem?_eq_getElem hcs⟩, ?_, ?_⟩
  · have := g5 hrw ((φ h).base + o) (by omega) (by omega)
    simp only [World.frozen?, hB]
    simp only [Bool.and_eq_false_imp, decide_eq_true_eq, decide_eq_false_iff_not]
    omega
  · have back : ∀ h' b', hget (hset H h (some { b with cells := b.cells.set o v })) h' = some b' → ∃ b0, hget H h' = some b0 ∧ b0.rw = b'.rw ∧ b0.lo = b'.lo ∧ b0.par = b'.par ∧ b0.cells.length = b'.cells.length := by
      intro h' b' hg'
      by_cases he : h' = h
      · subst he
        rw [hget_set_eq hlt] at hg'
        cases hg'
        exact ⟨b, hg, rfl, rfl, rfl, by simp⟩
      · rw [hget_set_ne (Ne.symm he)] at hg'
        exact ⟨b', hg', rfl, rfl, rfl, rfl⟩
    refine ⟨by simp [length_hset], fun _ _ => rfl, by simp [World.setCell], rfl, rfl, rfl, ?_, ?_, ?_, ?_, ?_, ?_, ?_⟩
    · intro k hk hn
      exact hoth k fun e => hn h b hbase hg hrw e.symm
    · intro h' b' hh' hg'
      obtain ⟨b0, k0, k1, _⟩ := back h' b' hg'
      exact ⟨b0, k0, fun hr => k1.trans hr⟩
    · intro h' b' hb' hg' hr'
      obtain ⟨b0, k0, k1, _⟩ := back h' b' hg'
      exact .inr ⟨h', b0, hb', k0, k1.trans hr', rfl⟩
    · intro h' b' hg'
      rw [length_hset]
      by_cases he : h' = h
      · subst he
        rw [hget_set_eq hlt] at hg'
        cases hg'
        refine ⟨_, e, fr, hnew, by simpa using g1, by simpa using g2, g3, fun i u hu => ?_, g5, by simpa using g6⟩
        by_cases hio : i = o
        · subst hio
          simp only [List.getElem?_set, if_true] at hu
          simp only [ho, if_true, Option.some.injEq] at hu
          subst hu
          exact ⟨v', by simp [hcs], hv⟩
        · rw [List.getElem?_set_ne (Ne.symm hio)] at hu
          obtain ⟨u', hu', hrel⟩ := g4 i u hu
          exact ⟨u', by rw [Array.getElem?_setIfInBounds_ne (by omega)]; exact hu', hrel⟩
      · rw [hget_set_ne (Ne.symm he)] at hg'
        obtain ⟨c', e', fr', hB', k1, k2, k3, k4, k5, k6⟩ := hs.cov h' b' hg'
        by_cases hBB : (φ h').B = (φ h).B
        · rw [hBB, hB] at hB'
          cases hB'
          refine ⟨_, e, fr, by rw [hBB]; exact hnew, k1, by simpa using k2, k3, fun i u hu => ?_, k5, k6⟩
          obtain ⟨u', hu', hrel⟩ := k4 i u hu
          refine ⟨u', ?_, hrel⟩
          have hi := (List.getElem?_eq_some_iff.1 hu).1
          have := hs.apart h h' b b' (Ne.symm he) hg hg' hrw
          have q1 := @wBeg_le (φ h) b h'
          have q2 := le_rEnd k1
          rw [Array.getElem?_setIfInBounds_ne (by omega)]
          exact hu'
        · exact ⟨c', e', fr', by rw [hoth _ hBB]; exact hB', k1, k2, k3, k4, k5, k6⟩
    · intro h1 h2 b1 b2 hne k1 k2 kr
      obtain ⟨b1', k1', e1, e1l, e1p, e1c⟩ := back h1 b1 k1
      obtain ⟨b2', k2', e2, e2l, e2p, e2c⟩ := back h2 b2 k2
      have := hs.apart h1 h2 b1' b2' hne k1' k2' (e1.trans kr)
      unfold rEnd wBeg at this ⊢
      rw [e2, e2c, e1l, e1p] at this
      exact this
    · intro h1 b1 p b' k1 hp k2
      obtain ⟨b1', k1', e1, e1l, e1p, e1c⟩ := back h1 b1 k1
      obtain ⟨b2', k2', e2, _⟩ := back p b' k2
      rw [← e2]
      exact hs.par h1 b1' p b2' k1' (e1p ▸ hp) k2'
    · intro h1 b1 p k1 hp
      obtain ⟨b1', k1', e1, e1l, e1p, e1c⟩ := back h1 b1 k1
      rw [length_hset]
      exact hs.parlt h1 b1' p k1' (e1p ▸ hp)

theorem hset_hset {H : Heap} {h : Nat} {b c : Option Blk} : hset (hset H h b) h c = hset H h c := by simp [hset]

theorem run_writeAux {P : Program} {base φ} {a : Addr} : ∀ (vs vs' : List Value) (i : Nat) {H w} (_ : Sim φ H w) {b : Blk} (_ : hget H a.block = some b) (_ : b.rw = true) (_ : base ≤ a.block)
    (_ : a.off + i + vs.length ≤ b.cells.length) (_ : b.lo ≤ a.off + i) (_ : vs.all Value.oneCell' = true) (_ : LRel H.length φ vs vs'),
    ∃ w', (storeCells ⟨(φ a.block).B, (φ a.block).base + a.off, none⟩ vs' i).run P w = .ok () w' ∧
      Step base φ H w φ (hset H a.block (some { b with cells := writeL b.cells (a.off + i) vs })) w'
  | [], [], i, H, w, hs, b, hg, _, _, _, _, _, _ => by
    refine ⟨w, rfl, ?_⟩
    have : hset H a.block (some { b with cells := writeL b.cells (a.off + i) [] }) = H := by
      have hlt := hget_lt hg
      apply List.ext_getElem?
      intro k
      simp only [hset, writeL, List.getElem?_set]
      split
      · rename_i hk; subst hk
        simp only [hget] at hg
        rw [List.getElem?_eq_getElem hlt] at hg ⊢
        simp at hg
        simp [hlt, hg]
      · rfl
    rw [this]
    exact .refl hs
  | [], _ :: _, _, _, _, _, _, _, _, _, _, _, _, h => by simp [LRel] at h
  | _ :: _, [], _, _, _, _, _, _, _, _, _, _, _, h => by simp [LRel] at h
  | v :: vs, v' :: vs', i, H, w, hs, b, hg, hrw, hb, hl, hlo, h1, hrel => by
    simp only [List.length_cons] at hl
    simp only [List.all_cons, Bool.and_eq_true] at h1
    have hlt := hget_lt hg
    obtain ⟨⟨u, hu⟩, hfz, st⟩ := step_cell hs hg hrw hb (o := a.off + i) (by omega) hlo hrel.head
    have hg1 : hget (hset H a.block (some { b with cells := b.cells.set (a.off + i) v })) a.block = some { b with cells := b.cells.set (a.off + i) v } := hget_set_eq hlt
    obtain ⟨w', hrun, st'⟩ := run_writeAux (P := P) (base := base) (a := a) vs vs' (i + 1) st.sim hg1 hrw hb (by simp; omega) (by simp; omega) h1.2 (by rw [length_hset]; exact hrel.tail)
    refine ⟨w', ?_, ?_⟩
    · simp only [storeCells, Sem.run_bind, add_none]
      rw [show (φ a.block).base + a.off + i = (φ a.block).base + (a.off + i) by omega, run_store P w _ v' .plain (by rw [hrel.head.oneCell]; exact h1.1), hu]
      simp only [hfz, Bool.false_eq_true, if_false, Result.andThen]
      exact hrun
    · have := st.trans st'
      rw [hset_hset] at this
      simpa [writeL, Nat.add_assoc] using this

theorem hget_hset_none {H : Heap} {p i : Nat} : hget (hset H p none) i = if i = p then none else hget H i := by
  by_cases h : i = p
  · subst h
    simp only [if_true]
    rcases Nat.lt_or_ge i H.length with hl | hl
    · exact hget_set_eq hl
    · simp [hget, hset, List.getElem?_eq_none (show (H.set i none).length ≤ i by simpa using hl)]
  · simp only [h, if_false]
    exact hget_set_ne (Ne.symm h)
theorem length_killAll {ps : List Nat} : ∀ {H : Heap}, (killAll H ps).length = H.length := by
  induction ps with
  | nil => intro H; rfl
  | cons p ps ih => intro H; simp only [killAll, List.foldl_cons] at ih ⊢; rw [ih]; exact length_hset
theorem hget_killAll {ps : List Nat} : ∀ {H : Heap} {i : Nat}, hget (killAll H ps) i = if i ∈ ps then none else hget H i := by
  induction ps with
  | nil => intro H i; simp [killAll]
  | cons p ps ih =>
    intro H i
    simp only [killAll, List.foldl_cons] at ih ⊢
    rw [ih, hget_hset_none]
    by_cases h1 : i ∈ ps <;> by_cases h2 : i = p <;> simp [h1, h2]

/-- A block's first cells are shared by none any more. -/
theorem step_free {base φ H w} (hs : Sim φ H w) {h : Nat} {b : Blk} (hg : hget H h = some b) (hp : h ∉ b.par) :
    Step base φ H w φ (hset (killAll H b.par) h (some { b with lo := 0, par := [] })) w := by
  have hlt := hget_lt hg
  have hl : (hset (killAll H b.par) h (some { b with lo := 0, par := [] })).length = H.length := by rw [length_hset, length_killAll]
  have back : ∀ i c, hget (hset (killAll H b.par) h (some { b with lo := 0, par := [] })) i = some c → ∃ c0, hget H i = some c0 ∧ c0.rw = c.rw ∧ c0.cells = c.cells ∧ c0.sz = c.sz ∧ ((i = h ∧ c.lo = 0 ∧ c.par = []) ∨ (i ≠ h ∧ c0 = c)) ∧ i ∉ b.par := by
    intro i c hi
    by_cases he : i = h
    · subst he
      rw [hget_set_eq (by rw [length_killAll]; exact hlt)] at hi
      cases hi
      exact ⟨b, hg, rfl, rfl, rfl, .inl ⟨rfl, rfl, rfl⟩, hp⟩
    · rw [hget_set_ne (Ne.symm he), hget_killAll] at hi
      by_cases hm : i ∈ b.par
      · simp [hm] at hi
      · simp only [hm, if_false] at hi
        exact ⟨c, hi, rfl, rfl, rfl, .inr ⟨he, rfl⟩, hm⟩
  refine ⟨by omega, fun _ _ => rfl, Nat.le_refl _, rfl, rfl, rfl, fun _ _ _ => rfl, ?_, ?_, ?_, ?_, ?_, ?_⟩
  · intro i c _ hi
    obtain ⟨c0, k0, k1, _⟩ := back i c hi
    exact ⟨c0, k0, fun hr => k1.trans hr⟩
  · intro i c hb hi hr
    obtain ⟨c0, k0, k1, _⟩ := back i c hi
    exact .inr ⟨i, c0, hb, k0, k1.trans hr, rfl⟩
  · intro i c hi
    obtain ⟨c0, k0, k1, k2, k3, k4, _⟩ := back i c hi
    obtain ⟨d, e, fr, hB, g1, g2, g3, g4, g5, g6⟩ := hs.cov i c0 k0
    rw [hl]
    refine ⟨d, e, fr, hB, k2 ▸ g1, g2, g3.trans k3, k2 ▸ g4, fun hr => g5 (k1.trans hr), ?_⟩
    rcases k4 with ⟨_, h0, _⟩ | ⟨_, rfl⟩
    · omega
    · exact g6
  · intro i j c d hne hi hj hr
    obtain ⟨c0, k0, k1, k2, k3, k4, k5⟩ := back i c hi
    obtain ⟨d0, l0, l1, l2, l3, l4, l5⟩ := back j d hj
    have := hs.apart i j c0 d0 hne k0 l0 (k1.trans hr)
    have e1 : rEnd (φ j) d = rEnd (φ j) d0 := by unfold rEnd; rw [l1, l2]
    rw [e1]
    rcases k4 with ⟨rfl, _, hpn⟩ | ⟨_, rfl⟩
    · rw [hg] at k0
      cases k0
      have e2 : wBeg (φ i) b j = (φ i).base := by unfold wBeg; simp [l5]
      have e3 : wBeg (φ i) c j = (φ i).base := by unfold wBeg; simp [hpn]
      rw [e3]
      rw [e2] at this
      exact this
    · exact this
  · intro i c p d hi hpm hj
    obtain ⟨c0, k0, k1, k2, k3, k4, k5⟩ := back i c hi
    obtain ⟨d0, l0, l1, _⟩ := back p d hj
    rcases k4 with ⟨_, _, hpn⟩ | ⟨_, rfl⟩
    · rw [hpn] at hpm; cases hpm
    · rw [← l1]; exact hs.par i c0 p d0 k0 hpm l0
  · intro i c p hi hpm
    obtain ⟨c0, k0, k1, k2, k3, k4, k5⟩ := back i c hi
    rw [hl]
    rcases k4 with ⟨_, _, hpn⟩ | ⟨_, rfl⟩
    · rw [hpn] at hpm; cases hpm
    · exact hs.parlt i c0 p k0 hpm

theorem run_writeA {P : Program} {base φ H w} (hs : Sim φ H w) {a : Addr} {vs vs' : List Value} {H' : Heap} (hw : writeA base a vs H = some H') (hrel : LRel H.length φ vs vs') :
    ∃ w', (storeCells ⟨(φ a.block).B, (φ a.block).base + a.off, none⟩ vs').run P w = .ok () w' ∧ Step base φ H w φ H' w' := by
  unfold writeA at hw
  split at hw
  · cases hw
  cases hg : hget H a.block with
  | none => simp [hg] at hw
  | some b =>
    simp only [hg] at hw
    split at hw
    · rename_i hc
      split at hw
      · rename_i hlo
        cases hw
        obtain ⟨w', h1, h2⟩ := run_writeAux (P := P) (base := base) (a := a) vs vs' 0 hs hg hc.1 hc.2.1 (by simpa using hc.2.2.1) (by simpa using hlo) hc.2.2.2 hrel
        exact ⟨w', h1, h2⟩
      · split at hw
        · rename_i hp
          cases hw
          have hpn : a.block ∉ b.par := by
            intro hm
            have := List.all_eq_true.1 hp _ hm
            simp at this
          have st := step_free (base := base) hs hg hpn
          have hg1 : hget (hset (killAll H b.par) a.block (some { b with lo := 0, par := [] })) a.block = some { b with lo := 0, par := [] } := hget_set_eq (by rw [length_killAll]; exact hget_lt hg)
          obtain ⟨w', h1, h2⟩ := run_writeAux (P := P) (base := base) (a := a) vs vs' 0 st.sim hg1 hc.1 hc.2.1 (by simpa using hc.2.2.1) (Nat.zero_le _) hc.2.2.2 (st.lrel hrel)
          refine ⟨w', h1, ?_⟩
          have := st.trans h2
          rw [hset_hset] at this
          exact this
        · cases hw
    · cases hw

theorem writeA_spot {base a vs H H'} (hw : writeA base a vs H = some H') : a.spot.isSome = false := by
  unfold writeA at hw
  split at hw
  · cases hw
  · rename_i h; simpa using h
theorem readA_spot {a n H cs} (hw : readA H a n = some cs) : a.spot.isSome = false := by
  unfold readA at hw
  split at hw
  · cases hw
  · rename_i h; simpa using h

theorem run_storeVarA {P : Program} {base φ H w} (hs : Sim φ H w) {t : TypeId} {x x' v v' : Value} {H' : Heap} (hw : storeA P base t x v H = some H') (hx : VRel H.length φ x x') (hv : VRel H.length φ v v') :
    ∃ w' a', x' = .pointer (some a') ∧ (storeVar t a' v').run P w = .ok () w' ∧ Step base φ H w φ H' w' := by
  cases x with
  | pointer p =>
    cases p with
    | none => simp [storeA] at hw
    | some a =>
      simp only [storeA, Option.bind_eq_bind] at hw
      cases hsz : sizeA P t with
      | none => simp [hsz] at hw
      | some n =>
        simp only [hsz, Option.bind_some] at hw
        split at hw
        · cases hw
        · rename_i hn
          obtain ⟨_, _, rfl⟩ := ptr_inv hx (writeA_spot hw)
          obtain ⟨w', h1, h2⟩ := run_writeA (P := P) hs hw hv.cells
          refine ⟨w', _, rfl, ?_, h2⟩
          have hl := hv.cells.1
          simp only [Array.length_toList] at hl
          simp only [storeVar, Sem.run_bind, run_sizeOf hsz, Result.andThen_ok]
          have : ¬ (v'.cells.size ≠ n) := by rw [← hl]; simpa using hn
          simp only [this, if_false, Sem.run_bind]
          simpa using h1
  | _ => simp [storeA] at hw

end Go.AM
