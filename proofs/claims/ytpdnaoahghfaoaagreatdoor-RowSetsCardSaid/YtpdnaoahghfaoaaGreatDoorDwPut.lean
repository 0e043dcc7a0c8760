/- Putting one attribute into attributes, taking one out: what the library's own text does, told to the machine. -/
import Derived.Test.YtpdnaoahghfaoaaGreatDoorDwDel
import Derived.Test.YtpdnaoahghfaoaaGreatDoorDmWx
set_option linter.unusedSimpArgs false
set_option linter.unusedVariables false
namespace Go.Proofs.DwT
open Go Go.Lib Go.RowKit Go.Shelf Go.AM Go.DM Go.Proofs.DeT

theorem run_overlaps_gen {P : Program} (w : World) (tS tR e : TypeId) (ht : P.underlying tS = some (.slice e)) (size : Nat) (hz : ∀ w, (Go.sizeOf e).run P w = .ok size w) (a b : Addr) (la ca lb cb : Nat) (tA tB : TypeId) (kA kB : Nat)
    (hsa : w.shape? a.block = some (tA, kA)) (hsb : w.shape? b.block = some (tB, kB)) (hkA : kA ≠ 0) (hkB : kB ≠ 0) (hfb : w.frozen? b = false) (hfe : w.frozen? { block := b.block, off := kB } = false)
    (hdis : a.block = b.block → a.off + la * size ≤ b.off ∨ b.off + lb * size ≤ a.off) :
    (Extern.SlicesOverlaps.overlaps #[tS, tS] #[tR] #[.slice (some a) la ca, .slice (some b) lb cb]).run P w = .ok (.bool false) w := by
  change Sem.run P (α := Value) (do
    let some t := (#[tS, tS] : Array TypeId)[0]? | stuck "slices.overlaps: no parameter types"
    let .slice elem ← underlying t | stuck "slices.overlaps: slice type expected"
    let size ← sizeOf elem
    match (some a : Option Addr), (some b : Option Addr) with
    | some a, some b =>
      if la = 0 ∨ lb = 0 ∨ size = 0 then pure (Value.bool false)
      else if a.block != b.block && (← frozen a) && (← frozen b) then unsupported .addressObserved
      else do
        if a.block != b.block then do
          noView a; noView b
          if ← mayBeOne a b then return Value.bool ((← choose (.extern "sameAddr.stringBytes" 2)) == 1)
        pure (Value.bool (a.block == b.block && a.off < b.off + lb * size && b.off < a.off + la * size))
    | _, _ => pure (Value.bool false)) w = _
  by_cases h0 : la = 0 ∨ lb = 0 ∨ size = 0
  · simp [run_underlying ht, hz, h0]
  · by_cases hne : a.block = b.block
    · have h1 : (a.block != b.block) = false := by simpa using hne
      have h2 := hdis hne
      have h3 : (decide (a.off < b.off + lb * size) && decide (b.off < a.off + la * size)) = false := by
        rw [Bool.and_eq_false_iff, decide_eq_false_iff_not, decide_eq_false_iff_not]
        omega
      simp [run_underlying ht, hz, h0, h1, hne, h3]
    · have hnb : (a.block != b.block) = true := by simpa using hne
      have hnb' : (a.block == b.block) = false := by simpa using hne
      cases kB with
      | zero => exact absurd rfl hkB
      | succ kB =>
      cases kA with
      | zero => exact absurd rfl hkA
      | succ kA =>
        cases hfa : w.frozen? a <;> cases hfae : w.frozen? { block := a.block, off := kA + 1 } <;> simp [run_underlying ht, hz, h0, hnb, hnb', frozen, noView, viewAt, mayBeOne, stringish, shape, Sem.run, hsa, hsb, hfb, hfe, hfa, hfae]

theorem cell_heap {w : World} {b k : Nat} {v : Value} {c : Array Value} {e : TypeId} {fr : Nat × Nat} (h : w.cell? ⟨b, k, none⟩ = some v) (hB : w.heap[b]? = some (.cells c e fr)) : c[k]? = some v := by
  simp only [World.cell?, hB] at h
  simpa using h
theorem heap_cell {w : World} {b k : Nat} {v : Value} (h : w.cell? ⟨b, k, none⟩ = some v) : ∃ c e fr, w.heap[b]? = some (.cells c e fr) := by
  unfold World.cell? at h
  split at h
  · rename_i c e fr hh
    exact ⟨c, e, fr, hh⟩
  · cases h
theorem putL_get {α : Type} {cs vs : List α} {k : Nat} (hk : k ≤ cs.length) {j : Nat} {v : α} (h : (putL cs k vs)[j]? = some v) :
    (j < k ∧ cs[j]? = some v) ∨ (k ≤ j ∧ j < k + vs.length ∧ vs[j - k]? = some v) ∨ (k + vs.length ≤ j ∧ (cs.drop k)[j - (k + vs.length)]? = some v) := by
  unfold putL at h
  have hl : (cs.take k).length = k := by rw [List.length_take]; omega
  rcases Nat.lt_or_ge j k with h1 | h1
  · rw [List.getElem?_append_left (by omega), List.getElem?_take, if_pos h1] at h
    exact .inl ⟨h1, h⟩
  · rw [List.getElem?_append_right (by omega), hl] at h
    rcases Nat.lt_or_ge (j - k) vs.length with h2 | h2
    · rw [List.getElem?_append_left h2] at h
      exact .inr (.inl ⟨h1, by omega, h⟩)
    · rw [List.getElem?_append_right h2] at h
      refine .inr (.inr ⟨by omega, ?_⟩)
      rwa [show j - (k + vs.length) = j - k - vs.length by omega]

theorem putAttr : PutOk Tryz.prog 76 5 72 := by
  obtain ⟨i0, z, hi0, hz0, hzc, hzs, hzb⟩ := insInfo
  have hsz : ∀ w, (Go.sizeOf 71).run Tryz.prog w = .ok 5 w := fun w => by simp [sizeOf, typeInfo, hi0, hzs]
  refine ⟨by omega, ?_, ?_⟩
  · intro w b off n c i vb voff vc cs vs hin hroom hc63 hcl hvl hcs hsp hfz hvs h1c h1v hdis hend
    obtain ⟨cw, ew, frw, hB⟩ : ∃ c e fr, w.heap[b]? = some (.cells c e fr) := by
      obtain ⟨v, hv⟩ := Option.isSome_iff_exists.1 (hsp 0 (by omega))
      exact heap_cell hv
    obtain ⟨ca, ea, fra, hA⟩ : ∃ c e fr, w.heap[vb]? = some (.cells c e fr) := heap_cell (hvs 0 vs[0] (by simp))
    by_cases hi : i = n
    · subst hi
      refine (ins_end_room b off i c vb voff vc vs w hroom hc63 hvl (fun j hj => by rw [Nat.add_assoc]; exact hsp _ (by omega)) (fun j hj => by rw [Nat.add_assoc]; exact hfz _ (by omega)) hvs h1v).mono fun e w' ⟨he, hw⟩ => ⟨he, ?_⟩
      subst hw
      refine rowOut_two (w0 := w) (o1 := off) (xs := []) (o2 := off + i * 5) (ys := vs) rfl rfl rfl rfl (Nat.le_refl _) (by simp) (by omega) (by omega) fun c e fr hc j v hj hlt => ?_
      rcases putL_get (by omega) hj with ⟨h1, h2⟩ | ⟨h1, h2, h3⟩ | ⟨h1, h2⟩
      · exact .inr (.inr ⟨.inl (by omega), .inr (by simp), cell_heap (hcs j v h2) hc⟩)
      · exact .inl ⟨by omega, by rw [show off + j - (off + i * 5) = j - i * 5 by omega]; exact h3⟩
      · rw [List.drop_of_length_le (by omega)] at h2
        simp at h2
    · have hi' : i < n := by omega
      refine (ins_shift b off n c i vb voff vc cs vs w hi' hroom hc63 hdis hcl hvl hcs hsp hfz hvs h1c h1v (fun cb => ?_)).mono fun e w' ⟨he, hw⟩ => ⟨he, ?_⟩
      · have hca0 : ca.size ≠ 0 := by
          intro h0
          have := cell_heap (hvs 0 vs[0] (by simp)) hA
          rw [Array.getElem?_eq_none (by omega)] at this
          cases this
        have hcs0 : cw.size ≠ 0 := by
          intro h0
          have := hsp 0 (by omega)
          simp [World.cell?, hB, h0] at this
        rw [run_callFunc_extern Tryz.func125 (by kernel_rfl) (by kernel_rfl) (by kernel_rfl) (e := Extern.SlicesOverlaps.overlaps #[24, 24] #[4]) (by kernel_rfl),
          run_overlaps_gen w 24 4 71 Tryz.underlying24 5 hsz ⟨vb, voff, none⟩ ⟨b, off + (i + 1) * 5, none⟩ 1 vc (n - i) cb ea ew ca.size cw.size (by simp [World.shape?, hA]) (by simp [World.shape?, hB]) hca0 hcs0 (hfz _ (by omega)) (hend cw ew frw hB) (fun e => ?_)]
        · rfl
        · rcases hdis e with h | h
          · exact .inl (by dsimp only; omega)
          · exact .inr (by dsimp only; omega)
      · subst hw
        have hdl : (cs.drop (i * 5)).length = (n - i) * 5 := by rw [List.length_drop, hcl]; omega
        refine rowOut_two (w0 := w.drew) (o1 := off + (i + 1) * 5) (xs := cs.drop (i * 5)) (o2 := off + i * 5) (ys := vs) rfl rfl rfl rfl (by omega) (by omega) (by omega) (by omega) fun c e fr hc j v hj hlt => ?_
        rcases putL_get (by omega) hj with ⟨h1, h2⟩ | ⟨h1, h2, h3⟩ | ⟨h1, h2⟩
        · exact .inr (.inr ⟨.inl (by omega), .inl (by omega), cell_heap (hcs j v h2) hc⟩)
        · exact .inl ⟨by omega, by rw [show off + j - (off + i * 5) = j - i * 5 by omega]; exact h3⟩
        · exact .inr (.inl ⟨.inr (by omega), by omega, by rw [show off + j - (off + (i + 1) * 5) = j - (i * 5 + vs.length) by omega]; exact h2⟩)
  · intro w base n i vb voff vc cs vs hin hlim hcl hvl hb0 hspot hcs hvs h1c h1v
    have hGe := grownCap_ge w (n + 1) n 71
    have hG63 : grownCap w (n + 1) n 71 ≤ 9223372036854775807 := by
      have := grownCap_le_maxLen w (n + 1) n 71 (by unfold maxLen; omega)
      unfold maxLen at this
      omega
    by_cases hi : i = n
    · subst hi
      refine (ins_end_grow base i i vb voff vc cs vs w (Nat.le_refl _) (by omega) (by omega) hcl hvl hb0 (fun a ha j v hj => ?_) hvs h1v).mono fun e w' ⟨z', hz', he, hw⟩ => ?_
      · have hn0 : i ≠ 0 := by
          rintro rfl
          have : cs = [] := List.eq_nil_of_length_eq_zero (by omega)
          rw [this] at hj
          cases hj
        have h1 := hcs a ha hn0 j v hj
        have h2 := hspot a ha hn0
        obtain ⟨ab, ao, asp⟩ := a
        dsimp only at h1 h2
        subst h2
        rw [Addr.add_lit]
        exact h1
      · refine ⟨_, _, _, he, hGe, hG63, ?_, fun j v hj => ?_, by rw [hw]; rfl, by rw [hw]; rfl, by rw [hw]; rfl, by rw [hw]; rfl⟩
        · simp only [Array.size_append, List.size_toArray, List.length_append, Builtin.zeroCells, Array.size_map, Array.size_range, hz']
          omega
        · rcases putL_get (by omega) hj with ⟨h1, h2⟩ | ⟨h1, h2, h3⟩ | ⟨h1, h2⟩
          · rw [Array.getElem?_append_left (by simp; omega), List.getElem?_toArray, List.getElem?_append_left (by omega)]
            exact h2
          · rw [Array.getElem?_append_left (by simp; omega), List.getElem?_toArray, List.getElem?_append_right (by omega), hcl]
            exact h3
          · rw [List.drop_of_length_le (by omega)] at h2
            simp at h2
    · have hi' : i < n := by omega
      cases base with
      | none => exact absurd (hb0 rfl) (by omega)
      | some a =>
        obtain ⟨ab, ao, asp⟩ := a
        have h2 := hspot _ rfl (by omega)
        dsimp only at h2
        subst h2
        have hcs' := fun j v hj => hcs _ rfl (by omega) j v hj
        dsimp only at hcs'
        refine (ins_grow ab ao n n i vb voff vc cs vs w hi' (Nat.le_refl _) (by omega) (by omega) hcl hvl hcs' hvs h1c h1v).mono fun e w' ⟨ROW, hR1, hR2, he, hw⟩ => ?_
        have hN : ((w.alloc (.cells ROW 71)).drew).heap[w.heap.size]? = some (.cells ROW 71 (0, 0)) := by
          show (w.heap.push _)[w.heap.size]? = _
          simp
        obtain ⟨c1, p1, p2, p3, p4⟩ := setCells_at w.heap.size vs (i * 5) _ ROW _ _ hN
        obtain ⟨k1, k2, k3, k4, k5⟩ := setCells_os w.heap.size vs (i * 5) (w.alloc (.cells ROW 71)).drew
        have hN2 : (((w.alloc (.cells ROW 71)).drew.setCells w.heap.size (i * 5) vs).drew).heap[w.heap.size]? = some (.cells c1 71 (0, 0)) := p1
        obtain ⟨c2, r1, r2, r3, r4⟩ := setCells_at w.heap.size (cs.drop (i * 5)) ((i + 1) * 5) _ c1 _ _ hN2
        obtain ⟨j1, j2, j3, j4, j5⟩ := setCells_os w.heap.size (cs.drop (i * 5)) ((i + 1) * 5) (((w.alloc (.cells ROW 71)).drew.setCells w.heap.size (i * 5) vs).drew)
        have hdl : (cs.drop (i * 5)).length = (n - i) * 5 := by rw [List.length_drop, hcl]; omega
        refine ⟨_, c2, 71, he, hGe, hG63, by rw [r2, p2, hR2], fun j v hj => ?_, ?_, by rw [hw, j2]; exact k2, by rw [hw, j3]; exact k3, by rw [hw, j4]; exact k4⟩
        · rcases putL_get (by omega) hj with ⟨h1, h2⟩ | ⟨h1, h2, h3⟩ | ⟨h1, h2⟩
          · rw [r3 j (by omega), p3 j (by omega), hR1 j h1]
            exact h2
          · rw [r3 j (by omega)]
            have := p4 (j - i * 5) v h3 (by omega)
            rwa [show i * 5 + (j - i * 5) = j by omega] at this
          · have hj2 := (List.getElem?_eq_some_iff.1 h2).1
            have := r4 (j - (i * 5 + vs.length)) v h2 (by rw [p2]; omega)
            rwa [show (i + 1) * 5 + (j - (i * 5 + vs.length)) = j by omega] at this
        · rw [hw]
          apply Array.ext_getElem?
          intro k
          rcases Nat.lt_trichotomy k w.heap.size with hk | hk | hk
          · rw [j5 k (by omega)]
            show ((w.alloc (.cells ROW 71)).drew.setCells w.heap.size (i * 5) vs).heap[k]? = _
            rw [k5 k (by omega)]
            show (w.heap.push _)[k]? = _
            rw [Array.getElem?_push_lt hk, Array.getElem?_push_lt hk]
          · subst hk
            rw [r1]
            simp
          · rw [Array.getElem?_eq_none (by rw [j1]; show ((w.alloc (.cells ROW 71)).drew.setCells w.heap.size (i * 5) vs).heap.size ≤ k; rw [k1]; show (w.heap.push _).size ≤ k; simp; omega), Array.getElem?_eq_none (by simp; omega)]
theorem cutAttr : CutOk Tryz.prog 79 5 := by
  refine ⟨by omega, fun w b off n c i cs hin hnc hc63 hcl hcs hfz h1c => ?_⟩
  refine (del_one b off n c i (i + 1) rfl cs w hin hnc hc63 hcl hcs hfz h1c).mono fun e w' ⟨Z, hZ, he, hw⟩ => ⟨he, ?_⟩
  subst hw
  have hz : (Builtin.zeroCells Z 1).toList.length = 5 := by simp [Builtin.zeroCells, hZ]
  have hdl : (cs.drop ((i + 1) * 5)).length = (n - (i + 1)) * 5 := by rw [List.length_drop, hcl]; omega
  refine rowOut_two (w0 := w.drew) (o1 := off + i * 5) (xs := cs.drop ((i + 1) * 5)) (o2 := off + (n - 1) * 5) (ys := (Builtin.zeroCells Z 1).toList) rfl rfl rfl rfl (by omega) (by omega) (by omega) (by omega) fun c e fr hc j v hj hlt => ?_
  have hjl := (List.getElem?_eq_some_iff.1 hj).1
  rw [cutL_length (by omega), hcl] at hjl
  unfold cutL at hj
  have hl : (cs.take (i * 5)).length = i * 5 := by rw [List.length_take]; omega
  rcases Nat.lt_or_ge j (i * 5) with h1 | h1
  · rw [List.getElem?_append_left (by omega), List.getElem?_take, if_pos h1] at hj
    exact .inr (.inr ⟨.inl (by omega), .inl (by omega), cell_heap (hcs j v hj) hc⟩)
  · rw [List.getElem?_append_right (by omega), hl] at hj
    exact .inr (.inl ⟨.inl (by omega), by omega, by rw [show off + j - (off + i * 5) = j - i * 5 by omega, show (i + 1) * 5 = i * 5 + 5 by omega]; exact hj⟩)
end Go.Proofs.DwT
