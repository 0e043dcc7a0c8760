/- A machine over Go's operations in which slices are values: reading, writing, slicing, fields, elements. -/
import Derived.Test.YtipeffaojbhbmaaDoorDmC
set_option linter.unusedSimpArgs false
set_option linter.unusedVariables false
namespace Go.DM
open Go Go.AM

theorem cellsAt_rel {r : Rl} {S : Mem} (hS : SRel r S) {x : D} {x' : Value} (hx : DRel r x x') {cells : List D} {off : Nat} (h : cellsAt x S = some (cells, off)) :
    ∃ (a : Addr) (b : Blk) (o : Nat) (vs : List Value), x' = .pointer (some a) ∧ a.spot = none ∧ a.off = o + off ∧ hget r.H a.block = some b ∧ o + vs.length ≤ b.cells.length ∧ vs = (b.cells.drop o).take vs.length ∧ DL r cells vs := by
  cases hx with
  | ptr o off' ho =>
    simp only [cellsAt, Option.map_eq_some_iff, Prod.mk.injEq] at h
    obtain ⟨c, hc, rfl, rfl⟩ := h
    obtain ⟨b, g, w, l, kk, dl⟩ := hS.obj o c hc
    exact ⟨_, b, 0, b.cells, rfl, rfl, by simp, g, by simp, by simp, dl⟩
  | eptr cs off' vs h0 o hk hr hl hc =>
    simp only [cellsAt, Option.some.injEq, Prod.mk.injEq] at h
    obtain ⟨rfl, rfl⟩ := h
    obtain ⟨b, g, hlen, e⟩ := readA_some hr
    exact ⟨_, b, o, vs, rfl, rfl, rfl, g, hlen, e, hl, hc⟩
  | _ => simp [cellsAt] at h

theorem load_rel {P : Program} {r : Rl} {S : Mem} (hS : SRel r S) {t : TypeId} {x : D} {x' : Value} (hx : DRel r x x') {d : D} (h : loadD P t x S = some d) : ∃ v, loadA P t x' r.H = some v ∧ DRel r d v := by
  unfold loadD at h
  cases hc : cellsAt x S with
  | none => rw [hc] at h; simp at h
  | some p =>
    obtain ⟨cells, off⟩ := p
    obtain ⟨a, b, o, vs, rfl, hsp, hoff, hg, hlen, hvs, dl⟩ := cellsAt_rel hS hx hc
    obtain ⟨B, off', sp⟩ := a
    simp only at hsp hoff hg
    subst hsp hoff
    rw [hc] at h
    cases ha : isAggA P t with
    | none => rw [ha] at h; simp at h
    | some ag =>
      rw [ha] at h
      cases ag with
      | true =>
        cases hs : sizeA P t with
        | none => rw [hs] at h; simp at h
        | some n =>
          rw [hs] at h
          simp only at h
          split at h
          · rename_i hle
            cases h
            have hle' : off + n ≤ vs.length := dl.1 ▸ hle
            refine ⟨.agg ((b.cells.drop (o + off)).take n).toArray, ?_, ?_⟩
            · simp only [loadA, ha, hs, Option.bind_eq_bind, Option.bind_some, if_true]
              rw [readA_mk hg (by omega)]
              rfl
            · have e : (b.cells.drop (o + off)).take n = (vs.drop off).take n := by
                have e0 : vs.drop off = ((b.cells.drop o).take vs.length).drop off := by rw [← hvs]
                rw [e0, List.drop_take, List.drop_drop, List.take_take, Nat.min_eq_left (by omega)]
              rw [e]
              have := (dl.drop off).take n
              exact .agg _ _ (by simpa using this.1) fun i h1 h2 => by simp only [List.getElem_toArray]; exact this.2 i h1 (by simpa using h2)
          · cases h
      | false =>
        simp only at h
        obtain ⟨v, hv, hd⟩ := dl.get h
        refine ⟨v, ?_, hd⟩
        simp only [loadA, ha, Option.bind_eq_bind, Option.bind_some, Bool.false_eq_true, if_false, Option.isSome_none, hg]
        rw [hvs] at hv
        rw [List.getElem?_take, List.getElem?_drop] at hv
        split at hv
        · exact hv
        · cases hv

theorem objAt_some {S : Mem} {o : Nat} {cells : List D} (h : objAt S o = some cells) : S[o]? = some (.obj cells) := by
  unfold objAt at h
  split at h
  · cases h; assumption
  · cases h

/-- An object is written. -/
theorem store_rel {P : Program} {r : Rl} {S S' : Mem} (hS : SRel r S) {t : TypeId} {x d : D} {x' v : Value} (hx : DRel r x x') (hd : DRel r d v) (h : storeD P t x d S = some S') :
    ∃ H', storeA P 0 t x' v r.H = some H' ∧ r.Le ⟨r.n, r.ψ, r.k, H'⟩ ∧ SRel ⟨r.n, r.ψ, r.k, H'⟩ S' := by
  unfold storeD at h
  cases hx with
  | ptr o off ho =>
    cases hc : cellsD d with
    | none => rw [hc] at h; simp at h
    | some ds =>
      rw [hc] at h
      cases hs : sizeA P t with
      | none => rw [hs] at h; simp at h
      | some n =>
        rw [hs] at h
        simp only at h
        cases hoa : objAt S o with
        | none => rw [hoa] at h; simp at h
        | some cells =>
          rw [hoa] at h
          simp only at h
          split at h
          · rename_i hcond
            obtain ⟨hn, hle, hone⟩ := hcond
            cases h
            have dv := cellsD_rel hd hc
            obtain ⟨b, g, w, l, kk, dl⟩ := hS.obj o cells hoa
            have hlt := hget_lt g
            have hvl : v.cells.size = n := by have := dv.1; simp at this; omega
            have hH : storeA P 0 t (.pointer (some ⟨r.ψ o, off, none⟩)) v r.H = some (hset r.H (r.ψ o) (some { b with cells := wr b.cells off v.cells.toList })) := by
              simp only [storeA, hs, Option.bind_eq_bind, Option.bind_some, hvl, ne_eq, not_true_eq_false, if_false, writeA, Option.isSome_none, Bool.false_eq_true, g]
              have hc1 : off + v.cells.toList.length ≤ b.cells.length := by rw [← dv.1, ← dl.1]; exact hle
              rw [if_pos ⟨w, Nat.zero_le _, hc1, all_one dv hone⟩, if_pos (by omega), writeL_wr]
            have le : r.Le ⟨r.n, r.ψ, r.k, hset r.H (r.ψ o) (some { b with cells := wr b.cells off v.cells.toList })⟩ := by
              refine ⟨Nat.le_refl _, fun _ _ => rfl, by simp [length_hset], fun h c hk hg => ⟨hk, ?_⟩⟩
              have hne : r.ψ o ≠ h := by rintro rfl; rw [kk] at hk; cases hk
              exact ⟨c, by rw [hget_set_ne hne]; exact hg, rfl, rfl⟩
            refine ⟨_, hH, le, by simpa using hS.n, ?_, ?_, ?_⟩
            · intro o' cells' ho'
              by_cases e : o' = o
              · subst e
                have hlo : o' < S.length := (List.getElem?_eq_some_iff.1 (objAt_some hoa)).1
                have : objAt (S.set o' (.obj (wr cells off ds))) o' = some (wr cells off ds) := by simp [objAt, hlo]
                rw [this] at ho'
                cases ho'
                exact ⟨_, hget_set_eq hlt, w, l, kk, (dl.mono le).wr (dv.mono le)⟩
              · have hq : objAt S o' = some cells' := by
                  unfold objAt at ho' ⊢
                  rwa [List.getElem?_set_ne (Ne.symm e)] at ho'
                obtain ⟨b', g', w', l', kk', dl'⟩ := hS.obj o' cells' hq
                have hne := hS.inj o o' (Ne.symm e) ⟨_, objAt_some hoa, by simp⟩ ⟨_, objAt_some hq, by simp⟩
                exact ⟨b', by rw [hget_set_ne hne]; exact g', w', l', kk', dl'.mono le⟩
            · intro id hid
              have hne : id ≠ o := by
                rintro rfl
                have hlo : id < S.length := (List.getElem?_eq_some_iff.1 (objAt_some hoa)).1
                simp [hlo] at hid
              rw [List.getElem?_set_ne (Ne.symm hne)] at hid
              obtain ⟨b', g', w', kk'⟩ := hS.own id hid
              have hne' : r.ψ o ≠ r.ψ id := by intro e; rw [← e] at kk'; rw [kk] at kk'; cases kk'
              exact ⟨b', by rw [hget_set_ne hne']; exact g', w', kk'⟩
            · intro i j hij ⟨y, hy, hyd⟩ ⟨z, hz, hzd⟩
              have key : ∀ {i : Nat} {y : Ob}, (S.set o (.obj (wr cells off ds)))[i]? = some y → y ≠ .dead → ∃ x, S[i]? = some x ∧ x ≠ .dead := by
                intro i y hi hy
                by_cases e : i = o
                · subst e; exact ⟨_, objAt_some hoa, by simp⟩
                · rw [List.getElem?_set_ne (Ne.symm e)] at hi; exact ⟨y, hi, hy⟩
              exact hS.inj i j hij (key hy hyd) (key hz hzd)
          · cases h
  | _ => simp at h

theorem field_rel {P : Program} {r : Rl} {s : TypeId} {x d : D} {x' : Value} {f : Nat} (hx : DRel r x x') (h : fieldAtD P s x f = some d) : ∃ v, fieldAtA P s x' f = some v ∧ DRel r d v := by
  unfold fieldAtD at h
  split at h
  · rename_i fields hu
    split at h
    · rename_i fd hf
      split at h
      · rename_i q o off hs
        cases h
        cases hx with
        | ptr _ _ ho =>
          refine ⟨.pointer (some ⟨r.ψ o, off + fd.offset, none⟩), ?_, .ptr _ _ ho⟩
          simp [fieldAtA, hu, hf, hs]
      · rename_i q cells off hs
        cases h
        cases hx with
        | eptr _ _ vs h o hk hr hl hc =>
          refine ⟨.pointer (some ⟨h, o + off + fd.offset, none⟩), ?_, ?_⟩
          · simp [fieldAtA, hu, hf, hs]
          · rw [Nat.add_assoc]; exact .eptr _ _ vs h o hk hr hl hc
      · cases h
    · cases h
  · cases h

theorem index_rel {P : Program} {r : Rl} {t : TypeId} {x ix d : D} {x' ix' : Value} (hx : DRel r x x') (hi : DRel r ix ix') (h : indexAtD P t x ix = some d) : ∃ v, indexAtA P t x' ix' = some v ∧ DRel r d v := by
  unfold indexAtD at h
  split at h
  · rename_i e own sz len cells k i hu
    split at h
    · rename_i hcond
      obtain ⟨h1, h2, h3⟩ := hcond
      cases h
      cases hi
      cases hx with
      | sl _ _ _ _ vs h o m b hk hg hz hr hm hl hs ho hc =>
        refine ⟨.pointer (some ⟨h, o + i.toNat * sz, none⟩), ?_, .eptr _ _ vs h o hk hr hl hc⟩
        simp [indexAtA, hu, h1, h2, h3]
      | slE => omega
    · cases h
  · cases h

theorem nat_rel {r : Rl} {d : D} {v : Value} (h : DRel r d v) {n : Nat} (e : natD d = some n) : natA v = some n := by
  cases h <;> simp [natD] at e <;> simp [natA, e]
theorem optNat_rel {r : Rl} {d : Option D} {v : Option Value} (h : match d, v with | some d, some v => DRel r d v | none, none => True | _, _ => False) {n : Option Nat} (e : optNatD d = some n) : optNat v = some n := by
  cases d <;> cases v <;> simp at h
  · simpa [optNatD, optNat] using e
  · simp only [optNatD, Option.map_eq_some_iff] at e
    obtain ⟨m, hm, rfl⟩ := e
    simp [optNat, nat_rel h hm]
end Go.DM
