/- A machine over Go's operations in which slices are values: structs, literals, conversions, comparisons. -/
import Derived.Test.YtipeffaojbhbmaaDoorDmE
set_option linter.unusedSimpArgs false
set_option linter.unusedVariables false
namespace Go.DM
open Go Go.AM

def PDL (r : Rl) (ps : List (Nat × D)) (qs : List (Nat × Value)) : Prop := ps.length = qs.length ∧ ∀ i (h : i < ps.length) (h' : i < qs.length), ps[i].1 = qs[i].1 ∧ DRel r ps[i].2 qs[i].2
theorem PDL.head {r p ps q qs} (h : PDL r (p :: ps) (q :: qs)) : p.1 = q.1 ∧ DRel r p.2 q.2 := h.2 0 (by simp) (by simp)
theorem PDL.tail {r p ps q qs} (h : PDL r (p :: ps) (q :: qs)) : PDL r ps qs := ⟨by simpa using h.1, fun i h1 h2 => h.2 (i + 1) (by simpa using h1) (by simpa using h2)⟩

theorem fold_wr {off : Nat} : ∀ (vs : List Value) (k : Nat) (cs : Array Value), ((vs.zipIdx k).foldl (fun cs (c, j) => cs.setIfInBounds (off + j) c) cs).toList = wr cs.toList (off + k) vs
  | [], _, _ => rfl
  | v :: vs, k, cs => by
    simp only [List.zipIdx_cons, List.foldl_cons, wr]
    rw [fold_wr vs (k + 1)]
    simp [Nat.add_assoc]

theorem fill_rel' {r : Rl} {place : Nat → Option (Nat × Nat)} : ∀ (ps : List (Nat × D)) (qs : List (Nat × Value)) (ds : List D) (cs : Array Value) {out : List D}, PDL r ps qs → DL r ds cs.toList → fillD place ds ps = some out →
    ∃ cs', Instr.fill place cs qs = some cs' ∧ DL r out cs'.toList
  | [], [], ds, cs, out, _, hc, h => by simp [fillD] at h; subst h; exact ⟨cs, rfl, hc⟩
  | [], _ :: _, _, _, _, h, _, _ => by simp [PDL] at h
  | _ :: _, [], _, _, _, h, _, _ => by simp [PDL] at h
  | (i, d) :: ps, (i', v) :: qs, ds, cs, out, hp, hc, h => by
    obtain ⟨e, hv⟩ := hp.head
    simp only at e hv
    subst e
    simp only [fillD] at h
    cases hpl : place i with
    | none => simp [hpl] at h
    | some os =>
      obtain ⟨off, size⟩ := os
      cases hcd : cellsD d with
      | none => simp [hpl, hcd] at h
      | some xs =>
        simp only [hpl, hcd] at h
        split at h
        · rename_i hcond
          have dv := cellsD_rel hv hcd
          have hl1 : v.cells.size = xs.length := by have := dv.1; simp at this; omega
          have hl2 : cs.size = ds.length := by have := hc.1; simp at this; omega
          have hcl : DL r (wr ds off xs) ((v.cells.zipIdx.foldl (fun cs (c, j) => cs.setIfInBounds (off + j) c) cs)).toList := by
            rw [← Array.foldl_toList]
            have := fold_wr (off := off) v.cells.toList 0 cs
            simp only [Array.toList_zipIdx]
            rw [this]
            exact DL.wr hc dv
          obtain ⟨cs', h1, h2⟩ := fill_rel' ps qs _ _ hp.tail hcl h
          refine ⟨cs', ?_, h2⟩
          simp only [Instr.fill, hpl]
          have hc2 : (v.cells.size ≠ size || off + v.cells.size > cs.size) = false := by
            simp only [Bool.or_eq_false_iff, decide_eq_false_iff_not, ne_eq, Decidable.not_not, Nat.not_lt, gt_iff_lt]
            omega
          simp only [hc2, Bool.false_eq_true, if_false]
          exact h1
        · cases h

theorem build_rel {P : Program} {r : Rl} {t : TypeId} {ps : List (Nat × D)} {qs : List (Nat × Value)} (hp : PDL r ps qs) {d : D} (h : buildD P t ps = some d) : ∃ v, buildA P t qs = some v ∧ DRel r d v := by
  unfold buildD at h
  unfold buildA zeroA Program.built
  split at h
  · rename_i it n e hi hu
    split at h
    · rename_i z ie hz hie
      split at h
      · rename_i hsc
        simp only [Option.map_eq_some_iff] at h
        obtain ⟨out, hf, rfl⟩ := h
        obtain ⟨cs', h1, h2⟩ := fill_rel' ps qs _ z.cells hp (.map_ofS _) hf
        refine ⟨.agg cs', ?_, .agg _ _ (by simpa using h2.1) fun i a b => by have := h2.2 i a (by simpa using b); rwa [Array.getElem_toList] at this⟩
        simp [hi, hz, hsc, hu, hie, h1]
      · cases h
    · cases h
  · rename_i it fields hi hu
    split at h
    · rename_i z places hz hpl
      split at h
      · rename_i hsc
        simp only [Option.map_eq_some_iff] at h
        obtain ⟨out, hf, rfl⟩ := h
        obtain ⟨cs', h1, h2⟩ := fill_rel' ps qs _ z.cells hp (.map_ofS _) hf
        refine ⟨.agg cs', ?_, .agg _ _ (by simpa using h2.1) fun i a b => by have := h2.2 i a (by simpa using b); rwa [Array.getElem_toList] at this⟩
        have h1' : Instr.fill (fun x => places[x]?) z.cells qs = some cs' := by rw [← h1]; congr 1; funext x; simp
        simp [hi, hz, hsc, hu, hpl, h1']
      · cases h
    · cases h
  · cases h

theorem repD_get {α : Type} {xs : List α} : ∀ (n i : Nat), i < n * xs.length → (repD xs n)[i]? = xs[i % xs.length]?
  | 0, i, h => by simp at h
  | n + 1, i, h => by
    simp only [repD]
    rcases Nat.lt_or_ge i xs.length with hi | hi
    · rw [List.getElem?_append_left hi, Nat.mod_eq_of_lt hi]
    · rw [List.getElem?_append_right hi, repD_get n (i - xs.length) (by rw [Nat.add_mul] at h; omega)]
      conv => rhs; rw [Nat.mod_eq_sub_mod hi]
theorem repD_length {α : Type} {xs : List α} : ∀ n, (repD xs n).length = n * xs.length
  | 0 => by simp [repD]
  | n + 1 => by simp [repD, repD_length n, Nat.add_mul]; omega

theorem rep_rel {r : Rl} {z : Value} {size n : Nat} (hs : z.cells.size = size) : DL r (repD (z.cells.toList.map ofS) n) ((Array.range (n * size)).map (z.cells[· % z.cells.size]!)).toList := by
  have hl : (repD (z.cells.toList.map ofS) n).length = n * size := by rw [repD_length]; simp [hs]
  refine ⟨by rw [hl]; simp, fun i h1 h2 => ?_⟩
  have hi : i < n * size := by rw [← hl]; exact h1
  have hp : 0 < size := Nat.pos_of_ne_zero fun h => by subst h; simp at hi
  have e : (repD (z.cells.toList.map ofS) n)[i]? = (z.cells.toList.map ofS)[i % size]? := by
    have := repD_get (xs := z.cells.toList.map ofS) n i (by simpa [hs] using hi)
    simpa [hs] using this
  have hm : i % size < z.cells.size := by rw [hs]; exact Nat.mod_lt _ hp
  have e2 : (repD (z.cells.toList.map ofS) n)[i] = ofS z.cells[i % size] := by
    have h3 := List.getElem?_eq_getElem h1
    rw [e] at h3
    simp only [List.getElem?_map, Array.getElem?_toList] at h3
    simp [hm] at h3
    exact h3.symm
  rw [e2]
  simp only [Array.toList_map, List.getElem_map, Array.toList_range, List.getElem_range, hs]
  rw [getElem!_pos z.cells _ hm]
  exact .ofS _

theorem fillD_length {place : Nat → Option (Nat × Nat)} : ∀ (ps : List (Nat × D)) (ds : List D) {out : List D}, fillD place ds ps = some out → out.length = ds.length
  | [], ds, out, h => by simp [fillD] at h; subst h; rfl
  | (i, d) :: ps, ds, out, h => by
    simp only [fillD] at h
    split at h
    · split at h
      · rw [fillD_length ps _ h, wr_length]
      · cases h
    · cases h

theorem buildSlice_rel {P : Program} {r : Rl} {S S' : Mem} (hS : SRel r S) {t : TypeId} {len : Nat} {ps : List (Nat × D)} {qs : List (Nat × Value)} (hp : PDL r ps qs) {d : D} (h : buildSliceD P t len ps S = some (d, S')) :
    Comes r S' d (buildSliceA P t len qs r.H) := by
  simp only [buildSliceD, Option.bind_eq_bind] at h
  cases hu : P.underlying t with
  | none => simp [hu] at h
  | some q =>
  cases q <;> (try (simp [hu] at h; done))
  case slice e =>
  simp only [hu, Option.bind_some] at h
  cases hsz : sizeA P e with
  | none => simp [hsz] at h
  | some size =>
  simp only [hsz, Option.bind_some] at h
  cases hz : zeroA P e with
  | none => simp [hz] at h
  | some z =>
  simp only [hz, Option.bind_some] at h
  split at h
  · cases h
  rename_i hcond
  have hc := hcond
  simp only [not_or, Nat.not_lt, ne_eq, Decidable.not_not, Bool.not_eq_false] at hc
  obtain ⟨c1, c2, c3⟩ := hc
  cases hf : fillD (fun i => some (i * size, size)) (repD (z.cells.toList.map ofS) len) ps with
  | none => simp [hf] at h
  | some cells =>
  simp only [hf, Option.bind_some] at h
  split at h
  · cases h
    obtain ⟨cs', h1, h2⟩ := fill_rel' ps qs _ ((Array.range (len * size)).map (z.cells[· % z.cells.size]!)) hp (rep_rel c3) hf
    have hcl : cells.length = len * size := by rw [fillD_length _ _ hf, repD_length]; simp [c3]
    obtain ⟨le, sr, dr⟩ := new_own (sz := size) (len := len) hS h2 hcl
    refine ⟨_, _, _, ?_, rfl, le, sr, dr⟩
    simp only [buildSliceA, Option.bind_eq_bind, hu, hsz, hz, Option.bind_some, if_neg hcond, h1]
    rfl
  · cases h

theorem makeSlice_rel {P : Program} {r : Rl} {S S' : Mem} (hS : SRel r S) {t : TypeId} {l c d : D} {l' c' : Value} (hl : DRel r l l') (hc : DRel r c c') (h : makeSliceD P t l c S = some (d, S')) :
    Comes r S' d (makeSliceA P t l' c' r.H) := by
  simp only [makeSliceD, Option.bind_eq_bind] at h
  cases hu : P.underlying t with
  | none => simp [hu] at h
  | some q =>
  cases q <;> (try (simp [hu] at h; done))
  case slice e =>
  simp only [hu, Option.bind_some] at h
  cases hi : P.info? e with
  | none => simp [hi] at h
  | some info =>
  simp only [hi, Option.bind_some] at h
  cases hz : info.zero with
  | none => simp [hz] at h
  | some z =>
  simp only [hz, Option.bind_some] at h
  cases hl <;> (try (simp at h; done))
  rename_i k1 l
  cases k1 <;> (try (simp at h; done))
  cases hc <;> (try (simp at h; done))
  rename_i k2 c
  cases k2 <;> (try (simp at h; done))
  simp only at h
  split at h
  · rename_i hcond
    cases h
    have c3 := hcond.2.2.2.2.2
    have dl := rep_rel (r := r) (n := l.toNat) c3
    obtain ⟨le, sr, dr⟩ := new_own (sz := info.size) (len := l.toNat) hS dl (by rw [repD_length]; simp [c3])
    refine ⟨_, _, _, ?_, rfl, le, sr, dr⟩
    simp only [makeSliceA, Option.bind_eq_bind, hu, hi, hz, Option.bind_some, if_pos hcond]
    rfl
  · cases h
end Go.DM
