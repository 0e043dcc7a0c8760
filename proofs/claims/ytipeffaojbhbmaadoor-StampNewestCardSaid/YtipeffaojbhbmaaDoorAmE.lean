/- An abstract machine over Go's operations: single operations are sound, first part. -/
import Derived.Test.YtipeffaojbhbmaaDoorAmD
set_option linter.unusedSimpArgs false
set_option linter.unusedVariables false
namespace Go.AM
open Go

structure ERel (n : Nat) (φ : Nat → Place) (sz : Nat) (ρ : Env) (a : Act) : Prop where
  size : a.tmps.size = sz
  vals : ∀ t, VRel n φ (ρ t) (a.tmps.getD t undef)
  defers : a.defers = []

theorem ERel.eval {n φ sz ρ a} (h : ERel n φ sz ρ a) {x : Operand} (hx : okOperand x = true) : VRel n φ (evalA ρ x) (a.eval x) := by
  cases x with
  | tmp t => exact h.vals t
  | const v => exact .closed hx
  | global g => exact .glob g
  | func f => exact .func _ _ _ _ _ rfl (fun i h => by simp at h) rfl (fun i h => by simp at h)

theorem ERel.put {n φ sz ρ a} (h : ERel n φ sz ρ a) {d : Option Tmp} (hd : okDst sz d) {v v'} (hv : VRel n φ v v') : ERel n φ sz (put ρ d v) (a.put d v') := by
  cases d with
  | none => exact h
  | some t =>
    have ht : t < a.tmps.size := by rw [h.size]; exact hd
    refine ⟨by simpa [Act.put] using h.size, fun i => ?_, h.defers⟩
    by_cases hi : i = t
    · subst hi
      simp [Act.put, AM.put, upd, ht, Array.getD]
      exact hv
    · have : (a.tmps.setIfInBounds t v').getD i undef = a.tmps.getD i undef := by
        simp [Array.getD_eq_getD_getElem?, Array.getElem?_setIfInBounds_ne (Ne.symm hi)]
      simp only [Act.put, AM.put, upd, hi, if_false, this]
      exact h.vals i

theorem ERel.mono {n n' φ φ' sz ρ a} (h : ERel n φ sz ρ a) (hn : n ≤ n') (hk : ∀ i, i < n → φ' i = φ i) : ERel n' φ' sz ρ a :=
  ⟨h.size, fun t => (h.vals t).mono hn hk, h.defers⟩

/-- What is to be shown of an operation. -/
def Sound (P : Program) (base : Nat) (φ : Nat → Place) (H : Heap) (w : World) (s : Sem Value) (v : Value) (H' : Heap) : Prop :=
  ∃ v' w' φ', s.run P w = .ok v' w' ∧ Step base φ H w φ' H' w' ∧ VRel H'.length φ' v v'

theorem Sound.pure {P base φ H w} (hs : Sim φ H w) {v v'} {s : Sem Value} (hr : s.run P w = .ok v' w) (h : VRel H.length φ v v') : Sound P base φ H w s v H :=
  ⟨v', w, φ, hr, .refl hs, h⟩

theorem sound_new {P : Program} {base φ H w} (hs : Sim φ H w) {cells : List Value} {cs : Array Value} {sz : Nat} (e : TypeId) (hc : LRel H.length φ cells cs.toList) :
    ∃ φ', Step base φ H w φ' (newA H cells sz) (w.alloc (.cells cs e)) ∧ VRel (newA H cells sz).length φ' (.pointer (some (atNew H))) (.pointer (some ⟨w.heap.size, 0, none⟩)) ∧
      φ' H.length = ⟨w.heap.size, 0, cs.size, sz⟩ := by
  refine ⟨_, step_new (e := e) (fr := (0, 0)) (fin := cs.size) hs rfl rfl rfl rfl ?_ (Nat.le_refl _) (fun i _ h => by simp at h) ?_, Step.new_at, extP_eq⟩
  · have := hc.1; simp at this; omega
  · intro i v hv
    have hi := (List.getElem?_eq_some_iff.1 hv).1
    have hi' : i < cs.size := by have := hc.1; simp at this; omega
    exact ⟨cs[i], by simp [hi'], hc.2 i v cs[i] hv (by simp [hi'])⟩

theorem sound_newT {P : Program} {base φ H w} (hs : Sim φ H w) {cells : List Value} {cs : Array Value} {sz : Nat} (e : TypeId) (hl : cells.length ≤ cs.size) (hc : ∀ (i : Nat) (v : Value), cells[i]? = some v → ∃ v' : Value, cs[i]? = some v' ∧ VRel H.length φ v v') :
    ∃ φ', Step base φ H w φ' (newA H cells sz) (w.alloc (.cells cs e)) ∧ φ' H.length = ⟨w.heap.size, 0, cs.size, sz⟩ :=
  ⟨_, step_new (e := e) (fr := (0, 0)) (fin := cs.size) hs rfl rfl rfl rfl hl (Nat.le_refl _) (fun i _ h => by simp at h) hc, extP_eq⟩

theorem scalar_cells {n φ} {z : Value} (h : z.cells.all scalarV = true) : LRel n φ z.cells.toList z.cells.toList :=
  .of_scalar fun v hv => by
    rw [Array.all_eq_true] at h
    obtain ⟨i, hi, rfl⟩ := List.getElem_of_mem hv
    exact h i (by simpa using hi)

theorem sound_alloc {P : Program} {base φ H w} (hs : Sim φ H w) {t : TypeId} {z : Value} (hz : zeroA P t = some z) (hc : z.cells.all scalarV = true) :
    Sound P base φ H w (Instr.alloc t true (.tuple #[])) (.pointer (some (atNew H))) (newA H z.cells.toList 1) := by
  obtain ⟨φ', hst, hv, _⟩ := sound_new (P := P) (base := base) (sz := 1) hs (cs := z.cells) t (scalar_cells hc)
  refine ⟨.pointer (some ⟨w.heap.size, 0, none⟩), w.alloc (.cells z.cells t), φ', ?_, hst, hv⟩
  simp [Instr.alloc, run_zeroA hz, newVar, newRow]

theorem sound_box {P : Program} {base φ H w} (hs : Sim φ H w) {t : TypeId} {v v' : Value} (hv : VRel H.length φ v v') :
    Sound P base φ H w (Instr.box t v') (.pointer (some (atNew H))) (newA H v.cells.toList 1) := by
  obtain ⟨φ', hst, hv, _⟩ := sound_new (P := P) (base := base) (sz := 1) hs (cs := v'.cells) t hv.cells
  refine ⟨.pointer (some ⟨w.heap.size, 0, none⟩), w.alloc (.cells v'.cells t), φ', ?_, hst, hv⟩
  simp [Instr.box, newVar, newRow]

/-- Parts pointwise. -/
def PRel (n : Nat) (φ : Nat → Place) (ps qs : List (Nat × Value)) : Prop := ps.length = qs.length ∧ ∀ i, i < ps.length → (ps.getD i default).1 = (qs.getD i default).1 ∧ VRel n φ (ps.getD i default).2 (qs.getD i default).2

theorem PRel.tail {n φ p q ps qs} (h : PRel n φ (p :: ps) (q :: qs)) : PRel n φ ps qs :=
  ⟨by simpa using h.1, fun i hi => by simpa using h.2 (i + 1) (by simpa using hi)⟩
theorem PRel.head {n φ p q ps qs} (h : PRel n φ (p :: ps) (q :: qs)) : p.1 = q.1 ∧ VRel n φ p.2 q.2 := by simpa using h.2 0 (by simp)

theorem PRel.of_map {n φ sz ρ a} (h : ERel n φ sz ρ a) : ∀ (ps : List (Nat × Operand)), ps.all (fun p => okOperand p.2) = true →
    PRel n φ (ps.map fun (i, x) => (i, evalA ρ x)) (ps.map fun (i, x) => (i, a.eval x))
  | [], _ => ⟨rfl, fun i hi => by simp at hi⟩
  | p :: ps, hp => by
    simp only [List.all_cons, Bool.and_eq_true] at hp
    have ih := PRel.of_map h ps hp.2
    refine ⟨by simp, fun i hi => ?_⟩
    cases i with
    | zero => simpa using h.eval hp.1
    | succ i => simpa using ih.2 i (by simpa using hi)

theorem LRel.set {n φ a a'} (h : LRel n φ a a') {i : Nat} {v v'} (hv : VRel n φ v v') : LRel n φ (a.set i v) (a'.set i v') := by
  refine ⟨by simpa using h.1, fun j u u' hu hu' => ?_⟩
  simp only [List.getElem?_set] at hu hu'
  split at hu
  · rename_i hij
    simp only [hij, if_true] at hu'
    split at hu
    · cases hu
      split at hu'
      · cases hu'; exact hv
      · cases hu'
    · cases hu
  · rename_i hij
    simp only [hij, if_false] at hu'
    exact h.2 j u u' hu hu'

theorem fold_rel {n φ} {off : Nat} : ∀ (vs vs' : List Value) (k : Nat) (cs cs' : Array Value), LRel n φ vs vs' → LRel n φ cs.toList cs'.toList →
    LRel n φ ((vs.zipIdx k).foldl (fun cs (c, j) => cs.setIfInBounds (off + j) c) cs).toList ((vs'.zipIdx k).foldl (fun cs (c, j) => cs.setIfInBounds (off + j) c) cs').toList
  | [], [], _, _, _, _, h => h
  | [], _ :: _, _, _, _, h, _ => by simp [LRel] at h
  | _ :: _, [], _, _, _, h, _ => by simp [LRel] at h
  | v :: vs, v' :: vs', k, cs, cs', hv, hc => by
    simp only [List.zipIdx_cons, List.foldl_cons]
    refine fold_rel vs vs' (k + 1) _ _ hv.tail ?_
    rw [Array.toList_setIfInBounds, Array.toList_setIfInBounds]
    exact hc.set hv.head

theorem fill_rel {n φ} {place : Nat → Option (Nat × Nat)} : ∀ (ps qs : List (Nat × Value)) (cs cs' : Array Value) {r : Array Value}, PRel n φ ps qs → LRel n φ cs.toList cs'.toList →
    Instr.fill place cs ps = some r → ∃ r', Instr.fill place cs' qs = some r' ∧ LRel n φ r.toList r'.toList
  | [], [], _, cs', _, _, hc, h => by simp [Instr.fill] at h; subst h; exact ⟨cs', rfl, hc⟩
  | [], _ :: _, _, _, _, h, _, _ => by simp [PRel] at h
  | _ :: _, [], _, _, _, h, _, _ => by simp [PRel] at h
  | (i, v) :: ps, (i', v') :: qs, cs, cs', r, hp, hc, h => by
    obtain ⟨e, hv⟩ := hp.head
    simp only at e hv
    subst e
    have hvl := hv.cells.1
    simp only [Array.length_toList] at hvl
    have hcl := hc.1
    simp only [Array.length_toList] at hcl
    simp only [Instr.fill] at h ⊢
    cases hpl : place i with
    | none => simp [hpl] at h
    | some os =>
      obtain ⟨off, size⟩ := os
      simp only [hpl] at h ⊢
      rw [← hvl, ← hcl]
      split at h
      · cases h
      · rename_i hcond
        simp only [hcond]
        refine fill_rel ps qs _ _ hp.tail ?_ h
        have := fold_rel (off := off) v.cells.toList v'.cells.toList 0 cs cs' hv.cells hc
        rw [← Array.foldl_toList, ← Array.foldl_toList]
        simpa using this

theorem sound_build {P : Program} {base φ H w} (hs : Sim φ H w) {t : TypeId} {ps : List (Nat × Value)} {qs : Array (Nat × Value)} (hp : PRel H.length φ ps qs.toList) {v : Value} (h : buildA P t ps = some v) :
    Sound P base φ H w (Instr.build t qs) v H := by
  unfold buildA at h
  cases hz : zeroA P t with
  | none => simp [hz] at h
  | some z =>
    simp only [hz] at h
    split at h
    · cases h
    · rename_i hsc
      have hsc : z.cells.all scalarV = true := by simpa using hsc
      cases hb : P.built t ps with
      | none => simp [hb] at h
      | some cells =>
        simp only [hb, Option.map_some, Option.some.injEq] at h
        subst h
        have : ∃ cells', P.built t qs.toList = some cells' ∧ LRel H.length φ cells.toList cells'.toList := by
          unfold Program.built at hb ⊢
          unfold zeroA at hz
          cases hi : P.info? t with
          | none => simp [hi] at hz
          | some it =>
            simp only [hi, Option.bind_some] at hz
            cases hu : P.underlying t with
            | none => simp [hi, hu] at hb
            | some d =>
              cases d <;> try (simp [hi, hu] at hb; done)
              case array n e =>
                cases hie : P.info? e with
                | none => simp [hi, hu, hie] at hb
                | some ie =>
                  simp only [hi, hu, hz, hie] at hb ⊢
                  exact fill_rel ps qs.toList z.cells z.cells hp (scalar_cells hsc) hb
              case struct fields =>
                cases hpl : fields.toList.mapM (fun f => (P.info? f.type).map fun i => (f.offset, i.size)) with
                | none => simp [hi, hu, hpl] at hb
                | some places =>
                  simp only [hi, hu, hz, hpl] at hb ⊢
                  exact fill_rel ps qs.toList z.cells z.cells hp (scalar_cells hsc) hb
        obtain ⟨cells', hb', hrel⟩ := this
        exact .pure hs (run_build w t qs cells' hb') (by simpa using VRel.agg_of hrel)

theorem range_rel {n φ} {z : Value} (hsc : z.cells.all scalarV = true) (k : Nat) : LRel n φ ((Array.range k).map (z.cells[· % z.cells.size]!)).toList ((Array.range k).map (z.cells[· % z.cells.size]!)).toList := by
  refine ⟨rfl, fun i v v' hv hv' => ?_⟩
  rw [hv] at hv'
  cases hv'
  obtain ⟨hi, rfl⟩ := List.getElem?_eq_some_iff.1 hv
  simp only [Array.toList_map, List.getElem_map]
  rcases Nat.eq_zero_or_pos z.cells.size with h0 | h0
  · rw [getElem!_neg z.cells _ (by omega)]
    exact .scalar rfl
  · have hlt : ∀ j, j % z.cells.size < z.cells.size := fun j => Nat.mod_lt _ h0
    rw [getElem!_pos z.cells _ (hlt _)]
    rw [Array.all_eq_true] at hsc
    exact .scalar (hsc _ (hlt _))

theorem sound_buildSlice {P : Program} {base φ H w} (hs : Sim φ H w) {t : TypeId} {len : Nat} {ps : List (Nat × Value)} {qs : Array (Nat × Value)} (hp : PRel H.length φ ps qs.toList) {v : Value} {H' : Heap} (h : buildSliceA P t len ps H = some (v, H')) :
    Sound P base φ H w (Instr.buildSlice t len qs) v H' := by
  simp only [buildSliceA, Option.bind_eq_bind] at h
  cases hu : P.underlying t with
  | none => simp [hu] at h
  | some d =>
    cases d <;> try (simp [hu] at h; done)
    rename_i e
    simp only [hu, Option.bind_some] at h
    cases hsz : sizeA P e with
    | none => simp [hsz] at h
    | some size =>
      simp only [hsz, Option.bind_some] at h
      cases hz : zeroA P e with
      | none => simp [hz] at h
      | some z =>
        simp only [hz, Option.bind_some] at h
        split at h
        · cases h
        · rename_i hc
          simp only [not_or, Nat.not_lt, ne_eq, Decidable.not_not, Bool.not_eq_false] at hc
          obtain ⟨h1, h2, h3⟩ := hc
          cases hf : Instr.fill (fun i => some (i * size, size)) ((Array.range (len * size)).map (z.cells[· % z.cells.size]!)) ps with
          | none => simp [hf] at h
          | some cells =>
            simp only [hf, Option.bind_some, Option.some.injEq, Prod.mk.injEq] at h
            obtain ⟨rfl, rfl⟩ := h
            obtain ⟨cells', hf', hrel⟩ := fill_rel ps qs.toList _ ((Array.range (len * size)).map (z.cells[· % z.cells.size]!)) hp (range_rel h2 _) hf
            obtain ⟨φ', hst, hv, hφ⟩ := sound_new (P := P) (base := base) (sz := size) hs (cs := cells') e hrel
            refine ⟨.slice (some ⟨w.heap.size, 0, none⟩) len len, w.alloc (.cells cells' e), φ', ?_, hst, ?_⟩
            · by_cases h0 : len * size = 0
              · have e1 : ((Array.range (len * size)).map (z.cells[· % z.cells.size]!)) = #[] := by simp [h0]
                rw [e1] at hf'
                have e3 : (Array.map (fun _ => (default : Value)) (Array.range 0)) = #[] := by simp
                simp [Instr.buildSlice, run_underA hu, run_sizeOf hsz, h0, e3, hf', newRow]
              · have h1' : ¬ (2 ^ 24 < len * size) := by omega
                simp [Instr.buildSlice, run_underA hu, run_sizeOf hsz, run_zeroA hz, h0, h1', hf', newRow]
            · have hfl := hrel.1
              have hlen : cells'.size = len * size := by
                have : ∀ (ps : List (Nat × Value)) (cs : Array Value) {r}, Instr.fill (fun i => some (i * size, size)) cs ps = some r → r.size = cs.size := by
                  intro ps
                  induction ps with
                  | nil => intro cs r h; simp [Instr.fill] at h; rw [h]
                  | cons p ps ih =>
                    intro cs r h
                    obtain ⟨i, v⟩ := p
                    simp only [Instr.fill] at h
                    split at h
                    · cases h
                    · rw [ih _ h]
                      rw [← Array.foldl_toList]
                      generalize v.cells.zipIdx.toList = l
                      rename_i hcc
                      clear h ih hcc
                      induction l generalizing cs with
                      | nil => rfl
                      | cons a l ih2 => simp only [List.foldl_cons]; rw [ih2]; simp
                have := this qs.toList _ hf'
                simpa using this
              have hs0 := VRel.sl (n := (newA H cells.toList size).length) (φ := φ') H.length 0 len len len (by simp [newA, newB]) (Nat.le_refl _) (Nat.le_refl _) (by rw [hφ]; simp [hlen])
              rw [hφ] at hs0
              simpa [atNew] using hs0

end Go.AM
