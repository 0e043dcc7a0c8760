/- A machine over Go's operations in which slices are values: what a law is handed, as values of it. -/
import Derived.Test.YtipeffaojbhbmaaDoorDmW
import Derived.ChangeArms
set_option linter.unusedSimpArgs false
set_option linter.unusedVariables false
namespace Go.DM
open Go Go.AM Go.RowKit Go.ChangeShapes Go.WideShapes

section
variable (P : Program)

def laidF : List Field → Nat → Nat → Bool
  | [], o, n => o == n
  | f :: fs, o, n => f.offset == o && laidF fs (o + P.cellsOf f.type) n

/-- Types whose values hold numbers, texts, slices and structs alone. -/
def plainT (ts : List TypeId) : Bool := ts.all fun t =>
  match P.underlying t with
  | some .bool | some (.int _) | some .string => P.cellsOf t == 1
  | some (.slice e) => P.cellsOf t == 1 && ts.contains e && decide (0 < P.cellsOf e)
  | some (.struct fs) => fs.toList.all (fun f => ts.contains f.type) && laidF P fs.toList 0 (P.cellsOf t)
  | _ => false

def WTs (f : TypeId → List D → Prop) : List TypeId → List D → Prop
  | [], ds => ds = []
  | t :: ts, ds => ∃ x y, ds = x ++ y ∧ x.length = P.cellsOf t ∧ f t x ∧ WTs f ts y

/-- Cells that hold a value of a type. -/
def WT : Nat → TypeId → List D → Prop
  | 0, _, _ => False
  | n + 1, t, ds =>
    match P.underlying t with
    | some .bool => ∃ b, ds = [.bool b]
    | some (.int k) => ∃ x, ds = [.int k x] ∧ (Lit.int k x).wf = true
    | some .string => ∃ s : ByteArray, ds = [.str s] ∧ s.size ≤ maxLen
    | some (.slice e) => ∃ xss : List (List D), ds = [.sl none (P.cellsOf e) xss.length xss.flatten] ∧ xss.length ≤ maxLen ∧ ∀ x ∈ xss, x.length = P.cellsOf e ∧ WT n e x
    | some (.struct fs) => WTs P (WT n) (fs.toList.map (·.type)) ds
    | _ => False
end

def rl (H : Heap) : Rl := ⟨0, fun _ => 0, fun _ => true, H⟩
structure Bs (w : World) (H : Heap) (φ : Nat → AM.Place) : Prop where
  sim : Sim φ H w
  ro : ∀ h b, hget H h = some b → b.rw = false
def Grow (H : Heap) (φ : Nat → AM.Place) (H' : Heap) (φ' : Nat → AM.Place) : Prop := (∃ E, H' = H ++ E) ∧ ∀ i, i < H.length → φ' i = φ i
theorem Grow.refl {H φ} : Grow H φ H φ := ⟨⟨[], by simp⟩, fun _ _ => rfl⟩
theorem Grow.trans {H φ H1 φ1 H2 φ2} (a : Grow H φ H1 φ1) (b : Grow H1 φ1 H2 φ2) : Grow H φ H2 φ2 := by
  obtain ⟨⟨E, rfl⟩, a2⟩ := a
  obtain ⟨⟨F, rfl⟩, b2⟩ := b
  exact ⟨⟨E ++ F, by simp⟩, fun i h => (b2 i (by simp; omega)).trans (a2 i h)⟩
theorem Grow.len {H φ H' φ'} (a : Grow H φ H' φ') : H.length ≤ H'.length := by
  obtain ⟨⟨E, rfl⟩, _⟩ := a
  simp
theorem Grow.le {H φ H' φ'} (a : Grow H φ H' φ') : (rl H).Le (rl H') := by
  obtain ⟨⟨E, rfl⟩, _⟩ := a
  refine ⟨Nat.le_refl _, fun _ _ => rfl, by simp [rl], fun h b _ hg => ⟨rfl, b, ?_, rfl, rfl⟩⟩
  have : hget (rl H).H h = some b := hg
  have hl := hget_lt hg
  simp only [rl] at hg hl ⊢
  unfold hget at hg ⊢
  rwa [List.getElem?_append_left hl]
theorem Grow.lrel {H φ H' φ'} (a : Grow H φ H' φ') {vs cs} (h : LRel H.length φ vs cs) : LRel H'.length φ' vs cs := h.mono a.len a.2

section
variable {P : Program} {w : World}
/-- Cells of a world, as values. -/
def Opens (P : Program) (w : World) (n : Nat) (t : TypeId) (cs : List Value) : Prop :=
  ∀ H φ, Bs w H φ → ∃ H' φ' xs vs, Bs w H' φ' ∧ Grow H φ H' φ' ∧ WT P n t xs ∧ xs.length = P.cellsOf t ∧ DL (rl H') xs vs ∧ LRel H'.length φ' vs cs

theorem opens_each {α : Type} {n : Nat} (ty : TypeId) (f : α → List Value) : ∀ (l : List α), (∀ x ∈ l, Opens P w n ty (f x)) → ∀ H φ, Bs w H φ →
    ∃ (H' : Heap) (φ' : Nat → AM.Place) (xss : List (List D)) (vs : List Value), Bs w H' φ' ∧ Grow H φ H' φ' ∧ xss.length = l.length ∧ (∀ x ∈ xss, x.length = P.cellsOf ty ∧ WT P n ty x) ∧ DL (rl H') xss.flatten vs ∧ LRel H'.length φ' vs (l.flatMap f)
  | [], _, H, φ, hb => ⟨H, φ, [], [], hb, .refl, rfl, by simp, .nil, .nil⟩
  | x :: l, hx, H, φ, hb => by
    obtain ⟨H1, φ1, xs, vs, b1, g1, w1, l1, d1, r1⟩ := hx x (by simp) H φ hb
    obtain ⟨H2, φ2, xss, us, b2, g2, l2, w2, d2, r2⟩ := opens_each ty f l (fun y hy => hx y (by simp [hy])) H1 φ1 b1
    refine ⟨H2, φ2, xs :: xss, vs ++ us, b2, g1.trans g2, by simp [l2], ?_, ?_, ?_⟩
    · intro y hy
      rcases List.mem_cons.1 hy with rfl | hy
      · exact ⟨l1, w1⟩
      · exact w2 y hy
    · simp only [List.flatten_cons]; exact (d1.mono g2.le).append d2
    · simp only [List.flatMap_cons]; exact (g2.lrel r1).append r2

theorem opens_fields {n : Nat} (f : Field → List Value) : ∀ (l : List Field), (∀ x ∈ l, Opens P w n x.type (f x)) → ∀ H φ, Bs w H φ →
    ∃ (H' : Heap) (φ' : Nat → AM.Place) (xs : List D) (vs : List Value), Bs w H' φ' ∧ Grow H φ H' φ' ∧ WTs P (WT P n) (l.map (·.type)) xs ∧ DL (rl H') xs vs ∧ LRel H'.length φ' vs (l.flatMap f)
  | [], _, H, φ, hb => ⟨H, φ, [], [], hb, .refl, rfl, .nil, .nil⟩
  | x :: l, hx, H, φ, hb => by
    obtain ⟨H1, φ1, xs, vs, b1, g1, w1, l1, d1, r1⟩ := hx x (by simp) H φ hb
    obtain ⟨H2, φ2, ys, us, b2, g2, w2, d2, r2⟩ := opens_fields f l (fun y hy => hx y (by simp [hy])) H1 φ1 b1
    exact ⟨H2, φ2, xs ++ ys, vs ++ us, b2, g1.trans g2, ⟨xs, ys, rfl, l1, w1, w2⟩, (d1.mono g2.le).append d2, by simp only [List.flatMap_cons]; exact (g2.lrel r1).append r2⟩

theorem laid_cells {cs : List Value} : ∀ {fs : List Field} {o : Nat}, laidF P fs o cs.length = true → cs.drop o = fs.flatMap fun f => (cs.drop f.offset).take (P.cellsOf f.type)
  | [], o, h => by simp [laidF] at h; subst h; simp
  | f :: fs, o, h => by
    simp only [laidF, Bool.and_eq_true, beq_iff_eq] at h
    obtain ⟨h1, h2⟩ := h
    simp only [List.flatMap_cons]
    rw [← laid_cells h2, h1, ← List.drop_drop]
    exact (List.take_append_drop _ _).symm

theorem cell_some {a : Addr} {k : Nat} {v : Value} (hsp : a.spot = none) (h : w.cell? (a.add k) = some v) : ∃ c e fr, w.heap[a.block]? = some (.cells c e fr) ∧ c[a.off + k]? = some v := by
  obtain ⟨B, o, sp⟩ := a
  simp only at hsp
  subst hsp
  rw [Addr.add_lit] at h
  unfold World.cell? at h
  split at h
  · rename_i c e fr hh
    exact ⟨c, e, fr, hh, by simpa using h⟩
  · cases h

/-- A block of a slice that is handed. -/
theorem Bs.push {H : Heap} {φ : Nat → AM.Place} (hb : Bs w H φ) {a : Addr} {vs cs : List Value} {sz cap : Nat} (hsp : a.spot = none) (hr : LRel H.length φ vs cs)
    (hc : ∀ k, k < cs.length → w.cell? (a.add k) = cs[k]?) (hcap : ∀ k, k < cap * sz → ∃ v, w.cell? (a.add k) = some v) (hle : cs.length ≤ cap * sz) (h0 : 0 < cap * sz) :
    Bs w (H ++ [some ⟨vs, sz, false, 0, []⟩]) (fun i => if i = H.length then ⟨a.block, a.off, a.off + cap * sz, sz⟩ else φ i) := by
  have hnew : ∀ {h b}, hget (H ++ [some ⟨vs, sz, false, 0, []⟩]) h = some b → (h = H.length ∧ b = ⟨vs, sz, false, 0, []⟩) ∨ (h < H.length ∧ hget H h = some b) := by
    intro h b hg
    unfold hget at hg ⊢
    rcases Nat.lt_or_ge h H.length with hl | hl
    · rw [List.getElem?_append_left hl] at hg; exact .inr ⟨hl, hg⟩
    · rw [List.getElem?_append_right hl] at hg
      rcases Nat.eq_or_lt_of_le hl with he | hl
      · rw [← he] at hg; simp at hg; exact .inl ⟨he.symm, hg.symm⟩
      · rw [List.getElem?_eq_none (by simp; omega)] at hg; cases hg
  have hro : ∀ h b, hget (H ++ [some ⟨vs, sz, false, 0, []⟩]) h = some b → b.rw = false := by
    intro h b hg
    rcases hnew hg with ⟨_, rfl⟩ | ⟨_, hg⟩
    · rfl
    · exact hb.ro h b hg
  have keep : ∀ i, i < H.length → (fun i => if i = H.length then (⟨a.block, a.off, a.off + cap * sz, sz⟩ : AM.Place) else φ i) i = φ i := fun i hi => by simp [Nat.ne_of_lt hi]
  refine ⟨⟨?_, ?_, ?_, ?_⟩, hro⟩
  · intro h b hg
    rcases hnew hg with ⟨rfl, rfl⟩ | ⟨hl, hg⟩
    · obtain ⟨v0, hv0⟩ := hcap 0 h0
      obtain ⟨c, e, fr, hh, _⟩ := cell_some hsp hv0
      have hsz : a.off + cap * sz ≤ c.size := by
        obtain ⟨v1, hv1⟩ := hcap (cap * sz - 1) (by omega)
        obtain ⟨c', e', fr', hh', h1⟩ := cell_some hsp hv1
        rw [hh] at hh'
        cases hh'
        obtain ⟨h2, _⟩ := Array.getElem?_eq_some_iff.1 h1
        omega
      refine ⟨c, e, fr, by simpa using hh, ?_, by simpa using hsz, by simp, ?_, fun h => (by cases h), by simp⟩
      · simp only [if_true, hr.1]; omega
      · intro i v hv
        have hi : i < cs.length := by rw [← hr.1]; exact (List.getElem?_eq_some_iff.1 hv).1
        refine ⟨cs[i], ?_, ?_⟩
        · have := hc i hi
          rw [List.getElem?_eq_getElem hi] at this
          obtain ⟨c', e', fr', hh', h1⟩ := cell_some hsp this
          rw [hh] at hh'
          cases hh'
          simpa using h1
        · have := hr.2 i v cs[i] hv (List.getElem?_eq_getElem hi)
          exact this.mono (by simp) keep
    · obtain ⟨c, e, fr, h1, h2, h3, h4, h5, h6, h7⟩ := hb.sim.cov h b hg
      have hne : h ≠ H.length := Nat.ne_of_lt hl
      refine ⟨c, e, fr, by simpa [hne] using h1, by simpa [hne] using h2, by simpa [hne] using h3, by simpa [hne] using h4, ?_, by simpa [hne] using h6, h7⟩
      intro i v hv
      obtain ⟨v', e1, e2⟩ := h5 i v hv
      exact ⟨v', by simpa [hne] using e1, e2.mono (by simp) keep⟩
  · intro h h' b b' _ hg _ hrw
    rw [hro h b hg] at hrw
    cases hrw
  · intro h b p b' hg hp hg'
    exact hro p b' hg'
  · intro h b p hg hp
    rcases hnew hg with ⟨_, rfl⟩ | ⟨_, hg⟩
    · cases hp
    · exact Nat.lt_of_lt_of_le (hb.sim.parlt h b p hg hp) (by simp)

theorem cells_flat {a : Addr} {c : Nat} : ∀ (len : Nat), (∀ i, i < len → ∃ cs, w.cells? 0 (a.add (i * c)) c = some cs) →
    ((List.range len).flatMap fun i => (w.cells? 0 (a.add (i * c)) c).getD []).length = len * c ∧ ∀ k, k < len * c → w.cell? (a.add k) = ((List.range len).flatMap fun i => (w.cells? 0 (a.add (i * c)) c).getD [])[k]? ∧ ∃ v, w.cell? (a.add k) = some v
  | 0, _ => by simp
  | len + 1, h => by
    obtain ⟨h1, h2⟩ := cells_flat (a := a) (c := c) len fun i hi => h i (by omega)
    obtain ⟨cs, hcs⟩ := h len (by omega)
    obtain ⟨_, hl, hk⟩ := World.cells?_some hcs
    rw [List.range_succ, List.flatMap_append]
    simp only [List.flatMap_cons, List.flatMap_nil, List.append_nil, hcs, Option.getD_some]
    refine ⟨by simp only [List.length_append, h1, hl]; rw [Nat.add_mul]; omega, fun k hk' => ?_⟩
    rw [Nat.add_mul] at hk'
    rcases Nat.lt_or_ge k (len * c) with hlt | hge
    · rw [List.getElem?_append_left (by omega)]
      exact h2 k hlt
    · rw [List.getElem?_append_right (by omega), h1]
      have := hk (k - len * c) (by omega)
      rw [Addr.add_add, show len * c + (k - len * c) = k by omega] at this
      exact ⟨this, cs[k - len * c]'(by omega), by rw [this, List.getElem?_eq_getElem]⟩

theorem opens_trod {Ht : Type} {enc : TypeId × Value → Ht} {held : Bool} {ts : List TypeId} (hp : plainT P ts = true) : ∀ (fuel : Nat) (t : TypeId) (cs : List Value) (x : DataW Ht × List MemPlace), t ∈ ts →
    DataW.trod enc P w 0 (fun _ => true) held fuel t cs = some x → Opens P w fuel t cs ∧ cs.length = P.cellsOf t
  | 0, t, cs, x, _, h => by simp [DataW.trod] at h
  | fuel + 1, t, cs, x, ht, h => by
    have hpt := List.all_eq_true.1 hp t ht
    cases hu : P.underlying t with
    | none => rw [hu] at hpt; cases hpt
    | some d =>
    rw [hu] at hpt
    cases d <;> (try (simp at hpt; done))
    case bool =>
      have hc : P.cellsOf t = 1 := by simpa using hpt
      unfold DataW.trod at h
      rw [hu] at h
      split at h <;> simp_all
      rename_i b
      intro H φ hb
      exact ⟨H, φ, [.bool b], [.bool b], hb, .refl, by simp [WT, hu], by simp [hc], .cons (.bool b) .nil, .cons (.bool b) .nil⟩
    case int k =>
      have hc : P.cellsOf t = 1 := by simpa using hpt
      obtain ⟨n, hcs, hx, hw⟩ := DataW.trod_int hu h
      subst hcs
      refine ⟨?_, by simp [hc]⟩
      intro H φ hb
      exact ⟨H, φ, [.int k n], [.int k n], hb, .refl, by simp [WT, hu, hw], by simp [hc], .cons (.int k n) .nil, .cons (.int k n) .nil⟩
    case string =>
      have hc : P.cellsOf t = 1 := by simpa using hpt
      obtain ⟨s, hcs, hx, hw⟩ := DataW.trod_string hu h
      subst hcs
      refine ⟨?_, by simp [hc]⟩
      intro H φ hb
      exact ⟨H, φ, [.str s], [.string s], hb, .refl, by simp [WT, hu, hw], by simp [hc], .cons (.str s) .nil, .cons (.string s) .nil⟩
    case slice e =>
      simp only [Bool.and_eq_true, beq_iff_eq, List.contains_iff_mem, decide_eq_true_eq] at hpt
      obtain ⟨⟨hc, he⟩, hpos⟩ := hpt
      rcases DataW.trod_slice hu h with ⟨rfl, _⟩ | ⟨a, len, cap, elems, rest, n, hn, rfl, _, _, hlc, hcm, hel, hgot, hsp, _⟩
      · refine ⟨?_, by simp [hc]⟩
        intro H φ hb
        exact ⟨H, φ, [.sl none (P.cellsOf e) 0 []], [.slice none 0 0], hb, .refl, by simp only [WT, hu]; exact ⟨[], rfl, Nat.zero_le _, by simp⟩, by simp [hc], .cons (.slE _ _ (.inl rfl)) .nil, .cons (.slNil _ _) .nil⟩
      · refine ⟨?_, by simp [hc]⟩
        intro H φ hb
        cases hn
        obtain ⟨hrl, hrest⟩ := hsp rfl
        have hall : ∀ i, i < cap → ∃ cs x, w.cells? 0 (a.add (i * P.cellsOf e)) (P.cellsOf e) = some cs ∧ DataW.trod enc P w 0 (fun _ => true) held fuel e cs = some x := by
          intro i hi
          rcases Nat.lt_or_ge i len with hlt | hge
          · have := hgot i hlt
            rw [List.getElem?_eq_getElem (by omega)] at this
            obtain ⟨cs, h1, h2⟩ := Option.bind_eq_some_iff.1 this
            exact ⟨cs, _, h1, h2⟩
          · have := hrest (i - len) (by omega)
            rw [List.getElem?_eq_getElem (by omega), show len + (i - len) = i by omega] at this
            obtain ⟨cs, h1, h2⟩ := Option.bind_eq_some_iff.1 this
            exact ⟨cs, _, h1, h2⟩
        by_cases hc0 : cap = 0
        · subst hc0
          have hl0 : len = 0 := by omega
          subst hl0
          exact ⟨H, φ, [.sl none (P.cellsOf e) 0 []], [.slice (some freeA) 0 0], hb, .refl, by simp only [WT, hu]; exact ⟨[], rfl, Nat.zero_le _, by simp⟩, by simp [hc], .cons (.slE _ _ (.inr rfl)) .nil, .cons (.slFree _) .nil⟩
        · have hasp : a.spot = none := by
            obtain ⟨cs, x, h1, _⟩ := hall 0 (by omega)
            obtain ⟨_, hl, hk⟩ := World.cells?_some h1
            have := hk 0 hpos
            rw [List.getElem?_eq_getElem (by omega)] at this
            simp only [Nat.zero_mul, Addr.add_zero'] at this
            unfold World.cell? at this
            split at this
            · split at this
              · cases this
              · rename_i hs; simpa using hs
            · cases this
          obtain ⟨H1, φ1, xss, vs, b1, g1, l1, w1, d1, r1⟩ := opens_each (P := P) (w := w) (n := fuel) e (fun i => (w.cells? 0 (a.add (i * P.cellsOf e)) (P.cellsOf e)).getD []) (List.range len) (fun i hi => by
            obtain ⟨cs, x, h1, h2⟩ := hall i (by have := List.mem_range.1 hi; omega)
            simp only [h1, Option.getD_some]
            exact (opens_trod hp fuel e cs x he h2).1) H φ hb
          obtain ⟨f1, f2⟩ := cells_flat (w := w) (a := a) (c := P.cellsOf e) len fun i hi => by obtain ⟨cs, _, h1, _⟩ := hall i (by omega); exact ⟨cs, h1⟩
          obtain ⟨_, f4⟩ := cells_flat (w := w) (a := a) (c := P.cellsOf e) cap fun i hi => by obtain ⟨cs, _, h1, _⟩ := hall i hi; exact ⟨cs, h1⟩
          have hlen : xss.length = len := by simpa using l1
          have hcp : 0 < cap * P.cellsOf e := Nat.mul_pos (by omega) hpos
          have hpush := b1.push (sz := P.cellsOf e) (cap := cap) hasp r1 (fun k hk => (f2 k (by rw [f1] at hk; exact hk)).1) (fun k hk => (f4 k hk).2) (by rw [f1]; exact Nat.mul_le_mul_right _ hlc) hcp
          have g2 : Grow H1 φ1 (H1 ++ [some ⟨vs, P.cellsOf e, false, 0, []⟩]) (fun i => if i = H1.length then ⟨a.block, a.off, a.off + cap * P.cellsOf e, P.cellsOf e⟩ else φ1 i) :=
            ⟨⟨_, rfl⟩, fun i hi => by simp [Nat.ne_of_lt hi]⟩
          have hg : hget (H1 ++ [some ⟨vs, P.cellsOf e, false, 0, []⟩]) H1.length = some ⟨vs, P.cellsOf e, false, 0, []⟩ := by simp [hget]
          have hdl := d1.mono g2.le
          have hvl : vs.length = len * P.cellsOf e := by rw [r1.1, f1]
          refine ⟨_, _, [.sl none (P.cellsOf e) xss.length xss.flatten], [.slice (some ⟨H1.length, 0, none⟩) len len], hpush, g1.trans g2, ?_, by simp [hc], .cons ?_ .nil, .cons ?_ .nil⟩
          · simp only [WT, hu]
            exact ⟨xss, rfl, by omega, w1⟩
          · rw [hlen]
            refine .sl none _ len _ vs H1.length 0 len _ rfl hg rfl ?_ (Nat.le_refl _) hdl.1 (by rw [hdl.1, hvl]) (fun id h => by cases h) hdl.2
            have := readA_mk (H := H1 ++ [some ⟨vs, P.cellsOf e, false, 0, []⟩]) (h := H1.length) (o := 0) (n := vs.length) hg (by simp)
            rw [List.drop_zero, List.take_length] at this
            exact this
          · have hv := VRel.sl (n := (H1 ++ [some (⟨vs, P.cellsOf e, false, 0, []⟩ : Blk)]).length) (φ := fun i => if i = H1.length then ⟨a.block, a.off, a.off + cap * P.cellsOf e, P.cellsOf e⟩ else φ1 i) H1.length 0 len len cap (by simp) (Nat.le_refl _) hlc (by simp)
            obtain ⟨B, o, sp⟩ := a
            simp only at hasp
            subst hasp
            simpa using hv
    case struct fs =>
      simp only [Bool.and_eq_true, List.all_eq_true, List.contains_iff_mem] at hpt
      obtain ⟨hf, hl⟩ := hpt
      obtain ⟨xs, n, hn, _, hlen, _, hfs⟩ := DataW.trod_struct hu h
      cases hn
      refine ⟨?_, hlen⟩
      intro H φ hb
      rw [← hlen] at hl
      have hcs := laid_cells hl
      rw [List.drop_zero] at hcs
      have hop : ∀ f ∈ fs.toList, Opens P w fuel f.type ((cs.drop f.offset).take (P.cellsOf f.type)) := by
        intro f hfm
        obtain ⟨i, hi, rfl⟩ := List.mem_iff_getElem.1 hfm
        have hi' : i < fs.size := by simpa using hi
        have := hfs i fs[i] (by simp [hi'])
        have hxs : i < xs.length := by rename_i h6; omega
        rw [List.getElem?_eq_getElem hxs] at this
        exact (opens_trod hp fuel _ _ _ (hf _ hfm) (by simpa using this)).1
      obtain ⟨H1, φ1, ys, vs, b1, g1, w1, d1, r1⟩ := opens_fields (fun f => (cs.drop f.offset).take (P.cellsOf f.type)) fs.toList hop H φ hb
      rw [← hcs] at r1
      refine ⟨H1, φ1, ys, vs, b1, g1, by simp only [WT, hu]; exact w1, by rw [d1.1, r1.1, hlen], d1, r1⟩

/-- An argument, out of its cells. -/
def argD (P : Program) (t : TypeId) (xs : List D) : D := match isAggA P t with | some true => .agg xs | _ => xs.headD .bot
def WTA (P : Program) : List TypeId → List (List D) → Prop
  | [], [] => True
  | t :: ts, x :: xs => (∃ n, WT P n t x) ∧ WTA P ts xs
  | _, _ => False

theorem opens_args {Ht : Type} {enc : TypeId × Value → Ht} {held : Bool} {ts : List TypeId} (hp : plainT P ts = true) : ∀ (tys : List TypeId) (args : List Value) (ds : List (DataW Ht)) (p : List MemPlace), (∀ t ∈ tys, t ∈ ts) →
    (∀ (j : Nat) t v, tys[j]? = some t → args[j]? = some v → ((∃ cs, v = .agg cs) ↔ isAggA P t = some true)) →
    DataW.TrodAll enc P w 0 (fun _ => true) held tys args ds p → ∀ H φ, Bs w H φ →
    ∃ H' φ' xss vs, Bs w H' φ' ∧ Grow H φ H' φ' ∧ WTA P tys xss ∧ DL (rl H') (List.zipWith (argD P) tys xss) vs ∧ LRel H'.length φ' vs args
  | [], args, ds, p, _, _, h, H, φ, hb => by
    obtain ⟨rfl, rfl, rfl⟩ := trodAll_nil h
    exact ⟨H, φ, [], [], hb, .refl, trivial, .nil, .nil⟩
  | t :: tys, args, ds, p, ht, hv, h, H, φ, hb => by
    obtain ⟨v, vs', d, ds', p, q, rfl, rfl, rfl, h1, h2⟩ := trodAll_cons h
    obtain ⟨fuel, h1⟩ := h1
    obtain ⟨ho, hcl⟩ := opens_trod hp fuel t _ _ (ht t (by simp)) h1
    obtain ⟨H1, φ1, xs, us, b1, g1, w1, l1, d1, r1⟩ := ho H φ hb
    obtain ⟨H2, φ2, xss, us2, b2, g2, w2, d2, r2⟩ := opens_args hp tys vs' ds' q (fun t h => ht t (by simp [h])) (fun j t v a b => hv (j + 1) t v (by simpa using a) (by simpa using b)) h2 H1 φ1 b1
    have hone := hv 0 t v rfl rfl
    have hd1 := d1.mono g2.le
    have hr1 := g2.lrel r1
    by_cases hag : isAggA P t = some true
    · obtain ⟨cs, rfl⟩ := hone.2 hag
      refine ⟨H2, φ2, xs :: xss, .agg us.toArray :: us2, b2, g1.trans g2, ⟨⟨_, w1⟩, w2⟩, ?_, ?_⟩
      · simp only [List.zipWith_cons_cons, argD, hag]
        exact .cons (.agg _ _ (by simpa using hd1.1) fun i a b => by simp only [List.getElem_toArray]; exact hd1.2 i a (by simpa using b)) d2
      · refine .cons ?_ r2
        have := VRel.agg_of hr1
        simpa [Value.cells] using this
    · have hna : ¬ ∃ cs, v = .agg cs := fun h => hag (hone.1 h)
      have hcells : v.cells.toList = [v] := by
        cases v <;> first | rfl | (exact absurd ⟨_, rfl⟩ hna)
      rw [hcells] at hr1
      have hl : us.length = 1 := hr1.1
      obtain ⟨u, rfl⟩ : ∃ u, us = [u] := by match us, hl with | [u], _ => exact ⟨u, rfl⟩
      have hxl : xs.length = 1 := hd1.1
      obtain ⟨x, rfl⟩ : ∃ x, xs = [x] := by match xs, hxl with | [x], _ => exact ⟨x, rfl⟩
      refine ⟨H2, φ2, [x] :: xss, u :: us2, b2, g1.trans g2, ⟨⟨_, w1⟩, w2⟩, ?_, .cons hr1.head r2⟩
      have : argD P t [x] = x := by
        unfold argD
        split
        · rename_i h; exact absurd h hag
        · rfl
      simp only [List.zipWith_cons_cons, this]
      exact .cons hd1.head d2

theorem wide_agg {ts : List TypeId} (hp : plainT P ts = true) {r : Reach} {b0 : Nat} {t : TypeId} {v : Value} (ht : t ∈ ts) (h : Value.okWide P w r b0 t v) : (∃ cs, v = .agg cs) ↔ isAggA P t = some true := by
  have hpt := List.all_eq_true.1 hp t ht
  cases hu : P.underlying t with
  | none => rw [hu] at hpt; cases hpt
  | some d =>
  rw [hu] at hpt
  cases d <;> (try (simp at hpt; done))
  case bool => obtain ⟨_, rfl⟩ := okWide_bool hu h; simp [isAggA, hu]
  case int => obtain ⟨_, rfl⟩ := okWide_int hu h; simp [isAggA, hu]
  case string => obtain ⟨_, rfl⟩ := okWide_string hu h; simp [isAggA, hu]
  case slice => obtain ⟨_, _, _, rfl⟩ := okWide_slice hu h; simp [isAggA, hu]
  case struct => obtain ⟨cs, rfl, _⟩ := okWide_struct hu h; simp [isAggA, hu]

/-- What this machine returns for all values of the types, the model does. -/
theorem law_true {Ht : Type} {enc : TypeId × Value → Ht} {A : Beside} (hA : Kept A) {orc : DOracle} (ho : DOrcSound P A orc) (h0 : ∀ φ H, Bs w H φ → A φ H w) {f : FuncId} {tys ts : List TypeId} {args : Array Value} {ds : List (DataW Ht)} {p : List MemPlace} (hp : plainT P ts = true) (ht : ∀ t ∈ tys, t ∈ ts)
    {r : Reach} {b0 : Nat} (hv : ∀ (j : Nat) t v, tys[j]? = some t → args.toList[j]? = some v → Value.okWide P w r b0 t v)
    (h : DataW.TrodAll enc P w 0 (fun _ => true) true tys args.toList ds p) (hc : ∀ xss, WTA P tys xss → CallD P orc f (List.zipWith (argD P) tys xss) [] fun d _ => d = .bool true) :
    Calls P f args w fun e W' => e = .returned (.bool true) ∧ Below w.heap.size w W' := by
  have hb0 : Bs w [] (fun _ => ⟨0, 0, 0, 0⟩) := ⟨sim_nil, fun h b hg => by simp [hget] at hg⟩
  obtain ⟨H1, φ1, xss, vs, b1, g1, w1, d1, r1⟩ := opens_args hp tys args.toList ds p ht (fun j t v a b => wide_agg hp (ht t (List.mem_of_getElem? a)) (hv j t v a b)) h [] _ hb0
  exact callsD_true (r := rl H1) hA ho rfl ⟨b1.sim, h0 _ _ b1⟩ b1.ro d1 r1 (hc xss w1)
end
end Go.DM
