/- A machine over Go's operations in which slices are values: how a law's row is closed. -/
import Derived.Test.YtpdnaoahghfaoaaGreatDoorDmHx
import Derived.Test.YtpdnaoahghfaoaaGreatDoorAmKx
import Derived.ChangeArms
import Derived.IntWalk
import Derived.Sort.Grow
import Derived.Laws.IdiomCopy
set_option linter.unusedSimpArgs false
set_option linter.unusedVariables false
namespace Go.DM
open Go Go.AM Go.RowKit

theorem srel_nil {r : Rl} (h : r.n = 0) : SRel r [] :=
  ⟨by simpa using h, fun o cells h => by simp [objAt] at h, fun id h => by simp at h, fun i j _ ⟨x, hx, _⟩ => by simp at hx⟩

/-- What this machine returns, the model does. -/
theorem callsD_true {P : Program} {A : Beside} (hA : Kept A) {orc : DOracle} (ho : DOrcSound P A orc) {f : FuncId} {ds : List D} {vs : List Value} {args' : Array Value} {r : Rl} {φ : Nat → AM.Place} {W : World} (hn : r.n = 0) (hs : SimA A φ r.H W)
    (hro : ∀ h b, hget r.H h = some b → b.rw = false) (hd : DL r ds vs) (hargs : LRel r.H.length φ vs args'.toList) (h : CallD P orc f ds [] fun d _ => d = .bool true) :
    Calls P f args' W fun e W' => e = .returned (.bool true) ∧ Below W.heap.size W W' := by
  obtain ⟨d, S', hb, rfl⟩ := h
  refine hb.sound hA ho r φ W (srel_nil hn) hs vs args' hd hargs _ fun r' u v' φ' w' le sr hst du hv => ?_
  cases du
  cases hv
  exact ⟨rfl, hst.below hro⟩
end Go.DM

/- A machine over Go's operations in which slices are values: what a law is handed, as values of it. -/
namespace Go.DM
open Go Go.AM Go.RowKit Go.ChangeShapes Go.WideShapes

section
variable (P : Program)

def laidF : List Field → Nat → Nat → Bool
  | [], o, n => o == n
  | f :: fs, o, n => f.offset == o && laidF fs (o + P.cellsOf f.type) n

/-- Types whose values hold numbers, texts, slices and structs alone. -/
def plainT (ts : List TypeId) : Bool := ts.all fun t =>
  match P.underlying t with
  | some .bool | some (.int _) | some .string => P.cellsOf t == 1
  | some (.slice e) => P.cellsOf t == 1 && ts.contains e && decide (0 < P.cellsOf e)
  | some (.struct fs) => fs.toList.all (fun f => ts.contains f.type) && laidF P fs.toList 0 (P.cellsOf t)
  | _ => false

def WTs (f : TypeId → List D → Prop) : List TypeId → List D → Prop
  | [], ds => ds = []
  | t :: ts, ds => ∃ x y, ds = x ++ y ∧ x.length = P.cellsOf t ∧ f t x ∧ WTs f ts y

/-- Cells that hold a value of a type. -/
def WT : Nat → TypeId → List D → Prop
  | 0, _, _ => False
  | n + 1, t, ds =>
    match P.underlying t with
    | some .bool => ∃ b, ds = [.bool b]
    | some (.int k) => ∃ x, ds = [.int k x] ∧ (Lit.int k x).wf = true
    | some .string => ∃ s : ByteArray, ds = [.str s] ∧ s.size ≤ maxLen
    | some (.slice e) => ∃ xss : List (List D), ds = [.sl none (P.cellsOf e) xss.length xss.flatten] ∧ xss.length ≤ maxLen ∧ ∀ x ∈ xss, x.length = P.cellsOf e ∧ WT n e x
    | some (.struct fs) => WTs P (WT n) (fs.toList.map (·.type)) ds
    | _ => False
end

def rl (H : Heap) : Rl := ⟨0, fun _ => 0, fun _ => true, H⟩
structure Bs (w : World) (H : Heap) (φ : Nat → AM.Place) : Prop where
  sim : Sim φ H w
  ro : ∀ h b, hget H h = some b → b.rw = false
def Grow (H : Heap) (φ : Nat → AM.Place) (H' : Heap) (φ' : Nat → AM.Place) : Prop := (∃ E, H' = H ++ E) ∧ ∀ i, i < H.length → φ' i = φ i
theorem Grow.refl {H φ} : Grow H φ H φ := ⟨⟨[], by simp⟩, fun _ _ => rfl⟩
theorem Grow.trans {H φ H1 φ1 H2 φ2} (a : Grow H φ H1 φ1) (b : Grow H1 φ1 H2 φ2) : Grow H φ H2 φ2 := by
  obtain ⟨⟨E, rfl⟩, a2⟩ := a
  obtain ⟨⟨F, rfl⟩, b2⟩ := b
  exact ⟨⟨E ++ F, by simp⟩, fun i h => (b2 i (by simp; omega)).trans (a2 i h)⟩
theorem Grow.len {H φ H' φ'} (a : Grow H φ H' φ') : H.length ≤ H'.length := by
  obtain ⟨⟨E, rfl⟩, _⟩ := a
  simp
theorem Grow.le {H φ H' φ'} (a : Grow H φ H' φ') : (rl H).Le (rl H') := by
  obtain ⟨⟨E, rfl⟩, _⟩ := a
  refine ⟨Nat.le_refl _, fun _ _ => rfl, by simp [rl], fun h b _ hg => ⟨rfl, b, ?_, rfl, rfl⟩, fun h b hh hg => ⟨b, ?_, rfl⟩⟩
  · have : hget (rl H).H h = some b := hg
    have hl := hget_lt hg
    simp only [rl] at hg hl ⊢
    unfold hget at hg ⊢
    rwa [List.getElem?_append_left hl]
  · simp only [rl] at hg hh ⊢
    unfold hget at hg ⊢
    rwa [List.getElem?_append_left hh] at hg
theorem Grow.lrel {H φ H' φ'} (a : Grow H φ H' φ') {vs cs} (h : LRel H.length φ vs cs) : LRel H'.length φ' vs cs := h.mono a.len a.2

section
variable {P : Program} {w : World}
/-- Cells of a world, as values. -/
def Opens (P : Program) (w : World) (n : Nat) (t : TypeId) (cs : List Value) : Prop :=
  ∀ H φ, Bs w H φ → ∃ H' φ' xs vs, Bs w H' φ' ∧ Grow H φ H' φ' ∧ WT P n t xs ∧ xs.length = P.cellsOf t ∧ DL (rl H') xs vs ∧ LRel H'.length φ' vs cs

theorem opens_each {α : Type} {n : Nat} (ty : TypeId) (f : α → List Value) : ∀ (l : List α), (∀ x ∈ l, Opens P w n ty (f x)) → ∀ H φ, Bs w H φ →
    ∃ (H' : Heap) (φ' : Nat → AM.Place) (xss : List (List D)) (vs : List Value), Bs w H' φ' ∧ Grow H φ H' φ' ∧ xss.length = l.length ∧ (∀ x ∈ xss, x.length = P.cellsOf ty ∧ WT P n ty x) ∧ DL (rl H') xss.flatten vs ∧ LRel H'.length φ' vs (l.flatMap f)
  | [], _, H, φ, hb => ⟨H, φ, [], [], hb, .refl, rfl, by simp, .nil, .nil⟩
  | x :: l, hx, H, φ, hb => by
    obtain ⟨H1, φ1, xs, vs, b1, g1, w1, l1, d1, r1⟩ := hx x (by simp) H φ hb
    obtain ⟨H2, φ2, xss, us, b2, g2, l2, w2, d2, r2⟩ := opens_each ty f l (fun y hy => hx y (by simp [hy])) H1 φ1 b1
    refine ⟨H2, φ2, xs :: xss, vs ++ us, b2, g1.trans g2, by simp [l2], ?_, ?_, ?_⟩
    · intro y hy
      rcases List.mem_cons.1 hy with rfl | hy
      · exact ⟨l1, w1⟩
      · exact w2 y hy
    · simp only [List.flatten_cons]; exact (d1.mono g2.le).append d2
    · simp only [List.flatMap_cons]; exact (g2.lrel r1).append r2

theorem opens_fields {n : Nat} (f : Field → List Value) : ∀ (l : List Field), (∀ x ∈ l, Opens P w n x.type (f x)) → ∀ H φ, Bs w H φ →
    ∃ (H' : Heap) (φ' : Nat → AM.Place) (xs : List D) (vs : List Value), Bs w H' φ' ∧ Grow H φ H' φ' ∧ WTs P (WT P n) (l.map (·.type)) xs ∧ DL (rl H') xs vs ∧ LRel H'.length φ' vs (l.flatMap f)
  | [], _, H, φ, hb => ⟨H, φ, [], [], hb, .refl, rfl, .nil, .nil⟩
  | x :: l, hx, H, φ, hb => by
    obtain ⟨H1, φ1, xs, vs, b1, g1, w1, l1, d1, r1⟩ := hx x (by simp) H φ hb
    obtain ⟨H2, φ2, ys, us, b2, g2, w2, d2, r2⟩ := opens_fields f l (fun y hy => hx y (by simp [hy])) H1 φ1 b1
    exact ⟨H2, φ2, xs ++ ys, vs ++ us, b2, g1.trans g2, ⟨xs, ys, rfl, l1, w1, w2⟩, (d1.mono g2.le).append d2, by simp only [List.flatMap_cons]; exact (g2.lrel r1).append r2⟩

theorem laid_cells {cs : List Value} : ∀ {fs : List Field} {o : Nat}, laidF P fs o cs.length = true → cs.drop o = fs.flatMap fun f => (cs.drop f.offset).take (P.cellsOf f.type)
  | [], o, h => by simp [laidF] at h; subst h; simp
  | f :: fs, o, h => by
    simp only [laidF, Bool.and_eq_true, beq_iff_eq] at h
    obtain ⟨h1, h2⟩ := h
    simp only [List.flatMap_cons]
    rw [← laid_cells h2, h1, ← List.drop_drop]
    exact (List.take_append_drop _ _).symm

theorem cell_some {a : Addr} {k : Nat} {v : Value} (hsp : a.spot = none) (h : w.cell? (a.add k) = some v) : ∃ c e fr, w.heap[a.block]? = some (.cells c e fr) ∧ c[a.off + k]? = some v := by
  obtain ⟨B, o, sp⟩ := a
  simp only at hsp
  subst hsp
  rw [Addr.add_lit] at h
  unfold World.cell? at h
  split at h
  · rename_i c e fr hh
    exact ⟨c, e, fr, hh, by simpa using h⟩
  · cases h

/-- A block of a slice that is handed. -/
theorem Bs.push {H : Heap} {φ : Nat → AM.Place} (hb : Bs w H φ) {a : Addr} {vs cs : List Value} {sz cap : Nat} (hsp : a.spot = none) (hr : LRel H.length φ vs cs)
    (hc : ∀ k, k < cs.length → w.cell? (a.add k) = cs[k]?) (hcap : ∀ k, k < cap * sz → ∃ v, w.cell? (a.add k) = some v) (hle : cs.length ≤ cap * sz) (h0 : 0 < cap * sz) :
    Bs w (H ++ [some ⟨vs, sz, false, 0, []⟩]) (fun i => if i = H.length then ⟨a.block, a.off, a.off + cap * sz, sz⟩ else φ i) := by
  have hnew : ∀ {h b}, hget (H ++ [some ⟨vs, sz, false, 0, []⟩]) h = some b → (h = H.length ∧ b = ⟨vs, sz, false, 0, []⟩) ∨ (h < H.length ∧ hget H h = some b) := by
    intro h b hg
    unfold hget at hg ⊢
    rcases Nat.lt_or_ge h H.length with hl | hl
    · rw [List.getElem?_append_left hl] at hg; exact .inr ⟨hl, hg⟩
    · rw [List.getElem?_append_right hl] at hg
      rcases Nat.eq_or_lt_of_le hl with he | hl
      · rw [← he] at hg; simp at hg; exact .inl ⟨he.symm, hg.symm⟩
      · rw [List.getElem?_eq_none (by simp; omega)] at hg; cases hg
  have hro : ∀ h b, hget (H ++ [some ⟨vs, sz, false, 0, []⟩]) h = some b → b.rw = false := by
    intro h b hg
    rcases hnew hg with ⟨_, rfl⟩ | ⟨_, hg⟩
    · rfl
    · exact hb.ro h b hg
  have keep : ∀ i, i < H.length → (fun i => if i = H.length then (⟨a.block, a.off, a.off + cap * sz, sz⟩ : AM.Place) else φ i) i = φ i := fun i hi => by simp [Nat.ne_of_lt hi]
  refine ⟨⟨?_, ?_, ?_, ?_⟩, hro⟩
  · intro h b hg
    rcases hnew hg with ⟨rfl, rfl⟩ | ⟨hl, hg⟩
    · obtain ⟨v0, hv0⟩ := hcap 0 h0
      obtain ⟨c, e, fr, hh, _⟩ := cell_some hsp hv0
      have hsz : a.off + cap * sz ≤ c.size := by
        obtain ⟨v1, hv1⟩ := hcap (cap * sz - 1) (by omega)
        obtain ⟨c', e', fr', hh', h1⟩ := cell_some hsp hv1
        rw [hh] at hh'
        cases hh'
        obtain ⟨h2, _⟩ := Array.getElem?_eq_some_iff.1 h1
        omega
      refine ⟨c, e, fr, by simpa using hh, ?_, by simpa using hsz, by simp, ?_, fun h => (by cases h), by simp⟩
      · simp only [if_true, hr.1]; omega
      · intro i v hv
        have hi : i < cs.length := by rw [← hr.1]; exact (List.getElem?_eq_some_iff.1 hv).1
        refine ⟨cs[i], ?_, ?_⟩
        · have := hc i hi
          rw [List.getElem?_eq_getElem hi] at this
          obtain ⟨c', e', fr', hh', h1⟩ := cell_some hsp this
          rw [hh] at hh'
          cases hh'
          simpa using h1
        · have := hr.2 i v cs[i] hv (List.getElem?_eq_getElem hi)
          exact this.mono (by simp) keep
    · obtain ⟨c, e, fr, h1, h2, h3, h4, h5, h6, h7⟩ := hb.sim.cov h b hg
      have hne : h ≠ H.length := Nat.ne_of_lt hl
      refine ⟨c, e, fr, by simpa [hne] using h1, by simpa [hne] using h2, by simpa [hne] using h3, by simpa [hne] using h4, ?_, by simpa [hne] using h6, h7⟩
      intro i v hv
      obtain ⟨v', e1, e2⟩ := h5 i v hv
      exact ⟨v', by simpa [hne] using e1, e2.mono (by simp) keep⟩
  · intro h h' b b' _ hg _ hrw
    rw [hro h b hg] at hrw
    cases hrw
  · intro h b p b' hg hp hg'
    exact hro p b' hg'
  · intro h b p hg hp
    rcases hnew hg with ⟨_, rfl⟩ | ⟨_, hg⟩
    · cases hp
    · exact Nat.lt_of_lt_of_le (hb.sim.parlt h b p hg hp) (by simp)

theorem cells_flat {a : Addr} {c : Nat} : ∀ (len : Nat), (∀ i, i < len → ∃ cs, w.cells? 0 (a.add (i * c)) c = some cs) →
    ((List.range len).flatMap fun i => (w.cells? 0 (a.add (i * c)) c).getD []).length = len * c ∧ ∀ k, k < len * c → w.cell? (a.add k) = ((List.range len).flatMap fun i => (w.cells? 0 (a.add (i * c)) c).getD [])[k]? ∧ ∃ v, w.cell? (a.add k) = some v
  | 0, _ => by simp
  | len + 1, h => by
    obtain ⟨h1, h2⟩ := cells_flat (a := a) (c := c) len fun i hi => h i (by omega)
    obtain ⟨cs, hcs⟩ := h len (by omega)
    obtain ⟨_, hl, hk⟩ := World.cells?_some hcs
    rw [List.range_succ, List.flatMap_append]
    simp only [List.flatMap_cons, List.flatMap_nil, List.append_nil, hcs, Option.getD_some]
    refine ⟨by simp only [List.length_append, h1, hl]; rw [Nat.add_mul]; omega, fun k hk' => ?_⟩
    rw [Nat.add_mul] at hk'
    rcases Nat.lt_or_ge k (len * c) with hlt | hge
    · rw [List.getElem?_append_left (by omega)]
      exact h2 k hlt
    · rw [List.getElem?_append_right (by omega), h1]
      have := hk (k - len * c) (by omega)
      rw [Addr.add_add, show len * c + (k - len * c) = k by omega] at this
      exact ⟨this, cs[k - len * c]'(by omega), by rw [this, List.getElem?_eq_getElem]⟩

theorem opens_trod {Ht : Type} {enc : TypeId × Value → Ht} {held : Bool} {ts : List TypeId} (hp : plainT P ts = true) : ∀ (fuel : Nat) (t : TypeId) (cs : List Value) (x : DataW Ht × List MemPlace), t ∈ ts →
    DataW.trod enc P w 0 (fun _ => true) held fuel t cs = some x → Opens P w fuel t cs ∧ cs.length = P.cellsOf t
  | 0, t, cs, x, _, h => by simp [DataW.trod] at h
  | fuel + 1, t, cs, x, ht, h => by
    have hpt := List.all_eq_true.1 hp t ht
    cases hu : P.underlying t with
    | none => rw [hu] at hpt; cases hpt
    | some d =>
    rw [hu] at hpt
    cases d <;> (try (simp at hpt; done))
    case bool =>
      have hc : P.cellsOf t = 1 := by simpa using hpt
      unfold DataW.trod at h
      rw [hu] at h
      split at h <;> simp_all
      rename_i b
      intro H φ hb
      exact ⟨H, φ, [.bool b], [.bool b], hb, .refl, by simp [WT, hu], by simp [hc], .cons (.bool b) .nil, .cons (.bool b) .nil⟩
    case int k =>
      have hc : P.cellsOf t = 1 := by simpa using hpt
      obtain ⟨n, hcs, hx, hw⟩ := DataW.trod_int hu h
      subst hcs
      refine ⟨?_, by simp [hc]⟩
      intro H φ hb
      exact ⟨H, φ, [.int k n], [.int k n], hb, .refl, by simp [WT, hu, hw], by simp [hc], .cons (.int k n) .nil, .cons (.int k n) .nil⟩
    case string =>
      have hc : P.cellsOf t = 1 := by simpa using hpt
      obtain ⟨s, hcs, hx, hw⟩ := DataW.trod_string hu h
      subst hcs
      refine ⟨?_, by simp [hc]⟩
      intro H φ hb
      exact ⟨H, φ, [.str s], [.string s], hb, .refl, by simp [WT, hu, hw], by simp [hc], .cons (.str s) .nil, .cons (.string s) .nil⟩
    case slice e =>
      simp only [Bool.and_eq_true, beq_iff_eq, List.contains_iff_mem, decide_eq_true_eq] at hpt
      obtain ⟨⟨hc, he⟩, hpos⟩ := hpt
      rcases DataW.trod_slice hu h with ⟨rfl, _⟩ | ⟨a, len, cap, elems, rest, n, hn, rfl, _, _, hlc, hcm, hel, hgot, hsp, _⟩
      · refine ⟨?_, by simp [hc]⟩
        intro H φ hb
        exact ⟨H, φ, [.sl none (P.cellsOf e) 0 []], [.slice none 0 0], hb, .refl, by simp only [WT, hu]; exact ⟨[], rfl, Nat.zero_le _, by simp⟩, by simp [hc], .cons (.slE _ _ (.inl rfl)) .nil, .cons (.slNil _ _) .nil⟩
      · refine ⟨?_, by simp [hc]⟩
        intro H φ hb
        cases hn
        obtain ⟨hrl, hrest⟩ := hsp rfl
        have hall : ∀ i, i < cap → ∃ cs x, w.cells? 0 (a.add (i * P.cellsOf e)) (P.cellsOf e) = some cs ∧ DataW.trod enc P w 0 (fun _ => true) held fuel e cs = some x := by
          intro i hi
          rcases Nat.lt_or_ge i len with hlt | hge
          · have := hgot i hlt
            rw [List.getElem?_eq_getElem (by omega)] at this
            obtain ⟨cs, h1, h2⟩ := Option.bind_eq_some_iff.1 this
            exact ⟨cs, _, h1, h2⟩
          · have := hrest (i - len) (by omega)
            rw [List.getElem?_eq_getElem (by omega), show len + (i - len) = i by omega] at this
            obtain ⟨cs, h1, h2⟩ := Option.bind_eq_some_iff.1 this
            exact ⟨cs, _, h1, h2⟩
        by_cases hc0 : cap = 0
        · subst hc0
          have hl0 : len = 0 := by omega
          subst hl0
          exact ⟨H, φ, [.sl none (P.cellsOf e) 0 []], [.slice (some freeA) 0 0], hb, .refl, by simp only [WT, hu]; exact ⟨[], rfl, Nat.zero_le _, by simp⟩, by simp [hc], .cons (.slE _ _ (.inr rfl)) .nil, .cons (.slFree _) .nil⟩
        · have hasp : a.spot = none := by
            obtain ⟨cs, x, h1, _⟩ := hall 0 (by omega)
            obtain ⟨_, hl, hk⟩ := World.cells?_some h1
            have := hk 0 hpos
            rw [List.getElem?_eq_getElem (by omega)] at this
            simp only [Nat.zero_mul, Addr.add_zero'] at this
            unfold World.cell? at this
            split at this
            · split at this
              · cases this
              · rename_i hs; simpa using hs
            · cases this
          obtain ⟨H1, φ1, xss, vs, b1, g1, l1, w1, d1, r1⟩ := opens_each (P := P) (w := w) (n := fuel) e (fun i => (w.cells? 0 (a.add (i * P.cellsOf e)) (P.cellsOf e)).getD []) (List.range len) (fun i hi => by
            obtain ⟨cs, x, h1, h2⟩ := hall i (by have := List.mem_range.1 hi; omega)
            simp only [h1, Option.getD_some]
            exact (opens_trod hp fuel e cs x he h2).1) H φ hb
          obtain ⟨f1, f2⟩ := cells_flat (w := w) (a := a) (c := P.cellsOf e) len fun i hi => by obtain ⟨cs, _, h1, _⟩ := hall i (by omega); exact ⟨cs, h1⟩
          obtain ⟨_, f4⟩ := cells_flat (w := w) (a := a) (c := P.cellsOf e) cap fun i hi => by obtain ⟨cs, _, h1, _⟩ := hall i hi; exact ⟨cs, h1⟩
          have hlen : xss.length = len := by simpa using l1
          have hcp : 0 < cap * P.cellsOf e := Nat.mul_pos (by omega) hpos
          have hpush := b1.push (sz := P.cellsOf e) (cap := cap) hasp r1 (fun k hk => (f2 k (by rw [f1] at hk; exact hk)).1) (fun k hk => (f4 k hk).2) (by rw [f1]; exact Nat.mul_le_mul_right _ hlc) hcp
          have g2 : Grow H1 φ1 (H1 ++ [some ⟨vs, P.cellsOf e, false, 0, []⟩]) (fun i => if i = H1.length then ⟨a.block, a.off, a.off + cap * P.cellsOf e, P.cellsOf e⟩ else φ1 i) :=
            ⟨⟨_, rfl⟩, fun i hi => by simp [Nat.ne_of_lt hi]⟩
          have hg : hget (H1 ++ [some ⟨vs, P.cellsOf e, false, 0, []⟩]) H1.length = some ⟨vs, P.cellsOf e, false, 0, []⟩ := by simp [hget]
          have hdl := d1.mono g2.le
          have hvl : vs.length = len * P.cellsOf e := by rw [r1.1, f1]
          refine ⟨_, _, [.sl none (P.cellsOf e) xss.length xss.flatten], [.slice (some ⟨H1.length, 0, none⟩) len len], hpush, g1.trans g2, ?_, by simp [hc], .cons ?_ .nil, .cons ?_ .nil⟩
          · simp only [WT, hu]
            exact ⟨xss, rfl, by omega, w1⟩
          · rw [hlen]
            refine .sl none _ len _ vs H1.length 0 len _ rfl hg rfl ?_ (Nat.le_refl _) hdl.1 (by rw [hdl.1, hvl]) (fun id h => by cases h) hdl.2
            have := readA_mk (H := H1 ++ [some ⟨vs, P.cellsOf e, false, 0, []⟩]) (h := H1.length) (o := 0) (n := vs.length) hg (by simp)
            rw [List.drop_zero, List.take_length] at this
            exact this
          · have hv := VRel.sl (n := (H1 ++ [some (⟨vs, P.cellsOf e, false, 0, []⟩ : Blk)]).length) (φ := fun i => if i = H1.length then ⟨a.block, a.off, a.off + cap * P.cellsOf e, P.cellsOf e⟩ else φ1 i) H1.length 0 len len cap (by simp) (Nat.le_refl _) hlc (by simp)
            obtain ⟨B, o, sp⟩ := a
            simp only at hasp
            subst hasp
            simpa using hv
    case struct fs =>
      simp only [Bool.and_eq_true, List.all_eq_true, List.contains_iff_mem] at hpt
      obtain ⟨hf, hl⟩ := hpt
      obtain ⟨xs, n, hn, _, hlen, _, hfs⟩ := DataW.trod_struct hu h
      cases hn
      refine ⟨?_, hlen⟩
      intro H φ hb
      rw [← hlen] at hl
      have hcs := laid_cells hl
      rw [List.drop_zero] at hcs
      have hop : ∀ f ∈ fs.toList, Opens P w fuel f.type ((cs.drop f.offset).take (P.cellsOf f.type)) := by
        intro f hfm
        obtain ⟨i, hi, rfl⟩ := List.mem_iff_getElem.1 hfm
        have hi' : i < fs.size := by simpa using hi
        have := hfs i fs[i] (by simp [hi'])
        have hxs : i < xs.length := by rename_i h6; omega
        rw [List.getElem?_eq_getElem hxs] at this
        exact (opens_trod hp fuel _ _ _ (hf _ hfm) (by simpa using this)).1
      obtain ⟨H1, φ1, ys, vs, b1, g1, w1, d1, r1⟩ := opens_fields (fun f => (cs.drop f.offset).take (P.cellsOf f.type)) fs.toList hop H φ hb
      rw [← hcs] at r1
      refine ⟨H1, φ1, ys, vs, b1, g1, by simp only [WT, hu]; exact w1, by rw [d1.1, r1.1, hlen], d1, r1⟩

/-- An argument, out of its cells. -/
def argD (P : Program) (t : TypeId) (xs : List D) : D := match isAggA P t with | some true => .agg xs | _ => xs.headD .bot
def WTA (P : Program) : List TypeId → List (List D) → Prop
  | [], [] => True
  | t :: ts, x :: xs => (∃ n, WT P n t x) ∧ WTA P ts xs
  | _, _ => False

theorem opens_args {Ht : Type} {enc : TypeId × Value → Ht} {held : Bool} {ts : List TypeId} (hp : plainT P ts = true) : ∀ (tys : List TypeId) (args : List Value) (ds : List (DataW Ht)) (p : List MemPlace), (∀ t ∈ tys, t ∈ ts) →
    (∀ (j : Nat) t v, tys[j]? = some t → args[j]? = some v → ((∃ cs, v = .agg cs) ↔ isAggA P t = some true)) →
    DataW.TrodAll enc P w 0 (fun _ => true) held tys args ds p → ∀ H φ, Bs w H φ →
    ∃ H' φ' xss vs, Bs w H' φ' ∧ Grow H φ H' φ' ∧ WTA P tys xss ∧ DL (rl H') (List.zipWith (argD P) tys xss) vs ∧ LRel H'.length φ' vs args
  | [], args, ds, p, _, _, h, H, φ, hb => by
    obtain ⟨rfl, rfl, rfl⟩ := trodAll_nil h
    exact ⟨H, φ, [], [], hb, .refl, trivial, .nil, .nil⟩
  | t :: tys, args, ds, p, ht, hv, h, H, φ, hb => by
    obtain ⟨v, vs', d, ds', p, q, rfl, rfl, rfl, h1, h2⟩ := trodAll_cons h
    obtain ⟨fuel, h1⟩ := h1
    obtain ⟨ho, hcl⟩ := opens_trod hp fuel t _ _ (ht t (by simp)) h1
    obtain ⟨H1, φ1, xs, us, b1, g1, w1, l1, d1, r1⟩ := ho H φ hb
    obtain ⟨H2, φ2, xss, us2, b2, g2, w2, d2, r2⟩ := opens_args hp tys vs' ds' q (fun t h => ht t (by simp [h])) (fun j t v a b => hv (j + 1) t v (by simpa using a) (by simpa using b)) h2 H1 φ1 b1
    have hone := hv 0 t v rfl rfl
    have hd1 := d1.mono g2.le
    have hr1 := g2.lrel r1
    by_cases hag : isAggA P t = some true
    · obtain ⟨cs, rfl⟩ := hone.2 hag
      refine ⟨H2, φ2, xs :: xss, .agg us.toArray :: us2, b2, g1.trans g2, ⟨⟨_, w1⟩, w2⟩, ?_, ?_⟩
      · simp only [List.zipWith_cons_cons, argD, hag]
        exact .cons (.agg _ _ (by simpa using hd1.1) fun i a b => by simp only [List.getElem_toArray]; exact hd1.2 i a (by simpa using b)) d2
      · refine .cons ?_ r2
        have := VRel.agg_of hr1
        simpa [Value.cells] using this
    · have hna : ¬ ∃ cs, v = .agg cs := fun h => hag (hone.1 h)
      have hcells : v.cells.toList = [v] := by
        cases v <;> first | rfl | (exact absurd ⟨_, rfl⟩ hna)
      rw [hcells] at hr1
      have hl : us.length = 1 := hr1.1
      obtain ⟨u, rfl⟩ : ∃ u, us = [u] := by match us, hl with | [u], _ => exact ⟨u, rfl⟩
      have hxl : xs.length = 1 := hd1.1
      obtain ⟨x, rfl⟩ : ∃ x, xs = [x] := by match xs, hxl with | [x], _ => exact ⟨x, rfl⟩
      refine ⟨H2, φ2, [x] :: xss, u :: us2, b2, g1.trans g2, ⟨⟨_, w1⟩, w2⟩, ?_, .cons hr1.head r2⟩
      have : argD P t [x] = x := by
        unfold argD
        split
        · rename_i h; exact absurd h hag
        · rfl
      simp only [List.zipWith_cons_cons, this]
      exact .cons hd1.head d2

theorem wide_agg {ts : List TypeId} (hp : plainT P ts = true) {r : Reach} {b0 : Nat} {t : TypeId} {v : Value} (ht : t ∈ ts) (h : Value.okWide P w r b0 t v) : (∃ cs, v = .agg cs) ↔ isAggA P t = some true := by
  have hpt := List.all_eq_true.1 hp t ht
  cases hu : P.underlying t with
  | none => rw [hu] at hpt; cases hpt
  | some d =>
  rw [hu] at hpt
  cases d <;> (try (simp at hpt; done))
  case bool => obtain ⟨_, rfl⟩ := okWide_bool hu h; simp [isAggA, hu]
  case int => obtain ⟨_, rfl⟩ := okWide_int hu h; simp [isAggA, hu]
  case string => obtain ⟨_, rfl⟩ := okWide_string hu h; simp [isAggA, hu]
  case slice => obtain ⟨_, _, _, rfl⟩ := okWide_slice hu h; simp [isAggA, hu]
  case struct => obtain ⟨cs, rfl, _⟩ := okWide_struct hu h; simp [isAggA, hu]

/-- What this machine returns for all values of the types, the model does. -/
theorem law_true {Ht : Type} {enc : TypeId × Value → Ht} {A : Beside} (hA : Kept A) {orc : DOracle} (ho : DOrcSound P A orc) (h0 : ∀ φ H, Bs w H φ → A φ H w) {f : FuncId} {tys ts : List TypeId} {args : Array Value} {ds : List (DataW Ht)} {p : List MemPlace} (hp : plainT P ts = true) (ht : ∀ t ∈ tys, t ∈ ts)
    {r : Reach} {b0 : Nat} (hv : ∀ (j : Nat) t v, tys[j]? = some t → args.toList[j]? = some v → Value.okWide P w r b0 t v)
    (h : DataW.TrodAll enc P w 0 (fun _ => true) true tys args.toList ds p) (hc : ∀ xss, WTA P tys xss → CallD P orc f (List.zipWith (argD P) tys xss) [] fun d _ => d = .bool true) :
    Calls P f args w fun e W' => e = .returned (.bool true) ∧ Below w.heap.size w W' := by
  have hb0 : Bs w [] (fun _ => ⟨0, 0, 0, 0⟩) := ⟨sim_nil, fun h b hg => by simp [hget] at hg⟩
  obtain ⟨H1, φ1, xss, vs, b1, g1, w1, d1, r1⟩ := opens_args hp tys args.toList ds p ht (fun j t v a b => wide_agg hp (ht t (List.mem_of_getElem? a)) (hv j t v a b)) h [] _ hb0
  exact callsD_true (r := rl H1) hA ho rfl ⟨b1.sim, h0 _ _ b1⟩ b1.ro d1 r1 (hc xss w1)
end
end Go.DM

/- A machine over Go's operations in which slices are values: what the abstract machine shows of a call. -/
namespace Go.DM
open Go Go.AM

theorem back_eq {r : Rl} : ∀ {us vs : List Value}, us.map (fun v => toV (ofV v)) = us.map some → DL r (us.map ofV) vs → vs = us
  | [], [], _, _ => rfl
  | [], _ :: _, _, h => by simp [DL] at h
  | _ :: _, [], _, h => by simp [DL] at h
  | u :: us, v :: vs, hb, h => by
    simp only [List.map_cons, List.cons.injEq] at hb
    have h0 : DRel r (ofV u) v := h.head
    rw [toV_eq h0 hb.1, back_eq hb.2 h.tail]

end Go.DM

/- A machine over Go's operations in which slices are values: what a walk rewrites by. -/
namespace Go.DM
open Go Go.AM

section
variable {P : Program} {orc : DOracle} {fl sz : Nat} {k : List K} {ρ : DEnv} {S : Mem} {Q : AExit → DEnv → Mem → Prop}
theorem Go.lpN {c : Code} (h : Go P orc fl sz (.code (.loop c) :: k) .normal ρ S Q) : Go P orc fl sz (.lp c :: k) .normal ρ S Q := h

/-- A loop, by a measure. -/
theorem Go.while {c : Code} {α : Type} (m : α → Nat) (e : α → List (Nat × D)) (S : α → Mem) (Inv : α → Prop)
    (h : ∀ a, Inv a → (∀ a', m a' < m a → Inv a' → Go P orc fl sz (.code (.loop c) :: k) .normal (envL (e a')) (S a') Q) → Go P orc fl sz (.code c :: .lp c :: k) .normal (envL (e a)) (S a) Q) :
    ∀ a, Inv a → Go P orc fl sz (.code (.loop c) :: k) .normal (envL (e a)) (S a) Q := by
  intro a ha
  generalize hn : m a = n
  induction n using Nat.strongRecOn generalizing a with
  | ind n ih =>
    refine Go.loop (h a ha fun a' hlt ha' => ?_)
    exact ih (m a') (hn ▸ hlt) a' ha' rfl

theorem envL_eq {i : Nat} {d : D} {l : List (Nat × D)} : envL ((i, d) :: l) i = d := by simp [envL]
theorem envL_ne {i t : Nat} {d : D} {l : List (Nat × D)} (h : (t == i) = false) : envL ((i, d) :: l) t = envL l t := by simp at h; simp [envL, h]
theorem objAt_app {S E : Mem} {n : Nat} : objAt (S ++ E) (S.length + n) = objAt E n := by simp [objAt, List.getElem?_append_right]
theorem objAt_app0 {S E : Mem} : objAt (S ++ E) S.length = objAt E 0 := objAt_app (n := 0)
theorem objAt_zero {x : Ob} {E : Mem} : objAt (x :: E) 0 = match x with | .obj c => some c | _ => none := by cases x <;> rfl
theorem objAt_succ {x : Ob} {E : Mem} {n : Nat} : objAt (x :: E) (n + 1) = objAt E n := by simp [objAt]
theorem set_app {S E : Mem} {n : Nat} {x : Ob} : (S ++ E).set (S.length + n) x = S ++ E.set n x := by simp
theorem set_app0 {S E : Mem} {x : Ob} : (S ++ E).set S.length x = S ++ E.set 0 x := by simp
theorem objAt_old {S E : Mem} {o : Nat} {c : List D} (h : objAt S o = some c) : objAt (S ++ E) o = some c := by
  have := (List.getElem?_eq_some_iff.1 (objAt_some h)).1
  unfold objAt at h ⊢
  rwa [List.getElem?_append_left this]
theorem ld_agg {t n : Nat} (ha : isAggA P t = some true) (hs : sizeA P t = some n) {x : D} : loadD P t x S = (cellsAt x S).bind fun p => if p.2 + n ≤ p.1.length then some (.agg ((p.1.drop p.2).take n)) else none := by
  unfold loadD
  rw [ha, hs]
  cases cellsAt x S with
  | none => rfl
  | some p => rfl
theorem ld_one {t : Nat} (ha : isAggA P t = some false) {x : D} : loadD P t x S = (cellsAt x S).bind fun p => p.1[p.2]? := by
  unfold loadD
  rw [ha]
  cases cellsAt x S with
  | none => rfl
  | some p => rfl
theorem st_cells {t n : Nat} (hs : sizeA P t = some n) {o off : Nat} {v : D} {vs : List D} (hv : cellsD v = some vs) (hl : vs.length = n) (ho : vs.all D.one = true) :
    storeD P t (.ptr o off) v S = (objAt S o).bind fun cells => if off + n ≤ cells.length then some (S.set o (.obj (wr cells off vs))) else none := by
  unfold storeD
  rw [hs, hv]
  simp only
  cases objAt S o with
  | none => rfl
  | some cells =>
    simp only [Option.bind_some, hl, ho, and_true, true_and]
theorem al_cells {t : Nat} {z : Value} (hz : zeroA P t = some z) (hs : z.cells.all scalarV = true) : opD P ρ (.alloc t) S = some (.ptr S.length 0, S ++ [.obj (z.cells.toList.map ofS)]) := by
  simp [opD, hz, hs]
theorem ix_sl {t e n : Nat} (hu : P.underlying t = some (.slice e)) (hs : sizeA P e = some n) {own : Option Nat} {len : Nat} {cells : List D} {k : IntKind} {i : Int} :
    indexAtD P t (.sl own n len cells) (.int k i) = if 0 ≤ i ∧ i < len then some (.eptr cells (i.toNat * n)) else none := by
  simp only [indexAtD, hu, hs, and_true]
theorem natD_cast {k : IntKind} {n : Nat} : natD (.int k (n : Int)) = some n := by simp [natD]
theorem natD_nn {k : IntKind} {i : Int} (h : 0 ≤ i) : natD (.int k i) = some i.toNat := by simp [natD, h]
theorem optNatD_none : optNatD none = some none := rfl
theorem optNatD_some {d : D} : optNatD (some d) = (natD d).map some := rfl
/-- A slice of a slice, its bounds known. -/
def cutD (own : Option Nat) (n len : Nat) (cells : List D) (l h : Nat) (m : Option Nat) : Option D :=
  if l ≤ h ∧ h ≤ m.getD len ∧ m.getD len ≤ len then
    if m.isSome = true ∧ m.getD len = l then some .sl0 else some (.sl (if h = len then own else none) n (h - l) ((cells.drop (l * n)).take ((h - l) * n)))
  else none
theorem cut_sl {t e n : Nat} (hu : P.underlying t = some (.slice e)) (hs : sizeA P e = some n) {own : Option Nat} {len : Nat} {cells : List D} {lo hi mx : Option D} :
    sliceD P t (.sl own n len cells) lo hi mx = (optNatD lo).bind fun l => (optNatD hi).bind fun h => (optNatD mx).bind fun m => if m.isSome = true ∧ h.isNone = true then none else cutD own n len cells (l.getD 0) (h.getD len) m := by
  unfold sliceD
  rw [hu]
  cases optNatD lo <;> cases optNatD hi <;> cases optNatD mx <;> simp [hs, cutD]
  rename_i l h m
  by_cases hc : m.isSome = true ∧ h = none
  · simp [hc]
  · simp [hc]
theorem cut_str {t : Nat} (hu : P.underlying t = some .string) {s : ByteArray} {lo hi : Option D} :
    sliceD P t (.str s) lo hi none = (optNatD lo).bind fun l => (optNatD hi).bind fun h => if l.getD 0 ≤ h.getD s.size ∧ h.getD s.size ≤ s.size then some (.str (s.extract (l.getD 0) (h.getD s.size))) else none := by
  unfold sliceD
  rw [hu]
  cases optNatD lo <;> cases optNatD hi <;> simp [optNatD]
theorem len_str {at_ : Array TypeId} {t : Nat} (h : at_[0]? = some t) (hu : P.underlying t = some .string) {s : ByteArray} : builtinD P .len at_ [.str s] S = some (.int .i64 s.size, S) := by simp [builtinD, h, hu]
theorem len_sl {at_ : Array TypeId} {t e : Nat} (h : at_[0]? = some t) (hu : P.underlying t = some (.slice e)) {own : Option Nat} {n len : Nat} {cells : List D} : builtinD P .len at_ [.sl own n len cells] S = some (.int .i64 len, S) := by simp [builtinD, h, hu]
theorem len_nil {at_ : Array TypeId} {t e : Nat} (h : at_[0]? = some t) (hu : P.underlying t = some (.slice e)) : builtinD P .len at_ [.nils] S = some (.int .i64 0, S) := by simp [builtinD, h, hu]
theorem len_slx {at_ : Array TypeId} {t e : Nat} (h : at_[0]? = some t) (hu : P.underlying t = some (.slice e)) : builtinD P .len at_ [.slx] S = some (.int .i64 0, S) := by simp [builtinD, h, hu]
theorem len_nil0 {at_ : Array TypeId} {t e : Nat} (h : at_[0]? = some t) (hu : P.underlying t = some (.slice e)) : builtinD P .len at_ [.sl0] S = some (.int .i64 0, S) := by simp [builtinD, h, hu]

/-- A byte of a text. -/
def indexStr (x i : D) (S : Mem) : Option (D × Mem) := match x, i with | .str s, .int _ i => if 0 ≤ i then (s.data[i.toNat]?).map fun b => (.int .u8 b.toNat, S) else none | _, _ => none
theorem ix_str {t : Nat} (hu : P.underlying t = some .string) {x i : Operand} : opD P ρ (.index t x i) S = indexStr (evalD ρ x) (evalD ρ i) S := by
  simp only [opD, hu, indexStr]
  cases evalD ρ x <;> cases evalD ρ i <;> rfl
theorem indexStr_cast {s : ByteArray} {n : Nat} {k : IntKind} (h : n < s.size) : indexStr (.str s) (.int k (n : Int)) S = some (.int .u8 (s.data[n]'h).toNat, S) := by
  have : n < s.data.size := h
  simp only [indexStr, Int.natCast_nonneg, if_true, Int.toNat_natCast, Array.getElem?_eq_getElem this, Option.map_some]
/-- What append asks. -/
def fitsD (bytes n : Nat) (new : List D) : Prop := n * bytes ≤ 2 ^ 47 ∧ n < 2 ^ 62 ∧ 0 < bytes ∧ new.all D.one = true
instance {b n : Nat} {new : List D} : Decidable (fitsD b n new) := by unfold fitsD; infer_instance
/-- The facts on an element's type that append needs. -/
structure ElemT (P : Program) (t e n bytes : Nat) : Prop where
  u : P.underlying t = some (.slice e)
  info : ∃ i z, P.info? e = some i ∧ i.size = n ∧ i.bytes = bytes ∧ i.zero = some z ∧ z.cells.size = n
theorem ap_nils {t e n bytes : Nat} (h : ElemT P t e n bytes) {own : Option Nat} {m : Nat} {new : List D} :
    appendD P #[t, t] .nils (.sl own n m new) S = if m = 0 then some (.nils, S) else if fitsD bytes m new then some (.sl (some S.length) n m new, S ++ [.own]) else none := by
  obtain ⟨hu, i, z, hi, rfl, rfl, hz, hs⟩ := h
  simp [appendD, hu, hi, hz, hs, elemsD, fitsD]
theorem ap_sl0 {t e n bytes : Nat} (h : ElemT P t e n bytes) {own : Option Nat} {m : Nat} {new : List D} :
    appendD P #[t, t] .sl0 (.sl own n m new) S = if m = 0 then some (.sl0, S) else if fitsD bytes m new then some (.sl (some S.length) n m new, S ++ [.own]) else none := by
  obtain ⟨hu, i, z, hi, rfl, rfl, hz, hs⟩ := h
  simp [appendD, hu, hi, hz, hs, elemsD, fitsD]
theorem ap_own {t e n bytes : Nat} (h : ElemT P t e n bytes) {own : Option Nat} {id m len : Nat} {cells new : List D} :
    appendD P #[t, t] (.sl (some id) n len cells) (.sl own n m new) S = if m = 0 then some (.sl (some id) n len cells, S) else if fitsD bytes (len + m) new then (match S[id]? with | some .own => some (.sl (some S.length) n (len + m) (cells ++ new), S.set id .dead ++ [.own]) | _ => none) else none := by
  obtain ⟨hu, i, z, hi, rfl, rfl, hz, hs⟩ := h
  simp [appendD, hu, hi, hz, hs, elemsD, fitsD]
  rfl

theorem ap_zero {t e n bytes : Nat} (h : ElemT P t e n bytes) {s x : D} (hx : elemsD n x = some (0, [])) (hs : s = .nils ∨ s = .sl0 ∨ ∃ own len cells, s = .sl own n len cells) : appendD P #[t, t] s x S = some (s, S) := by
  obtain ⟨hu, i, z, hi, rfl, rfl, hz, hss⟩ := h
  rcases hs with rfl | rfl | ⟨own, len, cells, rfl⟩ <;> simp [appendD, hu, hi, hz, hss, hx]
theorem eq_nils {t e : Nat} {x y : Operand} (hu : P.underlying t = some (.slice e)) : binD P .eql t x y .nils .nils = some (.bool true) ∧ binD P .eql t x y .slx .nils = some (.bool false) ∧ (∀ {own sz n cells}, binD P .eql t x y (.sl own sz (n + 1) cells) .nils = some (.bool false)) ∧
    binD P .neq t x y .nils .nils = some (.bool false) ∧ binD P .neq t x y .slx .nils = some (.bool true) ∧ (∀ {own sz n cells}, binD P .neq t x y (.sl own sz (n + 1) cells) .nils = some (.bool true)) := by
  refine ⟨?_, ?_, ?_, ?_, ?_, ?_⟩ <;> simp [binD, toV, toS, binV, binA, nilEq, nilEqD, hu, ofV, ofS]
theorem bin_int {op : BinOp} {t : TypeId} {x y : Operand} {k : IntKind} {a b : Int} {v : Value} (h : intBin op k a b = some v) (hop : (match op with | .shl | .shr | .and | .or | .xor | .andNot => false | _ => true) = true) : binD P op t x y (.int k a) (.int k b) = some (ofV v) := by
  cases op <;> first | (cases hop; done) | (simp only [binD, toV, toS, binV, binA, if_true]; simp only [h]; rfl)
theorem bin_str {op : BinOp} {t : TypeId} {x y : Operand} {a b : ByteArray} {v : Value} (h : strBin op a b = some v) : binD P op t x y (.str a) (.str b) = some (ofV v) := by
  simp only [binD, toV, toS, binV, binA, h]; rfl

/-- What a walk rewrites by. -/
theorem Z :
    (∀ {i : Nat} {d : D} {l : List (Nat × D)}, envL ((i, d) :: l) i = d) ∧
    (∀ {o off : Nat} {S : Mem}, cellsAt (.ptr o off) S = (objAt S o).map (·, off)) ∧
    (∀ {c : List D} {off : Nat} {S : Mem}, cellsAt (.eptr c off) S = some (c, off)) ∧
    (∀ {S E : Mem} {n : Nat}, objAt (S ++ E) (S.length + n) = objAt E n) ∧
    (∀ {S E : Mem}, objAt (S ++ E) S.length = objAt E 0) ∧
    (∀ {c : List D} {E : Mem}, objAt (.obj c :: E) 0 = some c) ∧
    (∀ {x : Ob} {E : Mem} {n : Nat}, objAt (x :: E) (n + 1) = objAt E n) ∧
    (∀ {S E : Mem} {n : Nat} {x : Ob}, (S ++ E).set (S.length + n) x = S ++ E.set n x) ∧
    (∀ {S E : Mem} {x : Ob}, (S ++ E).set S.length x = S ++ E.set 0 x) ∧
    (∀ {P t x y k a b}, binD P .add t x y (.int k a) (.int k b) = some (.int k (k.wrap (a + b))) ∧ binD P .sub t x y (.int k a) (.int k b) = some (.int k (k.wrap (a - b))) ∧ binD P .mul t x y (.int k a) (.int k b) = some (.int k (k.wrap (a * b))) ∧
      binD P .eql t x y (.int k a) (.int k b) = some (.bool (a == b)) ∧ binD P .neq t x y (.int k a) (.int k b) = some (.bool (a != b)) ∧ binD P .lss t x y (.int k a) (.int k b) = some (.bool (decide (a < b))) ∧ binD P .leq t x y (.int k a) (.int k b) = some (.bool (decide (a ≤ b))) ∧
      binD P .gtr t x y (.int k a) (.int k b) = some (.bool (decide (a > b))) ∧ binD P .geq t x y (.int k a) (.int k b) = some (.bool (decide (a ≥ b)))) ∧
    (∀ {P t x y a b}, binD P .eql t x y (.str a) (.str b) = some (.bool (decide (a = b))) ∧ binD P .neq t x y (.str a) (.str b) = some (.bool !(decide (a = b))) ∧ binD P .lss t x y (.str a) (.str b) = some (.bool (Op.bytesLess a.toList b.toList)) ∧
      binD P .gtr t x y (.str a) (.str b) = some (.bool !(Op.bytesLess a.toList b.toList || decide (a = b))) ∧ binD P .leq t x y (.str a) (.str b) = some (.bool (Op.bytesLess a.toList b.toList || decide (a = b))) ∧ binD P .geq t x y (.str a) (.str b) = some (.bool !(Op.bytesLess a.toList b.toList))) ∧
    (∀ {P ρ t x S}, opD P ρ (.unOp .not t x) S = match evalD ρ x with | .bool b => some (.bool !b, S) | _ => none) ∧
    (∀ {P ρ x i S}, opD P ρ (.extract x i) S = match evalD ρ x with | .tup vs => (vs[i]?).map (·, S) | _ => none) ∧
    (∀ {xs}, cellsD (.agg xs) = some xs) ∧ (∀ {k n}, cellsD (.int k n) = some [.int k n]) ∧ (∀ {b}, cellsD (.bool b) = some [.bool b]) ∧ (∀ {b}, cellsD (.str b) = some [.str b]) ∧ (cellsD .nils = some [.nils]) ∧ (cellsD .sl0 = some [.sl0]) ∧ (∀ {o z l c}, cellsD (.sl o z l c) = some [.sl o z l c]) ∧
    (∀ {o f}, cellsD (.ptr o f) = some [.ptr o f]) ∧ (∀ {f a b}, cellsD (.fn f a b) = some [.fn f a b]) ∧ (cellsD .nilp = some [.nilp]) ∧
    (∀ {k n}, D.one (.int k n) = true) ∧ (∀ {b}, D.one (.bool b) = true) ∧ (∀ {b}, D.one (.str b) = true) ∧ (D.one .nils = true) ∧ (D.one .sl0 = true) ∧ (∀ {o z l c}, D.one (.sl o z l c) = true) ∧ (∀ {o f}, D.one (.ptr o f) = true) ∧ (D.one .nilp = true) ∧
    (∀ {α : Type} {cs : List α} {o : Nat}, wr cs o [] = cs) ∧ (∀ {α : Type} {cs vs : List α} {o : Nat} {v : α}, wr cs o (v :: vs) = wr (cs.set o v) (o + 1) vs) ∧
    (∀ {b : Bool}, ofV (.bool b) = .bool b) ∧ (∀ {k n}, ofV (.int k n) = .int k n) ∧ (∀ {s}, ofV (.string s) = .str s) ∧ (ofV (.slice none 0 0) = .nils) ∧ (ofV (.pointer none) = .nilp) ∧
    (∀ {b : Bool}, ofS (.bool b) = .bool b) ∧ (∀ {k n}, ofS (.int k n) = .int k n) ∧ (∀ {s}, ofS (.string s) = .str s) ∧ (ofS (.slice none 0 0) = .nils) ∧ (ofS (.pointer none) = .nilp) := by
  refine ⟨envL_eq, rfl, rfl, objAt_app, objAt_app0, rfl, objAt_succ, set_app, set_app0, ?_, ?_, ?_, rfl, rfl, rfl, rfl, rfl, rfl, rfl, rfl, rfl, rfl, rfl, rfl, rfl, rfl, rfl, rfl, rfl, rfl, rfl, rfl, rfl, rfl, rfl, rfl, rfl, rfl, rfl, rfl, rfl, rfl, rfl⟩
  rotate_left
  · intro P t x y a b
    have e : (a.toList == b.toList) = decide (a = b) := str_eq
    refine ⟨?_, ?_, bin_str (v := .bool (Op.bytesLess a.toList b.toList)) rfl, ?_, ?_, bin_str (v := .bool !(Op.bytesLess a.toList b.toList)) rfl⟩
    · rw [bin_str (v := .bool (a.toList == b.toList)) rfl, e]; rfl
    · rw [bin_str (v := .bool !(a.toList == b.toList)) rfl, e]; rfl
    · rw [bin_str (v := .bool !(Op.bytesLess a.toList b.toList || a.toList == b.toList)) rfl, e]; rfl
    · rw [bin_str (v := .bool (Op.bytesLess a.toList b.toList || a.toList == b.toList)) rfl, e]; rfl
  · intro P ρ t x S
    cases h : evalD ρ x <;> simp [opD, h]
  · intro P t x y k a b
    exact ⟨bin_int (v := .int k (k.wrap (a + b))) rfl rfl, bin_int (v := .int k (k.wrap (a - b))) rfl rfl, bin_int (v := .int k (k.wrap (a * b))) rfl rfl, bin_int (v := .bool (a == b)) rfl rfl, bin_int (v := .bool (a != b)) rfl rfl, bin_int (v := .bool (decide (a < b))) rfl rfl, bin_int (v := .bool (decide (a ≤ b))) rfl rfl, bin_int (v := .bool (decide (a > b))) rfl rfl, bin_int (v := .bool (decide (a ≥ b))) rfl rfl⟩
end
end Go.DM
namespace Go.DM
open Go Go.AM
section
variable {P : Program} {S : Mem}
def placesA (P : Program) (t : TypeId) : Option (List (Nat × Nat)) :=
  match P.underlying t with
  | some (.struct fields) => fields.toList.mapM (fun f => (P.info? f.type).map fun i => (f.offset, i.size))
  | _ => none
/-- What the facts on a type are read from, at once. -/
def tyA (P : Program) (t : TypeId) : Option Nat × Option Nat × Option Value × Option (List (Nat × Nat)) := (sizeA P t, (P.info? t).map (·.bytes), zeroA P t, placesA P t)
theorem elemT_at {t e n b : Nat} {z : Value} (hu : P.underlying t = some (.slice e)) (h1 : sizeA P e = some n) (h2 : (P.info? e).map (·.bytes) = some b) (h3 : zeroA P e = some z) (h4 : z.cells.size = n) : ElemT P t e n b := by
  cases hi : P.info? e with
  | none => simp [sizeA, hi] at h1
  | some i =>
    simp only [sizeA, zeroA, hi, Option.map_some, Option.some.injEq, Option.bind_some] at h1 h2 h3
    exact ⟨hu, i, z, hi, h1, h2, h3, h4⟩
theorem bd_struct {t : TypeId} {fields : Array Field} {pl : List (Nat × Nat)} {z : Value} (hu : P.underlying t = some (.struct fields)) (hp : placesA P t = some pl) (hz : zeroA P t = some z) (hs : z.cells.all scalarV = true) {ps : List (Nat × D)} :
    buildD P t ps = (fillD (fun i => pl[i]?) (z.cells.toList.map ofS) ps).map .agg := by
  simp only [placesA, hu] at hp
  unfold zeroA at hz
  cases hi : P.info? t with
  | none => rw [hi] at hz; cases hz
  | some it =>
    rw [hi] at hz
    simp only [Option.bind_some] at hz
    simp only [buildD, hi, hu, hz, hp, hs, if_true, List.getElem?_toArray]
theorem bs_slice {t e n : TypeId} {z : Value} (hu : P.underlying t = some (.slice e)) (hs : sizeA P e = some n) (hz : zeroA P e = some z) (hc : z.cells.all scalarV = true) (hl : z.cells.size = n) {len : Nat} {ps : List (Nat × D)} :
    buildSliceD P t len ps S = if len * n > 2 ^ 24 then none else (fillD (fun i => some (i * n, n)) (repD (z.cells.toList.map ofS) len) ps).bind fun cells => if cells.all D.one = true then some (.sl (some S.length) n len cells, S ++ [.own]) else none := by
  have hk : (len * n > 2 ^ 24 ∨ z.cells.all scalarV = false ∨ z.cells.size ≠ n) = (len * n > 2 ^ 24) := by
    apply propext
    constructor
    · rintro (h | h | h)
      · exact h
      · rw [hc] at h; cases h
      · exact absurd hl h
    · exact fun h => .inl h
  simp only [buildSliceD, hu, hs, hz, Option.bind_eq_bind, Option.bind_some, hk]
theorem fillD_nil {pl : Nat → Option (Nat × Nat)} {cs : List D} : fillD pl cs [] = some cs := rfl
theorem fillD_cons {pl : Nat → Option (Nat × Nat)} {cs : List D} {i : Nat} {v : D} {rest : List (Nat × D)} :
    fillD pl cs ((i, v) :: rest) = (pl i).bind fun p => (cellsD v).bind fun xs => if xs.length = p.2 ∧ p.1 + p.2 ≤ cs.length then fillD pl (wr cs p.1 xs) rest else none := by
  simp only [fillD]
  cases pl i with
  | none => rfl
  | some p =>
    obtain ⟨off, size⟩ := p
    cases cellsD v with
    | none => rfl
    | some xs => rfl
theorem repD_one {α : Type} {xs : List α} : repD xs 1 = xs := by simp [repD]
theorem repD_zero {α : Type} {xs : List α} : repD xs 0 = [] := rfl
end
end Go.DM
namespace Go.DM
open Go Go.AM
def optThen {α : Type} (x : Option α) (F : α → Prop) : Prop := match x with | some v => F v | none => False
theorem optThen_some {α : Type} {v : α} {F : α → Prop} : optThen (some v) F = F v := rfl
theorem fin {α : Type} {x : Option α} {F : α → Prop} (h : optThen x F) : ∃ v, x = some v ∧ F v := by
  cases x with
  | none => exact h.elim
  | some v => exact ⟨v, rfl, h⟩
section
variable {P : Program} {fn : Func} {ρ : DEnv} {S : Mem}
theorem resD_tmp {t : Tmp} (h : fn.results = #[.tmp t]) : resultsD P fn ρ S = some (ρ t) := by simp [resultsD, h, resultD]
theorem resD_cell {t : Tmp} {ty : TypeId} (h : fn.results = #[.cell t ty]) : resultsD P fn ρ S = loadD P ty (ρ t) S := by simp [resultsD, h, resultD]
theorem resD_two {x y : ResultVar} (h : fn.results = #[x, y]) : resultsD P fn ρ S = (resultD P ρ S x).bind fun a => (resultD P ρ S y).bind fun b => some (.tup [a, b]) := by
  simp only [resultsD, h, resultsL]
  cases resultD P ρ S x with
  | none => rfl
  | some a =>
    cases resultD P ρ S y with
    | none => rfl
    | some b => rfl
theorem resultD_tmp {t : Tmp} : resultD P ρ S (.tmp t) = some (ρ t) := rfl
theorem resultD_cell {t : Tmp} {ty : TypeId} : resultD P ρ S (.cell t ty) = loadD P ty (ρ t) S := rfl
end
theorem Wk.int {n : Nat} {k x} : Wk n (.int k x) (.int k x) := .of_low (.int k x)
theorem Wk.bool {n : Nat} {x} : Wk n (.bool x) (.bool x) := .of_low (.bool x)
theorem Wk.str {n : Nat} {x} : Wk n (.str x) (.str x) := .of_low (.str x)
inductive LowL (n : Nat) : List D → Prop
  | nil : LowL n []
  | cons {x xs} (h : DLow n x) (hs : LowL n xs) : LowL n (x :: xs)
theorem LowL.get {n xs} (h : LowL n xs) : ∀ i (h : i < xs.length), DLow n xs[i] := by
  induction h with
  | nil => intro i h; simp at h
  | cons h _ ih =>
    intro i hi
    cases i with
    | zero => exact h
    | succ i => exact ih i (by simpa using hi)
theorem LowL.mem {n xs} (h : LowL n xs) : ∀ c ∈ xs, DLow n c := fun c hc => by
  obtain ⟨i, hi, rfl⟩ := List.mem_iff_getElem.1 hc
  exact h.get i hi
theorem LowL.of_mem {n : Nat} : ∀ {xs : List D}, (∀ x ∈ xs, DLow n x) → LowL n xs
  | [], _ => .nil
  | x :: xs, h => .cons (h x (by simp)) (LowL.of_mem fun y hy => h y (by simp [hy]))
theorem DLow.agg' {n xs} (h : LowL n xs) : DLow n (.agg xs) := .agg xs h.get
theorem DLow.tup' {n xs} (h : LowL n xs) : DLow n (.tup xs) := .tup xs h.get
theorem DLow.sl' {n sz len xs} (h : LowL n xs) : DLow n (.sl none sz len xs) := .sl none sz len xs (fun _ e => by cases e) h.get
end Go.DM
namespace Go.DM
open Go Go.AM
theorem wrap64 {x : Int} (h1 : -9223372036854775808 ≤ x) (h2 : x ≤ 9223372036854775807) : IntKind.i64.wrap x = x := by
  rw [IntKind.wrap_i64]; omega
theorem wrapu64 {x : Int} (h1 : 0 ≤ x) (h2 : x ≤ 18446744073709551615) : IntKind.u64.wrap x = x := by
  exact IntWalk.u64_in x ⟨h1, h2⟩
theorem wrap_succ {i : Nat} (h : i < 4611686018427387904) : IntKind.i64.wrap ((i : Int) + 1) = ((i + 1 : Nat) : Int) := by rw [wrap64 (by omega) (by omega)]; omega

section
variable {α : Type} {f : α → List D} {n : Nat}
theorem flat_length (hf : ∀ x, (f x).length = n) : ∀ (l : List α), (l.flatMap f).length = l.length * n
  | [] => by simp
  | x :: l => by simp only [List.flatMap_cons, List.length_append, hf, flat_length hf l, List.length_cons, Nat.add_mul]; omega
theorem flat_drop (hf : ∀ x, (f x).length = n) : ∀ (l : List α) (i : Nat), (l.flatMap f).drop (i * n) = (l.drop i).flatMap f
  | l, 0 => by simp
  | [], i + 1 => by simp
  | x :: l, i + 1 => by
    simp only [List.flatMap_cons, List.drop_succ_cons]
    rw [Nat.add_mul, Nat.one_mul, Nat.add_comm, ← List.drop_drop]
    have : (f x ++ l.flatMap f).drop n = l.flatMap f := by rw [← hf x]; simp
    rw [this, flat_drop hf l i]
theorem flat_cell (hf : ∀ x, (f x).length = n) (l : List α) (i : Nat) (h : i < l.length) {k : Nat} (hk : k < n) : (l.flatMap f)[i * n + k]? = (f l[i])[k]? := by
  rw [← List.getElem?_drop, flat_drop hf, List.drop_eq_getElem_cons h, List.flatMap_cons, List.getElem?_append_left (by rw [hf]; exact hk)]
theorem flat_cell0 (hf : ∀ x, (f x).length = n) (l : List α) (i : Nat) (h : i < l.length) (hk : 0 < n) : (l.flatMap f)[i * n]? = (f l[i])[0]? := flat_cell hf l i h hk
theorem flat_part (hf : ∀ x, (f x).length = n) (l : List α) (i : Nat) (h : i < l.length) {a b : Nat} (hk : a + b ≤ n) : ((l.flatMap f).drop (i * n + a)).take b = ((f l[i]).drop a).take b := by
  rw [← List.drop_drop, flat_drop hf, List.drop_eq_getElem_cons h, List.flatMap_cons, List.drop_append_of_le_length (by rw [hf]; omega), List.take_append_of_le_length (by rw [List.length_drop, hf]; omega)]
theorem flat_all (hf : ∀ x, (f x).length = n) (l : List α) (i : Nat) (h : i < l.length) : ((l.flatMap f).drop (i * n)).take n = f l[i] := by
  have := flat_part hf l i h (a := 0) (b := n) (by omega)
  rw [Nat.add_zero, List.drop_zero] at this
  rw [this, List.take_of_length_le (by rw [hf]; exact Nat.le_refl _)]
theorem flat_fits (hf : ∀ x, (f x).length = n) (l : List α) (i : Nat) (h : i < l.length) {a b : Nat} (hk : a + b ≤ n) : (i * n + a + b ≤ (l.flatMap f).length) = True := by
  rw [flat_length hf]
  simp only [eq_iff_iff, iff_true]
  have : (i + 1) * n ≤ l.length * n := Nat.mul_le_mul_right _ h
  rw [Nat.add_mul] at this
  omega
theorem flat_fits0 (hf : ∀ x, (f x).length = n) (l : List α) (i : Nat) (h : i < l.length) : (i * n + n ≤ (l.flatMap f).length) = True := flat_fits hf l i h (a := 0) (b := n) (by omega)
end
theorem ix_ok {i n : Nat} (h : i < n) : (0 ≤ (i : Int) ∧ (i : Int) < (n : Int)) = True := by simp; omega
end Go.DM
namespace Go.DM
open Go Go.AM
theorem builtin_append {P : Program} {at_ : Array TypeId} {s x : D} {S : Mem} : builtinD P .append at_ [s, x] S = appendD P at_ s x S := rfl
/-- A slice that may grow, with its right to. -/
def AccD (b : Nat) (o : D) (n len : Nat) (cells : List D) (S : Mem) : Prop := (o = .nils ∧ len = 0 ∧ cells = []) ∨ (o = .sl0 ∧ len = 0 ∧ cells = []) ∨ ∃ id, b ≤ id ∧ o = .sl (some id) n len cells ∧ S[id]? = some .own
/-- What append makes. -/
structure Grown (b : Nat) (S S' : Mem) : Prop where
  len : S.length ≤ S'.length
  pre : ∀ E, ∀ S0 : Mem, S0.length = b → S = S0 ++ E → ∃ E', S' = S0 ++ E'
  obj : ∀ o c, objAt S o = some c → objAt S' o = some c
theorem Grown.refl {b S} : Grown b S S := ⟨Nat.le_refl _, fun E _ _ h => ⟨E, h⟩, fun _ _ h => h⟩
theorem Grown.trans {b S S1 S2} (x : Grown b S S1) (y : Grown b S1 S2) : Grown b S S2 :=
  ⟨Nat.le_trans x.len y.len, fun E S0 h e => by obtain ⟨E1, e1⟩ := x.pre E S0 h e; exact y.pre E1 S0 h e1, fun o c h => y.obj o c (x.obj o c h)⟩
theorem Grown.app {b : Nat} {S E : Mem} : Grown b S (S ++ E) := ⟨by simp, fun E0 S0 _ h => ⟨E0 ++ E, by rw [h]; simp⟩, fun _ _ h => objAt_old h⟩
theorem AccD.app {b o n len cells S} (h : AccD b o n len cells S) (E : Mem) : AccD b o n len cells (S ++ E) := by
  rcases h with h | h | ⟨id, h1, h2, h3⟩
  · exact .inl h
  · exact .inr (.inl h)
  · exact .inr (.inr ⟨id, h1, h2, by rw [List.getElem?_append_left (List.getElem?_eq_some_iff.1 h3).1]; exact h3⟩)
theorem AccD.wf {b o n len cells S} (h : AccD b o n len cells S) : Wf o (.sl none n len cells) := by
  rcases h with ⟨rfl, rfl, rfl⟩ | ⟨rfl, rfl, rfl⟩ | ⟨id, _, rfl, _⟩
  · exact .nilE
  · exact .sl0E
  · exact .disown
theorem AccD.append {P : Program} {b t e n bytes len m : Nat} {o : D} {own : Option Nat} {cells new : List D} {S : Mem} (h : ElemT P t e n bytes) (ha : AccD b o n len cells S) (hb : b ≤ S.length) (hm : m ≠ 0) (hf : fitsD bytes (len + m) new) :
    ∃ o' S', appendD P #[t, t] o (.sl own n m new) S = some (o', S') ∧ AccD b o' n (len + m) (cells ++ new) S' ∧ Grown b S S' := by
  rcases ha with ⟨rfl, rfl, rfl⟩ | ⟨rfl, rfl, rfl⟩ | ⟨id, h1, rfl, h3⟩
  · rw [Nat.zero_add] at hf
    refine ⟨_, _, by rw [ap_nils h, if_neg hm, if_pos hf], .inr (.inr ⟨S.length, hb, by simp, by simp⟩), .app⟩
  · rw [Nat.zero_add] at hf
    refine ⟨_, _, by rw [ap_sl0 h, if_neg hm, if_pos hf], .inr (.inr ⟨S.length, hb, by simp, by simp⟩), .app⟩
  · refine ⟨_, _, by rw [ap_own h, if_neg hm, if_pos hf, h3], .inr (.inr ⟨S.length, hb, rfl, by simp⟩), ⟨by simp, fun E S0 hl he => ?_, fun o c ho => ?_⟩⟩
    · subst he
      refine ⟨E.set (id - S0.length) .dead ++ [.own], ?_⟩
      rw [List.set_append_right _ _ (by omega)]
      simp
    · have hne : id ≠ o := by rintro rfl; rw [objAt_some ho] at h3; cases h3
      refine objAt_old ?_
      unfold objAt at ho ⊢
      rwa [List.getElem?_set_ne hne]
theorem all_false_at {α : Type} {p : α → Bool} {l : List α} {i : Nat} (h : i < l.length) (hp : p l[i] = false) : l.all p = false := by rw [List.all_eq_false]; exact ⟨l[i], List.getElem_mem _, by simp [hp]⟩
theorem all_true_of {α : Type} {p : α → Bool} {l : List α} (h : ∀ j (hj : j < l.length), p l[j] = true) : l.all p = true := by
  rw [List.all_eq_true]
  intro x hx
  obtain ⟨j, hj, rfl⟩ := List.mem_iff_getElem.1 hx
  exact h j hj
end Go.DM
namespace Go.DM
open Go Go.AM
section
variable {P : Program} {orc : DOracle} {S : Mem} {f : FuncId} {args : List D}
theorem CallD.ret {X : D} {Q : D → Mem → Prop} (h : CallD P orc f args S fun d S' => S' = S ∧ d = X) (hq : Q X S) : CallD P orc f args S Q := h.mono (by rintro d S' ⟨rfl, rfl⟩; exact hq)
theorem CallD.retE {R : D → Prop} {Q : D → Mem → Prop} (h : CallD P orc f args S fun d S' => S' = S ∧ R d) (hq : ∀ d, R d → Q d S) : CallD P orc f args S Q := h.mono (by rintro d S' ⟨rfl, hr⟩; exact hq d hr)
end
end Go.DM
namespace Go.DM
open Go Go.AM
section
variable {P : Program} {orc : DOracle} {fl sz : Nat} {k : List K} {ρ : DEnv} {H : Mem} {Q : AExit → DEnv → Mem → Prop} {ops : Array Oper} {loose : List Nat} {Inv : Mem → Prop} {F : Nat}
theorem GoW.readT {i : Nat} {os : List Oper} {dst : Option Tmp} {op : Op} {ty : TypeId} {pos : String} {after : Array Edge} (hd : okDst sz dst) (hc : op.operands.toList.all okOperand = true)
    (h : opThen (opD P ρ op H) fun v H1 => H1 = H ∧ Inv H ∧ (∀ H', Inv H' → opD P ρ op H' = some (v, H')) ∧ GoW P orc fl sz ops loose Inv F (i + 1) os k (putD ρ dst v) H Q) : GoW P orc fl sz ops loose Inv F i (⟨dst, op, ty, pos, after, none⟩ :: os) k ρ H Q := by
  cases hop : opD P ρ op H with
  | none => rw [hop] at h; exact h.elim
  | some r =>
    obtain ⟨v, H1⟩ := r
    rw [hop] at h
    obtain ⟨_, hi, hr, h⟩ := h
    exact GoW.read hd hc hi hr h
theorem GoW.readTG {i : Nat} {os : List Oper} {dst : Option Tmp} {op : Op} {ty : TypeId} {pos : String} {after : Array Edge} {g : Nat × Bool} (hd : okDst sz dst) (hc : op.operands.toList.all okOperand = true)
    (hw : (yieldedD ops ρ g.1 == some g.2) = true) (h : opThen (opD P ρ op H) fun v H1 => H1 = H ∧ Inv H ∧ (∀ H', Inv H' → opD P ρ op H' = some (v, H')) ∧ GoW P orc fl sz ops loose Inv F (i + 1) os k (putD ρ dst v) H Q) : GoW P orc fl sz ops loose Inv F i (⟨dst, op, ty, pos, after, some g⟩ :: os) k ρ H Q := by
  cases hop : opD P ρ op H with
  | none => rw [hop] at h; exact h.elim
  | some r =>
    obtain ⟨v, H1⟩ := r
    rw [hop] at h
    obtain ⟨_, hi, hr, h⟩ := h
    exact GoW.readG hd hc hw hi hr h
end
end Go.DM
namespace Go.DM
open Go Go.AM
section
variable {P : Program} {S : Mem} {ρ : DEnv}
theorem bin_and {t : TypeId} {x y : Operand} {k : IntKind} {a b : Int} : binD P .and t x y (.int k a) (.int k b) = some (.int k (bits .and k a b)) := by
  simp only [binD, toV, toS, binV, binA, if_true, intBits_and, Pure.pure, pureRun]; rfl
theorem bin_or {t : TypeId} {x y : Operand} {k : IntKind} {a b : Int} : binD P .or t x y (.int k a) (.int k b) = some (.int k (bits .or k a b)) := by
  simp only [binD, toV, toS, binV, binA, if_true, show Op.intBits .or k a b = pure (.int k (bits .or k a b)) from rfl, Pure.pure, pureRun]; rfl
theorem bin_shr {t : TypeId} {x y : Operand} {k k' : IntKind} {a b : Int} (h : 0 ≤ b) : binD P .shr t x y (.int k a) (.int k' b) = some (.int k (a.fdiv (2 ^ (min b.toNat k.bits)))) := by
  simp only [binD, toV, toS, binV, binA, if_neg (show ¬ b < 0 by omega)]; rfl
theorem bin_shl {t : TypeId} {x y : Operand} {k k' : IntKind} {a b : Int} (h : 0 ≤ b) : binD P .shl t x y (.int k a) (.int k' b) = some (.int k (k.wrap (a * 2 ^ (min b.toNat k.bits)))) := by
  simp only [binD, toV, toS, binV, binA, if_neg (show ¬ b < 0 by omega)]; rfl
theorem bin_quo {t : TypeId} {x y : Operand} {k : IntKind} {a b : Int} (h : (b = 0) = False) : binD P .quo t x y (.int k a) (.int k b) = some (.int k (k.wrap (a.tdiv b))) := by
  simp only [binD, toV, toS, binV, binA, if_true, intBin, h, if_false]; rfl
theorem bin_rem {t : TypeId} {x y : Operand} {k : IntKind} {a b : Int} (h : (b = 0) = False) : binD P .rem t x y (.int k a) (.int k b) = some (.int k (a.tmod b)) := by
  simp only [binD, toV, toS, binV, binA, if_true, intBin, h, if_false]; rfl
theorem bin_bool {t : TypeId} {x y : Operand} {a b : Bool} (hu : P.underlying t = some .bool) : binD P .eql t x y (.bool a) (.bool b) = some (.bool (a == b)) ∧ binD P .neq t x y (.bool a) (.bool b) = some (.bool !(a == b)) := by
  constructor <;> simp [binD, toV, toS, binV, binA, hu, ofV, ofS]
theorem un_neg {t : TypeId} {x : Operand} : opD P ρ (.unOp .neg t x) S = match evalD ρ x with | .int k n => some (.int k (k.wrap (0 - n)), S) | _ => none := by
  cases h : evalD ρ x <;> simp [opD, h]
theorem conv_int {s d : TypeId} {k1 k2 k : IntKind} {n : Int} (hs : P.underlying s = some (.int k1)) (hd : P.underlying d = some (.int k)) : convD P s d (.int k2 n) S = some (.int k (k.wrap n), S) := by
  simp only [convD, hs, hd]
theorem conv_str {s d : TypeId} {a : ByteArray} (hs : P.underlying s = some .string) (hd : P.underlying d = some .string) : convD P s d (.str a) S = some (.str a, S) := by
  simp only [convD, hs, hd]
end
theorem flat_take_succ {α : Type} {f : α → List D} {l : List α} {i : Nat} (h : i < l.length) : (l.take (i + 1)).flatMap f = (l.take i).flatMap f ++ f l[i] := by
  rw [← List.take_append_getElem h, List.flatMap_append]; simp only [List.flatMap_cons, List.flatMap_nil, List.append_nil]
end Go.DM
namespace Go.DM
open Go Go.AM
theorem indexStr_zero {S : Mem} {s : ByteArray} {k : IntKind} (h : 0 < s.size) : indexStr (.str s) (.int k 0) S = some (.int .u8 (s.data[0]'h).toNat, S) := indexStr_cast (n := 0) h
end Go.DM
namespace Go.DM
open Go Go.AM
theorem own_app {S E : Mem} {n : Nat} : (S ++ E)[S.length + n]? = E[n]? := by simp [List.getElem?_append_right]
theorem own_app0 {S E : Mem} : (S ++ E)[S.length]? = E[0]? := own_app (n := 0)
end Go.DM
namespace Go.DM
open Go Go.AM
end Go.DM
namespace Go.DM
open Go Go.AM
end Go.DM
namespace Go.DM
open Go Go.AM
end Go.DM
namespace Go.DM
open Go Go.AM
/-- What a walk rewrites by, of lists, options, truth. -/
theorem Y :
    (∀ {S E : Mem} {n : Nat}, (S ++ E)[List.length S + n]? = E[n]?) ∧
    (∀ {S E : Mem}, (S ++ E)[List.length S]? = E[0]?) ∧
    (∀ {P : Program} {t : TypeId} {x y : Operand} {k : IntKind} {a b : Int}, binD P BinOp.and t x y (D.int k a) (D.int k b) = some (D.int k (bits BinOp.and k a b))) ∧
    (∀ {P : Program} {t : TypeId} {x y : Operand} {k : IntKind} {a b : Int}, binD P BinOp.or t x y (D.int k a) (D.int k b) = some (D.int k (bits BinOp.or k a b))) ∧
    (∀ {P : Program} {t : TypeId} {x y : Operand} {k k' : IntKind} {a b : Int}, 0 ≤ b → binD P BinOp.shr t x y (D.int k a) (D.int k' b) = some (D.int k (Int.fdiv a (2 ^ min (Int.toNat b) (IntKind.bits k))))) ∧
    (∀ {P : Program} {t : TypeId} {x y : Operand} {k k' : IntKind} {a b : Int}, 0 ≤ b → binD P BinOp.shl t x y (D.int k a) (D.int k' b) = some (D.int k (IntKind.wrap k (a * 2 ^ min (Int.toNat b) (IntKind.bits k))))) ∧
    (∀ {P : Program} {t : TypeId} {x y : Operand} {k : IntKind} {a b : Int}, (b = 0) = False → binD P BinOp.quo t x y (D.int k a) (D.int k b) = some (D.int k (IntKind.wrap k (Int.tdiv a b)))) ∧
    (∀ {P : Program} {t : TypeId} {x y : Operand} {k : IntKind} {a b : Int}, (b = 0) = False → binD P BinOp.rem t x y (D.int k a) (D.int k b) = some (D.int k (Int.tmod a b))) ∧
    (∀ {ρ : DEnv} {t u : Tmp} {v : D}, (u == t) = false → putD ρ (some t) v u = ρ u) ∧
    (∀ {ρ : DEnv} {v : D}, putD ρ none v = ρ) ∧
    (∀ {k : IntKind} {n : Nat}, natD (D.int k ↑n) = some n) ∧
    (∀ {k : IntKind} {i : Int}, 0 ≤ i → natD (D.int k i) = some (Int.toNat i)) ∧
    (optNatD none = some none) ∧
    (∀ {d : D}, optNatD (some d) = Option.map some (natD d)) ∧
    (∀ {α : Type} {a b : α}, Option.getD (some a) b = a) ∧
    (∀ {α : Type} {a : α}, Option.getD none a = a) ∧
    (∀ {α : Type} {a : α}, Option.isSome (some a) = true) ∧
    (∀ {α : Type}, Option.isSome (none : Option α) = false) ∧
    (∀ {α : Type} {a : α}, Option.isNone (some a) = false) ∧
    (∀ {α : Type}, Option.isNone (none : Option α) = true) ∧
    (∀ (n : Nat), Int.toNat ↑n = n) ∧
    (∀ (n : Nat), 0 ≤ n) ∧
    (∀ (n : Nat), n - 0 = n) ∧
    (∀ (p : Prop), (False ∧ p) = False) ∧
    (∀ (p : Prop), (p ∧ False) = False) ∧
    (∀ {i t : Nat} {d : D} {l : List (Nat × D)}, (t == i) = false → envL ((i, d) :: l) t = envL l t) ∧
    (∀ {pl : Nat → Option (Nat × Nat)} {cs : List D}, fillD pl cs [] = some cs) ∧
    (∀ {pl : Nat → Option (Nat × Nat)} {cs : List D} {i : Nat} {v : D} {rest : List (Nat × D)}, fillD pl cs ((i, v) :: rest) = Option.bind (pl i) fun p => Option.bind (cellsD v) fun xs => if List.length xs = Prod.snd p ∧ Prod.fst p + Prod.snd p ≤ List.length cs then fillD pl (wr cs (Prod.fst p) xs) rest else none) ∧
    (∀ {α : Type} {xs : List α}, repD xs 1 = xs) ∧
    (∀ {α : Type} {xs : List α}, repD xs 0 = []) ∧
    (∀ (n : Nat), 0 + n = n) ∧
    (∀ (n : Nat), n + 0 = n) ∧
    (∀ (n : Nat), 0 * n = 0) ∧
    (∀ (n : Nat), n * 1 = n) ∧
    (∀ (n : Nat), 1 * n = n) ∧
    (∀ (n : Nat), n ≤ n) ∧
    (∀ {α : Type} {β : Type} (a : α) (f : α → β), Option.map f (some a) = some (f a)) ∧
    (∀ {α : Type} {β : Type} (f : α → β), Option.map f none = none) ∧
    (∀ {α : Type} {β : Type} (a : α) (f : α → Option β), Option.bind (some a) f = f a) ∧
    ((false = true) = False) ∧
    ((!true) = false) ∧
    ((!false) = true) ∧
    (∀ (p : Prop), (p ∧ p) = p) ∧
    (∀ (p : Prop), (True ∧ p) = p) ∧
    (∀ (p : Prop), (p ∧ True) = p) ∧
    (∀ {α : Type} {β : Type} {f : α → β} {a : α} {l : List α}, List.map f (a :: l) = f a :: List.map f l) ∧
    (∀ {α : Type} {β : Type} {f : α → β}, List.map f [] = []) ∧
    (∀ {α : Type} {a : α} {as : List α}, List.length (a :: as) = List.length as + 1) ∧
    (∀ {α : Type}, List.length ([] : List α) = 0) ∧
    (∀ {α : Type} {as bs : List α}, List.length (as ++ bs) = List.length as + List.length bs) ∧
    (∀ {α : Type} {a : α} {l : List α}, (a :: l)[0]? = some a) ∧
    (∀ {α : Type} {a : α} {i : Nat} {l : List α}, (a :: l)[i + 1]? = l[i]?) ∧
    (∀ {α : Type} {x : α} {xs : List α} {a : α}, List.set (x :: xs) 0 a = a :: xs) ∧
    (∀ {α : Type} {x : α} {xs : List α} {i : Nat} {a : α}, List.set (x :: xs) (i + 1) a = x :: List.set xs i a) ∧
    (∀ {α : Type} {l : List α}, List.drop 0 l = l) ∧
    (∀ {α : Type} {a : α} {l : List α} {i : Nat}, List.drop (i + 1) (a :: l) = List.drop i l) ∧
    (∀ {α : Type} {a : α} {as : List α} {i : Nat}, List.take (i + 1) (a :: as) = a :: List.take i as) ∧
    (∀ {α : Type} {l : List α}, List.take 0 l = []) ∧
    (∀ {α : Type} {a : α} {l : List α} {f : α → Bool}, List.all (a :: l) f = (f a && List.all l f)) ∧
    (∀ {α : Type} {f : α → Bool}, List.all [] f = true) ∧
    (∀ (b : Bool), (b && b) = b) ∧
    (∀ (b : Bool), (b && true) = b) ∧
    (∀ (b : Bool), (true && b) = b) ∧
    (∀ {α : Type} (as bs cs : List α), as ++ bs ++ cs = as ++ (bs ++ cs)) ∧
    (∀ {α : Type} {a : α} {as bs : List α}, a :: as ++ bs = a :: (as ++ bs)) ∧
    (∀ {α : Type} (as : List α), [] ++ as = as) ∧
    (∀ {α : Type} (as : List α), as ++ [] = as) ∧
    ((true = false) = False) :=
  ⟨@own_app, @own_app0, @bin_and, @bin_or, @bin_shr, @bin_shl, @bin_quo, @bin_rem, @putD_ne, @putD_none, @natD_cast, @natD_nn, @optNatD_none, @optNatD_some, @Option.getD_some, @Option.getD_none, @Option.isSome_some, @Option.isSome_none, @Option.isNone_some, @Option.isNone_none, @Int.toNat_natCast, @Nat.zero_le, @Nat.sub_zero, @false_and, @and_false, @envL_ne, @fillD_nil, @fillD_cons, @repD_one, @repD_zero, @Nat.zero_add, @Nat.add_zero, @Nat.zero_mul, @Nat.mul_one, @Nat.one_mul, @Nat.le_refl, @Option.map_some, @Option.map_none, @Option.bind_some, @Bool.false_eq_true, @Bool.not_true, @Bool.not_false, @and_self, @true_and, @and_true, @List.map_cons, @List.map_nil, @List.length_cons, @List.length_nil, @List.length_append, @List.getElem?_cons_zero, @List.getElem?_cons_succ, @List.set_cons_zero, @List.set_cons_succ, @List.drop_zero, @List.drop_succ_cons, @List.take_succ_cons, @List.take_zero, @List.all_cons, @List.all_nil, @Bool.and_self, @Bool.and_true, @Bool.true_and, @List.append_assoc, @List.cons_append, @List.nil_append, @List.append_nil, @Bool.true_eq_false⟩
end Go.DM

/- A machine over Go's operations in which slices are values: a law's arguments, by their types. -/
namespace Go.DM
open Go Go.AM

theorem cellsOf_size {P : Program} {t n : Nat} (h : sizeA P t = some n) : P.cellsOf t = n := by
  unfold sizeA at h
  unfold Program.cellsOf
  rw [h]
  rfl
section
variable {P : Program} {m t : Nat} {x : List D}
theorem WT.int {k : IntKind} (hu : P.underlying t = some (.int k)) (h : WT P m t x) : ∃ n, x = [.int k n] ∧ (Lit.int k n).wf = true := by
  cases m with
  | zero => exact h.elim
  | succ m => simpa only [WT, hu] using h
theorem WT.str (hu : P.underlying t = some .string) (h : WT P m t x) : ∃ s : ByteArray, x = [.str s] ∧ s.size ≤ maxLen := by
  cases m with
  | zero => exact h.elim
  | succ m => simpa only [WT, hu] using h
theorem WT.slice {e z : Nat} (hu : P.underlying t = some (.slice e)) (hz : sizeA P e = some z) (h : WT P m t x) : ∃ (m' : Nat) (xss : List (List D)), m = m' + 1 ∧ x = [.sl none z xss.length xss.flatten] ∧ xss.length ≤ maxLen ∧ ∀ y ∈ xss, WT P m' e y := by
  cases m with
  | zero => exact h.elim
  | succ m =>
    simp only [WT, hu, cellsOf_size hz] at h
    obtain ⟨xss, rfl, h2, h3⟩ := h
    exact ⟨m, xss, rfl, rfl, h2, fun y hy => (h3 y hy).2⟩
theorem WT.struct {fs : Array Field} (hu : P.underlying t = some (.struct fs)) (h : WT P m t x) : ∃ m', m = m' + 1 ∧ WTs P (WT P m') (fs.toList.map (·.type)) x := by
  cases m with
  | zero => exact h.elim
  | succ m =>
    simp only [WT, hu] at h
    exact ⟨m, rfl, h⟩
theorem WTs.cons {f : TypeId → List D → Prop} {t : Nat} {ts : List TypeId} {ds : List D} (h : WTs P f (t :: ts) ds) : ∃ x y, ds = x ++ y ∧ f t x ∧ WTs P f ts y := by
  obtain ⟨x, y, h1, _, h3, h4⟩ := h
  exact ⟨x, y, h1, h3, h4⟩
theorem WTs.nil {f : TypeId → List D → Prop} {ds : List D} (h : WTs P f [] ds) : ds = [] := h
end
theorem list_of {α : Type} {c : α → List D} {p : α → Prop} : ∀ {xss : List (List D)}, (∀ x ∈ xss, ∃ a, x = c a ∧ p a) → ∃ l : List α, xss = l.map c ∧ ∀ a ∈ l, p a
  | [], _ => ⟨[], rfl, by simp⟩
  | x :: xss, h => by
    obtain ⟨a, rfl, ha⟩ := h x (by simp)
    obtain ⟨l, rfl, hl⟩ := list_of (c := c) (p := p) (xss := xss) fun y hy => h y (by simp [hy])
    exact ⟨a :: l, rfl, by simpa using ⟨ha, hl⟩⟩
end Go.DM

/- A machine over Go's operations in which slices are values: contracts from elsewhere, told of the model itself. -/
namespace Go.DM
open Go Go.AM Go.RowKit

/-- Below where the law began all is as it was, and what may be written lies above. -/
def keepsB (w0 : World) : Beside := fun φ H w => Below w0.heap.size w0 w ∧ ∀ h b, hget H h = some b → b.rw = true → w0.heap.size ≤ (φ h).B
theorem keepsB_kept {w0 : World} : Kept (keepsB w0) := by
  intro φ H w φ' H' w' ⟨hb, hr⟩ st
  have hs : w0.heap.size ≤ w.heap.size := hb.size
  refine ⟨⟨st.os.trans hb.os, st.tape.trans hb.tape, st.output.trans hb.output, Nat.le_trans hs st.size, fun k hk => ?_⟩, fun h b hg hw => ?_⟩
  · rw [st.frame k (Nat.lt_of_lt_of_le hk hs) (fun h b _ hg hw he => ?_)]
    · exact hb.block k hk
    · have := hr h b hg hw
      omega
  · rcases st.later h b (Nat.zero_le _) hg hw with hl | ⟨h0, b0, _, hg0, hr0, e0⟩
    · exact Nat.le_trans hs hl
    · exact e0 ▸ hr h0 b0 hg0 hr0
theorem keepsB_start {w : World} {φ H} (hb : Bs w H φ) : keepsB w φ H w :=
  ⟨.refl _ _, fun h b hg hw => by rw [hb.ro h b hg] at hw; cases hw⟩

theorem step_below {φ H w w'} (hs : Sim φ H w) (hb : Below w.heap.size w w') : Step 0 φ H w φ H w' := by
  refine ⟨Nat.le_refl _, fun _ _ => rfl, hb.size, hb.os, hb.tape, hb.output, fun b h _ => hb.block b h, fun h b' _ hg => ⟨b', hg, id⟩, fun h b hb hg hr => .inr ⟨h, b, hb, hg, hr, rfl⟩, ?_, hs.apart, hs.par, hs.parlt⟩
  intro h b hg
  obtain ⟨c, e, fr, hB, g⟩ := hs.cov h b hg
  exact ⟨c, e, fr, by rw [hb.block _ (Array.getElem?_eq_some_iff.1 hB).1]; exact hB, g⟩

def orOrc (a b : POracle) : POracle := fun f args d => a f args d ∨ b f args d
theorem orOrc_sound {P : Program} {A : Beside} {a b : POracle} (ha : POrcSound P A a) (hb : POrcSound P A b) : POrcSound P A (orOrc a b) := by
  rintro f args d (h | h)
  · exact ha f args d h
  · exact hb f args d h

/-- Calls on values without addresses that return one. -/
abbrev ClosedT := FuncId → List Value → Value → Prop
def closedOrc (c : ClosedT) : POracle := fun f args d => ∃ vs v, c f vs v ∧ args = vs.map ofV ∧ d = ofV v
structure ClosedOk (P : Program) (A : Beside) (c : ClosedT) : Prop where
  args : ∀ f vs v, c f vs v → ∀ u ∈ vs, closedV u = true ∧ toV (ofV u) = some u
  val : ∀ f vs v, c f vs v → closedV v = true
  run : ∀ f vs v, c f vs v → ∀ φ H w, A φ H w → Calls P f vs.toArray w fun e w' => e = .returned v ∧ Below w.heap.size w w'
theorem closedOrc_sound {P : Program} {A : Beside} {c : ClosedT} (h : ClosedOk P A c) : POrcSound P A (closedOrc c) := by
  rintro f args d ⟨us, v, hc, rfl, rfl⟩ r φ w hs vs args' dl hargs
  have hvs := back_eq (r := r) (us := us) (vs := vs) (List.map_congr_left fun u hu => (h.args _ _ _ hc u hu).2) dl
  subst hvs
  have ha := LRel.of_closed (fun u hu => (h.args _ _ _ hc u hu).1) hargs
  rw [show args' = vs.toArray by rw [← ha]]
  refine (h.run _ _ _ hc φ r.H w hs.2).mono fun e w' ⟨he, hb⟩ => ?_
  exact ⟨r, v, v, φ, he, .refl r, fun S h => h, step_below hs.1 hb, .ofV v, VRel.closed (h.val _ _ _ hc)⟩
theorem CallD.closedOrc {P : Program} {orc : DOracle} {c : ClosedT} (hi : ∀ f args d, DM.closedOrc c f args d → ∀ S, orc f args S d S) {f : FuncId} {us : List Value} {v : Value} {S : Mem} (h : c f us v) : CallD P orc f (us.map ofV) S fun d S' => S' = S ∧ d = ofV v :=
  ⟨_, _, .orc (hi _ _ _ ⟨us, v, h, rfl, rfl⟩ _), rfl, rfl⟩

/-- Calls that return a new slice of elements of one cell. -/
abbrev NewT := FuncId → List Value → List Value → Prop
def newOrc (c : NewT) : POracle := fun f args d => ∃ vs cs, c f vs cs ∧ args = vs.map ofV ∧ d = .sl none 1 cs.length (cs.map ofS)
structure NewOk (P : Program) (A : Beside) (c : NewT) : Prop where
  args : ∀ f vs v, c f vs v → ∀ u ∈ vs, closedV u = true ∧ toV (ofV u) = some u
  val : ∀ f vs v, c f vs v → ∀ u ∈ v, scalarV u = true
  run : ∀ f vs v, c f vs v → ∀ φ H w, A φ H w → ∃ t : TypeId, Calls P f vs.toArray w fun e w' => e = .returned (.slice (some ⟨w.heap.size, 0, none⟩) v.length v.length) ∧ w' = w.alloc (.cells v.toArray t)
theorem newOrc_sound {P : Program} {A : Beside} {c : NewT} (h : NewOk P A c) : POrcSound P A (newOrc c) := by
  rintro f args d ⟨us, cs, hc, rfl, rfl⟩ r φ w hs vs args' dl hargs
  have hvs := back_eq (r := r) (us := us) (vs := vs) (List.map_congr_left fun u hu => (h.args _ _ _ hc u hu).2) dl
  subst hvs
  have ha := LRel.of_closed (fun u hu => (h.args _ _ _ hc u hu).1) hargs
  rw [show args' = vs.toArray by rw [← ha]]
  obtain ⟨t, hrun⟩ := h.run _ _ _ hc φ r.H w hs.2
  refine hrun.mono fun e w' ⟨he, hb⟩ => ?_
  subst hb
  have hval := h.val _ _ _ hc
  have hst : Step 0 φ r.H w (extP φ r.H.length ⟨w.heap.size, 0, cs.length, 1⟩) (newB r.H ⟨cs, 1, false, 0, []⟩) (w.alloc (.cells cs.toArray t)) :=
    step_newB (nb := ⟨cs, 1, false, 0, []⟩) (cs := cs.toArray) (e := t) (fr := (0, 0)) (fin := cs.length) hs.1 (by rfl) rfl rfl rfl (Nat.le_refl _) (by simp) (fun i _ h => by omega) (fun h => absurd rfl h) (Nat.zero_le _) (fun p hp => by cases hp)
      (fun i v hv => ⟨v, by simpa using hv, .scalar (hval v (List.mem_of_getElem? hv))⟩)
  have hnew : hget (newB r.H ⟨cs, 1, false, 0, []⟩) r.H.length = some ⟨cs, 1, false, 0, []⟩ := by simp [newB, hget_new_at]
  have hold : ∀ h, h < r.H.length → hget (newB r.H ⟨cs, 1, false, 0, []⟩) h = hget r.H h := fun h hh => by rw [newB, hget_new_old hh]
  refine ⟨⟨r.n, r.ψ, fun h => h == r.H.length || r.k h, newB r.H ⟨cs, 1, false, 0, []⟩⟩, .slice (some ⟨r.H.length, 0, none⟩) cs.length cs.length, _, _, he, ?_, ?_, hst, ?_, ?_⟩
  · refine ⟨Nat.le_refl _, fun _ _ => rfl, hst.len, fun h b hk hg => ⟨by simp [hk], b, ?_, rfl, rfl⟩, fun h b hh hg => ⟨b, by rwa [hold h hh] at hg, rfl⟩⟩
    rw [hold h (hget_lt hg)]
    exact hg
  · intro S hS
    refine ⟨hS.n, fun o cells ho => ?_, fun id hid => ?_, hS.inj⟩
    · obtain ⟨b, g, hw, hl, hk, hd⟩ := hS.obj o cells ho
      have hlt := hget_lt g
      refine ⟨b, (hold _ hlt).trans g, hw, hl, by simp [hk, Nat.ne_of_lt hlt], hd.mono ?_⟩
      refine ⟨Nat.le_refl _, fun _ _ => rfl, hst.len, fun h b hk hg => ⟨by simp [hk], b, ?_, rfl, rfl⟩, fun h b hh hg => ⟨b, by rwa [hold h hh] at hg, rfl⟩⟩
      rw [hold h (hget_lt hg)]
      exact hg
    · obtain ⟨b, g, hw, hk⟩ := hS.own id hid
      exact ⟨b, (hold _ (hget_lt g)).trans g, hw, by simp [hk]⟩
  · refine .sl none 1 cs.length (cs.map ofS) cs r.H.length 0 cs.length _ (by simp) hnew rfl ?_ (Nat.le_refl _) (by simp) (by simp) (fun id h => by cases h) (fun i h1 h2 => ?_)
    · have := readA_mk (H := newB r.H ⟨cs, 1, false, 0, []⟩) (h := r.H.length) (o := 0) (n := cs.length) hnew (by simp)
      simpa using this
    · rw [List.getElem_map]
      have := hval cs[i] (List.getElem_mem _)
      exact .ofS _
  · have := VRel.sl (n := (newB r.H ⟨cs, 1, false, 0, []⟩).length) (φ := extP φ r.H.length ⟨w.heap.size, 0, cs.length, 1⟩) r.H.length 0 cs.length cs.length cs.length (by simp [newB]) (Nat.le_refl _) (Nat.le_refl _) (by simp [extP_eq])
    simpa [extP_eq] using this
theorem CallD.newOrc {P : Program} {orc : DOracle} {c : NewT} (hi : ∀ f args d, DM.newOrc c f args d → ∀ S, orc f args S d S) {f : FuncId} {us cs : List Value} {S : Mem} (h : c f us cs) : CallD P orc f (us.map ofV) S fun d S' => S' = S ∧ d = .sl none 1 cs.length (cs.map ofS) :=
  ⟨_, _, .orc (hi _ _ _ ⟨us, cs, h, rfl, rfl⟩ _), rfl, rfl⟩

/-- What a slice of one-cell elements without addresses is in the model. -/
theorem slice_of {r : Rl} {φ : Nat → AM.Place} {w : World} (hs : Sim φ r.H w) {own : Option Nat} {n : Nat} {cs : List Value} (hsc : ∀ u ∈ cs, scalarV u = true) (hb : cs.map (fun v => toV (ofS v)) = cs.map some) {v v' : Value}
    (hd : DRel r (.sl own 1 n (cs.map ofS)) v) (hv : VRel r.H.length φ v v') :
    (n = 0 ∧ cs = [] ∧ ∃ a c, v' = .slice a 0 c) ∨ (n = cs.length ∧ ∃ bk o c, v' = .slice (some ⟨bk, o, none⟩) cs.length c ∧ cs.length ≤ c ∧ bk < w.heap.size ∧ ∀ j x, cs[j]? = some x → w.cell? ⟨bk, o + j, none⟩ = some x) := by
  generalize hx : cs.map ofS = xs at hd
  cases hd with
  | slE sz v h =>
    left
    refine ⟨rfl, by simpa using hx, ?_⟩
    rcases h with rfl | rfl
    · cases hv; exact ⟨_, _, rfl⟩
    · cases hv; exact ⟨_, _, rfl⟩
  | sl own sz len cells vs h o m b hk hg hz hr hm hl hs1 ho hc =>
    subst hx
    have hcs : vs = cs := by
      refine List.ext_getElem (by simpa using hl.symm) fun i h1 h2 => ?_
      have := hc i (by simpa using h2) h1
      rw [List.getElem_map] at this
      refine toV_eq this ?_
      have e := congrArg (fun l => l[i]?) hb
      simpa [h2] using e
    subst hcs
    have hn : n = vs.length := by simpa using hs1.symm
    subst hn
    obtain ⟨b', hg', hle, hvs⟩ := readA_some hr
    rw [hg] at hg'
    cases hg'
    have hcell : ∀ j x, vs[j]? = some x → w.cell? ⟨(φ h).B, (φ h).base + o + j, none⟩ = some x := by
      intro j x hj
      obtain ⟨c, e, fr, hB, g1, g2, g3, g4, g5⟩ := hs.cov h b hg
      have hj' : b.cells[o + j]? = some x := by
        rw [hvs, List.getElem?_take] at hj
        split at hj
        · simpa using hj
        · cases hj
      obtain ⟨x', hx', hr'⟩ := g4 (o + j) x hj'
      have : x' = x := by
        exact hr'.scalar_eq (hsc x (List.mem_of_getElem? hj))
      subst this
      simp only [World.cell?, hB]
      simpa [Nat.add_assoc] using hx'
    have hbk : (φ h).B < w.heap.size := by
      obtain ⟨c, e, fr, hB, _⟩ := hs.cov h b hg
      exact (Array.getElem?_eq_some_iff.1 hB).1
    generalize hq : vs.length = q at hv
    cases hv with
    | sl _ _ _ _ c hn hl' hmc hf => subst hq; exact .inr ⟨rfl, _, _, c, rfl, by omega, hbk, hcell⟩
    | slEmp _ _ bb hn => exact .inl ⟨rfl, List.eq_nil_of_length_eq_zero hq, _, _, rfl⟩
end Go.DM

/- A machine over Go's operations in which slices are values: what the abstract machine makes of values without addresses, a new slice and a truth. -/
namespace Go.DM
open Go Go.AM Go.RowKit

/-- A block more, that is a slice's. -/
def pushR (r : Rl) (b : Blk) : Rl := ⟨r.n, r.ψ, fun h => h == r.H.length || r.k h, newB r.H b⟩
theorem pushR_le (r : Rl) (b : Blk) : r.Le (pushR r b) := by
  refine ⟨Nat.le_refl _, fun _ _ => rfl, by simp [pushR, newB], fun h b' hk hg => ⟨by simp [pushR, hk], b', ?_, rfl, rfl⟩, fun h b' hh hg => ⟨b', ?_, rfl⟩⟩
  rotate_left
  · have hg : hget (newB r.H b) h = some b' := hg
    rwa [newB, hget_new_old hh] at hg
  show hget (newB r.H b) h = some b'
  rw [newB, hget_new_old (hget_lt hg)]
  exact hg
theorem pushR_srel {r : Rl} {b : Blk} {S : Mem} (hS : SRel r S) : SRel (pushR r b) S := by
  have hold : ∀ h, h < r.H.length → hget (pushR r b).H h = hget r.H h := fun h hh => by show hget (newB r.H b) h = _; rw [newB, hget_new_old hh]
  refine ⟨hS.n, fun o cells ho => ?_, fun id hid => ?_, hS.inj⟩
  · obtain ⟨c, g, hw, hl, hk, hd⟩ := hS.obj o cells ho
    exact ⟨c, (hold _ (hget_lt g)).trans g, hw, hl, by simp only [pushR, hk, Bool.or_false]; exact beq_false_of_ne (Nat.ne_of_lt (hget_lt g)), hd.mono (pushR_le r b)⟩
  · obtain ⟨c, g, hw, hk⟩ := hS.own id hid
    exact ⟨c, (hold _ (hget_lt g)).trans g, hw, by simp [pushR, hk]⟩

/-- The abstract machine makes of values without addresses a new slice and a truth. -/
def AmNew (P : Program) (f : FuncId) (us cs : List Value) (t : Bool) : Prop :=
  CallA P AM.noOrc 0 f us [] fun v H' => ∃ h b, v = .tuple #[.slice (some ⟨h, 0, none⟩) cs.length cs.length, .bool t] ∧ hget H' h = some b ∧ b.rw = true ∧ b.sz = 1 ∧ b.cells = cs
abbrev AmT := FuncId → List Value → List Value → Prop
def amOrc (c : AmT) : POracle := fun f args d => ∃ vs cs, c f vs cs ∧ args = vs.map ofV ∧ d = .tup [.sl none 1 cs.length (cs.map ofS), .bool true]
structure AmOk (P : Program) (c : AmT) : Prop where
  args : ∀ f vs v, c f vs v → ∀ u ∈ vs, closedV u = true ∧ toV (ofV u) = some u
  val : ∀ f vs v, c f vs v → v ≠ [] ∧ ∀ u ∈ v, scalarV u = true
  run : ∀ f vs v, c f vs v → AmNew P f vs v true
theorem amOrc_sound {P : Program} {A : Beside} {c : AmT} (h : AmOk P c) : POrcSound P A (amOrc c) := by
  rintro f args d ⟨us, cs, hc, rfl, rfl⟩ r φ w hs vs args' dl hargs
  have hvs := back_eq (r := r) (us := us) (vs := vs) (List.map_congr_left fun u hu => (h.args _ _ _ hc u hu).2) dl
  subst hvs
  have ha := LRel.of_closed (fun u hu => (h.args _ _ _ hc u hu).1) hargs
  obtain ⟨hne, hval⟩ := h.val _ _ _ hc
  obtain ⟨v, H0, hb, h0, b, rfl, hg, hrw, hsz, hcells⟩ := h.run _ _ _ hc
  have harg0 : LRel ([] : Heap).length φ vs args'.toList := by rw [ha]; exact ⟨rfl, fun i u u' hu hu' => by rw [hu] at hu'; cases hu'; exact .closed (h.args _ _ _ hc u (List.mem_of_getElem? hu)).1⟩
  refine hb.sound noOrc_sound φ w sim_nil args' harg0 _ fun v' φ1 w1 st hv => ?_
  have hB : w.heap.size ≤ (φ1 h0).B := by
    rcases st.later h0 b (Nat.zero_le _) hg hrw with hl | ⟨_, _, _, hg', _⟩
    · exact hl
    · simp [hget] at hg'
  have hf : ∀ i, i < w.heap.size → w1.heap[i]? = w.heap[i]? := fun i hi => st.frame i hi fun h blk _ hg => by simp [hget] at hg
  obtain ⟨cc, e, fr, hw1, g1, g2, g3, g4, g5, g6⟩ := st.sim.cov h0 b hg
  rw [hcells] at g1 g4
  have hk : ∀ h, h < r.H.length → extP φ r.H.length (φ1 h0) h = φ h := fun h hh => extP_lt hh
  have hlen : (newB r.H ⟨cs, 1, false, 0, []⟩).length = r.H.length + 1 := by simp [newB]
  have hBlt : ∀ h b, hget r.H h = some b → (φ h).B < w.heap.size := fun h b hg => by
    obtain ⟨c, e, fr, hB, _⟩ := hs.1.cov h b hg
    exact (Array.getElem?_eq_some_iff.1 hB).1
  have hst : Step 0 φ r.H w (extP φ r.H.length (φ1 h0)) (newB r.H ⟨cs, 1, false, 0, []⟩) w1 := by
    have split : ∀ h b', hget (newB r.H ⟨cs, 1, false, 0, []⟩) h = some b' → (h < r.H.length ∧ hget r.H h = some b') ∨ (h = r.H.length ∧ b' = ⟨cs, 1, false, 0, []⟩) := by
      intro h b' hg
      have hlt := hget_lt hg
      rw [hlen] at hlt
      rcases Nat.lt_or_ge h r.H.length with h1 | h1
      · rw [newB, hget_new_old h1] at hg
        exact .inl ⟨h1, hg⟩
      · have : h = r.H.length := by omega
        subst this
        rw [newB, hget_new_at] at hg
        cases hg
        exact .inr ⟨rfl, rfl⟩
    refine ⟨by omega, hk, st.size, st.os, st.tape, st.output, fun b hb _ => hf b hb, ?_, ?_, ?_, ?_, ?_, ?_⟩
    · intro h b' hh hg
      rw [newB, hget_new_old hh] at hg
      exact ⟨b', hg, id⟩
    · intro h' b' hb hg hr
      rcases split h' b' hg with ⟨h1, hg⟩ | ⟨rfl, rfl⟩
      · rw [hk h' h1]
        exact .inr ⟨h', b', hb, hg, hr, rfl⟩
      · cases hr
    · intro h b hg
      rcases split h b hg with ⟨h1, hg⟩ | ⟨rfl, rfl⟩
      · obtain ⟨c, e', fr', hB', k1, k2, k3, k4, k5, k6⟩ := hs.1.cov h b hg
        rw [hk h h1]
        refine ⟨c, e', fr', by rw [hf _ (hBlt h b hg)]; exact hB', k1, k2, k3, fun i v hv => ?_, k5, k6⟩
        obtain ⟨v', hv', hr⟩ := k4 i v hv
        exact ⟨v', hv', hr.mono (by omega) hk⟩
      · rw [extP_eq]
        refine ⟨cc, e, fr, hw1, g1, g2, g3.trans hsz, fun i v hv => ?_, fun h => (by cases h), Nat.zero_le _⟩
        obtain ⟨v', hv', hr⟩ := g4 i v hv
        have hsv := hval v (List.mem_of_getElem? hv)
        have := hr.scalar_eq hsv
        subst this
        exact ⟨v', hv', .scalar hsv⟩
    · intro h h' b b' hn hg hg' hr
      rcases split h b hg with ⟨h1, hg⟩ | ⟨rfl, rfl⟩
      · rw [hk h h1]
        rcases split h' b' hg' with ⟨h2, hg'⟩ | ⟨rfl, rfl⟩
        · rw [hk h' h2]
          exact hs.1.apart h h' b b' hn hg hg' hr
        · rw [extP_eq]
          have := hBlt h b hg
          exact .inl (by omega)
      · cases hr
    · intro h b p b' hg hp hg'
      rcases split h b hg with ⟨h1, hg⟩ | ⟨rfl, rfl⟩
      · have hp1 := hs.1.parlt h b p hg hp
        rcases split p b' hg' with ⟨h2, hg'⟩ | ⟨rfl, rfl⟩
        · exact hs.1.par h b p b' hg hp hg'
        · rfl
      · cases hp
    · intro h b p hg hp
      rw [hlen]
      rcases split h b hg with ⟨h1, hg⟩ | ⟨rfl, rfl⟩
      · have := hs.1.parlt h b p hg hp
        omega
      · cases hp
  have hnew : hget (newB r.H ⟨cs, 1, false, 0, []⟩) r.H.length = some ⟨cs, 1, false, 0, []⟩ := by simp [newB, hget_new_at]
  have hdr : DRel (pushR r ⟨cs, 1, false, 0, []⟩) (.sl none 1 cs.length (cs.map ofS)) (.slice (some ⟨r.H.length, 0, none⟩) cs.length cs.length) := by
    refine .sl none 1 cs.length (cs.map ofS) cs r.H.length 0 cs.length _ (by simp [pushR]) hnew rfl ?_ (Nat.le_refl _) (by simp) (by simp) (fun id h => by cases h) (fun i h1 h2 => ?_)
    · have := readA_mk (H := newB r.H ⟨cs, 1, false, 0, []⟩) (h := r.H.length) (o := 0) (n := cs.length) hnew (by simp)
      simpa [pushR] using this
    · rw [List.getElem_map]
      exact .ofS _
  cases hv with
  | tuple xs ys h1 h2 =>
    have hys : ∃ y1, ys = #[y1, .bool true] ∧ VRel H0.length φ1 (.slice (some ⟨h0, 0, none⟩) cs.length cs.length) y1 := by
      have hl : ys.size = 2 := h1.symm
      have a0 := h2 0 (by simp) (by omega)
      have a1 := h2 1 (by simp) (by omega)
      refine ⟨ys[0], ?_, a0⟩
      have e1 : ys[1] = .bool true := by
        have := a1.scalar_eq rfl
        exact this
      refine Array.ext (by simp [hl]) fun i h3 h4 => ?_
      have : i = 0 ∨ i = 1 := by simp at h4; omega
      rcases this with rfl | rfl
      · rfl
      · exact e1
    obtain ⟨y1, rfl, hy⟩ := hys
    have hpos : 0 < cs.length := List.length_pos_iff.2 hne
    have hsl : VRel (newB r.H ⟨cs, 1, false, 0, []⟩).length (extP φ r.H.length (φ1 h0)) (.slice (some ⟨r.H.length, 0, none⟩) cs.length cs.length) y1 := by
      generalize hn : cs.length = n at hy hpos ⊢
      cases hy with
      | sl _ _ _ _ c hh hl hm hff =>
        have := VRel.sl (n := (newB r.H ⟨cs, 1, false, 0, []⟩).length) (φ := extP φ r.H.length (φ1 h0)) r.H.length 0 n n c (by simp [newB]) (Nat.le_refl _) hm (by rw [extP_eq]; exact hff)
        rw [extP_eq] at this
        exact this
      | slEmp _ _ bb hn => omega
    refine ⟨pushR r ⟨cs, 1, false, 0, []⟩, .tuple #[.slice (some ⟨r.H.length, 0, none⟩) cs.length cs.length, .bool true], _, _, rfl, pushR_le _ _, fun S hS => pushR_srel hS, hst, ?_, ?_⟩
    · refine .tup _ _ rfl fun i a b => ?_
      match i, a, b with
      | 0, _, _ => exact hdr
      | 1, _, _ => exact .bool _
    · refine .tuple _ _ rfl fun i a b => ?_
      match i, a, b with
      | 0, _, _ => exact hsl
      | 1, _, _ => exact .bool _
theorem CallD.amOrc {P : Program} {orc : DOracle} {c : AmT} (hi : ∀ f args d, DM.amOrc c f args d → ∀ S, orc f args S d S) {f : FuncId} {us cs : List Value} {S : Mem} (h : c f us cs) :
    CallD P orc f (us.map ofV) S fun d S' => S' = S ∧ d = .tup [.sl none 1 cs.length (cs.map ofS), .bool true] :=
  ⟨_, _, .orc (hi _ _ _ ⟨us, cs, h, rfl, rfl⟩ _), rfl, rfl⟩
section
variable {P : Program} {orc : DOracle} {fl sz : Nat} {ops : Array Oper} {loose : List Nat} {Inv : Mem → Prop} {F : Nat} {k : List K} {ρ : DEnv} {H : Mem} {Q : AExit → DEnv → Mem → Prop}
theorem GoW.callG {i : Nat} {os : List Oper} {dst : Option Tmp} {c : Call} {ty : TypeId} {pos : String} {after : Array Edge} {g : Nat × Bool} {f : FuncId} {args : List D} {fn : Func} (hd : okDst sz dst) (hc : (Op.call c).operands.toList.all okOperand = true)
    (hw : (yieldedD ops ρ g.1 == some g.2) = true) (ht : targetD ρ (.call c) = some (f, args)) (hf : P.funcs[f]? = some fn) (hn : (fn.name == "runtime.NumGoroutine") = false) (hb : fn.body.isNone = false) (hl : loose.contains i = false)
    (h : CallD P orc f args H fun v H1 => (i < F → Inv H1) ∧ GoW P orc fl sz ops loose Inv F (i + 1) os k (putD ρ dst v) H1 Q) : GoW P orc fl sz ops loose Inv F i (⟨dst, .call c, ty, pos, after, some g⟩ :: os) k ρ H Q := fun hi => by
  obtain ⟨h1, h2⟩ := get_of_drop hi
  obtain ⟨v, H1, hcall, hinv, h⟩ := h
  obtain ⟨l, ρ', H', t, q⟩ := h h2
  have e : dstOf ops i = dst := by simp [dstOf, h1]
  rw [← e] at t
  exact ⟨_, ρ', H', .cons ⟨_, h1, hd, .inr ⟨hw, hc, .inr ⟨_, _, _, ht, hf, by simpa using hn, hb, hcall⟩⟩⟩ (fun hm => by simp [hm] at hl) hinv t, q⟩
end

end Go.DM

/- A machine over Go's operations in which slices are values: short rules for walking. -/
namespace Go.DM
open Go Go.AM
/-- One step of the control, where it asks nothing. -/
def stepK : List K → AExit → Option (List K × AExit)
  | .code (.seq c d) :: k, .normal => some (.code c :: .code d :: k, .normal)
  | .code .skip :: k, .normal => some (k, .normal)
  | .code (.block id c) :: k, .normal => some (.code c :: .blk id :: k, .normal)
  | .code (.exit id) :: k, .normal => some (k, .exit id)
  | .blk _ :: k, .normal => some (k, .normal)
  | .blk id :: k, .exit id' => if id' = id then some (k, .normal) else some (k, .exit id')
  | .code _ :: k, .exit id => some (k, .exit id)
  | .lp _ :: k, .exit id => some (k, .exit id)
  | _, _ => none
def condK (v : D) (x y : Code) : Option Code := match v with | .bool true => some x | .bool false => some y | _ => none
def okOp (sz : Nat) (dst : Option Tmp) (op : Op) : Bool := okDstB sz dst && op.operands.toList.all okOperand
def okOpW (loose : List Nat) (i sz : Nat) (dst : Option Tmp) (op : Op) : Bool := okDstB sz dst && op.operands.toList.all okOperand && !loose.contains i
def wantB (ops : Array Oper) (ρ : DEnv) : Option (Nat × Bool) → Bool
  | none => true
  | some g => yieldedD ops ρ g.1 == some g.2
/-- A function that may be called. -/
def FnAt (P : Program) (f : FuncId) : Prop := ∃ fn, P.funcs[f]? = some fn ∧ (fn.name == "runtime.NumGoroutine") = false ∧ fn.body.isNone = false
section
variable {P : Program} {orc : DOracle} {fl sz : Nat} {k : List K} {ρ : DEnv} {H : Mem} {Q : AExit → DEnv → Mem → Prop} {ops : Array Oper} {loose : List Nat} {Inv : Mem → Prop} {F i : Nat}
  {os : List Oper} {dst : Option Tmp} {op : Op} {cl : Call} {ty : TypeId} {pos : String} {after : Array Edge} {g : Option (Nat × Bool)} {f : FuncId} {args : List D}
theorem Go.a {ks : List K} {e e' : AExit} (h : stepK ks e = some (k, e')) (q : Go P orc fl sz k e' ρ H Q) : Go P orc fl sz ks e ρ H Q := by
  unfold stepK at h
  split at h
  · cases h; exact Go.seq q
  · cases h; exact Go.skip q
  · cases h; exact Go.block q
  · cases h; exact Go.exit q
  · cases h; exact q
  · split at h
    · rename_i he
      cases h; cases he; exact Go.blkX q
    · rename_i he
      cases h; exact Go.blkE he q
  · cases h; exact q
  · cases h; exact q
  · cases h
theorem Go.b {t : Tmp} {x y z : Code} (h : condK (ρ t) x y = some z) (q : Go P orc fl sz (.code z :: k) .normal ρ H Q) : Go P orc fl sz (.code (.cond (.tmp t) x y) :: k) .normal ρ H Q := by
  unfold condK at h
  split at h
  · rename_i hv; cases h; exact Go.condT hv q
  · rename_i hv; cases h; exact Go.condF hv q
  · cases h
theorem okOp_ok (h : okOp sz dst op = true) : okDst sz dst ∧ op.operands.toList.all okOperand = true := by
  unfold okOp at h
  rw [Bool.and_eq_true] at h
  exact ⟨okDstB_ok h.1, h.2⟩
theorem okOpW_ok (h : okOpW loose i sz dst op = true) : okDst sz dst ∧ op.operands.toList.all okOperand = true ∧ loose.contains i = false := by
  unfold okOpW at h
  rw [Bool.and_eq_true, Bool.and_eq_true] at h
  exact ⟨okDstB_ok h.1.1, h.1.2, by simpa using h.2⟩
theorem GoR.o (h1 : okOp sz dst op = true) (h2 : wantB ops ρ g = true) (h : opThen (opD P ρ op H) fun v H1 => GoR P orc fl sz ops os k (putD ρ dst v) H1 Q) : GoR P orc fl sz ops (⟨dst, op, ty, pos, after, g⟩ :: os) k ρ H Q := by
  obtain ⟨a, b⟩ := okOp_ok h1
  cases g with
  | none => exact GoR.op a b h
  | some g => exact GoR.opG a b h2 h
theorem GoR.c (hf : FnAt P f) (h1 : okOp sz dst (.call cl) = true) (h2 : wantB ops ρ g = true) (ht : targetD ρ (.call cl) = some (f, args)) (h : CallD P orc f args H fun v H1 => GoR P orc fl sz ops os k (putD ρ dst v) H1 Q) :
    GoR P orc fl sz ops (⟨dst, .call cl, ty, pos, after, g⟩ :: os) k ρ H Q := by
  obtain ⟨a, b⟩ := okOp_ok h1
  obtain ⟨fn, e1, e2, e3⟩ := hf
  cases g with
  | none => exact GoR.call a b ht e1 e2 e3 h
  | some g => exact GoR.callG a b h2 ht e1 e2 e3 h
theorem GoR.s {x : Nat × Bool} {b : Option Bool} (h1 : okOp sz dst op = true) (hy : yieldS ops ρ x.1 = some b) (hw : (b == some x.2) = false) (h : GoR P orc fl sz ops os k (putD ρ dst dUndef) H Q) : GoR P orc fl sz ops (⟨dst, op, ty, pos, after, some x⟩ :: os) k ρ H Q :=
  GoR.skipG (okOp_ok h1).1 hy hw h
theorem GoW.o (h1 : okOpW loose i sz dst op = true) (h2 : wantB ops ρ g = true) (h : opThen (opD P ρ op H) fun v H1 => (i < F → Inv H1) ∧ GoW P orc fl sz ops loose Inv F (i + 1) os k (putD ρ dst v) H1 Q) : GoW P orc fl sz ops loose Inv F i (⟨dst, op, ty, pos, after, g⟩ :: os) k ρ H Q := by
  obtain ⟨a, b, d⟩ := okOpW_ok h1
  cases g with
  | none => exact GoW.op a b d h
  | some g => exact GoW.opG a b d h2 h
theorem GoW.rd (h1 : okOp sz dst op = true) (h2 : wantB ops ρ g = true) (h : opThen (opD P ρ op H) fun v H1 => H1 = H ∧ Inv H ∧ (∀ H', Inv H' → opD P ρ op H' = some (v, H')) ∧ GoW P orc fl sz ops loose Inv F (i + 1) os k (putD ρ dst v) H Q) :
    GoW P orc fl sz ops loose Inv F i (⟨dst, op, ty, pos, after, g⟩ :: os) k ρ H Q := by
  obtain ⟨a, b⟩ := okOp_ok h1
  cases g with
  | none => exact GoW.readT a b h
  | some g => exact GoW.readTG a b h2 h
theorem GoW.c (hf : FnAt P f) (h1 : okOpW loose i sz dst (.call cl) = true) (h2 : wantB ops ρ g = true) (ht : targetD ρ (.call cl) = some (f, args))
    (h : CallD P orc f args H fun v H1 => (i < F → Inv H1) ∧ GoW P orc fl sz ops loose Inv F (i + 1) os k (putD ρ dst v) H1 Q) : GoW P orc fl sz ops loose Inv F i (⟨dst, .call cl, ty, pos, after, g⟩ :: os) k ρ H Q := by
  obtain ⟨a, b, d⟩ := okOpW_ok h1
  obtain ⟨fn, e1, e2, e3⟩ := hf
  cases g with
  | none => exact GoW.call a b ht e1 e2 e3 d h
  | some g => exact GoW.callG a b h2 ht e1 e2 e3 d h
theorem GoW.s {x : Nat × Bool} {b : Option Bool} (h1 : okOp sz dst op = true) (hy : yieldS ops ρ x.1 = some b) (hw : (b == some x.2) = false) (hi : i < F → Inv H) (h : GoW P orc fl sz ops loose Inv F (i + 1) os k (putD ρ dst dUndef) H Q) :
    GoW P orc fl sz ops loose Inv F i (⟨dst, op, ty, pos, after, some x⟩ :: os) k ρ H Q := GoW.skipG (okOp_ok h1).1 hy hw hi h
/-- A call, whose text is gone through; what came new is dropped. -/
theorem CallD.eb {fn : Func} {b : Code} {n : Nat} {R : D → Mem → Prop} (hf : P.funcs[f]? = some fn) (hb : fn.body = some b) (hn : fn.ntmps = n) (ha : decide (args.length ≤ n) = true)
    (h : Go P orc H.length n [.code b] .normal (initD args) H fun e ρ H' => (e = .normal ∨ e = .ret) ∧ ∃ v, resultsD P fn ρ H' = some v ∧ R v H') : CallD P orc f args H R := by
  subst hn
  exact CallD.body hf hb (of_decide_eq_true ha) h
theorem CallD.e {fn : Func} {b : Code} {n : Nat} {R : D → Prop} (hf : P.funcs[f]? = some fn) (hb : fn.body = some b) (hn : fn.ntmps = n) (ha : decide (args.length ≤ n) = true)
    (h : Go P orc H.length n [.code b] .normal (initD args) H fun e ρ H' => (e = .normal ∨ e = .ret) ∧ ∃ v, resultsD P fn ρ H' = some v ∧ ∃ d' E, H' = H ++ E ∧ Wk H.length v d' ∧ R d') : CallD P orc f args H fun d S' => S' = H ∧ R d :=
  CallD.drop (CallD.eb hf hb hn ha h)
end
/-- What every step is simplified by, beside the types' own facts. -/
theorem Gx.{u} :
    (∀ {α : Type u} {h : Decidable True} (a b : α), (@ite α True h a b) = a) ∧ (∀ {α : Type u} {h : Decidable False} (a b : α), (@ite α False h a b) = b) ∧ (∀ {α : Type u} [LT α] (a b : α), (a > b) = (b < a)) ∧ (∀ {α : Type u} [BEq α] [ReflBEq α] (a : α), (a == a) = true) :=
  ⟨fun a b => if_pos trivial, fun a b => if_neg id, fun a b => rfl, fun a => beq_self_eq_true a⟩
end Go.DM

/- A machine over Go's operations in which slices are values: calls that write a slice in place. -/
namespace Go.DM
open Go Go.AM Go.RowKit

/-- One world is another one, but for some cells of a block, and what came new. -/
structure RowOut (w w1 : World) (blk off n : Nat) (vals : List Value) : Prop where
  cells : ∀ c e fr, w.heap[blk]? = some (.cells c e fr) → ∃ c', w1.heap[blk]? = some (.cells c' e fr) ∧ c'.size = c.size ∧ (∀ k, k < off ∨ off + n ≤ k → c'[k]? = c[k]?) ∧ ∀ i v, vals[i]? = some v → off + i < c.size → c'[off + i]? = some v
  oth : ∀ k, k < w.heap.size → k ≠ blk → w1.heap[k]? = w.heap[k]?
  size : w.heap.size ≤ w1.heap.size
  os : w1.os = w.os
  tape : w1.tape = w.tape
  output : w1.output = w.output

theorem srel_set {r : Rl} {S : Mem} (hS : SRel r S) {o : Nat} {cells ncells : List D} (ho : objAt S o = some cells) {b : Blk} {new : List Value} (hg : hget r.H (r.ψ o) = some b) (hd : DL r ncells new) :
    let H' := hset r.H (r.ψ o) (some { b with cells := new })
    r.Le ⟨r.n, r.ψ, r.k, H'⟩ ∧ SRel ⟨r.n, r.ψ, r.k, H'⟩ (S.set o (.obj ncells)) := by
  intro H'
  obtain ⟨b0, g0, w, l, kk, dl⟩ := hS.obj o cells ho
  rw [hg] at g0
  cases g0
  have hlt := hget_lt hg
  have le : r.Le ⟨r.n, r.ψ, r.k, H'⟩ := by
    refine ⟨Nat.le_refl _, fun _ _ => rfl, by simp [H', length_hset], fun h c hk hg' => ⟨hk, ?_⟩, fun h c _ hg' => ?_⟩
    · have hne : r.ψ o ≠ h := by rintro rfl; rw [kk] at hk; cases hk
      exact ⟨c, by simp only [H']; rw [hget_set_ne hne]; exact hg', rfl, rfl⟩
    · simp only [H'] at hg'
      by_cases e : r.ψ o = h
      · subst e
        rw [hget_set_eq hlt] at hg'
        cases hg'
        exact ⟨b, hg, rfl⟩
      · rw [hget_set_ne e] at hg'
        exact ⟨c, hg', rfl⟩
  refine ⟨le, by simpa using hS.n, ?_, ?_, ?_⟩
  · intro o' cells' ho'
    by_cases e : o' = o
    · subst e
      have hlo : o' < S.length := (List.getElem?_eq_some_iff.1 (objAt_some ho)).1
      have : objAt (S.set o' (.obj ncells)) o' = some ncells := by simp [objAt, hlo]
      rw [this] at ho'
      cases ho'
      exact ⟨_, hget_set_eq hlt, w, l, kk, hd.mono le⟩
    · have hq : objAt S o' = some cells' := by
        unfold objAt at ho' ⊢
        rwa [List.getElem?_set_ne (Ne.symm e)] at ho'
      obtain ⟨b', g', w', l', kk', dl'⟩ := hS.obj o' cells' hq
      have hne := hS.inj o o' (Ne.symm e) ⟨_, objAt_some ho, by simp⟩ ⟨_, objAt_some hq, by simp⟩
      exact ⟨b', by simp only [H']; rw [hget_set_ne hne]; exact g', w', l', kk', dl'.mono le⟩
  · intro id hid
    have hne : id ≠ o := by
      rintro rfl
      have hlo : id < S.length := (List.getElem?_eq_some_iff.1 (objAt_some ho)).1
      simp [hlo] at hid
    rw [List.getElem?_set_ne (Ne.symm hne)] at hid
    obtain ⟨b', g', w', kk'⟩ := hS.own id hid
    have hne' : r.ψ o ≠ r.ψ id := by intro e; rw [← e] at kk'; rw [kk] at kk'; cases kk'
    exact ⟨b', by simp only [H']; rw [hget_set_ne hne']; exact g', w', kk'⟩
  · intro i j hij ⟨y, hy, hyd⟩ ⟨z, hz, hzd⟩
    have key : ∀ {i : Nat} {y : Ob}, (S.set o (.obj ncells))[i]? = some y → y ≠ .dead → ∃ x, S[i]? = some x ∧ x ≠ .dead := by
      intro i y hi hy
      by_cases e : i = o
      · subst e; exact ⟨_, objAt_some ho, by simp⟩
      · rw [List.getElem?_set_ne (Ne.symm e)] at hi; exact ⟨y, hi, hy⟩
    exact hS.inj i j hij (key hy hyd) (key hz hzd)
/-- One or the other. -/
def orOrcD (a b : DOracle) : DOracle := fun f args S d S' => a f args S d S' ∨ b f args S d S'
theorem orOrcD_sound {P : Program} {A : Beside} {a b : DOracle} (ha : DOrcSound P A a) (hb : DOrcSound P A b) : DOrcSound P A (orOrcD a b) := by
  rintro f args S d S' (h | h)
  · exact ha f args S d S' h
  · exact hb f args S d S' h

end Go.DM

/- A machine over Go's operations in which slices are values: calls that put one element into a slice, or take one out. -/
namespace Go.DM
open Go Go.AM Go.RowKit

theorem setCells_os (b : Nat) : ∀ (vs : List Value) (o : Nat) (w : World), (w.setCells b o vs).heap.size = w.heap.size ∧ (w.setCells b o vs).os = w.os ∧ (w.setCells b o vs).tape = w.tape ∧ (w.setCells b o vs).output = w.output ∧
    ∀ k, k ≠ b → (w.setCells b o vs).heap[k]? = w.heap[k]?
  | [], o, w => ⟨rfl, rfl, rfl, rfl, fun _ _ => rfl⟩
  | v :: vs, o, w => by
    obtain ⟨h1, h2, h3, h4, h5⟩ := setCells_os b vs (o + 1) (w.setCell ⟨b, o, none⟩ v)
    rw [World.setCells]
    refine ⟨by rw [h1]; simp [World.setCell], h2, h3, h4, fun k hk => ?_⟩
    rw [h5 k hk]
    simp only [World.setCell, Array.getElem?_modify]
    rw [if_neg (Ne.symm hk)]
theorem setCells_at (b : Nat) : ∀ (vs : List Value) (o : Nat) (w : World) (c : Array Value) (e : TypeId) (fr : Nat × Nat), w.heap[b]? = some (.cells c e fr) →
    ∃ c', (w.setCells b o vs).heap[b]? = some (.cells c' e fr) ∧ c'.size = c.size ∧ (∀ k, k < o ∨ o + vs.length ≤ k → c'[k]? = c[k]?) ∧ ∀ i v, vs[i]? = some v → o + i < c.size → c'[o + i]? = some v
  | [], o, w, c, e, fr, h => ⟨c, h, rfl, fun _ _ => rfl, fun i v hv => by simp at hv⟩
  | u :: vs, o, w, c, e, fr, h => by
    have h1 : (w.setCell ⟨b, o, none⟩ u).heap[b]? = some (.cells (c.setIfInBounds o u) e fr) := by
      simp only [World.setCell, Array.getElem?_modify, if_true, h, Option.map_some]
      rfl
    obtain ⟨c', k1, k2, k3, k4⟩ := setCells_at b vs (o + 1) _ _ e fr h1
    rw [World.setCells]
    refine ⟨c', k1, by rw [k2]; simp, fun k hk => ?_, fun i v hv hi => ?_⟩
    · rw [List.length_cons] at hk
      rw [k3 k (by omega), Array.getElem?_setIfInBounds_ne (by omega)]
    · cases i with
      | zero =>
        have : v = u := by simpa using hv.symm
        subst this
        rw [Nat.add_zero] at hi ⊢
        rw [k3 o (by omega), Array.getElem?_setIfInBounds_self_of_lt hi]
      | succ i =>
        have := k4 i v (by simpa using hv) (by simp; omega)
        rwa [show o + 1 + i = o + (i + 1) by omega] at this
/-- Two writes into a block, one behind the other; what is there then. -/
theorem rowOut_two {w w0 : World} {b off n o1 o2 : Nat} {xs ys vals : List Value} (hh : w0.heap = w.heap) (h1 : w0.os = w.os) (h2 : w0.tape = w.tape) (h3 : w0.output = w.output) (q1 : off ≤ o1) (q2 : o1 + xs.length ≤ off + n) (q3 : off ≤ o2) (q4 : o2 + ys.length ≤ off + n)
    (hv : ∀ c e fr, w.heap[b]? = some (.cells c e fr) → ∀ i v, vals[i]? = some v → off + i < c.size →
      (o2 ≤ off + i ∧ ys[off + i - o2]? = some v) ∨ ((off + i < o2 ∨ o2 + ys.length ≤ off + i) ∧ o1 ≤ off + i ∧ xs[off + i - o1]? = some v) ∨ ((off + i < o2 ∨ o2 + ys.length ≤ off + i) ∧ (off + i < o1 ∨ o1 + xs.length ≤ off + i) ∧ c[off + i]? = some v)) :
    RowOut w ((w0.setCells b o1 xs).setCells b o2 ys) b off n vals := by
  obtain ⟨k1, k2, k3, k4, k5⟩ := setCells_os b xs o1 w0
  obtain ⟨j1, j2, j3, j4, j5⟩ := setCells_os b ys o2 (w0.setCells b o1 xs)
  refine ⟨fun c e fr hc => ?_, fun k _ hk => by rw [j5 k hk, k5 k hk, hh], by rw [j1, k1, hh]; exact Nat.le_refl _, (j2.trans k2).trans h1, (j3.trans k3).trans h2, (j4.trans k4).trans h3⟩
  obtain ⟨c1, a1, a2, a3, a4⟩ := setCells_at b xs o1 w0 c e fr (by rw [hh]; exact hc)
  obtain ⟨c2, b1, b2, b3, b4⟩ := setCells_at b ys o2 _ c1 e fr a1
  refine ⟨c2, b1, b2.trans a2, fun k hk => by rw [b3 k (by omega), a3 k (by omega)], fun i v hi hlt => ?_⟩
  rcases hv c e fr hc i v hi hlt with ⟨p1, p2⟩ | ⟨p1, p2, p3⟩ | ⟨p1, p2, p3⟩
  · have := b4 _ v p2 (by rw [a2]; omega)
    rwa [show o2 + (off + i - o2) = off + i by omega] at this
  · rw [b3 _ p1]
    have := a4 _ v p3 (by omega)
    rwa [show o1 + (off + i - o1) = off + i by omega] at this
  · rw [b3 _ p1, a3 _ p2]
    exact p3

/-- A block's cells are written anew, over its room. -/
theorem step_put {base φ H w w1} (hs : Sim φ H w) {h : Nat} {b : Blk} (hg : hget H h = some b) (hrw : b.rw = true) (hbase : base ≤ h) (hlo : b.lo = 0) {new : List Value} {N : Nat} (hN : b.cells.length ≤ N) (hn : new.length ≤ N) (hfin : (φ h).base + N ≤ (φ h).fin) {c c' : Array Value} {e : TypeId} {fr : Nat × Nat}
    (hB : w.heap[(φ h).B]? = some (.cells c e fr)) (hB' : w1.heap[(φ h).B]? = some (.cells c' e fr)) (hsz : c'.size = c.size) (hout : ∀ k, k < (φ h).base ∨ (φ h).base + N ≤ k → c'[k]? = c[k]?)
    (hin : ∀ i v, new[i]? = some v → ∃ v', c'[(φ h).base + i]? = some v' ∧ VRel H.length φ v v') (hoth : ∀ k, k < w.heap.size → k ≠ (φ h).B → w1.heap[k]? = w.heap[k]?) (hsize : w.heap.size ≤ w1.heap.size)
    (hos : w1.os = w.os) (hta : w1.tape = w.tape) (hou : w1.output = w.output) : Step base φ H w φ (hset H h (some { b with cells := new })) w1 := by
  obtain ⟨c0, e0, fr0, hB0, g1, g2, g3, g4, g5, g6⟩ := hs.cov h b hg
  rw [hB] at hB0
  cases hB0
  have hlt := hget_lt hg
  have back : ∀ h' b', hget (hset H h (some { b with cells := new })) h' = some b' → ∃ b0, hget H h' = some b0 ∧ b0.rw = b'.rw ∧ b0.lo = b'.lo ∧ b0.par = b'.par ∧ (b'.rw = true ∨ b0.cells.length = b'.cells.length) := by
    intro h' b' hg'
    by_cases he : h' = h
    · subst he
      rw [hget_set_eq hlt] at hg'
      cases hg'
      exact ⟨b, hg, rfl, rfl, rfl, .inl hrw⟩
    · rw [hget_set_ne (Ne.symm he)] at hg'
      exact ⟨b', hg', rfl, rfl, rfl, .inr rfl⟩
  refine ⟨by simp [length_hset], fun _ _ => rfl, hsize, hos, hta, hou, ?_, ?_, ?_, ?_, ?_, ?_, ?_⟩
  · intro k hk hn
    exact hoth k hk fun e => hn h b hbase hg hrw e.symm
  · intro h' b' hh' hg'
    obtain ⟨b0, k0, k1, _⟩ := back h' b' hg'
    exact ⟨b0, k0, fun hr => k1.trans hr⟩
  · intro h' b' hb' hg' hr'
    obtain ⟨b0, k0, k1, _⟩ := back h' b' hg'
    exact .inr ⟨h', b0, hb', k0, k1.trans hr', rfl⟩
  · intro h' b' hg'
    rw [length_hset]
    by_cases he : h' = h
    · subst he
      rw [hget_set_eq hlt] at hg'
      cases hg'
      refine ⟨_, e, fr, hB', ?_, by rw [hsz]; exact g2, g3, hin, g5, ?_⟩
      · show (φ h').base + new.length ≤ _
        omega
      · show b.lo ≤ new.length
        omega
    · rw [hget_set_ne (Ne.symm he)] at hg'
      obtain ⟨c', e', fr', hBk, k1, k2, k3, k4, k5, k6⟩ := hs.cov h' b' hg'
      by_cases hBB : (φ h').B = (φ h).B
      · rw [hBB, hB] at hBk
        cases hBk
        refine ⟨_, e, fr, by rw [hBB]; exact hB', k1, by rw [hsz]; exact k2, k3, fun i u hu => ?_, k5, k6⟩
        obtain ⟨u', hu', hrel⟩ := k4 i u hu
        refine ⟨u', ?_, hrel⟩
        have hi := (List.getElem?_eq_some_iff.1 hu).1
        have := hs.apart h h' b b' (Ne.symm he) hg hg' hrw
        have q1 := @wBeg_le (φ h) b h'
        have q2 := le_rEnd k1
        rw [hout _ (by omega)]
        exact hu'
      · exact ⟨c', e', fr', by rw [hoth _ (Array.getElem?_eq_some_iff.1 hBk).1 hBB]; exact hBk, k1, k2, k3, k4, k5, k6⟩
  · intro h1 h2 b1 b2 hne k1 k2 kr
    obtain ⟨b1', k1', e1, e1l, e1p, e1c⟩ := back h1 b1 k1
    obtain ⟨b2', k2', e2, e2l, e2p, e2c⟩ := back h2 b2 k2
    have := hs.apart h1 h2 b1' b2' hne k1' k2' (e1.trans kr)
    unfold rEnd wBeg at this ⊢
    rw [e2, e1l, e1p] at this
    rcases e2c with e2c | e2c
    · rw [e2c] at this ⊢
      exact this
    · rw [e2c] at this
      exact this
  · intro h1 b1 p b' k1 hp k2
    obtain ⟨b1', k1', e1, e1l, e1p, e1c⟩ := back h1 b1 k1
    obtain ⟨b2', k2', e2, _⟩ := back p b' k2
    rw [← e2]
    exact hs.par h1 b1' p b2' k1' (e1p ▸ hp) k2'
  · intro h1 b1 p k1 hp
    obtain ⟨b1', k1', e1, e1l, e1p, e1c⟩ := back h1 b1 k1
    rw [length_hset]
    exact hs.parlt h1 b1' p k1' (e1p ▸ hp)

theorem srel_dead {r : Rl} {S : Mem} (hS : SRel r S) (o : Nat) : SRel r (S.set o .dead) := by
  have key : ∀ {i : Nat} {y : Ob}, (S.set o .dead)[i]? = some y → y ≠ .dead → S[i]? = some y := by
    intro i y hi hy
    by_cases e : i = o
    · subst e
      rw [List.getElem?_set] at hi
      simp only [if_true] at hi
      split at hi
      · cases hi; exact absurd rfl hy
      · cases hi
    · rwa [List.getElem?_set_ne (Ne.symm e)] at hi
  refine ⟨by simpa using hS.n, fun o' cells ho' => ?_, fun id hid => hS.own id (key hid (by simp)), fun i j hij ⟨x, hx, hxd⟩ ⟨y, hy, hyd⟩ => hS.inj i j hij ⟨x, key hx hxd, hxd⟩ ⟨y, key hy hyd, hyd⟩⟩
  have := key (objAt_some ho') (by simp)
  exact hS.obj o' cells (by simp [objAt, this])
/-- An object's block is written anew; the object goes on under another number. -/
theorem srel_move {r : Rl} {S : Mem} (hS : SRel r S) {o : Nat} {cells ncells : List D} (ho : objAt S o = some cells) {b : Blk} {new : List Value} (hg : hget r.H (r.ψ o) = some b) (hd : DL r ncells new) (sz len : Nat) (hz : b.sz = sz) :
    let H' := hset r.H (r.ψ o) (some { b with cells := new })
    let r' : Rl := ⟨S.length + 1, fun i => if i = S.length then r.ψ o else r.ψ i, r.k, H'⟩
    r.Le r' ∧ SRel r' (S.set o .dead ++ [.obj ncells]) ∧ DRel r' (.msl S.length sz len) (.slice (some ⟨r.ψ o, 0, none⟩) len len) := by
  intro H' r'
  obtain ⟨b0, g0, w, l, kk, dl⟩ := hS.obj o cells ho
  rw [hg] at g0
  cases g0
  have hlt := hget_lt hg
  have holt : o < S.length := (List.getElem?_eq_some_iff.1 (objAt_some ho)).1
  have hψ : ∀ i, i < S.length → r'.ψ i = r.ψ i := fun i hi => if_neg (by omega)
  have hψn : r'.ψ S.length = r.ψ o := if_pos rfl
  have le : r.Le r' := by
    refine ⟨by rw [hS.n]; exact Nat.le_succ _, fun i hi => hψ i (by rw [← hS.n]; exact hi), by simp [r', H', length_hset], fun h c hk hg' => ⟨hk, ?_⟩, fun h c _ hg' => ?_⟩
    · have hne : r.ψ o ≠ h := by rintro rfl; rw [kk] at hk; cases hk
      exact ⟨c, by simp only [r', H']; rw [hget_set_ne hne]; exact hg', rfl, rfl⟩
    · simp only [r', H'] at hg'
      by_cases e : r.ψ o = h
      · subst e
        rw [hget_set_eq hlt] at hg'
        cases hg'
        exact ⟨b, hg, rfl⟩
      · rw [hget_set_ne e] at hg'
        exact ⟨c, hg', rfl⟩
  have old : ∀ {i : Nat} {y : Ob}, (S.set o .dead ++ [.obj ncells])[i]? = some y → y ≠ .dead → (i = S.length ∧ y = .obj ncells) ∨ (i < S.length ∧ i ≠ o ∧ S[i]? = some y) := by
    intro i y hi hy
    rcases Nat.lt_trichotomy i S.length with h | h | h
    · rw [List.getElem?_append_left (by simpa using h)] at hi
      by_cases e : i = o
      · subst e
        rw [List.getElem?_set_self h] at hi
        cases hi; exact absurd rfl hy
      · rw [List.getElem?_set_ne (Ne.symm e)] at hi
        exact .inr ⟨h, e, hi⟩
    · subst h
      rw [List.getElem?_append_right (by simp)] at hi
      simp at hi
      exact .inl ⟨rfl, hi.symm⟩
    · rw [List.getElem?_append_right (by simp; omega)] at hi
      rw [List.getElem?_eq_none (by simp; omega)] at hi
      cases hi
  refine ⟨le, ⟨by simp [r'], ?_, ?_, ?_⟩, ?_⟩
  · intro o' cells' ho'
    rcases old (objAt_some ho') (by simp) with ⟨rfl, h⟩ | ⟨h1, h2, h3⟩
    · cases h
      rw [hψn]
      exact ⟨_, hget_set_eq hlt, w, l, kk, hd.mono le⟩
    · obtain ⟨b', g', w', l', kk', dl'⟩ := hS.obj o' cells' (by simp [objAt, h3])
      have hne := hS.inj o o' (Ne.symm h2) ⟨_, objAt_some ho, by simp⟩ ⟨_, h3, by simp⟩
      rw [hψ o' h1]
      exact ⟨b', by simp only [r', H']; rw [hget_set_ne hne]; exact g', w', l', kk', dl'.mono le⟩
  · intro id hid
    rcases old hid (by simp) with ⟨_, h⟩ | ⟨h1, h2, h3⟩
    · cases h
    · obtain ⟨b', g', w', kk'⟩ := hS.own id h3
      have hne' : r.ψ o ≠ r.ψ id := by intro e; rw [← e] at kk'; rw [kk] at kk'; cases kk'
      rw [hψ id h1]
      exact ⟨b', by simp only [r', H']; rw [hget_set_ne hne']; exact g', w', kk'⟩
  · intro i j hij ⟨x, hx, hxd⟩ ⟨y, hy, hyd⟩
    rcases old hx hxd with ⟨rfl, _⟩ | ⟨i1, i2, i3⟩ <;> rcases old hy hyd with ⟨rfl, _⟩ | ⟨j1, j2, j3⟩
    · exact absurd rfl hij
    · rw [hψn, hψ j j1]
      exact hS.inj o j (Ne.symm j2) ⟨_, objAt_some ho, by simp⟩ ⟨_, j3, hyd⟩
    · rw [hψn, hψ i i1]
      exact hS.inj i o i2 ⟨_, i3, hxd⟩ ⟨_, objAt_some ho, by simp⟩
    · rw [hψ i i1, hψ j j1]
      exact hS.inj i j hij ⟨_, i3, hxd⟩ ⟨_, j3, hyd⟩
  · have := DRel.msl (r := r') S.length sz len (by simp [r']) (by rw [hψn]; simp [r', H', length_hset]; exact hlt) (fun b' hb' => by
      rw [hψn] at hb'
      simp only [r', H'] at hb'
      rw [hget_set_eq hlt] at hb'
      cases hb'
      exact hz)
    rw [hψn] at this
    exact this

/-- What a block's cells are in the world. -/
theorem cov_cells {φ : Nat → AM.Place} {H : Heap} {w : World} (hs : Sim φ H w) {h : Nat} {b : Blk} (hg : hget H h = some b) {c : Array Value} {e : TypeId} {fr : Nat × Nat} (hB : w.heap[(φ h).B]? = some (.cells c e fr)) :
    ∃ ws : List Value, LRel H.length φ b.cells ws ∧ ∀ j v, ws[j]? = some v → c[(φ h).base + j]? = some v := by
  obtain ⟨c0, e0, fr0, hB0, g1, g2, g3, g4, g5, g6⟩ := hs.cov h b hg
  rw [hB] at hB0
  cases hB0
  have key : ∀ j v, ((c.toList.drop (φ h).base).take b.cells.length)[j]? = some v → c[(φ h).base + j]? = some v := fun j v hj => by
    rw [List.getElem?_take] at hj
    split at hj
    · rw [List.getElem?_drop] at hj
      rwa [← Array.getElem?_toList]
    · cases hj
  refine ⟨(c.toList.drop (φ h).base).take b.cells.length, ⟨by simp; omega, fun i v v' h1 h2 => ?_⟩, key⟩
  obtain ⟨u, hu, hr⟩ := g4 i v h1
  rw [key i v' h2] at hu
  cases hu
  exact hr
theorem LRel.take {n : Nat} {φ : Nat → AM.Place} {vs ws : List Value} (h : LRel n φ vs ws) (k : Nat) : LRel n φ (vs.take k) (ws.take k) := by
  refine ⟨by simp [h.1], fun i v v' h1 h2 => ?_⟩
  rw [List.getElem?_take] at h1 h2
  split at h1
  · rename_i hk
    rw [if_pos hk] at h2
    exact h.2 i v v' h1 h2
  · cases h1
theorem LRel.drop {n : Nat} {φ : Nat → AM.Place} {vs ws : List Value} (h : LRel n φ vs ws) (k : Nat) : LRel n φ (vs.drop k) (ws.drop k) := by
  refine ⟨by simp [h.1], fun i v v' h1 h2 => ?_⟩
  rw [List.getElem?_drop] at h1 h2
  exact h.2 _ v v' h1 h2
theorem LRel.one {n : Nat} {φ : Nat → AM.Place} {vs ws : List Value} (h : LRel n φ vs ws) (h1 : vs.all Value.oneCell' = true) : ∀ v ∈ ws, v.oneCell' = true := by
  intro v hv
  obtain ⟨i, hi, rfl⟩ := List.mem_iff_getElem.1 hv
  have hi' : i < vs.length := by rw [h.1]; exact hi
  rw [(h.2 i vs[i] ws[i] (by simp) (by simp)).oneCell]
  exact List.all_eq_true.1 h1 _ (List.getElem_mem _)

/-- One element put in: the elements ahead, it, the elements from there on. -/
def putL {α : Type} (cells : List α) (k : Nat) (new : List α) : List α := cells.take k ++ (new ++ cells.drop k)
theorem putL_length {α : Type} {cells new : List α} {k : Nat} (h : k ≤ cells.length) : (putL cells k new).length = cells.length + new.length := by
  simp only [putL, List.length_append, List.length_take, List.length_drop]
  omega
/-- A call that puts one element of K cells into a slice. -/
structure PutOk (P : Program) (f : FuncId) (K B : Nat) : Prop where
  pos : 0 < K
  room : ∀ (w : World) (b off n c i vb voff vc : Nat) (cs vs : List Value), i ≤ n → n + 1 ≤ c → c ≤ 9223372036854775807 → cs.length = n * K → vs.length = K →
    (∀ j v, cs[j]? = some v → w.cell? ⟨b, off + j, none⟩ = some v) → (∀ j, j < (n + 1) * K → (w.cell? ⟨b, off + j, none⟩).isSome = true) → (∀ j, j < (n + 1) * K → w.frozen? ⟨b, off + j, none⟩ = false) →
    (∀ j v, vs[j]? = some v → w.cell? ⟨vb, voff + j, none⟩ = some v) → (∀ v ∈ cs, v.oneCell' = true) → (∀ v ∈ vs, v.oneCell' = true) → (vb = b → voff + K ≤ off ∨ off + (n + 1) * K ≤ voff) →
    (∀ c e fr, w.heap[b]? = some (.cells c e fr) → w.frozen? ⟨b, c.size, none⟩ = false) →
    Calls P f #[.slice (some ⟨b, off, none⟩) n c, .int .i64 (i : Int), .slice (some ⟨vb, voff, none⟩) 1 vc] w fun e w' => e = .returned (.slice (some ⟨b, off, none⟩) (n + 1) c) ∧ RowOut w w' b off ((n + 1) * K) (putL cs (i * K) vs)
  full : ∀ (w : World) (base : Option Addr) (n i vb voff vc : Nat) (cs vs : List Value), i ≤ n → (n + 1) * B ≤ 2 ^ 47 → cs.length = n * K → vs.length = K → (base = none → n = 0) →
    (∀ a, base = some a → n ≠ 0 → a.spot = none) → (∀ a, base = some a → n ≠ 0 → ∀ j v, cs[j]? = some v → w.cell? ⟨a.block, a.off + j, none⟩ = some v) →
    (∀ j v, vs[j]? = some v → w.cell? ⟨vb, voff + j, none⟩ = some v) → (∀ v ∈ cs, v.oneCell' = true) → (∀ v ∈ vs, v.oneCell' = true) →
    Calls P f #[.slice base n n, .int .i64 (i : Int), .slice (some ⟨vb, voff, none⟩) 1 vc] w fun e w' => ∃ (G : Nat) (row : Array Value) (t : TypeId), e = .returned (.slice (some ⟨w.heap.size, 0, none⟩) (n + 1) G) ∧ n + 1 ≤ G ∧ G ≤ 9223372036854775807 ∧ row.size = G * K ∧
      (∀ (j : Nat) (v : Value), (putL cs (i * K) vs)[j]? = some v → row[j]? = some v) ∧ w'.heap = w.heap.push (.cells row t (0, 0)) ∧ w'.os = w.os ∧ w'.tape = w.tape ∧ w'.output = w.output
def putOrc (c : FuncId → Nat → Nat → Prop) : DOracle := fun f args S d S' => ∃ (K B o n i : Nat) (own : Option Nat) (a1 : D) (cells new : List D), c f K B ∧ K ≠ 1 ∧ new.length = K ∧ i ≤ n ∧ (n + 1) * B ≤ 2 ^ 47 ∧ cells.all D.one = true ∧ new.all D.one = true ∧
  args = [a1, .int .i64 (i : Int), .sl own K 1 new] ∧ ((a1 = .nils ∧ n = 0 ∧ cells = [] ∧ S' = S ++ [.obj new]) ∨ (a1 = .msl o K n ∧ objAt S o = some cells ∧ cells.length = n * K ∧ S' = S.set o .dead ++ [.obj (putL cells (i * K) new)])) ∧ d = .msl S.length K (n + 1)
theorem putOrc_sound {P : Program} {A : Beside} {c : FuncId → Nat → Nat → Prop} (h : ∀ f K B, c f K B → PutOk P f K B) : DOrcSound P A (putOrc c) := by
  rintro f args S d S' ⟨K, B, o, n, i, own, a1, cells, new, hc, hK1, hnl, hin, hlim, h1c, h1n, rfl, hcase, rfl⟩ r φ w hS hs vs args' dl hargs
  have ok := h f K B hc
  have hKpos := ok.pos
  obtain ⟨v1, v2, v3, rfl⟩ : ∃ v1 v2 v3, vs = [v1, v2, v3] := by
    have := dl.1
    match vs, this with | [v1, v2, v3], _ => exact ⟨v1, v2, v3, rfl⟩
  obtain ⟨u1, u2, u3, hu⟩ : ∃ u1 u2 u3, args'.toList = [u1, u2, u3] := by
    have := hargs.1
    match h : args'.toList, this with | [v1, v2, v3], _ => exact ⟨v1, v2, v3, rfl⟩
  rw [hu] at hargs
  have ea : args' = #[u1, u2, u3] := by rw [← Array.toList_inj, hu]
  subst ea
  have e2 : v2 = .int .i64 (i : Int) := by have := dl.tail.head; cases this; rfl
  subst e2
  obtain rfl : u2 = .int .i64 (i : Int) := hargs.tail.head.scalar_eq rfl
  have d3 := dl.tail.tail.head
  have r3 := hargs.tail.tail.head
  cases d3 with
  | sl _ _ _ _ vsA h3 o3 m3 b3 hk3 hg3 hz3 hr3 hm3 hl3 hs3 ho3 hc3 =>
  have hv3 : ∃ c3, u3 = .slice (some ⟨(φ h3).B, (φ h3).base + o3, none⟩) 1 c3 := by
    generalize hadr : (⟨h3, o3, none⟩ : Addr) = adr at r3
    generalize hone : (1 : Nat) = one at r3
    cases r3 with
    | sl _ _ _ _ c3 hh hll hmc hf => cases hadr; exact ⟨c3, rfl⟩
    | slEmp _ _ bb hh => cases hone
    | slFree bb => cases hone
  obtain ⟨c3, rfl⟩ := hv3
  obtain ⟨b3', hg3', ho3l, hvs⟩ := readA_some hr3
  rw [hg3] at hg3'
  cases hg3'
  obtain ⟨cw, ew, frw, hBw, q1, q2, q3, q4, q5, q6⟩ := hs.1.cov h3 b3 hg3
  obtain ⟨ws3, lw3, cw3⟩ := cov_cells hs.1 hg3 hBw
  have hvlen : vsA.length = K := by rw [← hl3, hnl]
  have lV : LRel r.H.length φ vsA ((ws3.drop o3).take vsA.length) := by
    have := LRel.take (LRel.drop lw3 o3) vsA.length
    rwa [← hvs] at this
  generalize hVW : (ws3.drop o3).take vsA.length = VW at lV
  have hVWl : VW.length = K := by rw [← lV.1, hvlen]
  have hVWc : ∀ j v, VW[j]? = some v → w.cell? ⟨(φ h3).B, (φ h3).base + o3 + j, none⟩ = some v := fun j v hj => by
    rw [← hVW, List.getElem?_take] at hj
    split at hj
    · rw [List.getElem?_drop] at hj
      have := cw3 _ v hj
      simp only [World.cell?, hBw]
      rw [Nat.add_assoc]
      simpa using this
    · cases hj
  have dV : DL r new vsA := ⟨hl3, hc3⟩
  have h1V : ∀ v ∈ VW, v.oneCell' = true := LRel.one lV (all_one dV h1n)
  rcases hcase with ⟨rfl, rfl, rfl, rfl⟩ | ⟨rfl, hob, hcl, rfl⟩
  · have hi0 : i = 0 := by omega
    subst hi0
    have e1 : v1 = .slice none 0 0 := by have := dl.head; cases this; rfl
    subst e1
    obtain rfl : u1 = .slice none 0 0 := hargs.head.scalar_eq rfl
    refine (ok.full w none 0 0 _ _ c3 [] VW (Nat.le_refl _) hlim (by simp) hVWl (fun _ => rfl) (fun a h => by cases h) (fun a h => by cases h) hVWc (fun v hv => by cases hv) h1V).mono fun e w' ⟨G, row, t, he, hG, hG63, hrs, hrow, hw1, hw2, hw3, hw4⟩ => ?_
    have hrow' : ∀ j v, VW[j]? = some v → row[j]? = some v := fun j v hj => hrow j v (by simpa [putL] using hj)
    have hle : vsA.length ≤ row.size := by rw [hrs, hvlen]; exact Nat.le_mul_of_pos_left K (by omega)
    have hst : Step 0 φ r.H w (extP φ r.H.length ⟨w.heap.size, 0, row.size, K⟩) (newB r.H ⟨vsA, K, true, 0, []⟩) w' :=
      step_newB (nb := ⟨vsA, K, true, 0, []⟩) (cs := row) (e := t) (fr := (0, 0)) (fin := row.size) hs.1 hw1 hw2 hw3 hw4 hle (Nat.le_refl _) (fun i _ h => by simp at h) (fun _ => by rw [hrs]; exact Nat.mul_le_mul_right _ hG63) (Nat.zero_le _) (fun p hp => by cases hp)
        (fun j v hj => by
          have hj' := (List.getElem?_eq_some_iff.1 hj).1
          have hw : VW[j]? = some (VW[j]'(by rw [← lV.1]; exact hj')) := by simp
          exact ⟨_, hrow' j _ hw, lV.2 j v _ hj hw⟩)
    obtain ⟨le, sr, dr⟩ := new_msl (sz := K) (len := 1) hS (cells := new) (vs := vsA) dV
    refine ⟨_, _, _, _, he, le, sr, hst, dr, ?_⟩
    have hlen : (r.push false (newA r.H vsA K)).H.length = r.H.length + 1 := by simp [Rl.push, newA, newB]
    rw [hlen]
    have := VRel.sl (n := r.H.length + 1) (φ := extP φ r.H.length ⟨w.heap.size, 0, row.size, K⟩) r.H.length 0 1 1 G (Nat.lt_succ_self _) (Nat.le_refl _) (by omega) (by rw [extP_eq]; simp [hrs])
    rw [extP_eq] at this
    exact this
  · have hd1 := dl.head
    have hv := hargs.head
    cases hd1 with
    | msl _ _ _ ho hlt hz =>
    obtain ⟨b, g, hrw, hl, hk, hd⟩ := hS.obj o _ hob
    obtain ⟨c0, e0, fr0, hB, g1, g2, g3, g4, g5, g6⟩ := hs.1.cov _ b g
    obtain ⟨ws, lw, cws⟩ := cov_cells hs.1 g hB
    have hbz := hz b g
    have hbl : b.cells.length = n * K := by rw [← hd.1, hcl]
    have hwl : ws.length = n * K := by rw [← lw.1, hbl]
    have hne : r.ψ o ≠ h3 := by rintro e; rw [e, hk3] at hk; cases hk
    have dN : DL r (putL cells (i * K) new) (putL b.cells (i * K) vsA) := (hd.take _).append (dV.append (hd.drop _))
    have lN : LRel r.H.length φ (putL b.cells (i * K) vsA) (putL ws (i * K) VW) := (LRel.take lw _).append (lV.append (LRel.drop lw _))
    have hiK : i * K ≤ n * K := Nat.mul_le_mul_right _ hin
    have hNl : (putL b.cells (i * K) vsA).length = (n + 1) * K := by rw [putL_length (by omega), hbl, hvlen, Nat.add_mul, Nat.one_mul]
    have hcell : ∀ j v, ws[j]? = some v → w.cell? ⟨(φ (r.ψ o)).B, (φ (r.ψ o)).base + j, none⟩ = some v := fun j v hj => by
      have := cws j v hj
      simp only [World.cell?, hB]
      simpa using this
    have h1W : ∀ v ∈ ws, v.oneCell' = true := LRel.one lw (all_one hd h1c)
    have grow : ∀ base, u1 = .slice base n n → (base = none → n = 0) → (∀ a, base = some a → n ≠ 0 → a = ⟨(φ (r.ψ o)).B, (φ (r.ψ o)).base, none⟩) →
        Calls P f #[u1, .int .i64 (i : Int), .slice (some ⟨(φ h3).B, (φ h3).base + o3, none⟩) 1 c3] w fun e w' => ∃ r' u v' φ', e = .returned v' ∧ r.Le r' ∧ SRel r' (S.set o .dead ++ [.obj (putL cells (i * K) new)]) ∧ Step 0 φ r.H w φ' r'.H w' ∧ DRel r' (.msl S.length K (n + 1)) u ∧ VRel r'.H.length φ' u v' := by
      intro base hu1 hb0 hbs
      subst hu1
      refine (ok.full w base n i _ _ c3 ws VW hin hlim hwl hVWl hb0 (fun a ha hn => by rw [hbs a ha hn]) (fun a ha hn j v hj => by rw [hbs a ha hn]; exact hcell j v hj) hVWc h1W h1V).mono fun e w' ⟨G, row, t, he, hG, hG63, hrs, hrow, hw1, hw2, hw3, hw4⟩ => ?_
      have hle : (putL b.cells (i * K) vsA).length ≤ row.size := by rw [hrs, hNl]; exact Nat.mul_le_mul_right _ hG
      have hst : Step 0 φ r.H w (extP φ r.H.length ⟨w.heap.size, 0, row.size, K⟩) (newB r.H ⟨putL b.cells (i * K) vsA, K, true, 0, []⟩) w' :=
        step_newB (nb := ⟨putL b.cells (i * K) vsA, K, true, 0, []⟩) (cs := row) (e := t) (fr := (0, 0)) (fin := row.size) hs.1 hw1 hw2 hw3 hw4 hle (Nat.le_refl _) (fun i _ h => by simp at h) (fun _ => by rw [hrs]; exact Nat.mul_le_mul_right _ hG63) (Nat.zero_le _) (fun p hp => by cases hp)
          (fun j v hj => by
            have hj' := (List.getElem?_eq_some_iff.1 hj).1
            have hw : (putL ws (i * K) VW)[j]? = some ((putL ws (i * K) VW)[j]'(by rw [← lN.1]; exact hj')) := by simp
            exact ⟨_, hrow j _ hw, lN.2 j v _ hj hw⟩)
      obtain ⟨le, sr, dr⟩ := new_msl (sz := K) (len := n + 1) hS (cells := putL cells (i * K) new) (vs := putL b.cells (i * K) vsA) dN
      have hol : o < S.length := (List.getElem?_eq_some_iff.1 (objAt_some hob)).1
      have sr2 := srel_dead sr o
      rw [List.set_append_left _ _ hol] at sr2
      refine ⟨_, _, _, _, he, le, sr2, hst, dr, ?_⟩
      have hlen : (r.push false (newA r.H (putL b.cells (i * K) vsA) K)).H.length = r.H.length + 1 := by simp [Rl.push, newA, newB]
      rw [hlen]
      have := VRel.sl (n := r.H.length + 1) (φ := extP φ r.H.length ⟨w.heap.size, 0, row.size, K⟩) r.H.length 0 (n + 1) (n + 1) G (Nat.lt_succ_self _) (Nat.le_refl _) hG (by rw [extP_eq]; simp [hrs])
      rw [extP_eq] at this
      exact this
    have hv' : (∃ cc, u1 = .slice (some ⟨(φ (r.ψ o)).B, (φ (r.ψ o)).base, none⟩) n cc ∧ n ≤ cc ∧ (φ (r.ψ o)).base + cc * (φ (r.ψ o)).sz ≤ (φ (r.ψ o)).fin) ∨ (n = 0 ∧ ∃ bb, u1 = .slice (some bb) 0 0) := by
      generalize hadr : (⟨r.ψ o, 0, none⟩ : Addr) = adr at hv
      generalize hnn : n = nn at hv
      cases hv with
      | slEmp _ _ bb hh => exact .inr ⟨rfl, bb, rfl⟩
      | slFree bb => exact .inr ⟨rfl, bb, rfl⟩
      | sl _ _ _ _ cc hh hll hmc hf =>
        cases hadr
        subst hnn
        exact .inl ⟨cc, rfl, hmc, by simpa using hf⟩
    rcases hv' with ⟨cc, hu1, hcc, hf⟩ | ⟨hn0, bb, hu1⟩
    · by_cases hroom : n + 1 ≤ cc
      · subst hu1
        have hccK : cc * K ≤ (φ (r.ψ o)).fin - (φ (r.ψ o)).base := by rw [g3, hbz] at hf; omega
        have hnK : (n + 1) * K ≤ cc * K := Nat.mul_le_mul_right _ hroom
        have hcc63 : cc ≤ 9223372036854775807 := by
          have := (g5 hrw).2 (by rw [g3, hbz]; exact hK1)
          rw [g3, hbz] at this
          refine Nat.le_of_mul_le_mul_right (c := K) ?_ hKpos
          omega
        have hfz : ∀ k, (φ (r.ψ o)).base ≤ k → w.frozen? ⟨(φ (r.ψ o)).B, k, none⟩ = false := fun k hk => by
          have := (g5 hrw).1 k hk (.inr (by rw [g3, hbz]; exact hK1))
          simp only [World.frozen?, hB]
          simp only [Bool.and_eq_false_imp, decide_eq_true_eq, decide_eq_false_iff_not]
          omega
        refine (ok.room w _ _ n cc i _ _ c3 ws VW hin hroom hcc63 hwl hVWl hcell (fun j hj => ?_) (fun j hj => hfz _ (by omega)) hVWc h1W h1V (fun e => ?_) (fun c e fr hc => ?_)).mono fun e w' ⟨he, hro⟩ => ?_
        · have : (φ (r.ψ o)).base + j < c0.size := by omega
          simp [World.cell?, hB, this]
        · have hap := hs.1.apart (r.ψ o) h3 b b3 hne g hg3 hrw
          have q0 : wBeg (φ (r.ψ o)) b h3 ≤ (φ (r.ψ o)).base := by
            unfold wBeg
            split
            · rw [hl.1]; omega
            · exact Nat.le_refl _
          have q7 := le_rEnd q1
          rcases hap with p | p | p
          · exact absurd e.symm p
          · exact .inr (by omega)
          · exact .inl (by omega)
        · rw [hB] at hc
          cases hc
          exact hfz _ (by omega)
        · obtain ⟨c', hB', hsz, hout, hinn⟩ := hro.cells c0 e0 fr0 hB
          have hst : Step 0 φ r.H w φ (hset r.H (r.ψ o) (some { b with cells := putL b.cells (i * K) vsA })) w' :=
            step_put (N := (n + 1) * K) hs.1 g hrw (Nat.zero_le _) hl.1 (by rw [hbl]; exact Nat.mul_le_mul_right _ (by omega)) (by rw [hNl]; exact Nat.le_refl _) (by omega) hB hB' hsz hout
              (fun j v hj => by
                have hj' := (List.getElem?_eq_some_iff.1 hj).1
                have hw : (putL ws (i * K) VW)[j]? = some ((putL ws (i * K) VW)[j]'(by rw [← lN.1]; exact hj')) := by simp
                exact ⟨_, hinn j _ hw (by omega), lN.2 j v _ hj hw⟩) hro.oth hro.size hro.os hro.tape hro.output
          obtain ⟨le, sr, dr⟩ := srel_move hS hob g dN K (n + 1) hbz
          refine ⟨_, _, _, φ, he, le, sr, hst, dr, ?_⟩
          dsimp only
          rw [length_hset]
          have := VRel.sl (n := r.H.length) (φ := φ) (r.ψ o) 0 (n + 1) (n + 1) cc hlt (Nat.le_refl _) hroom (by rw [g3, hbz]; omega)
          simpa using this
      · have hcn : cc = n := by omega
        rw [hcn] at hu1
        exact grow _ hu1 (fun h => by cases h) (fun a ha _ => by cases ha; rfl)
    · subst hn0
      exact grow _ hu1 (fun h => by cases h) (fun a ha hn => absurd rfl hn)
theorem CallD.putOrc {P : Program} {orc : DOracle} {c : FuncId → Nat → Nat → Prop} (hi : ∀ f args S d S', DM.putOrc c f args S d S' → orc f args S d S') {f : FuncId} {K B o n i : Nat} {own : Option Nat} {cells new : List D} {S : Mem} (h : c f K B) (hK : K ≠ 1) (hnl : new.length = K) (hin : i ≤ n) (hlim : (n + 1) * B ≤ 2 ^ 47)
    (h1c : cells.all D.one = true) (h1n : new.all D.one = true) (hob : objAt S o = some cells) (hcl : cells.length = n * K) :
    CallD P orc f [.msl o K n, .int .i64 (i : Int), .sl own K 1 new] S fun d S' => S' = S.set o .dead ++ [.obj (putL cells (i * K) new)] ∧ d = .msl S.length K (n + 1) :=
  ⟨_, _, .orc (hi _ _ _ _ _ ⟨K, B, o, n, i, own, _, cells, new, h, hK, hnl, hin, hlim, h1c, h1n, rfl, .inr ⟨rfl, hob, hcl, rfl⟩, rfl⟩), rfl, rfl⟩
theorem CallD.putOrc0 {P : Program} {orc : DOracle} {c : FuncId → Nat → Nat → Prop} (hi : ∀ f args S d S', DM.putOrc c f args S d S' → orc f args S d S') {f : FuncId} {K B : Nat} {own : Option Nat} {new : List D} {S : Mem} (h : c f K B) (hK : K ≠ 1) (hnl : new.length = K) (hlim : B ≤ 2 ^ 47) (h1n : new.all D.one = true) :
    CallD P orc f [.nils, .int .i64 ((0 : Nat) : Int), .sl own K 1 new] S fun d S' => S' = S ++ [.obj new] ∧ d = .msl S.length K 1 :=
  ⟨_, _, .orc (hi _ _ _ _ _ ⟨K, B, 0, 0, 0, own, _, [], new, h, hK, hnl, Nat.le_refl _, by simpa using hlim, rfl, h1n, rfl, .inl ⟨rfl, rfl, rfl, rfl⟩, rfl⟩), rfl, rfl⟩

/-- One element taken out. -/
def cutL {α : Type} (cells : List α) (k K : Nat) : List α := cells.take k ++ cells.drop (k + K)
theorem cutL_length {α : Type} {cells : List α} {k K : Nat} (h : k + K ≤ cells.length) : (cutL cells k K).length = cells.length - K := by
  simp only [cutL, List.length_append, List.length_take, List.length_drop]
  omega
/-- A call that takes one element of K cells out of a slice. -/
structure CutOk (P : Program) (f : FuncId) (K : Nat) : Prop where
  pos : 0 < K
  run : ∀ (w : World) (b off n c i : Nat) (cs : List Value), i < n → n ≤ c → c ≤ 9223372036854775807 → cs.length = n * K → (∀ j v, cs[j]? = some v → w.cell? ⟨b, off + j, none⟩ = some v) → (∀ j, j < n * K → w.frozen? ⟨b, off + j, none⟩ = false) → (∀ v ∈ cs, v.oneCell' = true) →
    Calls P f #[.slice (some ⟨b, off, none⟩) n c, .int .i64 (i : Int), .int .i64 ((i + 1 : Nat) : Int)] w fun e w' => e = .returned (.slice (some ⟨b, off, none⟩) (n - 1) c) ∧ RowOut w w' b off (n * K) (cutL cs (i * K) K)
def cutOrc (c : FuncId → Nat → Prop) : DOracle := fun f args S d S' => ∃ (K o n i : Nat) (cells : List D), c f K ∧ K ≠ 1 ∧ i < n ∧ cells.all D.one = true ∧ args = [.msl o K n, .int .i64 (i : Int), .int .i64 ((i + 1 : Nat) : Int)] ∧ objAt S o = some cells ∧ cells.length = n * K ∧
  S' = S.set o (.obj (cutL cells (i * K) K)) ∧ d = .msl o K (n - 1)
theorem cutOrc_sound {P : Program} {A : Beside} {c : FuncId → Nat → Prop} (h : ∀ f K, c f K → CutOk P f K) : DOrcSound P A (cutOrc c) := by
  rintro f args S d S' ⟨K, o, n, i, cells, hc, hK1, hin, h1c, rfl, hob, hcl, rfl, rfl⟩ r φ w hS hs vs args' dl hargs
  have ok := h f K hc
  have hKpos := ok.pos
  obtain ⟨v1, v2, v3, rfl⟩ : ∃ v1 v2 v3, vs = [v1, v2, v3] := by
    have := dl.1
    match vs, this with | [v1, v2, v3], _ => exact ⟨v1, v2, v3, rfl⟩
  obtain ⟨u1, u2, u3, hu⟩ : ∃ u1 u2 u3, args'.toList = [u1, u2, u3] := by
    have := hargs.1
    match h : args'.toList, this with | [v1, v2, v3], _ => exact ⟨v1, v2, v3, rfl⟩
  rw [hu] at hargs
  have ea : args' = #[u1, u2, u3] := by rw [← Array.toList_inj, hu]
  subst ea
  have e2 : v2 = .int .i64 (i : Int) := by have := dl.tail.head; cases this; rfl
  have e3 : v3 = .int .i64 ((i + 1 : Nat) : Int) := by have := dl.tail.tail.head; cases this; rfl
  subst e2 e3
  obtain rfl : u2 = .int .i64 (i : Int) := hargs.tail.head.scalar_eq rfl
  obtain rfl : u3 = .int .i64 ((i + 1 : Nat) : Int) := hargs.tail.tail.head.scalar_eq rfl
  have hd1 := dl.head
  have hv := hargs.head
  cases hd1 with
  | msl _ _ _ ho hlt hz =>
  obtain ⟨b, g, hrw, hl, hk, hd⟩ := hS.obj o _ hob
  obtain ⟨c0, e0, fr0, hB, g1, g2, g3, g4, g5, g6⟩ := hs.1.cov _ b g
  obtain ⟨ws, lw, cws⟩ := cov_cells hs.1 g hB
  have hbz := hz b g
  have hbl : b.cells.length = n * K := by rw [← hd.1, hcl]
  have hwl : ws.length = n * K := by rw [← lw.1, hbl]
  have hiK : (i + 1) * K ≤ n * K := Nat.mul_le_mul_right _ hin
  have hiK' : i * K + K ≤ n * K := by rw [Nat.add_mul, Nat.one_mul] at hiK; exact hiK
  have dN : DL r (cutL cells (i * K) K) (cutL b.cells (i * K) K) := (hd.take _).append (hd.drop _)
  have lN : LRel r.H.length φ (cutL b.cells (i * K) K) (cutL ws (i * K) K) := (LRel.take lw _).append (LRel.drop lw _)
  have hNl : (cutL b.cells (i * K) K).length = n * K - K := by rw [cutL_length (by omega), hbl]
  have hcell : ∀ j v, ws[j]? = some v → w.cell? ⟨(φ (r.ψ o)).B, (φ (r.ψ o)).base + j, none⟩ = some v := fun j v hj => by
    have := cws j v hj
    simp only [World.cell?, hB]
    simpa using this
  have h1W : ∀ v ∈ ws, v.oneCell' = true := LRel.one lw (all_one hd h1c)
  have hv' : ∃ cc, u1 = .slice (some ⟨(φ (r.ψ o)).B, (φ (r.ψ o)).base, none⟩) n cc ∧ n ≤ cc ∧ (φ (r.ψ o)).base + cc * (φ (r.ψ o)).sz ≤ (φ (r.ψ o)).fin := by
    generalize hadr : (⟨r.ψ o, 0, none⟩ : Addr) = adr at hv
    generalize hnn : n = nn at hv
    cases hv with
    | slEmp _ _ bb hh => omega
    | slFree bb => omega
    | sl _ _ _ _ cc hh hll hmc hf =>
      cases hadr
      subst hnn
      exact ⟨cc, rfl, hmc, by simpa using hf⟩
  obtain ⟨cc, rfl, hcc, hf⟩ := hv'
  have hccK : cc * K ≤ (φ (r.ψ o)).fin - (φ (r.ψ o)).base := by rw [g3, hbz] at hf; omega
  have hnK : n * K ≤ cc * K := Nat.mul_le_mul_right _ hcc
  have hnpos : 0 < n * K := Nat.mul_pos (by omega) hKpos
  have hcc63 : cc ≤ 9223372036854775807 := by
    have := (g5 hrw).2 (by rw [g3, hbz]; exact hK1)
    rw [g3, hbz] at this
    refine Nat.le_of_mul_le_mul_right (c := K) ?_ hKpos
    omega
  have hfz : ∀ k, (φ (r.ψ o)).base ≤ k → w.frozen? ⟨(φ (r.ψ o)).B, k, none⟩ = false := fun k hk => by
    have := (g5 hrw).1 k hk (.inr (by rw [g3, hbz]; exact hK1))
    simp only [World.frozen?, hB]
    simp only [Bool.and_eq_false_imp, decide_eq_true_eq, decide_eq_false_iff_not]
    omega
  refine (ok.run w _ _ n cc i ws hin hcc hcc63 hwl hcell (fun j hj => hfz _ (by omega)) h1W).mono fun e w' ⟨he, hro⟩ => ?_
  obtain ⟨c', hB', hsz, hout, hinn⟩ := hro.cells c0 e0 fr0 hB
  have hst : Step 0 φ r.H w φ (hset r.H (r.ψ o) (some { b with cells := cutL b.cells (i * K) K })) w' :=
    step_put (N := n * K) hs.1 g hrw (Nat.zero_le _) hl.1 (by rw [hbl]; exact Nat.le_refl _) (by rw [hNl]; omega) (by omega) hB hB' hsz hout
      (fun j v hj => by
        have hj' := (List.getElem?_eq_some_iff.1 hj).1
        have hw : (cutL ws (i * K) K)[j]? = some ((cutL ws (i * K) K)[j]'(by rw [← lN.1]; exact hj')) := by simp
        exact ⟨_, hinn j _ hw (by omega), lN.2 j v _ hj hw⟩) hro.oth hro.size hro.os hro.tape hro.output
  obtain ⟨le, sr⟩ := srel_set (ncells := cutL cells (i * K) K) (new := cutL b.cells (i * K) K) hS hob g dN
  have dr : DRel ⟨r.n, r.ψ, r.k, hset r.H (r.ψ o) (some { b with cells := cutL b.cells (i * K) K })⟩ (.msl o K (n - 1)) (.slice (some ⟨r.ψ o, 0, none⟩) (n - 1) (n - 1)) :=
    (DRel.msl o K (n - 1) ho hlt hz).mono le
  refine ⟨_, _, _, φ, he, le, sr, hst, dr, ?_⟩
  dsimp only
  rw [length_hset]
  have := VRel.sl (n := r.H.length) (φ := φ) (r.ψ o) 0 (n - 1) (n - 1) cc hlt (Nat.le_refl _) (by omega) (by rw [g3, hbz]; omega)
  simpa using this
theorem CallD.cutOrc {P : Program} {orc : DOracle} {c : FuncId → Nat → Prop} (hi : ∀ f args S d S', DM.cutOrc c f args S d S' → orc f args S d S') {f : FuncId} {K o n i : Nat} {cells : List D} {S : Mem} (h : c f K) (hK : K ≠ 1) (hin : i < n) (h1c : cells.all D.one = true) (hob : objAt S o = some cells) (hcl : cells.length = n * K) :
    CallD P orc f [.msl o K n, .int .i64 (i : Int), .int .i64 ((i + 1 : Nat) : Int)] S fun d S' => S' = S.set o (.obj (cutL cells (i * K) K)) ∧ d = .msl o K (n - 1) :=
  ⟨_, _, .orc (hi _ _ _ _ _ ⟨K, o, n, i, cells, h, hK, hin, h1c, rfl, hob, hcl, rfl, rfl⟩), rfl, rfl⟩
end Go.DM
