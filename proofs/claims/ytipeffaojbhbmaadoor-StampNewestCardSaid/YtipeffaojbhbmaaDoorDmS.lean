/- A machine over Go's operations in which slices are values: contracts from elsewhere, told of the model itself. -/
import Derived.Test.YtipeffaojbhbmaaDoorDmY
set_option linter.unusedSimpArgs false
set_option linter.unusedVariables false
namespace Go.DM
open Go Go.AM Go.RowKit

/-- Below where the law began all is as it was, and what may be written lies above. -/
def keepsB (w0 : World) : Beside := fun φ H w => Below w0.heap.size w0 w ∧ ∀ h b, hget H h = some b → b.rw = true → w0.heap.size ≤ (φ h).B
theorem keepsB_kept {w0 : World} : Kept (keepsB w0) := by
  intro φ H w φ' H' w' ⟨hb, hr⟩ st
  have hs : w0.heap.size ≤ w.heap.size := hb.size
  refine ⟨⟨st.os.trans hb.os, st.tape.trans hb.tape, st.output.trans hb.output, Nat.le_trans hs st.size, fun k hk => ?_⟩, fun h b hg hw => ?_⟩
  · rw [st.frame k (Nat.lt_of_lt_of_le hk hs) (fun h b _ hg hw he => ?_)]
    · exact hb.block k hk
    · have := hr h b hg hw
      omega
  · rcases st.later h b (Nat.zero_le _) hg hw with hl | ⟨h0, b0, _, hg0, hr0, e0⟩
    · exact Nat.le_trans hs hl
    · exact e0 ▸ hr h0 b0 hg0 hr0
theorem keepsB_start {w : World} {φ H} (hb : Bs w H φ) : keepsB w φ H w :=
  ⟨.refl _ _, fun h b hg hw => by rw [hb.ro h b hg] at hw; cases hw⟩

theorem step_below {φ H w w'} (hs : Sim φ H w) (hb : Below w.heap.size w w') : Step 0 φ H w φ H w' := by
  refine ⟨Nat.le_refl _, fun _ _ => rfl, hb.size, hb.os, hb.tape, hb.output, fun b h _ => hb.block b h, fun h b' _ hg => ⟨b', hg, id⟩, fun h b hb hg hr => .inr ⟨h, b, hb, hg, hr, rfl⟩, ?_, hs.apart, hs.par, hs.parlt⟩
  intro h b hg
  obtain ⟨c, e, fr, hB, g⟩ := hs.cov h b hg
  exact ⟨c, e, fr, by rw [hb.block _ (Array.getElem?_eq_some_iff.1 hB).1]; exact hB, g⟩

def orOrc (a b : DOracle) : DOracle := fun f args d => a f args d ∨ b f args d
theorem orOrc_sound {P : Program} {A : Beside} {a b : DOracle} (ha : DOrcSound P A a) (hb : DOrcSound P A b) : DOrcSound P A (orOrc a b) := by
  rintro f args d (h | h)
  · exact ha f args d h
  · exact hb f args d h

/-- Calls on values without addresses that return one. -/
abbrev ClosedT := FuncId → List Value → Value → Prop
def closedOrc (c : ClosedT) : DOracle := fun f args d => ∃ vs v, c f vs v ∧ args = vs.map ofV ∧ d = ofV v
structure ClosedOk (P : Program) (A : Beside) (c : ClosedT) : Prop where
  args : ∀ f vs v, c f vs v → ∀ u ∈ vs, closedV u = true ∧ toV (ofV u) = some u
  val : ∀ f vs v, c f vs v → closedV v = true
  run : ∀ f vs v, c f vs v → ∀ φ H w, A φ H w → Calls P f vs.toArray w fun e w' => e = .returned v ∧ Below w.heap.size w w'
theorem closedOrc_sound {P : Program} {A : Beside} {c : ClosedT} (h : ClosedOk P A c) : DOrcSound P A (closedOrc c) := by
  rintro f args d ⟨us, v, hc, rfl, rfl⟩ r φ w hs vs args' dl hargs
  have hvs := back_eq (r := r) (us := us) (vs := vs) (List.map_congr_left fun u hu => (h.args _ _ _ hc u hu).2) dl
  subst hvs
  have ha := LRel.of_closed (fun u hu => (h.args _ _ _ hc u hu).1) hargs
  rw [show args' = vs.toArray by rw [← ha]]
  refine (h.run _ _ _ hc φ r.H w hs.2).mono fun e w' ⟨he, hb⟩ => ?_
  exact ⟨r, v, v, φ, he, .refl r, fun S h => h, step_below hs.1 hb, .ofV v, VRel.closed (h.val _ _ _ hc)⟩
theorem CallD.closedOrc {P : Program} {orc : DOracle} {c : ClosedT} (hi : ∀ f args d, DM.closedOrc c f args d → orc f args d) {f : FuncId} {us : List Value} {v : Value} {S : Mem} (h : c f us v) : CallD P orc f (us.map ofV) S fun d S' => S' = S ∧ d = ofV v :=
  ⟨_, _, .orc (hi _ _ _ ⟨us, v, h, rfl, rfl⟩), rfl, rfl⟩

/-- Calls that return a new slice of elements of one cell. -/
abbrev NewT := FuncId → List Value → List Value → Prop
def newOrc (c : NewT) : DOracle := fun f args d => ∃ vs cs, c f vs cs ∧ args = vs.map ofV ∧ d = .sl none 1 cs.length (cs.map ofS)
structure NewOk (P : Program) (A : Beside) (c : NewT) : Prop where
  args : ∀ f vs v, c f vs v → ∀ u ∈ vs, closedV u = true ∧ toV (ofV u) = some u
  val : ∀ f vs v, c f vs v → ∀ u ∈ v, scalarV u = true
  run : ∀ f vs v, c f vs v → ∀ φ H w, A φ H w → ∃ t : TypeId, Calls P f vs.toArray w fun e w' => e = .returned (.slice (some ⟨w.heap.size, 0, none⟩) v.length v.length) ∧ w' = w.alloc (.cells v.toArray t)
theorem newOrc_sound {P : Program} {A : Beside} {c : NewT} (h : NewOk P A c) : DOrcSound P A (newOrc c) := by
  rintro f args d ⟨us, cs, hc, rfl, rfl⟩ r φ w hs vs args' dl hargs
  have hvs := back_eq (r := r) (us := us) (vs := vs) (List.map_congr_left fun u hu => (h.args _ _ _ hc u hu).2) dl
  subst hvs
  have ha := LRel.of_closed (fun u hu => (h.args _ _ _ hc u hu).1) hargs
  rw [show args' = vs.toArray by rw [← ha]]
  obtain ⟨t, hrun⟩ := h.run _ _ _ hc φ r.H w hs.2
  refine hrun.mono fun e w' ⟨he, hb⟩ => ?_
  subst hb
  have hval := h.val _ _ _ hc
  have hst : Step 0 φ r.H w (extP φ r.H.length ⟨w.heap.size, 0, cs.length, 1⟩) (newB r.H ⟨cs, 1, false, 0, []⟩) (w.alloc (.cells cs.toArray t)) :=
    step_newB (nb := ⟨cs, 1, false, 0, []⟩) (cs := cs.toArray) (e := t) (fr := (0, 0)) (fin := cs.length) hs.1 (by rfl) rfl rfl rfl (Nat.le_refl _) (by simp) (fun i _ h => by omega) (Nat.zero_le _) (fun p hp => by cases hp)
      (fun i v hv => ⟨v, by simpa using hv, .scalar (hval v (List.mem_of_getElem? hv))⟩)
  have hnew : hget (newB r.H ⟨cs, 1, false, 0, []⟩) r.H.length = some ⟨cs, 1, false, 0, []⟩ := by simp [newB, hget_new_at]
  have hold : ∀ h, h < r.H.length → hget (newB r.H ⟨cs, 1, false, 0, []⟩) h = hget r.H h := fun h hh => by rw [newB, hget_new_old hh]
  refine ⟨⟨r.n, r.ψ, fun h => h == r.H.length || r.k h, newB r.H ⟨cs, 1, false, 0, []⟩⟩, .slice (some ⟨r.H.length, 0, none⟩) cs.length cs.length, _, _, he, ?_, ?_, hst, ?_, ?_⟩
  · refine ⟨Nat.le_refl _, fun _ _ => rfl, hst.len, fun h b hk hg => ⟨by simp [hk], b, ?_, rfl, rfl⟩⟩
    rw [hold h (hget_lt hg)]
    exact hg
  · intro S hS
    refine ⟨hS.n, fun o cells ho => ?_, fun id hid => ?_, hS.inj⟩
    · obtain ⟨b, g, hw, hl, hk, hd⟩ := hS.obj o cells ho
      have hlt := hget_lt g
      refine ⟨b, (hold _ hlt).trans g, hw, hl, by simp [hk, Nat.ne_of_lt hlt], hd.mono ?_⟩
      refine ⟨Nat.le_refl _, fun _ _ => rfl, hst.len, fun h b hk hg => ⟨by simp [hk], b, ?_, rfl, rfl⟩⟩
      rw [hold h (hget_lt hg)]
      exact hg
    · obtain ⟨b, g, hw, hk⟩ := hS.own id hid
      exact ⟨b, (hold _ (hget_lt g)).trans g, hw, by simp [hk]⟩
  · refine .sl none 1 cs.length (cs.map ofS) cs r.H.length 0 cs.length _ (by simp) hnew rfl ?_ (Nat.le_refl _) (by simp) (by simp) (fun id h => by cases h) (fun i h1 h2 => ?_)
    · have := readA_mk (H := newB r.H ⟨cs, 1, false, 0, []⟩) (h := r.H.length) (o := 0) (n := cs.length) hnew (by simp)
      simpa using this
    · rw [List.getElem_map]
      have := hval cs[i] (List.getElem_mem _)
      exact .ofS _
  · have := VRel.sl (n := (newB r.H ⟨cs, 1, false, 0, []⟩).length) (φ := extP φ r.H.length ⟨w.heap.size, 0, cs.length, 1⟩) r.H.length 0 cs.length cs.length cs.length (by simp [newB]) (Nat.le_refl _) (Nat.le_refl _) (by simp [extP_eq])
    simpa [extP_eq] using this
theorem CallD.newOrc {P : Program} {orc : DOracle} {c : NewT} (hi : ∀ f args d, DM.newOrc c f args d → orc f args d) {f : FuncId} {us cs : List Value} {S : Mem} (h : c f us cs) : CallD P orc f (us.map ofV) S fun d S' => S' = S ∧ d = .sl none 1 cs.length (cs.map ofS) :=
  ⟨_, _, .orc (hi _ _ _ ⟨us, cs, h, rfl, rfl⟩), rfl, rfl⟩

/-- What a slice of one-cell elements without addresses is in the model. -/
theorem slice_of {r : Rl} {φ : Nat → AM.Place} {w : World} (hs : Sim φ r.H w) {own : Option Nat} {n : Nat} {cs : List Value} (hsc : ∀ u ∈ cs, scalarV u = true) (hb : cs.map (fun v => toV (ofS v)) = cs.map some) {v v' : Value}
    (hd : DRel r (.sl own 1 n (cs.map ofS)) v) (hv : VRel r.H.length φ v v') :
    (n = 0 ∧ cs = [] ∧ ∃ a c, v' = .slice a 0 c) ∨ (n = cs.length ∧ ∃ bk o c, v' = .slice (some ⟨bk, o, none⟩) cs.length c ∧ cs.length ≤ c ∧ bk < w.heap.size ∧ ∀ j x, cs[j]? = some x → w.cell? ⟨bk, o + j, none⟩ = some x) := by
  generalize hx : cs.map ofS = xs at hd
  cases hd with
  | slE sz v h =>
    left
    refine ⟨rfl, by simpa using hx, ?_⟩
    rcases h with rfl | rfl
    · cases hv; exact ⟨_, _, rfl⟩
    · cases hv; exact ⟨_, _, rfl⟩
  | sl own sz len cells vs h o m b hk hg hz hr hm hl hs1 ho hc =>
    subst hx
    have hcs : vs = cs := by
      refine List.ext_getElem (by simpa using hl.symm) fun i h1 h2 => ?_
      have := hc i (by simpa using h2) h1
      rw [List.getElem_map] at this
      refine toV_eq this ?_
      have e := congrArg (fun l => l[i]?) hb
      simpa [h2] using e
    subst hcs
    have hn : n = vs.length := by simpa using hs1.symm
    subst hn
    obtain ⟨b', hg', hle, hvs⟩ := readA_some hr
    rw [hg] at hg'
    cases hg'
    have hcell : ∀ j x, vs[j]? = some x → w.cell? ⟨(φ h).B, (φ h).base + o + j, none⟩ = some x := by
      intro j x hj
      obtain ⟨c, e, fr, hB, g1, g2, g3, g4, g5⟩ := hs.cov h b hg
      have hj' : b.cells[o + j]? = some x := by
        rw [hvs, List.getElem?_take] at hj
        split at hj
        · simpa using hj
        · cases hj
      obtain ⟨x', hx', hr'⟩ := g4 (o + j) x hj'
      have : x' = x := by
        exact hr'.scalar_eq (hsc x (List.mem_of_getElem? hj))
      subst this
      simp only [World.cell?, hB]
      simpa [Nat.add_assoc] using hx'
    have hbk : (φ h).B < w.heap.size := by
      obtain ⟨c, e, fr, hB, _⟩ := hs.cov h b hg
      exact (Array.getElem?_eq_some_iff.1 hB).1
    generalize hq : vs.length = q at hv
    cases hv with
    | sl _ _ _ _ c hn hl' hmc hf => subst hq; exact .inr ⟨rfl, _, _, c, rfl, by omega, hbk, hcell⟩
    | slEmp _ _ bb hn => exact .inl ⟨rfl, List.eq_nil_of_length_eq_zero hq, _, _, rfl⟩
end Go.DM
