/- An abstract machine over Go's operations: what it does, the model does. -/
import Derived.Test.YtipeffaojbhbmaaDoorAmI
set_option linter.unusedSimpArgs false
set_option linter.unusedVariables false
namespace Go.AM
open Go

def toExit : AExit → Exit
  | .normal => .normal
  | .exit id => .exit id
  | .ret => .ret

theorem wanted_eq {n φ sz ρ a} (he : ERel n φ sz ρ a) (ops : Array Oper) (o : Oper) : Region.wanted o (yielded ops a.tmps) = Region.wanted o (yieldedA ops ρ) := by
  have : ∀ j, yielded ops a.tmps j = yieldedA ops ρ j := by
    intro j
    unfold yielded yieldedA
    cases hd : (ops[j]?).bind (·.dst) with
    | none => rfl
    | some t =>
      simp only [Option.bind_some]
      have hv := he.vals t
      rcases Nat.lt_or_ge t a.tmps.size with ht | ht
      · have hg : a.tmps[t]? = some (a.tmps.getD t undef) := by simp [ht, Array.getD]
        rw [hg]
        generalize a.tmps.getD t undef = u at hv
        generalize ρ t = r at hv
        cases hv <;> rfl
      · rw [Array.getElem?_eq_none ht]
        have hu : a.tmps.getD t undef = undef := by simp [Array.getD_eq_getD_getElem?, Array.getElem?_eq_none ht]
        rw [hu] at hv
        generalize ρ t = r at hv
        unfold undef at hv
        cases hv
        rfl
  unfold Region.wanted
  cases o.guard with
  | none => rfl
  | some g => simp [this]

def resSem (tmps : Array Value) : ResultVar → Sem Value
  | .tmp t => pure (tmps.getD t undef)
  | .cell c t => do loadVar t (← asAddr (tmps.getD c undef))
theorem results_eq (fn : Func) (tmps : Array Value) : results fn tmps = (do
    let vs ← fn.results.mapM (resSem tmps)
    pure (if h : vs.size = 1 then vs[0] else .tuple vs) : Sem Value) := rfl

theorem run_results {P : Program} {φ H w} (hs : Sim φ H w) {fn : Func} {sz : Nat} {ρ : Env} {a : Act} (he : ERel H.length φ sz ρ a) {v : Value} (h : resultsA P fn ρ H = some v) :
    ∃ v', (results fn a.tmps).run P w = .ok v' w ∧ VRel H.length φ v v' := by
  have one : ∀ {r : ResultVar} {v : Value}, resultA P ρ H r = some v → ∃ v', (resSem a.tmps r).run P w = .ok v' w ∧ VRel H.length φ v v' := by
    intro r v hr
    cases r with
    | tmp t => simp only [resultA, Option.some.injEq] at hr; subst hr; exact ⟨_, rfl, he.vals t⟩
    | cell c t =>
      simp only [resultA] at hr
      obtain ⟨v', a', hx, hrun, hv⟩ := run_loadVarA (P := P) hs hr (he.vals c)
      exact ⟨v', by simp only [resSem, hx, asAddr, Sem.run_bind, Sem.run_pure, Result.andThen_ok]; exact hrun, hv⟩
  have many : ∀ (rs : List ResultVar) {vs : List Value}, rs.mapM (resultA P ρ H) = some vs → ∃ vs', (rs.mapM (resSem a.tmps)).run P w = .ok vs' w ∧ LRel H.length φ vs vs' := by
    intro rs
    induction rs with
    | nil => intro vs hv; simp at hv; subst hv; exact ⟨[], rfl, .nil⟩
    | cons r rs ih =>
      intro vs hv
      simp only [List.mapM_cons, Option.bind_eq_bind, Option.bind_eq_some_iff] at hv
      obtain ⟨u, hu, us, hus, hv⟩ := hv
      simp only [Option.pure_def, Option.some.injEq] at hv
      subst hv
      obtain ⟨u', hr, hur⟩ := one hu
      obtain ⟨us', hrs, husr⟩ := ih hus
      exact ⟨u' :: us', by simp only [List.mapM_cons, Sem.run_bind, hr, Result.andThen_ok, hrs]; rfl, .cons hur husr⟩
  unfold resultsA at h
  rw [results_eq, Array.mapM_eq_mapM_toList]
  split at h
  · rename_i r hr
    obtain ⟨v', hrun, hv⟩ := one h
    refine ⟨v', ?_, hv⟩
    rw [hr]
    simp only [List.mapM_cons, List.mapM_nil, Sem.run_bind, Sem.run_map, hrun, Result.andThen_ok]
    simp
  · rename_i hne
    simp only [Option.map_eq_some_iff] at h
    obtain ⟨vs, hvs, rfl⟩ := h
    obtain ⟨vs', hrun, hv⟩ := many _ hvs
    refine ⟨.tuple vs'.toArray, ?_, .tuple_of hv⟩
    simp only [Sem.run_bind, Sem.run_map, hrun, Result.andThen_ok]
    have hlen : vs'.length ≠ 1 := by
      intro hl
      have hl2 : vs.length = fn.results.toList.length := by
        clear hrun hv hne
        generalize fn.results.toList = rs at hvs
        induction rs generalizing vs with
        | nil => simp at hvs; subst hvs; rfl
        | cons r rs ih =>
          simp only [List.mapM_cons, Option.bind_eq_bind, Option.bind_eq_some_iff] at hvs
          obtain ⟨u, hu, us, hus, hv⟩ := hvs
          simp only [Option.pure_def, Option.some.injEq] at hv
          subst hv
          simp [ih us hus]
      have : fn.results.toList.length = 1 := by rw [← hl2, hv.1, hl]
      obtain ⟨r, hr⟩ := List.length_eq_one_iff.1 this
      exact hne r hr
    simp [hlen]

/-- The rest of a loop: as 'wp', begun at a round. -/
def InLoop (P : Program) (c : Code) (Q : Exit → Act → World → Prop) (a : Act) (w : World) : Prop :=
  ∀ (b : Frame) (k : List Item) (cs : List Frame), ∃ e a' w', Q e a' w' ∧ Arrives P (lone (b.at a (.code c :: .inLoop c :: k)) cs w) b k cs e a' w'

def wpL (P : Program) (c : Code) (Q : Exit → Act → World → Prop) (a : Act) (w : World) : Prop :=
  match c with
  | .loop d => InLoop P d Q a w
  | c => c.wp P Q a w

theorem wpL.wp {P : Program} {c : Code} {Q a w} (h : wpL P c Q a w) : c.wp P Q a w := by
  cases c <;> try exact h
  intro b k cs
  obtain ⟨e, a', w', hq, harr⟩ := h b k cs
  exact ⟨e, a', w', hq, .of_steps (.one step_loop) harr⟩

theorem InLoop.of {P : Program} {c : Code} {Q a w} (h : c.wp P (Exit.then (InLoop P c Q) Q) a w) : InLoop P c Q a w := by
  intro b k cs
  obtain ⟨e, a₁, w₁, hq, harr⟩ := h b (.inLoop c :: k) cs
  cases e with
  | normal =>
    obtain ⟨e₂, a₂, w₂, hq₂, harr₂⟩ := hq b k cs
    exact ⟨e₂, a₂, w₂, hq₂, .of_steps (Steps.trans harr (.one step_inLoop)) harr₂⟩
  | exit id => exact ⟨_, a₁, w₁, hq, .pass (x := .inLoop c) rfl (fun _ _ => .inl (by simp)) harr⟩
  | goto l => exact ⟨_, a₁, w₁, hq, .pass (x := .inLoop c) rfl (fun _ _ => .inl (by simp)) harr⟩
  | ret => exact ⟨_, a₁, w₁, hq, .pass (x := .inLoop c) rfl (fun _ _ => .inl (by simp)) harr⟩
  | panic ch => exact ⟨_, a₁, w₁, hq, .pass (x := .inLoop c) rfl (fun _ _ => .inl (by simp)) harr⟩
  | outgrown => exact ⟨_, a₁, w₁, hq, .pass (x := .inLoop c) rfl (fun _ _ => .inl (by simp)) harr⟩

def Oracle := Nat → FuncId → List Value → Heap → Value → Heap → Prop

/-- The contracts that are taken as they are, are kept. -/
def OrcSound (P : Program) (orc : Oracle) : Prop :=
  ∀ base f args H v H', orc base f args H v H' → ∀ φ w, Sim φ H w → ∀ args', LRel H.length φ args args'.toList →
    Calls P f args' w fun e w' => ∃ v' φ', e = .returned v' ∧ Step base φ H w φ' H' w' ∧ VRel H'.length φ' v v'

def Motive (P : Program) (base : Nat) (j : Job) (H : Heap) (out : Out) (H' : Heap) : Prop :=
  ∀ φ w, Sim φ H w →
    match j, out with
    | .ops sz ops l ρ, .env ρ' => ∀ a, ERel H.length φ sz ρ a → ∀ Q : Exit → Act → World → Prop, (∀ φ' a' w', Step base φ H w φ' H' w' → ERel H'.length φ' sz ρ' a' → Q .normal a' w') → wpOps P ops Q l a w
    | .code sz c ρ, .exit e ρ' => ∀ a, ERel H.length φ sz ρ a → ∀ Q : Exit → Act → World → Prop, (∀ φ' a' w', Step base φ H w φ' H' w' → ERel H'.length φ' sz ρ' a' → Q (toExit e) a' w') → wpL P c Q a w
    | .call f args, .val v => ∀ args', LRel H.length φ args args'.toList → ∀ R : Ending → World → Prop, (∀ v' φ' w', Step base φ H w φ' H' w' → VRel H'.length φ' v v' → R (.returned v') w') → Calls P f args' w R
    | _, _ => True

theorem LRel.of_arrays {n φ} {xs ys : Array Value} (h1 : xs.size = ys.size) (h2 : ∀ i (h : i < xs.size) (h' : i < ys.size), VRel n φ xs[i] ys[i]) : LRel n φ xs.toList ys.toList := by
  refine ⟨by simpa using h1, fun i v v' hv hv' => ?_⟩
  simp only [Array.getElem?_toList] at hv hv'
  obtain ⟨hi, rfl⟩ := Array.getElem?_eq_some_iff.1 hv
  obtain ⟨hi', rfl⟩ := Array.getElem?_eq_some_iff.1 hv'
  exact h2 i hi hi'

theorem init_rel {n φ} {args : List Value} {args' : Array Value} {sz : Nat} (h : LRel n φ args args'.toList) (ha : args.length ≤ sz) :
    ERel n φ sz (initEnv args) { tmps := args' ++ Array.replicate (sz - args'.size) undef, defers := [] } := by
  have hl : args.length = args'.size := by simpa using h.1
  refine ⟨by simp; omega, fun t => ?_, rfl⟩
  rcases Nat.lt_or_ge t args.length with ht | ht
  · have ht' : t < args'.size := by omega
    have e1 : initEnv args t = args[t] := by simp [initEnv, ht]
    have e2 : (args' ++ Array.replicate (sz - args'.size) undef).getD t undef = args'[t] := by
      rw [Array.getD_eq_getD_getElem?, Array.getElem?_append_left ht']; simp [ht']
    rw [e1]
    simp only [e2]
    exact h.2 t _ _ (List.getElem?_eq_getElem ht) (by simp [ht'])
  · have e1 : initEnv args t = undef := by simp [initEnv, ht]
    have e2 : (args' ++ Array.replicate (sz - args'.size) undef).getD t undef = undef := by
      rw [Array.getD_eq_getD_getElem?, Array.getElem?_append_right (by omega)]
      by_cases hh : t - args'.size < sz - args'.size
      · simp [hh]
      · rw [Array.getElem?_eq_none (by simp; omega)]; rfl
    rw [e1]
    simp only [e2]
    exact .undef

theorem sim_nil {φ : Nat → Place} {w : World} : Sim φ [] w :=
  ⟨fun h b hg => by simp [hget] at hg, fun h h' b b' _ hg => by simp [hget] at hg, fun h b p b' hg => by simp [hget] at hg, fun h b p hg => by simp [hget] at hg⟩

/-- What ran beside a memory left it as it was. -/
theorem Step.beside {base base' φ φ1 φ' H w H1 w1} (s : Step base' φ' [] w φ1 H1 w1) (hs : Sim φ H w) : Step base φ H w φ H w1 := by
  have hf : ∀ b, b < w.heap.size → w1.heap[b]? = w.heap[b]? := fun b hb => s.frame b hb fun h blk _ hg => by simp [hget] at hg
  refine ⟨Nat.le_refl _, fun _ _ => rfl, s.size, s.os, s.tape, s.output, fun b hb _ => hf b hb, fun h b' _ hb => ⟨b', hb, id⟩, fun h b hb hg hr => .inr ⟨h, b, hb, hg, hr, rfl⟩, ?_, hs.apart, hs.par, hs.parlt⟩
  intro h b hg
  obtain ⟨c, e, fr, hB, g⟩ := hs.cov h b hg
  exact ⟨c, e, fr, by rw [hf _ (Array.getElem?_eq_some_iff.1 hB).1]; exact hB, g⟩

/-- What came new is forgotten. -/
theorem Step.drop {base φ φ' H w H1 w'} (s : Step base φ H w φ' H1 w') (hs : Sim φ H w) (up : ∀ h b, hget H h = some b → hget H1 h = some b) : Step base φ H w φ' H w' := by
  refine ⟨Nat.le_refl _, s.keep, s.size, s.os, s.tape, s.output, s.frame, fun h b' hh hg => s.old h b' hh (up _ _ hg), fun h' b' hb hg hr => s.later h' b' hb (up _ _ hg) hr, ?_, ?_, ?_, ?_⟩
  · intro h b hg
    obtain ⟨c, e, fr, hB, g1, g2, g3, g4, g5⟩ := s.sim.cov h b (up _ _ hg)
    refine ⟨c, e, fr, hB, g1, g2, g3, fun i v hv => ?_, g5⟩
    obtain ⟨v', hv', hr⟩ := g4 i v hv
    obtain ⟨c0, e0, fr0, hB0, _, _, _, k4, _⟩ := hs.cov h b hg
    obtain ⟨v0, _, hr0⟩ := k4 i v hv
    exact ⟨v', hv', hr0.low.lower hr⟩
  · exact fun h h' b b' hn hg hg' hr => s.sim.apart h h' b b' hn (up _ _ hg) (up _ _ hg') hr
  · exact fun h b p b' hg hp hg' => s.sim.par h b p b' (up _ _ hg) hp (up _ _ hg')
  · exact hs.parlt

theorem LRel.of_closed {n φ} {l : List Value} (h : ∀ v ∈ l, closedV v = true) {l' : List Value} (hl : LRel n φ l l') : l' = l := by
  refine List.ext_getElem? fun i => ?_
  cases hi : l[i]? with
  | none => rw [List.getElem?_eq_none_iff] at hi ⊢; rw [← hl.1]; exact hi
  | some v =>
    have hlt := (List.getElem?_eq_some_iff.1 hi).1
    have hlt' : i < l'.length := hl.1 ▸ hlt
    have : l'[i]? = some l'[i] := by rw [List.getElem?_eq_getElem]
    rw [this]
    exact congrArg some ((hl.2 i v _ hi this).closed_eq (h v (List.mem_of_getElem? hi)))

theorem Big.sound {P : Program} {orc : Oracle} (horc : OrcSound P orc) {base : Nat} {j : Job} {H : Heap} {out : Out} {H' : Heap} (h : Big P orc base j H out H') : Motive P base j H out H' := by
  induction h with
  | opsNil => intro φ w hs a he Q hq; exact hq φ a w (.refl hs) he
  | @opsSkip base sz ops i l ρ H out H' o ho hw hd h ih =>
    intro φ w hs
    cases out with
    | env ρ' =>
      intro a he Q hq
      simp only [wpOps, ho]
      rw [wanted_eq he, hw]
      simp only [Bool.false_eq_true, if_false]
      exact ih φ w hs _ (he.put hd .undef) Q hq
    | _ => trivial
  | @opsOp base sz ops i l ρ H H1 v out H' o ho hw hd hc hop h ih =>
    intro φ w hs
    cases out with
    | env ρ' =>
      intro a he Q hq
      simp only [wpOps, ho]
      rw [wanted_eq he, hw]
      simp only [if_true]
      left
      obtain ⟨v', w1, φ1, r, hrun, hr, hst, hv⟩ := opA_sound hs he hc hop
      have he1 : ERel H1.length φ1 sz (put ρ o.dst v) (a.put o.dst v') := (he.mono hst.len hst.keep).put hd hv
      have hih := ih φ1 w1 hst.sim _ he1 Q (fun φ' a' w' hst' he' => hq φ' a' w' (hst.trans hst') he')
      unfold Oper.wp
      rw [hrun]
      rcases hr with rfl | ⟨rfl, rfl⟩
      · exact hih
      · exact hih
    | _ => trivial
  | @opsCall base sz ops i l ρ H H1 v out H' o f args fn ho hw hd hc ht hf hn hb hcall h ihc ih =>
    intro φ w hs
    cases out with
    | env ρ' =>
      intro a he Q hq
      simp only [wpOps, ho]
      rw [wanted_eq he, hw]
      simp only [if_true]
      left
      unfold targetA at ht
      unfold Oper.wp execOp
      split at ht
      · rename_i fo argo ato hop
        rw [hop] at hc
        simp only [hop]
        have hall := List.all_eq_true.1 hc
        have hfo := he.eval (hall fo (by simp [Op.operands, Call.operands]))
        split at ht
        · rename_i g first captured hg
          simp only [Option.some.injEq, Prod.mk.injEq] at ht
          obtain ⟨rfl, rfl⟩ := ht
          rw [hg] at hfo
          generalize hfe : a.eval fo = f' at hfo
          cases hfo with
          | func _ xs ys cs ds h1 h2 h3 h4 =>
            have hargs := args_two he (args := argo) (List.all_eq_true.2 fun y hy => hall y (by simp [Op.operands, Call.operands]; simp at hy; exact .inr hy))
            have hrun : (do let d ← resolve a.eval { callee := .value fo, args := argo, argTypes := ato } o.type; invoke d.target d.args : Sem Next).run P w = .ok (.enter g (ys ++ argo.map a.eval ++ ds)) w := by
              have hb' : fn.body ≠ none := by intro h; simp [h] at hb
              simp [resolve, hfe, Deferred.ofValue, invoke, callFunc, hf, hn, hb']
            rw [hrun]
            have hl : LRel H.length φ (first.toList ++ argo.toList.map (evalA ρ) ++ captured.toList) (ys ++ argo.map a.eval ++ ds).toList := by
              simp only [Array.toList_append]
              exact ((LRel.of_arrays h1 h2).append hargs).append (LRel.of_arrays h3 h4)
            refine ihc φ w hs _ hl _ (fun v' φ1 w1 hst hv => ?_)
            exact ih φ1 w1 hst.sim _ ((he.mono hst.len hst.keep).put hd hv) Q (fun φ' a' w' hst' he' => hq φ' a' w' (hst.trans hst') he')
        · cases ht
      · cases ht
    | _ => trivial
  | skip => intro φ w hs a he Q hq; exact wp_skip (hq φ a w (.refl hs) he)
  | label => intro φ w hs a he Q hq; exact wp_label (hq φ a w (.refl hs) he)
  | exit => intro φ w hs a he Q hq; exact wp_exit (hq φ a w (.refl hs) he)
  | ret => intro φ w hs a he Q hq; exact wp_ret (hq φ a w (.refl hs) he)
  | @seqN base sz c d ρ ρ1 H H1 out H' h1 h2 ih1 ih2 =>
    intro φ w hs
    cases out with
    | exit e ρ' =>
      intro a he Q hq
      refine wp_seq (wpL.wp (ih1 φ w hs a he _ fun φ1 a1 w1 hst he1 => ?_))
      exact wpL.wp (ih2 φ1 w1 hst.sim a1 he1 Q fun φ' a' w' hst' he' => hq φ' a' w' (hst.trans hst') he')
    | _ => trivial
  | @seqE base sz c d ρ ρ1 H H1 e h1 he1 ih1 =>
    intro φ w hs a he Q hq
    refine wp_seq (wpL.wp (ih1 φ w hs a he _ fun φ1 a1 w1 hst he2 => ?_))
    cases e with
    | normal => exact absurd rfl he1
    | exit id => exact hq φ1 a1 w1 hst he2
    | ret => exact hq φ1 a1 w1 hst he2
  | @cond base sz c x y ρ H out H' t hk hc h ih =>
    intro φ w hs
    cases out with
    | exit e ρ' =>
      intro a he Q hq
      have hcr := he.eval hk
      rw [hc] at hcr
      generalize hce : a.eval c = c' at hcr
      cases hcr
      exact wp_cond hce (wpL.wp (ih φ w hs a he Q hq))
    | _ => trivial
  | blockN h ih =>
    intro φ w hs a he Q hq
    exact wp_block (wpL.wp (ih φ w hs a he _ fun φ1 a1 w1 hst he1 => hq φ1 a1 w1 hst he1))
  | blockX h ih =>
    intro φ w hs a he Q hq
    exact wp_block (wpL.wp (ih φ w hs a he _ fun φ1 a1 w1 hst he1 => by simp only [toExit, Exit.inBlock, if_true]; exact hq φ1 a1 w1 hst he1))
  | @blockE base sz id c ρ ρ1 H H1 e h h1 h2 ih =>
    intro φ w hs a he Q hq
    refine wp_block (wpL.wp (ih φ w hs a he _ fun φ1 a1 w1 hst he1 => ?_))
    cases e with
    | normal => exact absurd rfl h1
    | exit id' =>
      have : id' ≠ id := fun he => h2 (by rw [he])
      simp only [toExit, Exit.inBlock, this, if_false]
      exact hq φ1 a1 w1 hst he1
    | ret => exact hq φ1 a1 w1 hst he1
  | @loopN base sz c ρ ρ1 H H1 out H' h1 h2 ih1 ih2 =>
    intro φ w hs
    cases out with
    | exit e ρ' =>
      intro a he Q hq
      refine InLoop.of (wpL.wp (ih1 φ w hs a he _ fun φ1 a1 w1 hst he1 => ?_))
      exact ih2 φ1 w1 hst.sim a1 he1 Q fun φ' a' w' hst' he' => hq φ' a' w' (hst.trans hst') he'
    | _ => trivial
  | @loopE base sz c ρ ρ1 H H1 e h1 he1 ih1 =>
    intro φ w hs a he Q hq
    refine InLoop.of (wpL.wp (ih1 φ w hs a he _ fun φ1 a1 w1 hst he2 => ?_))
    cases e with
    | normal => exact absurd rfl he1
    | exit id => exact hq φ1 a1 w1 hst he2
    | ret => exact hq φ1 a1 w1 hst he2
  | region h ih =>
    intro φ w hs a he Q hq
    exact wp_region (ih φ w hs a he Q hq)
  | @regionD base sz id ops ρ ρ1 H H1 hm h ih =>
    intro φ w hs a he Q hq
    have hd : Step base φ _ w φ _ { w with drawn := w.drawn + 1 } := .draw hs rfl rfl rfl rfl
    refine wp_region_draw fun t => ?_
    simp only [Region.schedule, hm, Bool.true_or, if_true]
    exact ih t φ { w with drawn := w.drawn + 1 } hd.sim a he Q fun φ' a' w' hst he' => hq φ' a' w' (hd.trans hst) he'
  | @call base f args fn c e ρ H H' v hf hb ha h he hv ih =>
    intro φ w hs args' hargs R hR
    have hie := init_rel hargs ha
    refine calls_of_wp hf hb (wpL.wp (ih φ w hs _ hie _ fun φ1 a1 w1 hst he1 => ?_))
    obtain ⟨v', hrun, hvr⟩ := run_results hst.sim he1 hv
    have : a1.defers = [] ∧ ∃ v, (results fn a1.tmps).run P w1 = .ok v w1 ∧ R (.returned v) w1 := ⟨he1.defers, v', hrun, hR v' φ1 w1 hst hvr⟩
    rcases he with rfl | rfl
    · exact this
    · exact this
  | @orc base f args H v H' h =>
    intro φ w hs args' hargs R hR
    refine (horc base f args H v H' h φ w hs args' hargs).mono fun e w' he => ?_
    obtain ⟨v', φ', rfl, hst, hv⟩ := he
    exact hR v' φ' w' hst hv
  | @pure base base' f args H H1 v h ha hv ih =>
    intro φ w hs args' hargs R hR
    simp only [List.all_eq_true] at ha
    have e := LRel.of_closed ha hargs
    refine ih φ w sim_nil args' ?_ R fun v' φ1 w1 hst hvr => ?_
    · rw [e]
      exact ⟨rfl, fun i v v' hv hv' => by rw [hv] at hv'; cases hv'; exact .closed (ha v (List.mem_of_getElem? hv))⟩
    · have := hvr.closed_eq hv
      subst this
      exact hR v' φ w1 (hst.beside hs) (.closed hv)
  | @drop base f args H H1 v h hk hv ih =>
    intro φ w hs args' hargs R hR
    exact ih φ w hs args' hargs R fun v' φ1 w1 hst hvr => hR v' φ1 w1 (hst.drop hs hk) (hv.lower hvr)

end Go.AM
