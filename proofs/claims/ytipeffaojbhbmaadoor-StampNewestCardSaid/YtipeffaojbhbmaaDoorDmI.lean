/- A machine over Go's operations in which slices are values: its soundness. -/
import Derived.Test.YtipeffaojbhbmaaDoorDmH
set_option linter.unusedSimpArgs false
set_option linter.unusedVariables false
namespace Go.DM
open Go Go.AM

theorem result_rel {P : Program} {r : Rl} {S : Mem} (hS : SRel r S) {ρ ρA} (he : envRel r ρ ρA) {x : ResultVar} {d : D} (h : resultD P ρ S x = some d) : ∃ v, resultA P ρA r.H x = some v ∧ DRel r d v := by
  cases x with
  | tmp t => simp only [resultD, Option.some.injEq] at h; subst h; exact ⟨_, rfl, he t⟩
  | cell a t => exact load_rel hS (he a) h

theorem resultL_rel {P : Program} {r : Rl} {S : Mem} (hS : SRel r S) {ρ ρA} (he : envRel r ρ ρA) : ∀ {xs : List ResultVar} {ds : List D}, resultsL P ρ S xs = some ds → ∃ vs, xs.mapM (resultA P ρA r.H) = some vs ∧ DL r ds vs
  | [], ds, h => by simp [resultsL] at h; subst h; exact ⟨[], by simp, .nil⟩
  | x :: xs, ds, h => by
    simp only [resultsL] at h
    split at h
    · rename_i d ds' hd hds
      cases h
      obtain ⟨v, hv, dv⟩ := result_rel hS he hd
      obtain ⟨vs, hvs, dvs⟩ := resultL_rel hS he hds
      exact ⟨v :: vs, by simp [List.mapM_cons, hv, hvs], .cons dv dvs⟩
    · cases h

theorem results_rel {P : Program} {r : Rl} {S : Mem} (hS : SRel r S) {ρ ρA} (he : envRel r ρ ρA) {fn : Func} {d : D} (h : resultsD P fn ρ S = some d) : ∃ v, resultsA P fn ρA r.H = some v ∧ DRel r d v := by
  unfold resultsD at h
  unfold resultsA
  split at h
  · rename_i x hx
    obtain ⟨v, hv, dv⟩ := result_rel hS he h
    exact ⟨v, by rw [hx]; exact hv, dv⟩
  · rename_i rs hne
    simp only [Option.map_eq_some_iff] at h
    obtain ⟨ds, hds, rfl⟩ := h
    obtain ⟨vs, hvs, dvs⟩ := resultL_rel hS he hds
    refine ⟨.tuple vs.toArray, ?_, .tup _ _ (by simpa using dvs.1) fun i a b => by simp only [List.getElem_toArray]; exact dvs.2 i a (by simpa using b)⟩
    split
    · rename_i x hx; exact absurd hx (hne x)
    · simp [hvs]

theorem init_envRel {r : Rl} {args : List D} {vs : List Value} (h : DL r args vs) : envRel r (initD args) (initEnv vs) := by
  intro t
  simp only [initD, initEnv, List.getD_eq_getElem?_getD]
  rcases Nat.lt_or_ge t args.length with ht | ht
  · have ht' : t < vs.length := h.1 ▸ ht
    simp only [List.getElem?_eq_getElem ht, List.getElem?_eq_getElem ht', Option.getD_some]
    exact h.2 t ht ht'
  · rw [List.getElem?_eq_none ht, List.getElem?_eq_none (h.1 ▸ ht)]
    exact .undef

theorem BigD.sound {P : Program} {A : Beside} (hA : Kept A) {orc : DOracle} (horc : DOrcSound P A orc) {m : Nat} {j : DJob} {S : Mem} {out : DOut} {S' : Mem} (h : BigD P orc m j S out S') : DMotive P A m j S out S' := by
  induction h with
  | opsNil => intro r φ w hS hs hm ρA a hr he Q hq; exact hq r φ ρA a w (.refl hm) hS (.refl hs.1) hr he
  | @opsSkip m sz ops i l ρ S out S' o g b ho hg hy hw hd h ih =>
    intro r φ w hS hs
    cases out with
    | env ρ' =>
      intro hm ρA a hr he Q hq
      simp only [wpOps, ho]
      rw [wanted_eq he, unwanted_rel hr hg hy hw]
      simp only [Bool.false_eq_true, if_false]
      exact ih r φ w hS hs hm _ _ (hr.put .undef o.dst) (he.put hd .undef) Q hq
    | _ => trivial
  | @opsOp m sz ops i l ρ S S1 v out S' o ho hw hd hc hop h ih =>
    intro r φ w hS hs
    cases out with
    | env ρ' =>
      intro hm ρA a hr he Q hq
      simp only [wpOps, ho]
      rw [wanted_eq he, wanted_rel hr hw]
      simp only [if_true]
      left
      obtain ⟨u, H1, r1, hopA, rfl, le, sr, dr⟩ := op_rel hS hr hop
      obtain ⟨v', w1, φ1, rr, hrun, hrr, hst, hv⟩ := opA_sound hs.1 he hc hopA
      have he1 : ERel r1.H.length φ1 sz (put ρA o.dst u) (a.put o.dst v') := (he.mono hst.len hst.keep).put hd hv
      have hih := ih r1 φ1 w1 sr ⟨hst.sim, hA _ _ _ _ _ _ hs.2 hst⟩ (Nat.le_trans hm le.n) _ _ ((hr.mono le).put dr o.dst) he1 Q (fun r' φ' ρA' a' w' lf sr' hst' hr' he' => hq r' φ' ρA' a' w' ((LeF.of le hm).trans lf) sr' (hst.trans hst') hr' he')
      unfold Oper.wp
      rw [hrun]
      rcases hrr with rfl | ⟨rfl, rfl⟩
      · exact hih
      · exact hih
    | _ => trivial
  | @opsCall m sz ops i l ρ S S1 v out S' o f args fn ho hw hd hc ht hf hn hb hcall h ihc ih =>
    intro r φ w hS hs
    cases out with
    | env ρ' =>
      intro hm ρA a hr he Q hq
      simp only [wpOps, ho]
      rw [wanted_eq he, wanted_rel hr hw]
      simp only [if_true]
      left
      obtain ⟨vs, htA, dvs⟩ := target_rel hr ht
      unfold targetA at htA
      unfold Oper.wp execOp
      split at htA
      · rename_i fo argo ato hop
        rw [hop] at hc
        simp only [hop]
        have hall := List.all_eq_true.1 hc
        have hfo := he.eval (hall fo (by simp [Op.operands, Call.operands]))
        split at htA
        · rename_i g first captured hg
          simp only [Option.some.injEq, Prod.mk.injEq] at htA
          obtain ⟨rfl, rfl⟩ := htA
          rw [hg] at hfo
          generalize hfe : a.eval fo = f' at hfo
          cases hfo with
          | func _ xs ys cs ds h1 h2 h3 h4 =>
            have hargs := args_two he (args := argo) (List.all_eq_true.2 fun y hy => hall y (by simp [Op.operands, Call.operands]; simp at hy; exact .inr hy))
            have hrun : (do let d ← resolve a.eval { callee := .value fo, args := argo, argTypes := ato } o.type; invoke d.target d.args : Sem Next).run P w = .ok (.enter g (ys ++ argo.map a.eval ++ ds)) w := by
              have hb' : fn.body ≠ none := by intro h; simp [h] at hb
              simp [resolve, hfe, Deferred.ofValue, invoke, callFunc, hf, hn, hb']
            rw [hrun]
            have hl : LRel r.H.length φ (first.toList ++ argo.toList.map (evalA ρA) ++ captured.toList) (ys ++ argo.map a.eval ++ ds).toList := by
              simp only [Array.toList_append]
              exact ((LRel.of_arrays h1 h2).append hargs).append (LRel.of_arrays h3 h4)
            refine ihc r φ w hS hs _ _ dvs hl _ (fun r1 u v' φ1 w1 le sr hst dr hv => ?_)
            exact ih r1 φ1 w1 sr ⟨hst.sim, hA _ _ _ _ _ _ hs.2 hst⟩ (Nat.le_trans hm le.n) _ _ ((hr.mono le).put dr o.dst) ((he.mono hst.len hst.keep).put hd hv) Q (fun r' φ' ρA' a' w' lf sr' hst' hr' he' => hq r' φ' ρA' a' w' ((LeF.of le hm).trans lf) sr' (hst.trans hst') hr' he')
        · cases htA
      · cases htA
    | _ => trivial
  | skip => intro r φ w hS hs hm ρA a hr he Q hq; exact wp_skip (hq r φ ρA a w (.refl hm) hS (.refl hs.1) hr he)
  | label => intro r φ w hS hs hm ρA a hr he Q hq; exact wp_label (hq r φ ρA a w (.refl hm) hS (.refl hs.1) hr he)
  | exit => intro r φ w hS hs hm ρA a hr he Q hq; exact wp_exit (hq r φ ρA a w (.refl hm) hS (.refl hs.1) hr he)
  | ret => intro r φ w hS hs hm ρA a hr he Q hq; exact wp_ret (hq r φ ρA a w (.refl hm) hS (.refl hs.1) hr he)
  | @seqN m sz c d ρ ρ1 S S1 out S' h1 h2 ih1 ih2 =>
    intro r φ w hS hs
    cases out with
    | exit e ρ' =>
      intro hm ρA a hr he Q hq
      refine wp_seq (wpL.wp (ih1 r φ w hS hs hm ρA a hr he _ fun r1 φ1 ρA1 a1 w1 lf sr hst hr1 he1 => ?_))
      exact wpL.wp (ih2 r1 φ1 w1 sr ⟨hst.sim, hA _ _ _ _ _ _ hs.2 hst⟩ lf.n ρA1 a1 hr1 he1 Q fun r' φ' ρA' a' w' lf' sr' hst' hr' he' => hq r' φ' ρA' a' w' (lf.trans lf') sr' (hst.trans hst') hr' he')
    | _ => trivial
  | @seqE m sz c d ρ ρ1 S S1 e h1 he1 ih1 =>
    intro r φ w hS hs hm ρA a hr he Q hq
    refine wp_seq (wpL.wp (ih1 r φ w hS hs hm ρA a hr he _ fun r1 φ1 ρA1 a1 w1 lf sr hst hr1 he2 => ?_))
    cases e with
    | normal => exact absurd rfl he1
    | exit id => exact hq r1 φ1 ρA1 a1 w1 lf sr hst hr1 he2
    | ret => exact hq r1 φ1 ρA1 a1 w1 lf sr hst hr1 he2
  | @cond m sz c x y ρ S out S' t hk hc h ih =>
    intro r φ w hS hs
    cases out with
    | exit e ρ' =>
      intro hm ρA a hr he Q hq
      have hcr := he.eval hk
      have hcd := eval_rel hr c
      rw [hc] at hcd
      generalize hca : evalA ρA c = ca at hcd hcr
      cases hcd
      generalize hce : a.eval c = c' at hcr
      cases hcr
      exact wp_cond hce (wpL.wp (ih r φ w hS hs hm ρA a hr he Q hq))
    | _ => trivial
  | blockN h ih =>
    intro r φ w hS hs hm ρA a hr he Q hq
    exact wp_block (wpL.wp (ih r φ w hS hs hm ρA a hr he _ fun r1 φ1 ρA1 a1 w1 lf sr hst hr1 he1 => hq r1 φ1 ρA1 a1 w1 lf sr hst hr1 he1))
  | blockX h ih =>
    intro r φ w hS hs hm ρA a hr he Q hq
    exact wp_block (wpL.wp (ih r φ w hS hs hm ρA a hr he _ fun r1 φ1 ρA1 a1 w1 lf sr hst hr1 he1 => by simp only [toExit, Exit.inBlock, if_true]; exact hq r1 φ1 ρA1 a1 w1 lf sr hst hr1 he1))
  | @blockE m sz id c ρ ρ1 S S1 e h h1 h2 ih =>
    intro r φ w hS hs hm ρA a hr he Q hq
    refine wp_block (wpL.wp (ih r φ w hS hs hm ρA a hr he _ fun r1 φ1 ρA1 a1 w1 lf sr hst hr1 he1 => ?_))
    cases e with
    | normal => exact absurd rfl h1
    | exit id' =>
      have : id' ≠ id := fun he => h2 (by rw [he])
      simp only [toExit, Exit.inBlock, this, if_false]
      exact hq r1 φ1 ρA1 a1 w1 lf sr hst hr1 he1
    | ret => exact hq r1 φ1 ρA1 a1 w1 lf sr hst hr1 he1
  | @loopN m sz c ρ ρ1 S S1 out S' h1 h2 ih1 ih2 =>
    intro r φ w hS hs
    cases out with
    | exit e ρ' =>
      intro hm ρA a hr he Q hq
      refine InLoop.of (wpL.wp (ih1 r φ w hS hs hm ρA a hr he _ fun r1 φ1 ρA1 a1 w1 lf sr hst hr1 he1 => ?_))
      exact ih2 r1 φ1 w1 sr ⟨hst.sim, hA _ _ _ _ _ _ hs.2 hst⟩ lf.n ρA1 a1 hr1 he1 Q fun r' φ' ρA' a' w' lf' sr' hst' hr' he' => hq r' φ' ρA' a' w' (lf.trans lf') sr' (hst.trans hst') hr' he'
    | _ => trivial
  | @loopE m sz c ρ ρ1 S S1 e h1 he1 ih1 =>
    intro r φ w hS hs hm ρA a hr he Q hq
    refine InLoop.of (wpL.wp (ih1 r φ w hS hs hm ρA a hr he _ fun r1 φ1 ρA1 a1 w1 lf sr hst hr1 he2 => ?_))
    cases e with
    | normal => exact absurd rfl he1
    | exit id => exact hq r1 φ1 ρA1 a1 w1 lf sr hst hr1 he2
    | ret => exact hq r1 φ1 ρA1 a1 w1 lf sr hst hr1 he2
  | region h ih =>
    intro r φ w hS hs hm ρA a hr he Q hq
    exact wp_region (ih r φ w hS hs hm ρA a hr he Q hq)
  | @regionD m sz id ops ρ ρ1 S S1 hmx h ih =>
    intro r φ w hS hs hm ρA a hr he Q hq
    have hd : Step 0 φ r.H w φ r.H { w with drawn := w.drawn + 1 } := .draw hs.1 rfl rfl rfl rfl
    refine wp_region_draw fun t => ?_
    simp only [Region.schedule, hmx, Bool.true_or, if_true]
    exact ih t r φ { w with drawn := w.drawn + 1 } hS ⟨hd.sim, hA _ _ _ _ _ _ hs.2 hd⟩ hm ρA a hr he Q fun r' φ' ρA' a' w' lf sr hst hr' he' => hq r' φ' ρA' a' w' lf sr (hd.trans hst) hr' he'
  | @trim m sz c ρ ρ' S n out S' hmn hn hw hl h ih =>
    intro r φ w hS hs
    cases out with
    | exit e ρ1 =>
      intro hm ρA a hr he Q hq
      have hnr : n ≤ r.n := by rw [hS.n]; exact hn
      exact ih ⟨n, r.ψ, r.k, r.H⟩ φ w (hS.take hn hl) hs hmn ρA a (fun t => hw t r _ hnr (hr t)) he Q fun r' φ' ρA' a' w' lf sr hst hr' he' => hq r' φ' ρA' a' w' ⟨lf.n, lf.ψ, lf.len, lf.k⟩ sr hst hr' he'
    | _ => trivial
  | @forget m sz c ρ ρ' S out S' hw h ih =>
    intro r φ w hS hs
    cases out with
    | exit e ρ1 =>
      intro hm ρA a hr he Q hq
      exact ih r φ w hS hs hm ρA a (fun t => hw t r _ (hr t)) he Q hq
    | _ => trivial
  | @call m f args fn c e ρ S S' v hf hb ha h he hv ih =>
    intro r φ w hS hs vs args' dvs hargs R hR
    have hie := init_rel hargs (by rw [← dvs.1]; exact ha)
    refine calls_of_wp hf hb (wpL.wp (ih r φ w hS hs (by rw [hS.n]; exact Nat.le_refl _) _ _ (init_envRel dvs) hie _ fun r1 φ1 ρA1 a1 w1 lf sr hst hr1 he1 => ?_))
    obtain ⟨u, hu, du⟩ := results_rel sr hr1 hv
    obtain ⟨v', hrun, hvr⟩ := run_results hst.sim he1 hu
    have le : r.Le r1 := by rw [← hS.n] at lf; exact lf.le
    have : a1.defers = [] ∧ ∃ v, (results fn a1.tmps).run P w1 = .ok v w1 ∧ R (.returned v) w1 := ⟨he1.defers, v', hrun, hR r1 u v' φ1 w1 le sr hst du hvr⟩
    rcases he with rfl | rfl
    · exact this
    · exact this
  | @weak m f args args2 S S1 v h hl hw ih =>
    intro r φ w hS hs vs args' dvs hargs R hR
    refine ih r φ w hS hs vs args' ⟨by rw [← hl]; exact dvs.1, fun i a b => ?_⟩ hargs R hR
    exact hw i (by omega) a r _ (dvs.2 i (by omega) b)
  | @either m f args args1 args2 S S1 v h1 h2 hc ih1 ih2 =>
    intro r φ w hS hs vs args' dvs hargs R hR
    rcases hc r vs dvs with h | h
    · exact ih1 r φ w hS hs vs args' h hargs R hR
    · exact ih2 r φ w hS hs vs args' h hargs R hR
  | @orc m f args S v h =>
    intro r φ w hS hs vs args' dvs hargs R hR
    refine (horc f args v h r φ w hs vs args' dvs hargs).mono fun e w' he => ?_
    obtain ⟨r', u, v', φ', rfl, le, hsr, hst, du, hv⟩ := he
    exact hR r' u v' φ' w' le (hsr S hS) hst du hv
  | @drop m f args S S1 d d' h hl hw ho ih =>
    intro r φ w hS hs vs args' dvs hargs R hR
    refine ih r φ w hS hs vs args' dvs hargs R fun r1 u v' φ1 w1 le sr hst du hv => ?_
    have hn : S.length ≤ r1.n := by rw [← hS.n]; exact le.n
    have ho : memLow S.length S1 := fun o cells h1 h2 c hc r' v' _ hr' => by
      rcases ho o cells h1 h2 with h3 | h3
      · obtain ⟨b, _, _, _, _, dl⟩ := hS.obj o cells h3
        obtain ⟨i, hi, rfl⟩ := List.mem_iff_getElem.1 hc
        have := (dl.2 i hi (dl.1 ▸ hi)).low
        rw [hS.n] at this
        exact this.lower hr'
      · exact (h3 c hc).lower hr'
    refine hR ⟨S.length, r1.ψ, r1.k, r1.H⟩ u v' φ1 w1 ⟨by rw [hS.n]; exact Nat.le_refl _, le.ψ, le.len, le.k⟩ (sr.take hl ho) hst (hw r1 u hn du) hv
end Go.DM
