/- An abstract machine over Go's operations: every single operation is sound. -/
import Derived.Test.YtipeffaojbhbmaaDoorAmH
set_option linter.unusedSimpArgs false
set_option linter.unusedVariables false
namespace Go.AM
open Go

theorem sound_copy {P : Program} {base φ H w} (hs : Sim φ H w) {at_ : Array TypeId} {ty : TypeId} {d s d' s' v : Value} {H' : Heap} (h : copyA P base at_ d s H = some (v, H')) (hdr : VRel H.length φ d d') (hsr : VRel H.length φ s s') :
    Sound P base φ H w (Builtin.copy_ at_ ty #[d', s']) v H' := by
  simp only [copyA, Option.bind_eq_bind] at h
  cases h0 : at_[0]? with
  | none => simp [h0] at h
  | some dt =>
  cases hu : P.underlying dt with
  | none => simp [h0, hu] at h
  | some d0 =>
  cases d0 <;> try (simp [h0, hu] at h; done)
  rename_i e
  simp only [h0, hu, Option.bind_some] at h
  cases hi : P.info? e with
  | none => simp [hi, sizeA] at h
  | some info =>
  have hszA : sizeA P e = some info.size := by simp [sizeA, hi]
  simp only [hszA, Option.bind_some] at h
  cases d <;> try (simp at h; done)
  rename_i a dl dc
  simp only at h
  cases hn : lenA s with
  | none => simp [hn] at h
  | some m =>
  simp only [hn, Option.bind_some] at h
  cases hf : firstA H info.size (Nat.min m dl) s with
  | none => simp [hf] at h
  | some new =>
  simp only [hf, Option.bind_some] at h
  have hnr := run_lenOf (P := P) hn hsr w
  obtain ⟨new', hnew, hfr⟩ := run_first (P := P) hs hf hsr hn (Nat.min_le_left _ _)
  have head : ∀ (a' : Option Addr) (c : Nat) (w' : World), (∀ b, a' = some b → (storeCells b new').run P w = .ok () w') → (a' = none → w' = w) →
      (Builtin.copy_ at_ ty #[.slice a' dl c, s']).run P w = .ok (.int .i64 (Nat.min m dl)) w' := by
    intro a' c w' h1 h2
    cases a' with
    | none =>
      obtain rfl := h2 rfl
      simp [Builtin.copy_, h0, run_underA hu, sizeOf, typeInfo, hi, hnr, hfr, goInt]
    | some b => simp [Builtin.copy_, h0, run_underA hu, sizeOf, typeInfo, hi, hnr, hfr, goInt, h1 b rfl]
  split at h
  · rename_i he
    simp only [Option.some.injEq, Prod.mk.injEq] at h
    obtain ⟨rfl, rfl⟩ := h
    subst he
    have : new' = [] := List.eq_nil_of_length_eq_zero hnew.1.symm
    subst this
    cases hdr <;> exact .pure hs (head _ _ w (fun _ _ => rfl) (fun _ => rfl)) (.int _ _)
  · rename_i he
    cases a with
    | none => simp at h
    | some a =>
      simp only at h
      cases hw : writeA base a new H with
      | none => simp [hw] at h
      | some H1 =>
        simp only [hw, Option.bind_some, Option.some.injEq, Prod.mk.injEq] at h
        obtain ⟨rfl, rfl⟩ := h
        obtain ⟨w', hwr, hst⟩ := run_writeA (P := P) hs hw hnew
        cases hdr with
        | sl hd' o _ _ c hh hl hm hff => exact ⟨_, w', φ, head _ c w' (fun b hb => by cases hb; exact hwr) (fun hb => by cases hb), hst, .int _ _⟩
        | slEmp _ _ b hhn =>
          have hm0 : Nat.min m 0 = 0 := Nat.min_eq_right (Nat.zero_le _)
          rw [hm0] at hf
          exfalso
          apply he
          cases s <;> simp only [firstA] at hf <;> try (cases hf; done)
          · cases hf; simp
          · rename_i q _ _
            cases q with
            | none => simp only [firstA] at hf; cases hf; rfl
            | some q => simp only [firstA] at hf; simpa using hf.symm
        | slFree b => simp [writeA, freeA] at hw

theorem sound_clear {P : Program} {base φ H w} (hs : Sim φ H w) {at_ : Array TypeId} {ty : TypeId} {d d' v : Value} {H' : Heap} (h : clearA P base at_ d H = some (v, H')) (hdr : VRel H.length φ d d') :
    Sound P base φ H w (Builtin.clear_ at_ ty #[d']) v H' := by
  simp only [clearA, Option.bind_eq_bind] at h
  cases h0 : at_[0]? with
  | none => simp [h0] at h
  | some dt =>
  cases hu : P.underlying dt with
  | none => simp [h0, hu] at h
  | some d0 =>
  cases d0 <;> try (simp [h0, hu] at h; done)
  rename_i e
  simp only [h0, hu, Option.bind_some] at h
  cases hz : zeroA P e with
  | none => simp [hz] at h
  | some z =>
  simp only [hz, Option.bind_some] at h
  cases d <;> try (simp at h; done)
  rename_i a n dc
  simp only at h
  split at h
  · cases h
  rename_i hsc
  have hsc : z.cells.all scalarV = true := by simpa using hsc
  split at h
  · rename_i hn
    subst hn
    simp only [Option.some.injEq, Prod.mk.injEq] at h
    obtain ⟨rfl, rfl⟩ := h
    cases hdr <;> exact .pure hs (v' := .tuple #[]) (by simp [Builtin.clear_, h0, run_underA hu]) .undef
  · rename_i hn
    cases a with
    | none => simp at h
    | some a =>
      simp only at h
      cases hw : writeA base a (Builtin.zeroCells z.cells n).toList H with
      | none => simp [hw] at h
      | some H1 =>
        simp only [hw, Option.bind_some, Option.some.injEq, Prod.mk.injEq] at h
        obtain ⟨rfl, rfl⟩ := h
        obtain ⟨w', hwr, hst⟩ := run_writeA (P := P) hs hw (range_rel hsc _)
        cases hdr with
        | sl hd' o _ _ c hh hl hm hff =>
          refine ⟨.tuple #[], w', φ, ?_, hst, .undef⟩
          have hwr' : (storeCells ⟨(φ hd').B, (φ hd').base + o, none⟩ (Builtin.zeroCells z.cells n).toList).run P w = .ok () w' := hwr
          simp [Builtin.clear_, h0, run_underA hu, run_zeroA hz, hwr']
        | slEmp _ _ b hhn => exact absurd rfl hn
        | slFree b => exact absurd rfl hn

theorem execOp_value {P : Program} {base φ H w} {s : Sem Value} {v : Value} {H' : Heap} (h : Sound P base φ H w s v H') {t : Sem Next} (ht : t = (do pure (.value (← s)))) :
    ∃ v' w' φ' r, t.run P w = .ok r w' ∧ (r = .value v' ∨ (r = .skip ∧ v' = undef)) ∧ Step base φ H w φ' H' w' ∧ VRel H'.length φ' v v' := by
  obtain ⟨v', w', φ', h1, h2, h3⟩ := h
  exact ⟨v', w', φ', .value v', by rw [ht]; simp [h1], .inl rfl, h2, h3⟩

theorem args_two {ρ : Env} {a : Act} {n φ sz} (he : ERel n φ sz ρ a) {args : Array Operand} (hc : args.toList.all okOperand = true) : LRel n φ (args.toList.map (evalA ρ)) (args.map a.eval).toList := by
  refine ⟨by simp, fun i v v' hv hv' => ?_⟩
  simp only [Array.toList_map, List.getElem?_map, Option.map_eq_some_iff] at hv hv'
  obtain ⟨x, hx, rfl⟩ := hv
  obtain ⟨x', hx', rfl⟩ := hv'
  rw [hx] at hx'
  cases hx'
  exact he.eval (List.all_eq_true.1 hc x (List.mem_of_getElem? hx))

theorem sound_builtin {P : Program} {base φ H w} (hs : Sim φ H w) {b : Builtin} {at_ : Array TypeId} {ty : TypeId} {cs : Array Bool} {args : List Value} {args' : Array Value} {v : Value} {H' : Heap} (h : builtinA P base b at_ args H = some (v, H')) (hr : LRel H.length φ args args'.toList) :
    ∃ v' w' φ' r, (builtin b at_ ty cs args').run P w = .ok r w' ∧ (r = .value v' ∨ (r = .skip ∧ v' = undef)) ∧ Step base φ H w φ' H' w' ∧ VRel H'.length φ' v v' := by
  have one : ∀ {x}, args = [x] → ∃ x', args' = #[x'] ∧ VRel H.length φ x x' := by
    intro x hx
    subst hx
    obtain ⟨l⟩ := args'
    cases l with
    | nil => simp [LRel] at hr
    | cons y r =>
      cases r with
      | nil => exact ⟨y, rfl, hr.head⟩
      | cons _ _ => simp [LRel] at hr
  have two : ∀ {x y}, args = [x, y] → ∃ x' y', args' = #[x', y'] ∧ VRel H.length φ x x' ∧ VRel H.length φ y y' := by
    intro x y hx
    subst hx
    obtain ⟨l⟩ := args'
    cases l with
    | nil => simp [LRel] at hr
    | cons x' r =>
      cases r with
      | nil => simp [LRel] at hr
      | cons y' r =>
        cases r with
        | nil => exact ⟨x', y', rfl, hr.head, hr.tail.head⟩
        | cons _ _ => simp [LRel] at hr
  unfold builtinA at h
  split at h
  · rename_i x
    obtain ⟨x', rfl, hx⟩ := one rfl
    split at h
    · rename_i s hu
      cases h; cases hx
      cases ht : at_[0]? with
      | none => simp [ht] at hu
      | some t =>
        simp [ht] at hu
        exact execOp_value (.pure hs (v' := .int .i64 s.size) (s := Builtin.len_ at_ ty #[.string s]) (by simp [Builtin.len_, ht, run_underA hu, goInt]) (.int _ _)) rfl
    · rename_i _ e a n c hu
      cases h
      cases ht : at_[0]? with
      | none => simp [ht] at hu
      | some t =>
        simp [ht] at hu
        cases hx <;> exact execOp_value (.pure hs (v' := .int .i64 _) (s := Builtin.len_ at_ ty #[_]) (by simp [Builtin.len_, ht, run_underA hu, goInt]) (.int _ _)) rfl
    · cases h
  · obtain ⟨s', x', rfl, h1, h2⟩ := two rfl
    exact execOp_value (sound_append hs h h1 h2 (ty := ty)) rfl
  · obtain ⟨s', x', rfl, h1, h2⟩ := two rfl
    exact execOp_value (sound_copy hs h h1 h2 (ty := ty)) rfl
  · obtain ⟨d', rfl, h1⟩ := one rfl
    exact execOp_value (sound_clear hs h h1 (ty := ty)) rfl
  · rename_i k a k' b
    obtain ⟨s', x', rfl, h1, h2⟩ := two rfl
    cases h; cases h1; cases h2
    exact execOp_value (.pure hs (v' := .int k (if b > a then b else a)) (s := Builtin.max_ at_ ty #[.int k a, .int k' b]) (by simp [Builtin.max_, Builtin.max2]) (.int _ _)) rfl
  · rename_i k a k' b
    obtain ⟨s', x', rfl, h1, h2⟩ := two rfl
    cases h; cases h1; cases h2
    exact execOp_value (.pure hs (v' := .int k (if b < a then b else a)) (s := Builtin.min_ at_ ty #[.int k a, .int k' b]) (by simp [Builtin.min_, Builtin.min2]) (.int _ _)) rfl
  · cases h

theorem ORel.of {n φ sz ρ a} (he : ERel n φ sz ρ a) {x : Option Operand} (hx : ∀ y, x = some y → okOperand y = true) : ORel n φ (x.map (evalA ρ)) (x.map a.eval) := by
  cases x with
  | none => trivial
  | some y => exact he.eval (hx y rfl)

theorem opA_sound {P : Program} {base φ H w sz ρ a} (hs : Sim φ H w) (he : ERel H.length φ sz ρ a) {o : Oper} {v : Value} {H' : Heap} (hc : o.op.operands.toList.all okOperand = true) (h : opA P base ρ o.op H = some (v, H')) :
    ∃ v' w' φ' r, (execOp a.eval o).run P w = .ok r w' ∧ (r = .value v' ∨ (r = .skip ∧ v' = undef)) ∧ Step base φ H w φ' H' w' ∧ VRel H'.length φ' v v' := by
  unfold opA at h
  unfold execOp
  cases ho : o.op with
  | move x =>
    simp only [ho] at h hc ⊢
    simp [Op.operands] at hc
    cases h
    exact ⟨a.eval x, w, φ, _, rfl, .inl rfl, .refl hs, he.eval hc⟩
  | assign x =>
    simp only [ho] at h hc ⊢
    simp [Op.operands] at hc
    cases h
    exact ⟨a.eval x, w, φ, _, rfl, .inl rfl, .refl hs, he.eval hc⟩
  | pick c x y =>
    simp only [ho] at h hc ⊢
    simp [Op.operands] at hc
    have hcr := he.eval hc.1
    split at h
    · rename_i t ht
      cases h
      rw [ht] at hcr
      generalize a.eval c = c' at hcr
      cases hcr
      refine ⟨if t then a.eval x else a.eval y, w, φ, _, by simp [asBool], .inl rfl, .refl hs, ?_⟩
      cases t
      · exact he.eval hc.2.2
      · exact he.eval hc.2.1
    · cases h
  | alloc t =>
    simp only [ho, Option.bind_eq_bind] at h ⊢
    cases hz : zeroA P t with
    | none => simp [hz] at h
    | some z =>
      simp only [hz, Option.bind_some] at h
      split at h
      · rename_i hsc
        cases h
        exact execOp_value (sound_alloc hs hz hsc) rfl
      · cases h
  | box t x =>
    simp only [ho] at h hc ⊢
    simp [Op.operands] at hc
    cases h
    exact execOp_value (sound_box hs (he.eval hc)) rfl
  | build t ps =>
    simp only [ho] at h hc ⊢
    simp only [Option.map_eq_some_iff, Prod.mk.injEq] at h
    obtain ⟨u, hu, rfl, rfl⟩ := h
    refine execOp_value (sound_build hs ?_ hu) rfl
    have := PRel.of_map he ps.toList (by simp [Op.operands] at hc ⊢; exact hc)
    simpa using this
  | buildSlice t n ps =>
    simp only [ho] at h hc ⊢
    refine execOp_value (sound_buildSlice hs ?_ h) rfl
    have := PRel.of_map he ps.toList (by simp [Op.operands] at hc ⊢; exact hc)
    simpa using this
  | load t x =>
    simp only [ho] at h hc ⊢
    simp [Op.operands] at hc
    simp only [Option.map_eq_some_iff, Prod.mk.injEq] at h
    obtain ⟨u, hu, rfl, rfl⟩ := h
    obtain ⟨v', a', hx, hr, hv⟩ := run_loadVarA (P := P) hs hu (he.eval hc)
    exact execOp_value (.pure hs (s := Instr.loadAt t (a.eval x)) (by rw [hx]; simp [Instr.loadAt, Instr.sureAddr, hr]) hv) rfl
  | store t x y =>
    simp only [ho] at h hc ⊢
    simp [Op.operands] at hc
    simp only [Option.map_eq_some_iff, Prod.mk.injEq] at h
    obtain ⟨H1, hu, rfl, rfl⟩ := h
    obtain ⟨w', a', hx, hr, hst⟩ := run_storeVarA (P := P) hs hu (he.eval hc.1) (he.eval hc.2)
    exact ⟨undef, w', φ, .skip, by rw [hx]; simp [Instr.storeAt, Instr.sureAddr, hr], .inr ⟨rfl, rfl⟩, hst, .undef⟩
  | nilCheck x =>
    simp only [ho] at h hc ⊢
    simp [Op.operands] at hc
    have hx := he.eval hc
    split at h
    · rename_i p hp
      cases h
      rw [hp] at hx
      generalize a.eval x = x' at hx ⊢
      cases hx with
      | ptr hh o hn => exact ⟨_, w, φ, _, rfl, .inl rfl, .refl hs, .ptr hh o hn⟩
    · rename_i f b c hp
      cases h
      rw [hp] at hx
      generalize a.eval x = x' at hx ⊢
      cases hx with
      | func _ xs ys cs ds h1 h2 h3 h4 => exact ⟨_, w, φ, _, rfl, .inl rfl, .refl hs, .func _ _ _ _ _ h1 h2 h3 h4⟩
    · cases h
  | binOp op t x y u =>
    simp only [ho] at h hc ⊢
    simp [Op.operands] at hc
    have hx := he.eval hc.1
    have hy := he.eval hc.2
    split at h
    · rename_i r hr
      cases h
      have hrun := run_binA (P := P) hr (ox := x) (oy := y) w
      rw [hx.scalar_eq hrun.2.1, hy.scalar_eq hrun.2.2.1]
      exact execOp_value (.pure hs hrun.1 (.scalar hrun.2.2.2)) rfl
    · split at h
      · rename_i b hb _
        cases h
        exact execOp_value (.pure hs (run_nilEq hb hx hy (ox := x) (oy := y) w).1 (.bool _)) rfl
      · rename_i b hb _
        cases h
        exact execOp_value (.pure hs (run_nilEq hb hx hy (ox := x) (oy := y) w).2 (.bool _)) rfl
      · simp only [Option.bind_eq_some_iff] at h
        obtain ⟨r, hr, h⟩ := h
        split at h
        · rename_i hcl
          cases h
          unfold eqA at hr
          split at hr
          · split at hr
            · rename_i hcc
              simp only [Bool.and_eq_true] at hcc
              rw [hx.closed_eq hcc.1, hy.closed_eq hcc.2]
              exact execOp_value (.pure hs (pureRun_run _ hr w) (.closed hcl)) rfl
            · cases hr
          · split at hr
            · rename_i hcc
              simp only [Bool.and_eq_true] at hcc
              rw [hx.closed_eq hcc.1, hy.closed_eq hcc.2]
              exact execOp_value (.pure hs (pureRun_run _ hr w) (.closed hcl)) rfl
            · cases hr
          · cases hr
        · cases h
  | unOp op t x =>
    simp only [ho] at h hc ⊢
    simp [Op.operands] at hc
    have hx := he.eval hc
    have fin : ∀ r, (match op, evalA ρ x with | .not, .bool b => some (.bool !b) | .neg, .int k n => some (.int k (k.wrap (0 - n))) | .xor, .int k n => pureRun P (Op.intBits .xor k (if k.signed then -1 else k.max) n) | _, _ => (none : Option Value)) = some r →
        closedV r = true → r = v → H' = H → ∃ v' w' φ' q, Sem.run P (do pure (.value (← Op.unary op (a.eval x))) : Sem Next) w = .ok q w' ∧ (q = .value v' ∨ (q = .skip ∧ v' = undef)) ∧ Step base φ H w φ' H' w' ∧ VRel H'.length φ' v v' := by
      intro r hr hcl hrv hH
      subst hrv hH
      have hrun := run_unA hr w
      rw [hx.scalar_eq hrun.2]
      exact execOp_value (.pure hs hrun.1 (.closed hcl)) rfl
    split at h
    · rename_i b hp; cases h; exact fin _ (by rw [hp]) rfl rfl rfl
    · rename_i k n hp; cases h; exact fin _ (by rw [hp]) rfl rfl rfl
    · rename_i k n hp
      simp only [Option.bind_eq_some_iff] at h
      obtain ⟨r, hr, h⟩ := h
      split at h
      · rename_i hcl
        cases h
        exact fin _ (by rw [hp]; exact hr) hcl rfl rfl
      · cases h
    · cases h
  | convert s d x =>
    simp only [ho] at h hc ⊢
    simp [Op.operands] at hc
    exact execOp_value (sound_conv hs h (he.eval hc)) rfl
  | makeInterface t x =>
    simp only [ho] at h hc ⊢
    simp [Op.operands] at hc
    split at h
    · cases h
    · rename_i d hd hne
      cases h
      refine execOp_value (.pure hs (v' := .iface t (a.eval x)) ?_ (.iface _ _ _ (he.eval hc))) rfl
      simp only [Instr.makeInterface, Sem.run_bind, run_underA hne, Result.andThen_ok]
      try (cases d <;> first | rfl | (exact absurd rfl (hd _)))
    · cases h
  | makeFunc fn f c =>
    simp only [ho] at h hc ⊢
    simp [Op.operands] at hc
    cases h
    refine execOp_value (.pure hs (v' := .func fn (f.map a.eval) (c.map a.eval)) rfl ?_) rfl
    refine .func _ _ _ _ _ (by simp) (fun i h1 h2 => ?_) (by simp) (fun i h1 h2 => ?_)
    · simp at h1 ⊢
      exact he.eval (hc.1 i h1)
    · simp at h1 ⊢
      exact he.eval (hc.2 i h1)
  | makeSlice t l c =>
    simp only [ho] at h hc ⊢
    simp [Op.operands] at hc
    exact execOp_value (sound_makeSlice hs h (he.eval hc.1) (he.eval hc.2)) rfl
  | slice t x lo hi mx =>
    simp only [ho] at h hc ⊢
    simp only [Option.map_eq_some_iff, Prod.mk.injEq] at h
    obtain ⟨u, hu, rfl, rfl⟩ := h
    have hall := List.all_eq_true.1 hc
    refine execOp_value (sound_slice hs hu (he.eval (hall x (by simp [Op.operands]))) (.of he fun y hy => hall y (by subst hy; simp [Op.operands])) (.of he fun y hy => hall y (by subst hy; simp [Op.operands])) (.of he fun y hy => hall y (by subst hy; simp [Op.operands]))) rfl
  | fieldAddr s x f =>
    simp only [ho] at h hc ⊢
    simp [Op.operands] at hc
    simp only [Option.map_eq_some_iff, Prod.mk.injEq] at h
    obtain ⟨u, hu, rfl, rfl⟩ := h
    exact execOp_value (sound_fieldAt hs hu (he.eval hc)) rfl
  | indexAddr t x i =>
    simp only [ho] at h hc ⊢
    simp [Op.operands] at hc
    simp only [Option.map_eq_some_iff, Prod.mk.injEq] at h
    obtain ⟨u, hu, rfl, rfl⟩ := h
    exact execOp_value (sound_indexAt hs hu (he.eval hc.1) (he.eval hc.2)) rfl
  | index t x i =>
    simp only [ho] at h hc ⊢
    simp [Op.operands] at hc
    split at h
    · rename_i s k j hu hx hi
      split at h
      · rename_i h0
        simp only [Option.map_eq_some_iff, Prod.mk.injEq] at h
        obtain ⟨b, hb, rfl, rfl⟩ := h
        have hxr := he.eval hc.1
        have hir := he.eval hc.2
        rw [hx] at hxr
        rw [hi] at hir
        rw [hxr.scalar_eq rfl, hir.scalar_eq rfl]
        exact execOp_value (sound_index hs hu h0 hb) rfl
      · cases h
    · cases h
  | extract x i =>
    simp only [ho] at h hc ⊢
    simp [Op.operands] at hc
    split at h
    · rename_i vs hvs
      simp only [Option.map_eq_some_iff, Prod.mk.injEq] at h
      obtain ⟨u, hu, rfl, rfl⟩ := h
      have hx := he.eval hc
      rw [hvs] at hx
      obtain ⟨vs', v', e1, e2, e3⟩ := hx.tuple_get hu
      refine execOp_value (.pure hs (v' := v') ?_ e3) rfl
      rw [e1]
      simp [Instr.extract, e2]
    · cases h
  | call c =>
    simp only [ho] at h hc ⊢
    obtain ⟨callee, args, at_⟩ := c
    cases callee with
    | builtin b =>
      simp only at h
      have hargs := args_two he (args := args) (by simp [Op.operands, Call.operands] at hc ⊢; exact hc)
      have := fun cs => sound_builtin (ty := o.type) (cs := cs) hs h hargs
      simp only [resolve, invoke, Sem.run_bind, Sem.run_pure, Result.andThen_ok]
      exact this _
    | _ => simp at h
  | _ => simp [ho] at h

end Go.AM
