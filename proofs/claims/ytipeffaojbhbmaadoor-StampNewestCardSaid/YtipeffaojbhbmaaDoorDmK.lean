/- An abstract machine over Go's operations: statements whose order is open. -/
import Derived.Test.YtipeffaojbhbmaaDoorDmI
import Derived.Test.YtipeffaojbhbmaaDoorAmK
set_option linter.unusedSimpArgs false
set_option linter.unusedVariables false
namespace Go.DM
open Go Go.AM

/-- One operation of a region, in an environment and a memory. -/
def OpStepD (P : Program) (orc : DOracle) (fl sz : Nat) (ops : Array Oper) (i : Nat) (ρ : DEnv) (H : Mem) (v : D) (H' : Mem) : Prop :=
  ∃ o, ops[i]? = some o ∧ okDst sz o.dst ∧
    ((∃ g b, o.guard = some g ∧ yieldS ops ρ g.1 = some b ∧ (b == some g.2) = false ∧ v = dUndef ∧ H' = H) ∨
     (Region.wanted o (yieldedD ops ρ) = true ∧ o.op.operands.toList.all okOperand = true ∧
      (opD P ρ o.op H = some (v, H') ∨
       ∃ f args fn, targetD ρ o.op = some (f, args) ∧ P.funcs[f]? = some fn ∧ fn.name ≠ "runtime.NumGoroutine" ∧ fn.body.isNone = false ∧ BigD P orc 0 (.call f args) H (.val v) H')))

theorem OpStepD.cons {P orc fl sz ops i ρ H v H1 l out H'} (h : OpStepD P orc fl sz ops i ρ H v H1) (k : BigD P orc fl (.ops sz ops l (putD ρ (dstOf ops i) v)) H1 out H') :
    BigD P orc fl (.ops sz ops (i :: l) ρ) H out H' := by
  obtain ⟨o, ho, hd, h⟩ := h
  have e : dstOf ops i = o.dst := by simp [dstOf, ho]
  rw [e] at k
  rcases h with ⟨g, b, hg, hy, hb, rfl, rfl⟩ | ⟨hw, hc, h | ⟨f, args, fn, ht, hf, hn, hb, hcall⟩⟩
  · exact .opsSkip ho hg hy hb hd k
  · exact .opsOp ho hw hd hc h k
  · exact .opsCall ho hw hd hc ht hf hn hb hcall k

theorem evalD_congr {ρ ρ' : DEnv} {x : Operand} (h : ∀ t, x = .tmp t → ρ t = ρ' t) : evalD ρ x = evalD ρ' x := by
  cases x with
  | tmp t => exact h t rfl
  | _ => rfl

theorem opD_congr {P : Program} {ρ ρ' : DEnv} {o : Oper} {H : Mem} (h : ∀ x ∈ o.op.operands, evalD ρ x = evalD ρ' x) : opD P ρ o.op H = opD P ρ' o.op H := by
  obtain ⟨dst, op, type, pos, after, guard⟩ := o
  have pairs : ∀ ps : List (Nat × Operand), (∀ p ∈ ps, evalD ρ p.2 = evalD ρ' p.2) → (ps.map fun (i, x) => (i, evalD ρ x)) = (ps.map fun (i, x) => (i, evalD ρ' x)) := fun ps hp =>
    List.map_congr_left fun p hm => by obtain ⟨i, x⟩ := p; simp only [hp (i, x) hm]
  cases op <;> simp only [Op.operands] at h <;> simp only [opD]
  case build t ps => rw [pairs ps.toList fun p hp => h p.2 (by simp; exact ⟨p.1, by simpa using hp⟩)]
  case buildSlice t n ps => rw [pairs ps.toList fun p hp => h p.2 (by simp; exact ⟨p.1, by simpa using hp⟩)]
  case makeFunc fn first captured =>
    rw [List.map_congr_left (l := first.toList) fun x hx => h x (by simp at hx; simp [hx]), List.map_congr_left (l := captured.toList) fun x hx => h x (by simp at hx; simp [hx])]
  case call c =>
    obtain ⟨callee, args, at_⟩ := c
    cases callee with
    | builtin b =>
      simp only
      rw [List.map_congr_left (l := args.toList) fun x hx => h x (by simp [Call.operands]; simpa using hx)]
    | _ => rfl
  case slice t x lo hi mx => cases lo <;> cases hi <;> cases mx <;> simp_all
  all_goals (first | rfl | (simp_all; done))

theorem targetD_congr {ρ ρ' : DEnv} {o : Oper} (h : ∀ x ∈ o.op.operands, evalD ρ x = evalD ρ' x) : targetD ρ o.op = targetD ρ' o.op := by
  obtain ⟨dst, op, type, pos, after, guard⟩ := o
  cases op <;> simp only [targetD]
  rename_i c
  obtain ⟨callee, args, at_⟩ := c
  cases callee with
  | value f =>
    simp only [Op.operands, Call.operands] at h
    simp only
    rw [h f (by simp), List.map_congr_left (l := args.toList) fun x hx => h x (by simp; exact .inr (by simpa using hx))]
  | _ => rfl

theorem yielded_congr {ops : Array Oper} {ρ ρ' : DEnv} {o : Oper} (h : ∀ t ∈ o.looksAt ops, ρ t = ρ' t) {g : Nat × Bool} (hg : o.guard = some g) : yieldedD ops ρ g.1 = yieldedD ops ρ' g.1 := by
  unfold yieldedD
  cases ht : (ops[g.1]?).bind (·.dst) with
  | none => rfl
  | some t => simp only; rw [h t (by simp [Oper.looksAt, hg, ht])]
theorem yieldS_congr {ops : Array Oper} {ρ ρ' : DEnv} {o : Oper} (h : ∀ t ∈ o.looksAt ops, ρ t = ρ' t) {g : Nat × Bool} (hg : o.guard = some g) : yieldS ops ρ g.1 = yieldS ops ρ' g.1 := by
  unfold yieldS
  cases ht : (ops[g.1]?).bind (·.dst) with
  | none => rfl
  | some t => simp only; rw [h t (by simp [Oper.looksAt, hg, ht])]
theorem wanted_congr {ops : Array Oper} {ρ ρ' : DEnv} {o : Oper} (h : ∀ t ∈ o.looksAt ops, ρ t = ρ' t) : Region.wanted o (yieldedD ops ρ) = Region.wanted o (yieldedD ops ρ') := by
  unfold Region.wanted
  cases hg : o.guard with
  | none => rfl
  | some gw => simp only [yielded_congr h hg]

theorem OpStepD.congr {P orc fl sz ops i ρ ρ' H v H'} (h : OpStepD P orc fl sz ops i ρ H v H') (ha : ∀ o, ops[i]? = some o → ∀ t ∈ o.looksAt ops, ρ t = ρ' t) : OpStepD P orc fl sz ops i ρ' H v H' := by
  obtain ⟨o, ho, hd, h⟩ := h
  have hl := ha o ho
  have he : ∀ x ∈ o.op.operands, evalD ρ x = evalD ρ' x := fun x hx => evalD_congr fun t hxt => hl t (by
    subst hxt
    exact List.mem_append_left _ (List.mem_filterMap.2 ⟨.tmp t, by simpa using hx, rfl⟩))
  refine ⟨o, ho, hd, ?_⟩
  rw [← wanted_congr hl, ← opD_congr he, ← targetD_congr he]
  rcases h with ⟨g, b, hg, hy, h⟩ | h
  · exact .inl ⟨g, b, hg, by rw [← yieldS_congr hl hg]; exact hy, h⟩
  · exact .inr h

def envPD (ops : Array Oper) (v : Nat → D) (ρ : DEnv) (L : Nat → Bool) : Nat → DEnv
  | 0 => ρ
  | n + 1 => if L n then putD (envPD ops v ρ L n) (dstOf ops n) (v n) else envPD ops v ρ L n

theorem putD_at {ρ : DEnv} {d : Option Tmp} {v : D} {t : Tmp} : putD ρ d v t = if d = some t then v else ρ t := by
  cases d with
  | none => simp [putD]
  | some e =>
    simp only [putD, updD, Option.some.injEq]
    by_cases h : t = e
    · simp [h]
    · have : e ≠ t := fun q => h q.symm
      simp [h, this]

structure TraceD (P : Program) (orc : DOracle) (fl sz : Nat) (ops : Array Oper) (mk : List Nat) (ρ : DEnv) (v : Nat → D) (Hs : Nat → Mem) : Prop where
  step : ∀ i, i < ops.size → OpStepD P orc fl sz ops i (envPD ops v ρ (fun _ => true) i) (Hs i) (v i) (Hs (i + 1))
  still : ∀ i, i < ops.size → i ∉ mk → Hs (i + 1) = Hs i
  robust : ∀ i, i < ops.size → i ∉ mk → ∀ q, q ≤ ops.size → (∀ m ∈ mk, ordered ops ops.size m i = true → m < q) → (∀ m ∈ mk, ordered ops ops.size i m = true → q ≤ m) →
    OpStepD P orc fl sz ops i (envPD ops v ρ (fun _ => true) i) (Hs q) (v i) (Hs q)

section
variable {P : Program} {orc : DOracle} {fl sz : Nat} {ops : Array Oper} {mk : List Nat} {ρ : DEnv} {v : Nat → D} {Hs : Nat → Mem}

theorem hs_betweenD (T : TraceD P orc fl sz ops mk ρ v Hs) {a : Nat} : ∀ b, a ≤ b → b ≤ ops.size → (∀ m, a ≤ m → m < b → m ∉ mk) → Hs b = Hs a := by
  intro b
  induction b with
  | zero => intro hab _ _; have : a = 0 := by omega
            rw [this]
  | succ b ih =>
    intro hab hb hn
    rcases Nat.lt_or_ge b a with h | h
    · have : a = b + 1 := by omega
      rw [this]
    · rw [T.still b (by omega) (hn b h (by omega)), ih h (by omega) fun m h1 h2 => hn m h1 (by omega)]

theorem drawn_goD (hok : drawnOk ops mk = true) (T : TraceD P orc fl sz ops mk ρ v Hs) : ∀ (fuel t : Nat) (listed : Array Bool) (q : Nat), listed.size = ops.size →
    (∀ j, lst listed j = true → ∀ e ∈ direct ops j, lst listed e = true) → q ≤ ops.size → (∀ m ∈ mk, m < ops.size → (lst listed m = true ↔ m < q)) →
    (List.range ops.size).countP (fun i => !lst listed i) ≤ fuel →
    BigD P orc fl (.ops sz ops (Region.linearise.go .any ops fuel t listed []) (envPD ops v ρ (lst listed) ops.size)) (Hs q) (.env (envPD ops v ρ (fun _ => true) ops.size)) (Hs ops.size) := by
  simp only [drawnOk, Bool.and_eq_true, List.all_eq_true, List.mem_range, Bool.or_eq_true, Bool.not_eq_true', decide_eq_true_eq, decide_eq_false_iff_not] at hok
  obtain ⟨⟨ok1, ok2⟩, ok3⟩ := hok
  have final : ∀ (listed : Array Bool) (q : Nat), q ≤ ops.size → (∀ m ∈ mk, m < ops.size → (lst listed m = true ↔ m < q)) → (∀ i, i < ops.size → lst listed i = true) →
      BigD P orc fl (.ops sz ops [] (envPD ops v ρ (lst listed) ops.size)) (Hs q) (.env (envPD ops v ρ (fun _ => true) ops.size)) (Hs ops.size) := by
    intro listed q hq hcut hall
    have e1 : envPD ops v ρ (lst listed) ops.size = envPD ops v ρ (fun _ => true) ops.size := by
      have : ∀ n, n ≤ ops.size → envPD ops v ρ (lst listed) n = envPD ops v ρ (fun _ => true) n := by
        intro n
        induction n with
        | zero => intro _; rfl
        | succ n ih => intro hn; simp only [envPD, hall n (by omega), ih (by omega)]
      exact this _ (Nat.le_refl _)
    have e2 : Hs ops.size = Hs q := hs_betweenD T _ hq (Nat.le_refl _) fun m h1 h2 hm => by
      have := (hcut m hm h2).1 (hall m h2)
      omega
    rw [e1, e2]
    exact .opsNil
  have ready_nil : ∀ (listed : Array Bool), listed.size = ops.size → Region.ready .any ops listed = [] → ∀ i, i < ops.size → lst listed i = true := by
    intro listed hsz hr i
    induction i using Nat.strongRecOn with
    | _ i ih =>
      intro hi
      rcases hli : lst listed i with _ | _
      · have : i ∈ Region.ready .any ops listed := (AM.mem_ready hsz).2 ⟨hi, hli, fun e he => by
          have he' := ok1 i hi e he
          exact ih e he' (by omega)⟩
        rw [hr] at this
        cases this
      · rfl
  intro fuel
  induction fuel with
  | zero =>
    intro t listed q hsz hcl hq hcut hcount
    simp only [Region.linearise.go]
    refine final listed q hq hcut fun i hi => ?_
    have : (List.range ops.size).countP (fun i => !lst listed i) = 0 := by omega
    rw [List.countP_eq_zero] at this
    simpa using this i (List.mem_range.2 hi)
  | succ fuel ih =>
    intro t listed q hsz hcl hq hcut hcount
    simp only [Region.linearise.go]
    change BigD P orc fl (.ops sz ops (match (Region.ready .any ops listed)[t % (Region.ready .any ops listed).length]? with
      | some i => Region.linearise.go .any ops fuel (t / (Region.ready .any ops listed).length) (listed.setIfInBounds i true) [i]
      | none => [].reverse) _) _ _ _
    cases hi : (Region.ready .any ops listed)[t % (Region.ready .any ops listed).length]? with
    | none =>
      have hnil : Region.ready .any ops listed = [] := by
        cases hr : Region.ready .any ops listed with
        | nil => rfl
        | cons x xs =>
          rw [hr] at hi
          have hlt : t % (x :: xs).length < (x :: xs).length := Nat.mod_lt _ (by simp)
          simp at hi
          simp at hlt
          omega
      exact final listed q hq hcut (ready_nil listed hsz hnil)
    | some j =>
      simp only []
      rw [linearise_go_acc, List.reverse_singleton, List.singleton_append]
      obtain ⟨hj, hlj, hdj⟩ := (AM.mem_ready hsz).1 (List.mem_of_getElem? hi)
      have hset : ∀ i, lst (listed.setIfInBounds j true) i = (lst listed i || decide (i = j)) := by
        intro i
        unfold lst
        by_cases hij : i = j
        · subst hij
          simp [Array.getD, hsz, hj]
        · simp [Array.getD_eq_getD_getElem?, Array.getElem?_setIfInBounds_ne (Ne.symm hij), hij]
      have before_j : ∀ i, ordered ops ops.size i j = true → lst listed i = true := fun i h => ordered_closed (L := fun i => lst listed i = true) hcl ops.size i j h hdj
      have after_j : ∀ i, ordered ops ops.size j i = true → lst listed i = false := fun i h => by
        rcases hli : lst listed i with _ | _
        · rfl
        · have := ordered_closed (L := fun i => lst listed i = true) hcl ops.size j i h (hcl i hli)
          rw [hlj] at this
          cases this
      have henv : ∀ n, n ≤ ops.size → ∀ t, envPD ops v ρ (lst (listed.setIfInBounds j true)) n t = if j < n ∧ dstOf ops j = some t then v j else envPD ops v ρ (lst listed) n t := by
        intro n
        induction n with
        | zero => intro _ t; simp [envPD]
        | succ n ihn =>
          intro hn t
          simp only [envPD, hset]
          by_cases hnj : n = j
          · subst hnj
            simp only [decide_true, Bool.or_true, if_true, hlj, Bool.false_eq_true, if_false, putD_at, Nat.lt_succ_self, true_and]
            split
            · rfl
            · rw [ihn (by omega) t]; simp
          · simp only [hnj, decide_false, Bool.or_false]
            cases hln : lst listed n with
            | false =>
              simp only [Bool.false_eq_true, if_false]
              rw [ihn (by omega) t]
              have : j < n + 1 ↔ j < n := by omega
              simp only [this]
            | true =>
              simp only [if_true, putD_at]
              by_cases hdn : dstOf ops n = some t
              · simp only [hdn, if_true]
                have : ¬ (j < n + 1 ∧ dstOf ops j = some t) := by
                  rintro ⟨h1, h2⟩
                  have hjn : j < n := by omega
                  have hcl' : clash ops j n = true := by
                    unfold clash
                    unfold dstOf at hdn h2
                    cases hoj : ops[j]? with
                    | none => simp [hoj] at h2
                    | some a =>
                      cases hon : ops[n]? with
                      | none => simp [hon] at hdn
                      | some b =>
                        simp [hoj] at h2
                        simp [hon] at hdn
                        simp [h2, hdn]
                  rcases ok2 n (by omega) j hjn with h | h
                  · rw [hcl'] at h; cases h
                  · rw [after_j n h] at hln; cases hln
                simp only [this, if_false]
              · simp only [hdn, if_false]
                rw [ihn (by omega) t]
                have : j < n + 1 ↔ j < n := by omega
                simp only [this]
      have henv' : envPD ops v ρ (lst (listed.setIfInBounds j true)) ops.size = putD (envPD ops v ρ (lst listed) ops.size) (dstOf ops j) (v j) := by
        funext t
        rw [henv _ (Nat.le_refl _) t, putD_at]
        simp [hj]
      have hagree : ∀ o, ops[j]? = some o → ∀ t ∈ o.looksAt ops, envPD ops v ρ (fun _ => true) j t = envPD ops v ρ (lst listed) ops.size t := by
        intro o ho t ht
        have key : ∀ i, i < ops.size → dstOf ops i = some t → (i < j → lst listed i = true) ∧ (j ≤ i → lst listed i = false) := by
          intro i hi' hd
          unfold dstOf at hd
          cases hoi : ops[i]? with
          | none => simp [hoi] at hd
          | some a =>
            simp [hoi] at hd
            refine ⟨fun hij => ?_, fun hij => ?_⟩
            · have hcl' : clash ops i j = true := by simp only [clash, hoi, ho, hd]; simp [ht]
              rcases ok2 j hj i hij with h | h
              · rw [hcl'] at h; cases h
              · exact before_j i h
            · rcases Nat.lt_or_ge j i with h1 | h1
              · have hcl' : clash ops j i = true := by simp only [clash, hoi, ho, hd]; simp [ht]
                rcases ok2 i hi' j h1 with h | h
                · rw [hcl'] at h; cases h
                · exact after_j i h
              · have : i = j := by omega
                rw [this]; exact hlj
        have : ∀ n, n ≤ ops.size → envPD ops v ρ (lst listed) n t = envPD ops v ρ (fun _ => true) (min n j) t := by
          intro n
          induction n with
          | zero => intro _; simp [envPD]
          | succ n ihn =>
            intro hn
            simp only [envPD]
            by_cases hd : dstOf ops n = some t
            · have hk := key n (by omega) hd
              rcases Nat.lt_or_ge n j with h1 | h1
              · have : min (n + 1) j = n + 1 := by omega
                rw [this]
                simp only [envPD, hk.1 h1, if_true, putD_at, hd]
              · have : min (n + 1) j = min n j := by omega
                rw [this, ← ihn (by omega)]
                simp [hk.2 h1]
            · have e1 : (if lst listed n = true then putD (envPD ops v ρ (lst listed) n) (dstOf ops n) (v n) else envPD ops v ρ (lst listed) n) t = envPD ops v ρ (lst listed) n t := by
                split
                · simp [putD_at, hd]
                · rfl
              rw [e1, ihn (by omega)]
              rcases Nat.lt_or_ge n j with h1 | h1
              · have a1 : min (n + 1) j = n + 1 := by omega
                have a2 : min n j = n := by omega
                rw [a1, a2]
                simp [envPD, putD_at, hd]
              · have : min (n + 1) j = min n j := by omega
                rw [this]
        rw [this _ (Nat.le_refl _), Nat.min_eq_right (by omega)]
      have hcnt : (List.range ops.size).countP (fun i => !lst (listed.setIfInBounds j true) i) ≤ fuel := by
        have h1 : (List.range ops.size).countP (fun i => !lst listed i) = (List.range ops.size).countP (fun i => !lst (listed.setIfInBounds j true) i) + (List.range ops.size).countP (fun i => decide (i = j)) := by
          have : ∀ l : List Nat, l.countP (fun i => !lst listed i) = l.countP (fun i => !lst (listed.setIfInBounds j true) i) + l.countP (fun i => decide (i = j)) := by
            intro l
            induction l with
            | nil => rfl
            | cons x l ihl =>
              simp only [List.countP_cons, hset]
              rw [ihl]
              simp only [hset]
              by_cases hx : x = j
              · subst hx; simp [hlj]; omega
              · simp [hx]; omega
          exact this _
        have h2 : 0 < (List.range ops.size).countP (fun i => decide (i = j)) := by
          rw [List.countP_pos_iff]
          exact ⟨j, List.mem_range.2 hj, by simp⟩
        omega
      have hcl' : ∀ i, lst (listed.setIfInBounds j true) i = true → ∀ e ∈ direct ops i, lst (listed.setIfInBounds j true) e = true := by
        intro i hli e he
        rw [hset] at hli ⊢
        simp only [Bool.or_eq_true, decide_eq_true_eq] at hli ⊢
        rcases hli with h | rfl
        · exact .inl (hcl i h e he)
        · exact .inl (hdj e he)
      by_cases hmj : j ∈ mk
      · have hcutj : ∀ m ∈ mk, m < ops.size → (lst listed m = true ↔ m < j) := by
          intro m hm hms
          rcases Nat.lt_trichotomy m j with h | h | h
          · refine ⟨fun _ => h, fun _ => ?_⟩
            rcases ok3 j hmj m hm with h' | h'
            · omega
            · exact before_j m h'
          · subst h
            simp [hlj]
          · refine ⟨fun hl => ?_, fun _ => by omega⟩
            rcases ok3 m hm j hmj with h' | h'
            · omega
            · rw [after_j m h'] at hl; cases hl
        have hH : Hs q = Hs j := by
          rcases Nat.le_total q j with h | h
          · exact (hs_betweenD T j h (by omega) fun m h1 h2 hm => by
              have a1 := (hcut m hm (by omega))
              have a2 := (hcutj m hm (by omega))
              have := a2.2 h2
              have := a1.1 this
              omega).symm
          · exact hs_betweenD T q h hq fun m h1 h2 hm => by
              have a1 := (hcut m hm (by omega))
              have a2 := (hcutj m hm (by omega))
              have := a1.2 h2
              have := a2.1 this
              omega
        rw [hH]
        refine OpStepD.cons ((T.step j hj).congr hagree) ?_
        rw [← henv']
        refine ih _ _ (j + 1) (by simp [hsz]) hcl' (by omega) (fun m hm hms => ?_) hcnt
        rw [hset]
        have := hcutj m hm hms
        simp only [Bool.or_eq_true, decide_eq_true_eq, this]
        omega
      · have hrob := T.robust j hj hmj q hq (fun m hm ho => by
            rcases Nat.lt_or_ge m ops.size with hms | hms
            · exact (hcut m hm hms).1 (before_j m ho)
            · have := before_j m ho
              simp [lst, Array.getD, hsz, Nat.not_lt.2 hms] at this)
          (fun m hm ho => by
            rcases Nat.lt_or_ge m ops.size with hms | hms
            · have := (hcut m hm hms)
              have h2 := after_j m ho
              rw [h2] at this
              simp at this
              exact this
            · omega)
        refine OpStepD.cons (hrob.congr hagree) ?_
        rw [← henv']
        refine ih _ _ q (by simp [hsz]) hcl' hq (fun m hm hms => ?_) hcnt
        rw [hset]
        have hne : m ≠ j := fun e => hmj (e ▸ hm)
        simp only [hne, decide_false, Bool.or_false]
        exact hcut m hm hms

theorem drawn_allD (hok : drawnOk ops mk = true) (T : TraceD P orc fl sz ops mk ρ v Hs) (t : Nat) :
    BigD P orc fl (.ops sz ops (Region.linearise .any ops t) ρ) (Hs 0) (.env (envPD ops v ρ (fun _ => true) ops.size)) (Hs ops.size) := by
  have h0 : ∀ i, lst (Array.replicate ops.size false) i = false := by
    intro i
    simp only [lst, Array.getD_eq_getD_getElem?, Array.getElem?_replicate]
    split <;> rfl
  have := drawn_goD hok T ops.size t (Array.replicate ops.size false) 0 (by simp) (fun j hj => by rw [h0] at hj; cases hj) (Nat.zero_le _) (fun m _ _ => by simp [h0]) (by
    have := List.countP_le_length (p := fun i => !lst (Array.replicate ops.size false) i) (l := List.range ops.size)
    simpa using this)
  have he : envPD ops v ρ (lst (Array.replicate ops.size false)) ops.size = ρ := by
    have : ∀ n, envPD ops v ρ (lst (Array.replicate ops.size false)) n = ρ := by
      intro n
      induction n with
      | zero => rfl
      | succ n ih => simp [envPD, h0, ih]
    exact this _
  rw [he] at this
  exact this
end

end Go.DM
