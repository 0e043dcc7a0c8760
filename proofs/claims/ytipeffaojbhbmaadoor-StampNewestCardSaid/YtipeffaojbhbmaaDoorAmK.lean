/- An abstract machine over Go's operations: statements whose order is open. -/
import Derived.Test.YtipeffaojbhbmaaDoorAmJ
import Derived.Orders
set_option linter.unusedSimpArgs false
set_option linter.unusedVariables false
namespace Go.AM
open Go

/-- One operation of a region, in an environment and a memory. -/
def OpStep (P : Program) (orc : Oracle) (base sz : Nat) (ops : Array Oper) (i : Nat) (ρ : Env) (H : Heap) (v : Value) (H' : Heap) : Prop :=
  ∃ o, ops[i]? = some o ∧ okDst sz o.dst ∧
    ((Region.wanted o (yieldedA ops ρ) = false ∧ v = undef ∧ H' = H) ∨
     (Region.wanted o (yieldedA ops ρ) = true ∧ o.op.operands.toList.all okOperand = true ∧
      (opA P base ρ o.op H = some (v, H') ∨
       ∃ f args fn, targetA ρ o.op = some (f, args) ∧ P.funcs[f]? = some fn ∧ fn.name ≠ "runtime.NumGoroutine" ∧ fn.body.isNone = false ∧ Big P orc base (.call f args) H (.val v) H')))

def dstOf (ops : Array Oper) (i : Nat) : Option Tmp := (ops[i]?).bind (·.dst)

theorem OpStep.cons {P orc base sz ops i ρ H v H1 l out H'} (h : OpStep P orc base sz ops i ρ H v H1) (k : Big P orc base (.ops sz ops l (put ρ (dstOf ops i) v)) H1 out H') :
    Big P orc base (.ops sz ops (i :: l) ρ) H out H' := by
  obtain ⟨o, ho, hd, h⟩ := h
  have e : dstOf ops i = o.dst := by simp [dstOf, ho]
  rw [e] at k
  rcases h with ⟨hw, rfl, rfl⟩ | ⟨hw, hc, h | ⟨f, args, fn, ht, hf, hn, hb, hcall⟩⟩
  · exact .opsSkip ho hw hd k
  · exact .opsOp ho hw hd hc h k
  · exact .opsCall ho hw hd hc ht hf hn hb hcall k

theorem evalA_congr {ρ ρ' : Env} {x : Operand} (h : ∀ t, x = .tmp t → ρ t = ρ' t) : evalA ρ x = evalA ρ' x := by
  cases x with
  | tmp t => exact h t rfl
  | _ => rfl

theorem opA_congr {P : Program} {base : Nat} {ρ ρ' : Env} {o : Oper} {H : Heap} (h : ∀ x ∈ o.op.operands, evalA ρ x = evalA ρ' x) : opA P base ρ o.op H = opA P base ρ' o.op H := by
  obtain ⟨dst, op, type, pos, after, guard⟩ := o
  have pairs : ∀ ps : List (Nat × Operand), (∀ p ∈ ps, evalA ρ p.2 = evalA ρ' p.2) → (ps.map fun (i, x) => (i, evalA ρ x)) = (ps.map fun (i, x) => (i, evalA ρ' x)) := fun ps hp =>
    List.map_congr_left fun p hm => by obtain ⟨i, x⟩ := p; simp only [hp (i, x) hm]
  cases op <;> simp only [Op.operands] at h <;> simp only [opA]
  case build t ps => rw [pairs ps.toList fun p hp => h p.2 (by simp; exact ⟨p.1, by simpa using hp⟩)]
  case buildSlice t n ps => rw [pairs ps.toList fun p hp => h p.2 (by simp; exact ⟨p.1, by simpa using hp⟩)]
  case makeFunc fn first captured =>
    rw [Array.map_congr_left (xs := first) fun x hx => h x (by simp [hx]), Array.map_congr_left (xs := captured) fun x hx => h x (by simp [hx])]
  case call c =>
    obtain ⟨callee, args, at_⟩ := c
    cases callee with
    | builtin b =>
      simp only
      rw [List.map_congr_left (l := args.toList) fun x hx => h x (by simp [Call.operands]; simpa using hx)]
    | _ => rfl
  case slice t x lo hi mx => cases lo <;> cases hi <;> cases mx <;> simp_all
  all_goals (first | rfl | (simp_all; done))

theorem targetA_congr {ρ ρ' : Env} {o : Oper} (h : ∀ x ∈ o.op.operands, evalA ρ x = evalA ρ' x) : targetA ρ o.op = targetA ρ' o.op := by
  obtain ⟨dst, op, type, pos, after, guard⟩ := o
  cases op <;> simp only [targetA]
  rename_i c
  obtain ⟨callee, args, at_⟩ := c
  cases callee with
  | value f =>
    simp only [Op.operands, Call.operands] at h
    simp only
    rw [h f (by simp), List.map_congr_left (l := args.toList) fun x hx => h x (by simp; exact .inr (by simpa using hx))]
  | _ => rfl

theorem wanted_congr {ops : Array Oper} {ρ ρ' : Env} {o : Oper} (h : ∀ t ∈ o.looksAt ops, ρ t = ρ' t) : Region.wanted o (yieldedA ops ρ) = Region.wanted o (yieldedA ops ρ') := by
  unfold Region.wanted
  cases hg : o.guard with
  | none => rfl
  | some gw =>
    obtain ⟨g, want⟩ := gw
    have : yieldedA ops ρ g = yieldedA ops ρ' g := by
      unfold yieldedA
      cases ht : (ops[g]?).bind (·.dst) with
      | none => rfl
      | some t => simp only; rw [h t (by simp [Oper.looksAt, hg, ht])]
    simp only [this]

theorem OpStep.congr {P orc base sz ops i ρ ρ' H v H'} (h : OpStep P orc base sz ops i ρ H v H') (ha : ∀ o, ops[i]? = some o → ∀ t ∈ o.looksAt ops, ρ t = ρ' t) : OpStep P orc base sz ops i ρ' H v H' := by
  obtain ⟨o, ho, hd, h⟩ := h
  have hl := ha o ho
  have he : ∀ x ∈ o.op.operands, evalA ρ x = evalA ρ' x := fun x hx => evalA_congr fun t hxt => hl t (by
    subst hxt
    exact List.mem_append_left _ (List.mem_filterMap.2 ⟨.tmp t, by simpa using hx, rfl⟩))
  refine ⟨o, ho, hd, ?_⟩
  rw [← wanted_congr hl, ← opA_congr he, ← targetA_congr he]
  exact h

/-- What must come ahead of an operation, at once. -/
def direct (ops : Array Oper) (j : Nat) : List Nat := ((ops[j]?).map fun o => (o.after.toList.filter (Region.binds .any)).map (·.on)).getD []
def ordered (ops : Array Oper) : Nat → Nat → Nat → Bool
  | 0, _, _ => false
  | n + 1, i, j => (direct ops j).any fun k => k == i || ordered ops n i k

theorem ordered_closed {ops : Array Oper} {L : Nat → Prop} (hL : ∀ j, L j → ∀ e ∈ direct ops j, L e) : ∀ n i j, ordered ops n i j = true → (∀ e ∈ direct ops j, L e) → L i
  | 0, _, _, h, _ => by simp [ordered] at h
  | n + 1, i, j, h, hd => by
    simp only [ordered, List.any_eq_true, Bool.or_eq_true, beq_iff_eq] at h
    obtain ⟨k, hk, rfl | hk'⟩ := h
    · exact hd k hk
    · exact ordered_closed hL n i k hk' (hL k (hd k hk))

def envP (ops : Array Oper) (v : Nat → Value) (ρ : Env) (L : Nat → Bool) : Nat → Env
  | 0 => ρ
  | n + 1 => if L n then put (envP ops v ρ L n) (dstOf ops n) (v n) else envP ops v ρ L n

theorem put_at {ρ : Env} {d : Option Tmp} {v : Value} {t : Tmp} : put ρ d v t = if d = some t then v else ρ t := by
  cases d with
  | none => simp [put]
  | some e =>
    simp only [put, upd, Option.some.injEq]
    by_cases h : t = e
    · simp [h]
    · have : e ≠ t := fun q => h q.symm
      simp [h, this]

/-- Two operations that touch a common temporary. -/
def clash (ops : Array Oper) (i j : Nat) : Bool :=
  match ops[i]?, ops[j]? with
  | some a, some b => (match a.dst with | some d => (b.looksAt ops).contains d || b.dst == some d | none => false) || (match b.dst with | some d => (a.looksAt ops).contains d | none => false)
  | _, _ => false

/-- What is looked at in a region's text. -/
def drawnOk (ops : Array Oper) (mk : List Nat) : Bool :=
  (List.range ops.size).all (fun j => (direct ops j).all (· < j)) &&
  (List.range ops.size).all (fun j => (List.range j).all fun i => !clash ops i j || ordered ops ops.size i j) &&
  mk.all (fun j => mk.all fun i => !(decide (i < j)) || ordered ops ops.size i j)

structure Trace (P : Program) (orc : Oracle) (base sz : Nat) (ops : Array Oper) (mk : List Nat) (ρ : Env) (v : Nat → Value) (Hs : Nat → Heap) : Prop where
  step : ∀ i, i < ops.size → OpStep P orc base sz ops i (envP ops v ρ (fun _ => true) i) (Hs i) (v i) (Hs (i + 1))
  still : ∀ i, i < ops.size → i ∉ mk → Hs (i + 1) = Hs i
  robust : ∀ i, i < ops.size → i ∉ mk → ∀ q, q ≤ ops.size → (∀ m ∈ mk, ordered ops ops.size m i = true → m < q) → (∀ m ∈ mk, ordered ops ops.size i m = true → q ≤ m) →
    OpStep P orc base sz ops i (envP ops v ρ (fun _ => true) i) (Hs q) (v i) (Hs q)

section
variable {P : Program} {orc : Oracle} {base sz : Nat} {ops : Array Oper} {mk : List Nat} {ρ : Env} {v : Nat → Value} {Hs : Nat → Heap}

theorem hs_between (T : Trace P orc base sz ops mk ρ v Hs) {a : Nat} : ∀ b, a ≤ b → b ≤ ops.size → (∀ m, a ≤ m → m < b → m ∉ mk) → Hs b = Hs a := by
  intro b
  induction b with
  | zero => intro hab _ _; have : a = 0 := by omega
            rw [this]
  | succ b ih =>
    intro hab hb hn
    rcases Nat.lt_or_ge b a with h | h
    · have : a = b + 1 := by omega
      rw [this]
    · rw [T.still b (by omega) (hn b h (by omega)), ih h (by omega) fun m h1 h2 => hn m h1 (by omega)]

def lst (listed : Array Bool) (i : Nat) : Bool := listed.getD i false

theorem mem_ready {listed : Array Bool} {i : Nat} (hsz : listed.size = ops.size) : i ∈ Region.ready .any ops listed ↔ i < ops.size ∧ lst listed i = false ∧ ∀ e ∈ direct ops i, lst listed e = true := by
  unfold Region.ready
  simp only [List.mem_filter, List.mem_range, Bool.and_eq_true, Bool.not_eq_true']
  constructor
  · rintro ⟨h1, h2, h3⟩
    refine ⟨h1, ?_, ?_⟩
    · have : i < listed.size := by omega
      simp [lst, Array.getD, this] at h2 ⊢; exact h2
    · intro e he
      unfold direct at he
      cases ho : ops[i]? with
      | none => simp [ho] at he
      | some o =>
        simp only [ho, Option.map_some, Option.getD_some, List.mem_map, List.mem_filter] at he h3
        obtain ⟨x, ⟨hx, hb⟩, rfl⟩ := he
        have := Array.all_eq_true.1 h3
        rw [Array.mem_toList_iff, Array.mem_iff_getElem] at hx
        obtain ⟨k, hk, rfl⟩ := hx
        have := this k hk
        simp only [hb, Bool.not_true, Bool.false_or] at this
        exact this
  · rintro ⟨h1, h2, h3⟩
    refine ⟨h1, ?_, ?_⟩
    · have : i < listed.size := by omega
      simp [lst, Array.getD, this] at h2 ⊢; exact h2
    · have ho : ops[i]? = some ops[i] := Array.getElem?_eq_getElem h1
      simp only [ho, Option.map_some, Option.getD_some]
      rw [Array.all_eq_true]
      intro k hk
      by_cases hb : Region.binds .any ops[i].after[k] = true
      · have := h3 ops[i].after[k].on (by
          unfold direct
          simp only [ho, Option.map_some, Option.getD_some, List.mem_map, List.mem_filter]
          exact ⟨_, ⟨by simp, hb⟩, rfl⟩)
        simp only [hb, Bool.not_true, Bool.false_or]
        exact this
      · simp [hb]

/-- Whichever order is drawn, the end is the text's. -/
theorem drawn_go (hok : drawnOk ops mk = true) (T : Trace P orc base sz ops mk ρ v Hs) : ∀ (fuel t : Nat) (listed : Array Bool) (q : Nat), listed.size = ops.size →
    (∀ j, lst listed j = true → ∀ e ∈ direct ops j, lst listed e = true) → q ≤ ops.size → (∀ m ∈ mk, m < ops.size → (lst listed m = true ↔ m < q)) →
    (List.range ops.size).countP (fun i => !lst listed i) ≤ fuel →
    Big P orc base (.ops sz ops (Region.linearise.go .any ops fuel t listed []) (envP ops v ρ (lst listed) ops.size)) (Hs q) (.env (envP ops v ρ (fun _ => true) ops.size)) (Hs ops.size) := by
  simp only [drawnOk, Bool.and_eq_true, List.all_eq_true, List.mem_range, Bool.or_eq_true, Bool.not_eq_true', decide_eq_true_eq, decide_eq_false_iff_not] at hok
  obtain ⟨⟨ok1, ok2⟩, ok3⟩ := hok
  have final : ∀ (listed : Array Bool) (q : Nat), q ≤ ops.size → (∀ m ∈ mk, m < ops.size → (lst listed m = true ↔ m < q)) → (∀ i, i < ops.size → lst listed i = true) →
      Big P orc base (.ops sz ops [] (envP ops v ρ (lst listed) ops.size)) (Hs q) (.env (envP ops v ρ (fun _ => true) ops.size)) (Hs ops.size) := by
    intro listed q hq hcut hall
    have e1 : envP ops v ρ (lst listed) ops.size = envP ops v ρ (fun _ => true) ops.size := by
      have : ∀ n, n ≤ ops.size → envP ops v ρ (lst listed) n = envP ops v ρ (fun _ => true) n := by
        intro n
        induction n with
        | zero => intro _; rfl
        | succ n ih => intro hn; simp only [envP, hall n (by omega), ih (by omega)]
      exact this _ (Nat.le_refl _)
    have e2 : Hs ops.size = Hs q := hs_between T _ hq (Nat.le_refl _) fun m h1 h2 hm => by
      have := (hcut m hm h2).1 (hall m h2)
      omega
    rw [e1, e2]
    exact .opsNil
  have ready_nil : ∀ (listed : Array Bool), listed.size = ops.size → Region.ready .any ops listed = [] → ∀ i, i < ops.size → lst listed i = true := by
    intro listed hsz hr i
    induction i using Nat.strongRecOn with
    | _ i ih =>
      intro hi
      rcases hli : lst listed i with _ | _
      · have : i ∈ Region.ready .any ops listed := (mem_ready hsz).2 ⟨hi, hli, fun e he => by
          have he' := ok1 i hi e he
          exact ih e he' (by omega)⟩
        rw [hr] at this
        cases this
      · rfl
  intro fuel
  induction fuel with
  | zero =>
    intro t listed q hsz hcl hq hcut hcount
    simp only [Region.linearise.go]
    refine final listed q hq hcut fun i hi => ?_
    have : (List.range ops.size).countP (fun i => !lst listed i) = 0 := by omega
    rw [List.countP_eq_zero] at this
    simpa using this i (List.mem_range.2 hi)
  | succ fuel ih =>
    intro t listed q hsz hcl hq hcut hcount
    simp only [Region.linearise.go]
    change Big P orc base (.ops sz ops (match (Region.ready .any ops listed)[t % (Region.ready .any ops listed).length]? with
      | some i => Region.linearise.go .any ops fuel (t / (Region.ready .any ops listed).length) (listed.setIfInBounds i true) [i]
      | none => [].reverse) _) _ _ _
    cases hi : (Region.ready .any ops listed)[t % (Region.ready .any ops listed).length]? with
    | none =>
      have hnil : Region.ready .any ops listed = [] := by
        cases hr : Region.ready .any ops listed with
        | nil => rfl
        | cons x xs =>
          rw [hr] at hi
          have hlt : t % (x :: xs).length < (x :: xs).length := Nat.mod_lt _ (by simp)
          simp at hi
          simp at hlt
          omega
      exact final listed q hq hcut (ready_nil listed hsz hnil)
    | some j =>
      simp only []
      rw [linearise_go_acc, List.reverse_singleton, List.singleton_append]
      obtain ⟨hj, hlj, hdj⟩ := (mem_ready hsz).1 (List.mem_of_getElem? hi)
      have hset : ∀ i, lst (listed.setIfInBounds j true) i = (lst listed i || decide (i = j)) := by
        intro i
        unfold lst
        by_cases hij : i = j
        · subst hij
          simp [Array.getD, hsz, hj]
        · simp [Array.getD_eq_getD_getElem?, Array.getElem?_setIfInBounds_ne (Ne.symm hij), hij]
      have before_j : ∀ i, ordered ops ops.size i j = true → lst listed i = true := fun i h => ordered_closed (L := fun i => lst listed i = true) hcl ops.size i j h hdj
      have after_j : ∀ i, ordered ops ops.size j i = true → lst listed i = false := fun i h => by
        rcases hli : lst listed i with _ | _
        · rfl
        · have := ordered_closed (L := fun i => lst listed i = true) hcl ops.size j i h (hcl i hli)
          rw [hlj] at this
          cases this
      have henv : ∀ n, n ≤ ops.size → ∀ t, envP ops v ρ (lst (listed.setIfInBounds j true)) n t = if j < n ∧ dstOf ops j = some t then v j else envP ops v ρ (lst listed) n t := by
        intro n
        induction n with
        | zero => intro _ t; simp [envP]
        | succ n ihn =>
          intro hn t
          simp only [envP, hset]
          by_cases hnj : n = j
          · subst hnj
            simp only [decide_true, Bool.or_true, if_true, hlj, Bool.false_eq_true, if_false, put_at, Nat.lt_succ_self, true_and]
            split
            · rfl
            · rw [ihn (by omega) t]; simp
          · simp only [hnj, decide_false, Bool.or_false]
            cases hln : lst listed n with
            | false =>
              simp only [Bool.false_eq_true, if_false]
              rw [ihn (by omega) t]
              have : j < n + 1 ↔ j < n := by omega
              simp only [this]
            | true =>
              simp only [if_true, put_at]
              by_cases hdn : dstOf ops n = some t
              · simp only [hdn, if_true]
                have : ¬ (j < n + 1 ∧ dstOf ops j = some t) := by
                  rintro ⟨h1, h2⟩
                  have hjn : j < n := by omega
                  have hcl' : clash ops j n = true := by
                    unfold clash
                    unfold dstOf at hdn h2
                    cases hoj : ops[j]? with
                    | none => simp [hoj] at h2
                    | some a =>
                      cases hon : ops[n]? with
                      | none => simp [hon] at hdn
                      | some b =>
                        simp [hoj] at h2
                        simp [hon] at hdn
                        simp [h2, hdn]
                  rcases ok2 n (by omega) j hjn with h | h
                  · rw [hcl'] at h; cases h
                  · rw [after_j n h] at hln; cases hln
                simp only [this, if_false]
              · simp only [hdn, if_false]
                rw [ihn (by omega) t]
                have : j < n + 1 ↔ j < n := by omega
                simp only [this]
      have henv' : envP ops v ρ (lst (listed.setIfInBounds j true)) ops.size = put (envP ops v ρ (lst listed) ops.size) (dstOf ops j) (v j) := by
        funext t
        rw [henv _ (Nat.le_refl _) t, put_at]
        simp [hj]
      have hagree : ∀ o, ops[j]? = some o → ∀ t ∈ o.looksAt ops, envP ops v ρ (fun _ => true) j t = envP ops v ρ (lst listed) ops.size t := by
        intro o ho t ht
        have key : ∀ i, i < ops.size → dstOf ops i = some t → (i < j → lst listed i = true) ∧ (j ≤ i → lst listed i = false) := by
          intro i hi' hd
          unfold dstOf at hd
          cases hoi : ops[i]? with
          | none => simp [hoi] at hd
          | some a =>
            simp [hoi] at hd
            refine ⟨fun hij => ?_, fun hij => ?_⟩
            · have hcl' : clash ops i j = true := by simp only [clash, hoi, ho, hd]; simp [ht]
              rcases ok2 j hj i hij with h | h
              · rw [hcl'] at h; cases h
              · exact before_j i h
            · rcases Nat.lt_or_ge j i with h1 | h1
              · have hcl' : clash ops j i = true := by simp only [clash, hoi, ho, hd]; simp [ht]
                rcases ok2 i hi' j h1 with h | h
                · rw [hcl'] at h; cases h
                · exact after_j i h
              · have : i = j := by omega
                rw [this]; exact hlj
        have : ∀ n, n ≤ ops.size → envP ops v ρ (lst listed) n t = envP ops v ρ (fun _ => true) (min n j) t := by
          intro n
          induction n with
          | zero => intro _; simp [envP]
          | succ n ihn =>
            intro hn
            simp only [envP]
            by_cases hd : dstOf ops n = some t
            · have hk := key n (by omega) hd
              rcases Nat.lt_or_ge n j with h1 | h1
              · have : min (n + 1) j = n + 1 := by omega
                rw [this]
                simp only [envP, hk.1 h1, if_true, put_at, hd]
              · have : min (n + 1) j = min n j := by omega
                rw [this, ← ihn (by omega)]
                simp [hk.2 h1]
            · have e1 : (if lst listed n = true then put (envP ops v ρ (lst listed) n) (dstOf ops n) (v n) else envP ops v ρ (lst listed) n) t = envP ops v ρ (lst listed) n t := by
                split
                · simp [put_at, hd]
                · rfl
              rw [e1, ihn (by omega)]
              rcases Nat.lt_or_ge n j with h1 | h1
              · have a1 : min (n + 1) j = n + 1 := by omega
                have a2 : min n j = n := by omega
                rw [a1, a2]
                simp [envP, put_at, hd]
              · have : min (n + 1) j = min n j := by omega
                rw [this]
        rw [this _ (Nat.le_refl _), Nat.min_eq_right (by omega)]
      have hcnt : (List.range ops.size).countP (fun i => !lst (listed.setIfInBounds j true) i) ≤ fuel := by
        have h1 : (List.range ops.size).countP (fun i => !lst listed i) = (List.range ops.size).countP (fun i => !lst (listed.setIfInBounds j true) i) + (List.range ops.size).countP (fun i => decide (i = j)) := by
          have : ∀ l : List Nat, l.countP (fun i => !lst listed i) = l.countP (fun i => !lst (listed.setIfInBounds j true) i) + l.countP (fun i => decide (i = j)) := by
            intro l
            induction l with
            | nil => rfl
            | cons x l ihl =>
              simp only [List.countP_cons, hset]
              rw [ihl]
              simp only [hset]
              by_cases hx : x = j
              · subst hx; simp [hlj]; omega
              · simp [hx]; omega
          exact this _
        have h2 : 0 < (List.range ops.size).countP (fun i => decide (i = j)) := by
          rw [List.countP_pos_iff]
          exact ⟨j, List.mem_range.2 hj, by simp⟩
        omega
      have hcl' : ∀ i, lst (listed.setIfInBounds j true) i = true → ∀ e ∈ direct ops i, lst (listed.setIfInBounds j true) e = true := by
        intro i hli e he
        rw [hset] at hli ⊢
        simp only [Bool.or_eq_true, decide_eq_true_eq] at hli ⊢
        rcases hli with h | rfl
        · exact .inl (hcl i h e he)
        · exact .inl (hdj e he)
      by_cases hmj : j ∈ mk
      · have hcutj : ∀ m ∈ mk, m < ops.size → (lst listed m = true ↔ m < j) := by
          intro m hm hms
          rcases Nat.lt_trichotomy m j with h | h | h
          · refine ⟨fun _ => h, fun _ => ?_⟩
            rcases ok3 j hmj m hm with h' | h'
            · omega
            · exact before_j m h'
          · subst h
            simp [hlj]
          · refine ⟨fun hl => ?_, fun _ => by omega⟩
            rcases ok3 m hm j hmj with h' | h'
            · omega
            · rw [after_j m h'] at hl; cases hl
        have hH : Hs q = Hs j := by
          rcases Nat.le_total q j with h | h
          · exact (hs_between T j h (by omega) fun m h1 h2 hm => by
              have a1 := (hcut m hm (by omega))
              have a2 := (hcutj m hm (by omega))
              have := a2.2 h2
              have := a1.1 this
              omega).symm
          · exact hs_between T q h hq fun m h1 h2 hm => by
              have a1 := (hcut m hm (by omega))
              have a2 := (hcutj m hm (by omega))
              have := a1.2 h2
              have := a2.1 this
              omega
        rw [hH]
        refine OpStep.cons ((T.step j hj).congr hagree) ?_
        rw [← henv']
        refine ih _ _ (j + 1) (by simp [hsz]) hcl' (by omega) (fun m hm hms => ?_) hcnt
        rw [hset]
        have := hcutj m hm hms
        simp only [Bool.or_eq_true, decide_eq_true_eq, this]
        omega
      · have hrob := T.robust j hj hmj q hq (fun m hm ho => by
            rcases Nat.lt_or_ge m ops.size with hms | hms
            · exact (hcut m hm hms).1 (before_j m ho)
            · have := before_j m ho
              simp [lst, Array.getD, hsz, Nat.not_lt.2 hms] at this)
          (fun m hm ho => by
            rcases Nat.lt_or_ge m ops.size with hms | hms
            · have := (hcut m hm hms)
              have h2 := after_j m ho
              rw [h2] at this
              simp at this
              exact this
            · omega)
        refine OpStep.cons (hrob.congr hagree) ?_
        rw [← henv']
        refine ih _ _ q (by simp [hsz]) hcl' hq (fun m hm hms => ?_) hcnt
        rw [hset]
        have hne : m ≠ j := fun e => hmj (e ▸ hm)
        simp only [hne, decide_false, Bool.or_false]
        exact hcut m hm hms

theorem drawn_all (hok : drawnOk ops mk = true) (T : Trace P orc base sz ops mk ρ v Hs) (t : Nat) :
    Big P orc base (.ops sz ops (Region.linearise .any ops t) ρ) (Hs 0) (.env (envP ops v ρ (fun _ => true) ops.size)) (Hs ops.size) := by
  have h0 : ∀ i, lst (Array.replicate ops.size false) i = false := by
    intro i
    simp only [lst, Array.getD_eq_getD_getElem?, Array.getElem?_replicate]
    split <;> rfl
  have := drawn_go hok T ops.size t (Array.replicate ops.size false) 0 (by simp) (fun j hj => by rw [h0] at hj; cases hj) (Nat.zero_le _) (fun m _ _ => by simp [h0]) (by
    have := List.countP_le_length (p := fun i => !lst (Array.replicate ops.size false) i) (l := List.range ops.size)
    simpa using this)
  have he : envP ops v ρ (lst (Array.replicate ops.size false)) ops.size = ρ := by
    have : ∀ n, envP ops v ρ (lst (Array.replicate ops.size false)) n = ρ := by
      intro n
      induction n with
      | zero => rfl
      | succ n ih => simp [envP, h0, ih]
    exact this _
  rw [he] at this
  exact this
end

end Go.AM
