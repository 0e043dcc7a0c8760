/- An abstract machine over Go's operations: rules for walking through statements whose order is open. -/
import Derived.Test.YtipeffaojbhbmaaDoorDmL
set_option linter.unusedSimpArgs false
set_option linter.unusedVariables false
namespace Go.DM
open Go Go.AM

/-- An operation that does not look at memory. -/
def freeD : Op → Bool
  | .move _ | .assign _ | .pick _ _ _ | .nilCheck _ | .unOp _ _ _ | .makeInterface _ _ | .makeFunc _ _ _ | .fieldAddr _ _ _ | .indexAddr _ _ _ | .index _ _ _ | .extract _ _ | .binOp _ _ _ _ _ | .build _ _ | .slice _ _ _ _ _ => true
  | .call { callee := .builtin .len, .. } | .call { callee := .builtin .max, .. } | .call { callee := .builtin .min, .. } => true
  | _ => false
def readsD : Op → Bool
  | .load _ _ => true
  | _ => false

theorem freeD_same {P : Program} {ρ : DEnv} {op : Op} {H H1 : Mem} {v : D} (hf : freeD op = true) (h : opD P ρ op H = some (v, H1)) : H1 = H ∧ ∀ H', opD P ρ op H' = some (v, H') := by
  have key : ∀ x : Option D, (x.map (·, H)) = some (v, H1) → H1 = H ∧ ∀ H' : Mem, x.map (·, H') = some (v, H') := by
    intro x hx
    cases x with
    | none => cases hx
    | some y => cases hx; exact ⟨rfl, fun _ => rfl⟩
  cases op <;> (try (simp [freeD] at hf; done)) <;> simp only [opD] at h ⊢
  case move => cases h; exact ⟨rfl, fun _ => rfl⟩
  case assign => cases h; exact ⟨rfl, fun _ => rfl⟩
  case pick => split at h <;> first | (cases h; done) | (cases h; exact ⟨rfl, fun _ => rfl⟩)
  case nilCheck => split at h <;> first | (cases h; done) | (cases h; exact ⟨rfl, fun _ => rfl⟩)
  case makeInterface => split at h <;> first | (cases h; done) | (cases h; exact ⟨rfl, fun _ => rfl⟩)
  case makeFunc => cases h; exact ⟨rfl, fun _ => rfl⟩
  case fieldAddr => exact key _ h
  case indexAddr => exact key _ h
  case build => exact key _ h
  case slice => exact key _ h
  case binOp => exact key _ h
  case extract =>
    split at h
    · exact key _ h
    · cases h
  case index =>
    split at h
    · rename_i s k i _ _ _
      by_cases h0 : 0 ≤ i
      · rw [if_pos h0] at h
        simp only [h0, if_true]
        cases hs : s.data[i.toNat]? with
        | none => rw [hs] at h; cases h
        | some b => rw [hs] at h; cases h; exact ⟨rfl, fun _ => rfl⟩
      · rw [if_neg h0] at h; cases h
    · cases h
  case unOp op t x =>
    split at h
    · cases h; exact ⟨rfl, fun _ => rfl⟩
    · cases h; exact ⟨rfl, fun _ => rfl⟩
    · rename_i k n _
      cases hp : pureRun P (Op.intBits .xor k (if k.signed then -1 else k.max) n) with
      | none => rw [hp] at h; cases h
      | some w =>
        rw [hp] at h
        by_cases hc : closedV w = true
        · simp only [Option.bind_some, hc, if_true] at h ⊢
          cases h; exact ⟨rfl, fun _ => rfl⟩
        · simp [hc] at h
    · cases h
  case call c =>
    obtain ⟨callee, args, at_⟩ := c
    cases callee with
    | builtin b =>
      simp only at h ⊢
      generalize args.toList.map (evalD ρ) = xs at h ⊢
      have hlen : builtinD P .len at_ xs H = some (v, H1) → H1 = H ∧ ∀ H', builtinD P .len at_ xs H' = some (v, H') := by
        intro h
        match xs, h with
        | [x], h =>
          simp only [builtinD] at h ⊢
          split at h <;> first | (cases h; done) | (cases h; exact ⟨rfl, fun _ => rfl⟩)
        | [], h => cases h
        | _ :: _ :: _, h => cases h
      have hmin : builtinD P .min at_ xs H = some (v, H1) → H1 = H ∧ ∀ H', builtinD P .min at_ xs H' = some (v, H') := by
        intro h
        match xs, h with
        | [], h => simp [builtinD] at h
        | [x], h => simp [builtinD] at h
        | _ :: _ :: _ :: _, h => simp [builtinD] at h
        | [x, y], h =>
          cases x <;> first | (simp [builtinD] at h; done) | skip
          cases y <;> first | (simp [builtinD] at h; done) | skip
          cases h; exact ⟨rfl, fun _ => rfl⟩
      have hmax : builtinD P .max at_ xs H = some (v, H1) → H1 = H ∧ ∀ H', builtinD P .max at_ xs H' = some (v, H') := by
        intro h
        match xs, h with
        | [], h => simp [builtinD] at h
        | [x], h => simp [builtinD] at h
        | _ :: _ :: _ :: _, h => simp [builtinD] at h
        | [x, y], h =>
          cases x <;> first | (simp [builtinD] at h; done) | skip
          cases y <;> first | (simp [builtinD] at h; done) | skip
          cases h; exact ⟨rfl, fun _ => rfl⟩
      cases b <;> (try (simp [freeD] at hf; done))
      · exact hlen h
      · exact hmax h
      · exact hmin h
    | _ => simp [freeD] at hf

theorem readsD_same {P : Program} {ρ : DEnv} {op : Op} {H H1 : Mem} {v : D} (hf : readsD op = true) (h : opD P ρ op H = some (v, H1)) : H1 = H := by
  cases op <;> (try (simp [readsD] at hf; done)) <;> simp only [opD] at h
  cases hl : loadD P ‹_› (evalD ρ ‹_›) H with
  | none => rw [hl] at h; cases h
  | some w => rw [hl] at h; cases h; rfl

def makersD (ops : Array Oper) : List Nat := (List.range ops.size).filter fun i => match ops[i]? with | some o => !(freeD o.op || readsD o.op) | none => false
def freeAtD (ops : Array Oper) (i : Nat) : Bool := match ops[i]? with | some o => freeD o.op | none => false
/-- What is looked at in a region's text; the reads that stand open are named. -/
def drawnFineD (ops : Array Oper) (loose : List Nat) : Bool :=
  drawnOk ops (makersD ops) && (List.range ops.size).all fun i => (makersD ops).contains i || freeAtD ops i || pinned ops (makersD ops) i || loose.contains i

/-- All reads that stand open are done ahead of an operation that makes something; of what comes behind it nothing is asked. -/
def fenceOk (ops : Array Oper) (loose : List Nat) (F : Nat) : Bool := decide (ops.size ≤ F) || ((makersD ops).contains F && loose.all fun a => ordered ops ops.size a F)

section
variable (P : Program) (orc : DOracle) (fl sz : Nat) (ops : Array Oper) (loose : List Nat) (Inv : Mem → Prop) (F : Nat)
inductive Tr : Nat → DEnv → Mem → List (D × Mem) → DEnv → Mem → Prop
  | nil {ρ H} : Tr ops.size ρ H [] ρ H
  | cons {i ρ H v H1 l ρ' H'} (h : OpStepD P orc fl sz ops i ρ H v H1) (hl : i ∈ loose → ∀ H', Inv H' → OpStepD P orc fl sz ops i ρ H' v H') (hi : i < F → Inv H1)
      (t : Tr (i + 1) (putD ρ (dstOf ops i) v) H1 l ρ' H') : Tr i ρ H ((v, H1) :: l) ρ' H'
end

section
variable {P : Program} {orc : DOracle} {fl sz : Nat} {ops : Array Oper} {loose : List Nat} {Inv : Mem → Prop} {F : Nat}

theorem OpStepD.lt {i ρ H v H'} (h : OpStepD P orc fl sz ops i ρ H v H') : i < ops.size := by
  obtain ⟨o, ho, _⟩ := h
  exact lt_of_get ho

theorem Tr.spread {ρ0 : DEnv} {v : Nat → D} {Hs : Nat → Mem} {i ρ H l ρ' H'} (t : Tr P orc fl sz ops loose Inv F i ρ H l ρ' H') : Hs i = H → envPD ops v ρ0 (fun _ => true) i = ρ → (∀ k p, l[k]? = some p → v (i + k) = p.1 ∧ Hs (i + k + 1) = p.2) →
    (∀ j, i ≤ j → j < ops.size → OpStepD P orc fl sz ops j (envPD ops v ρ0 (fun _ => true) j) (Hs j) (v j) (Hs (j + 1)) ∧
      (j ∈ loose → ∀ H', Inv H' → OpStepD P orc fl sz ops j (envPD ops v ρ0 (fun _ => true) j) H' (v j) H') ∧ (j < F → Inv (Hs (j + 1)))) ∧
    envPD ops v ρ0 (fun _ => true) ops.size = ρ' ∧ Hs ops.size = H' := by
  induction t with
  | nil => intro h1 h2 _; exact ⟨fun j a b => by omega, h2, h1⟩
  | @cons i ρ H w H1 l ρ' H' h hl hi t ih =>
    intro h1 h2 h3
    obtain ⟨e1, e2⟩ := h3 0 _ rfl
    simp only [Nat.add_zero] at e1 e2
    obtain ⟨a, b, c⟩ := ih e2 (by simp only [envPD, if_true, h2, e1]) fun k p hk => by
      have := h3 (k + 1) p (by simpa using hk)
      rw [show i + 1 + k = i + (k + 1) by omega]
      exact this
    refine ⟨fun j hj hjs => ?_, b, c⟩
    rcases Nat.lt_or_ge i j with hij | hij
    · exact a j hij hjs
    · obtain rfl : j = i := by omega
      rw [h2, h1, e1, e2]
      exact ⟨h, hl, hi⟩

theorem ordered_lt (hd : ∀ j, j < ops.size → ∀ k ∈ direct ops j, k < j) : ∀ n i j, ordered ops n i j = true → i < j
  | 0, _, _, h => by simp [ordered] at h
  | n + 1, i, j, h => by
    simp only [ordered, List.any_eq_true, Bool.or_eq_true, beq_iff_eq] at h
    obtain ⟨k, hk, h⟩ := h
    have hj : j < ops.size := by
      rcases Nat.lt_or_ge j ops.size with hj | hj
      · exact hj
      · simp [direct, Array.getElem?_eq_none hj] at hk
    have := hd j hj k hk
    rcases h with rfl | h
    · exact this
    · exact Nat.lt_trans (ordered_lt hd n i k h) this

theorem Tr.all {ρ H l ρ' H'} (hf : drawnFineD ops loose = true) (hfe : fenceOk ops loose F = true) (h0 : Inv H) (t : Tr P orc fl sz ops loose Inv F 0 ρ H l ρ' H') (n : Nat) :
    BigD P orc fl (.ops sz ops (Region.linearise .any ops n) ρ) H (.env ρ') H' := by
  simp only [drawnFineD, Bool.and_eq_true] at hf
  obtain ⟨hok, hcl⟩ := hf
  let v : Nat → D := fun i => ((l[i]?).map (·.1)).getD dUndef
  let Hs : Nat → Mem := fun i => match i with | 0 => H | i + 1 => ((l[i]?).map (·.2)).getD H'
  obtain ⟨a, b, c⟩ := t.spread (ρ0 := ρ) (v := v) (Hs := Hs) rfl rfl fun k p hk => by
    rw [Nat.zero_add]
    exact ⟨by simp [v, hk], by simp [Hs, hk]⟩
  have hinv : ∀ q, q ≤ ops.size → q ≤ F → Inv (Hs q) := by
    intro q hq hF
    cases q with
    | zero => exact h0
    | succ q => exact (a q (Nat.zero_le _) hq).2.2 hF
  have hdir : ∀ j, j < ops.size → ∀ k ∈ direct ops j, k < j := by
    intro j hj k hk
    simp only [drawnOk, Bool.and_eq_true, List.all_eq_true, List.mem_range, decide_eq_true_eq] at hok
    exact hok.1.1 j hj k hk
  have notmk : ∀ i, i < ops.size → i ∉ makersD ops → ∃ o, ops[i]? = some o ∧ (freeD o.op = true ∨ readsD o.op = true) := by
    intro i hi hm
    refine ⟨ops[i], by simp [hi], ?_⟩
    simp only [makersD, List.mem_filter, List.mem_range, hi, true_and, Array.getElem?_eq_getElem, Bool.not_eq_true', Bool.or_eq_false_iff, not_and] at hm
    cases h1 : freeD ops[i].op with
    | true => exact .inl rfl
    | false => exact .inr (by simpa using hm h1)
  have still : ∀ i, i < ops.size → i ∉ makersD ops → Hs (i + 1) = Hs i := by
    intro i hi hm
    obtain ⟨o, ho, hk⟩ := notmk i hi hm
    obtain ⟨o', ho', hd1, ⟨g1, b1, hg1, hy1, hb1, hv1, h⟩ | ⟨hw1, hc1, h | ⟨f, args, fn, ht, hrest⟩⟩⟩ := (a i (Nat.zero_le _) hi).1
    · exact h
    · rw [ho] at ho'
      cases ho'
      rcases hk with hk | hk
      · exact (freeD_same hk h).1
      · exact readsD_same hk h
    · rw [ho] at ho'
      cases ho'
      exfalso
      obtain ⟨dst, op, type, pos, after, guard⟩ := o
      cases op <;> (try (simp [targetD] at ht; done))
      case call cl =>
      obtain ⟨callee, args, at_⟩ := cl
      cases callee <;> simp [targetD, freeD, readsD] at hk ht
  have T : TraceD P orc fl sz ops (makersD ops) ρ v Hs := by
    refine ⟨fun i hi => (a i (Nat.zero_le _) hi).1, still, ?_⟩
    intro i hi hm q hq q1 q2
    obtain ⟨o, ho, hk⟩ := notmk i hi hm
    have hst := still i hi hm
    have hs := (a i (Nat.zero_le _) hi).1
    rw [hst] at hs
    simp only [List.all_eq_true, List.mem_range, Bool.or_eq_true, List.contains_iff_mem] at hcl
    rcases hcl i hi with ((h | h) | h) | h
    · exact absurd h hm
    · obtain ⟨o', ho', hd, ⟨g1, b1, hg1, hy1, hb1, hv, _⟩ | ⟨hw, hc, h' | ⟨f, args, fn, ht, hrest⟩⟩⟩ := hs
      · exact ⟨o', ho', hd, .inl ⟨g1, b1, hg1, hy1, hb1, hv, rfl⟩⟩
      · rw [ho] at ho'
        cases ho'
        simp only [freeAtD, ho] at h
        exact ⟨o, ho, hd, .inr ⟨hw, hc, .inl ((freeD_same h h').2 _)⟩⟩
      · rw [ho] at ho'
        cases ho'
        exfalso
        obtain ⟨dst, op, type, pos, after, guard⟩ := o
        cases op <;> (try (simp [targetD] at ht; done))
        case call cl =>
        obtain ⟨callee, args, at_⟩ := cl
        cases callee <;> simp [targetD, freeD, readsD] at hk ht
    · have e : Hs q = Hs i := by
        have hp : ∀ m ∈ makersD ops, ordered ops ops.size m i = true ∨ ordered ops ops.size i m = true := by
          intro m hm
          simp only [pinned, List.all_eq_true, Bool.or_eq_true] at h
          exact h m hm
        rcases Nat.le_total i q with hle | hle
        · have key : ∀ d, i + d ≤ q → Hs (i + d) = Hs i := by
            intro d
            induction d with
            | zero => intro _; rfl
            | succ d ih =>
              intro hd
              rw [← ih (by omega), ← Nat.add_assoc]
              refine still _ (by omega) fun hmm => ?_
              rcases hp _ hmm with ho | ho
              · have := ordered_lt hdir _ _ _ ho; omega
              · have := q2 _ hmm ho; omega
          have := key (q - i) (by omega)
          rwa [show i + (q - i) = q by omega] at this
        · have key : ∀ d, q + d ≤ i → Hs (q + d) = Hs q := by
            intro d
            induction d with
            | zero => intro _; rfl
            | succ d ih =>
              intro hd
              rw [← ih (by omega), ← Nat.add_assoc]
              refine still _ (by omega) fun hmm => ?_
              rcases hp _ hmm with ho | ho
              · have := q1 _ hmm ho; omega
              · have := ordered_lt hdir _ _ _ ho; omega
          have := key (i - q) (by omega)
          rw [show q + (i - q) = i by omega] at this
          exact this.symm
      rw [e]
      exact hs
    · refine (a i (Nat.zero_le _) hi).2.1 h _ (hinv q hq ?_)
      simp only [fenceOk, Bool.or_eq_true, decide_eq_true_eq, Bool.and_eq_true, List.contains_iff_mem, List.all_eq_true] at hfe
      rcases hfe with hF | ⟨hF, hord⟩
      · omega
      · exact q2 F hF (hord i h)
  have := drawn_allD hok T n
  rw [b, c] at this
  exact this

variable {k : List K} {ρ : DEnv} {H : Mem} {Q : AExit → DEnv → Mem → Prop}

theorem dstOf_eq {i : Nat} {o : Oper} (ho : ops[i]? = some o) : dstOf ops i = o.dst := by simp [dstOf, ho]

theorem big_tr : ∀ (d : Nat) {i : Nat} {ρ ρ' : DEnv} {H H' : Mem}, i + d = ops.size → BigD P orc fl (.ops sz ops (List.range' i d) ρ) H (.env ρ') H' → ∃ l, Tr P orc fl sz ops [] (fun _ => True) ops.size i ρ H l ρ' H'
  | 0, i, ρ, ρ', H, H', hd, hb => by
    obtain rfl : i = ops.size := by omega
    cases hb
    exact ⟨[], .nil⟩
  | d + 1, i, ρ, ρ', H, H', hd, hb => by
    rw [List.range'_succ] at hb
    cases hb with
    | opsSkip ho hg hy hw hd' h =>
      have e := dstOf_eq ho
      rw [← e] at h
      obtain ⟨l, t⟩ := big_tr d (by omega) h
      exact ⟨_, .cons ⟨_, ho, hd', .inl ⟨_, _, hg, hy, hw, rfl, rfl⟩⟩ (by simp) (fun _ => trivial) t⟩
    | opsOp ho hw hd' hc hop h =>
      have e := dstOf_eq ho
      rw [← e] at h
      obtain ⟨l, t⟩ := big_tr d (by omega) h
      exact ⟨_, .cons ⟨_, ho, hd', .inr ⟨hw, hc, .inl hop⟩⟩ (by simp) (fun _ => trivial) t⟩
    | opsCall ho hw hd' hc ht hf hn hbo hcall h =>
      have e := dstOf_eq ho
      rw [← e] at h
      obtain ⟨l, t⟩ := big_tr d (by omega) h
      exact ⟨_, .cons ⟨_, ho, hd', .inr ⟨hw, hc, .inr ⟨_, _, _, ht, hf, hn, hbo, hcall⟩⟩⟩ (by simp) (fun _ => trivial) t⟩

/-- A region whose order is open, where no read stands open. -/
theorem Go.rgS {id : Nat} {l : List Oper} (hm : P.follows .mixedOrders = true) (hf : drawnFineD l.toArray [] = true) (h : GoR P orc fl sz l.toArray l k ρ H Q) : Go P orc fl sz (.code (.region id l.toArray true) :: k) .normal ρ H Q := by
  obtain ⟨ρ', H', hb, h⟩ := h 0 (by simp)
  obtain ⟨tr, t⟩ := big_tr _ (by simp) hb
  exact ⟨.normal, ρ', H', .regionD hm (fun n => t.all hf (by simp [fenceOk]) trivial n), h⟩

/-- The operations that are left of a region whose order is open. -/
def GoW (P : Program) (orc : DOracle) (fl sz : Nat) (ops : Array Oper) (loose : List Nat) (Inv : Mem → Prop) (F : Nat) (i : Nat) (rest : List Oper) (k : List K) (ρ : DEnv) (H : Mem) (Q : AExit → DEnv → Mem → Prop) : Prop :=
  ops.toList.drop i = rest → ∃ l ρ' H', Tr P orc fl sz ops loose Inv F i ρ H l ρ' H' ∧ Go P orc fl sz k .normal ρ' H' Q

/-- A region whose order is open: the reads 'loose' must read so in every memory of Inv, and each memory is one. -/
theorem Go.rgD {id : Nat} {l : List Oper} (loose : List Nat) (Inv : Mem → Prop) (hm : P.follows .mixedOrders = true) (hf : drawnFineD l.toArray loose = true) (F : Nat) (hfe : fenceOk l.toArray loose F = true) (hi : Inv H) (h : GoW P orc fl sz l.toArray loose Inv F 0 l k ρ H Q) :
    Go P orc fl sz (.code (.region id l.toArray true) :: k) .normal ρ H Q := by
  obtain ⟨tr, ρ', H', t, h⟩ := h (by simp)
  exact ⟨.normal, ρ', H', .regionD hm (fun n => t.all hf hfe hi n), h⟩

theorem GoW.nil {i : Nat} (hi : (i == ops.size) = true) (h : Go P orc fl sz k .normal ρ H Q) : GoW P orc fl sz ops loose Inv F i [] k ρ H Q := fun _ => by
  obtain rfl : i = ops.size := by simpa using hi
  exact ⟨[], ρ, H, .nil, h⟩
theorem GoW.op {i : Nat} {os : List Oper} {dst : Option Tmp} {op : Op} {ty : TypeId} {pos : String} {after : Array Edge} (hd : okDst sz dst) (hc : op.operands.toList.all okOperand = true) (hl : loose.contains i = false)
    (h : opThen (opD P ρ op H) fun v H1 => (i < F → Inv H1) ∧ GoW P orc fl sz ops loose Inv F (i + 1) os k (putD ρ dst v) H1 Q) : GoW P orc fl sz ops loose Inv F i (⟨dst, op, ty, pos, after, none⟩ :: os) k ρ H Q := fun hi => by
  obtain ⟨h1, h2⟩ := get_of_drop hi
  cases hop : opD P ρ op H with
  | none => rw [hop] at h; exact h.elim
  | some r =>
    obtain ⟨v, H1⟩ := r
    rw [hop] at h
    obtain ⟨l, ρ', H', t, q⟩ := h.2 h2
    have e : dstOf ops i = dst := by simp [dstOf, h1]
    rw [← e] at t
    exact ⟨_, ρ', H', .cons ⟨_, h1, hd, .inr ⟨rfl, hc, .inl hop⟩⟩ (fun hm => by simp [hm] at hl) h.1 t, q⟩
theorem GoW.read {i : Nat} {os : List Oper} {dst : Option Tmp} {op : Op} {ty : TypeId} {pos : String} {after : Array Edge} {v : D} (hd : okDst sz dst) (hc : op.operands.toList.all okOperand = true)
    (hi : Inv H) (hr : ∀ H', Inv H' → opD P ρ op H' = some (v, H')) (h : GoW P orc fl sz ops loose Inv F (i + 1) os k (putD ρ dst v) H Q) : GoW P orc fl sz ops loose Inv F i (⟨dst, op, ty, pos, after, none⟩ :: os) k ρ H Q := fun hi' => by
  obtain ⟨h1, h2⟩ := get_of_drop hi'
  obtain ⟨l, ρ', H', t, q⟩ := h h2
  have e : dstOf ops i = dst := by simp [dstOf, h1]
  rw [← e] at t
  exact ⟨_, ρ', H', .cons ⟨_, h1, hd, .inr ⟨rfl, hc, .inl (hr _ hi)⟩⟩ (fun _ H' hH => ⟨_, h1, hd, .inr ⟨rfl, hc, .inl (hr _ hH)⟩⟩) (fun _ => hi) t, q⟩
theorem GoW.opG {i : Nat} {os : List Oper} {dst : Option Tmp} {op : Op} {ty : TypeId} {pos : String} {after : Array Edge} {g : Nat × Bool} (hd : okDst sz dst) (hc : op.operands.toList.all okOperand = true) (hl : loose.contains i = false)
    (hw : (yieldedD ops ρ g.1 == some g.2) = true) (h : opThen (opD P ρ op H) fun v H1 => (i < F → Inv H1) ∧ GoW P orc fl sz ops loose Inv F (i + 1) os k (putD ρ dst v) H1 Q) : GoW P orc fl sz ops loose Inv F i (⟨dst, op, ty, pos, after, some g⟩ :: os) k ρ H Q := fun hi => by
  obtain ⟨h1, h2⟩ := get_of_drop hi
  cases hop : opD P ρ op H with
  | none => rw [hop] at h; exact h.elim
  | some r =>
    obtain ⟨v, H1⟩ := r
    rw [hop] at h
    obtain ⟨l, ρ', H', t, q⟩ := h.2 h2
    have e : dstOf ops i = dst := by simp [dstOf, h1]
    rw [← e] at t
    exact ⟨_, ρ', H', .cons ⟨_, h1, hd, .inr ⟨hw, hc, .inl hop⟩⟩ (fun hm => by simp [hm] at hl) h.1 t, q⟩
theorem GoW.readG {i : Nat} {os : List Oper} {dst : Option Tmp} {op : Op} {ty : TypeId} {pos : String} {after : Array Edge} {v : D} {g : Nat × Bool} (hd : okDst sz dst) (hc : op.operands.toList.all okOperand = true)
    (hw : (yieldedD ops ρ g.1 == some g.2) = true) (hi : Inv H) (hr : ∀ H', Inv H' → opD P ρ op H' = some (v, H')) (h : GoW P orc fl sz ops loose Inv F (i + 1) os k (putD ρ dst v) H Q) : GoW P orc fl sz ops loose Inv F i (⟨dst, op, ty, pos, after, some g⟩ :: os) k ρ H Q := fun hi' => by
  obtain ⟨h1, h2⟩ := get_of_drop hi'
  obtain ⟨l, ρ', H', t, q⟩ := h h2
  have e : dstOf ops i = dst := by simp [dstOf, h1]
  rw [← e] at t
  exact ⟨_, ρ', H', .cons ⟨_, h1, hd, .inr ⟨hw, hc, .inl (hr _ hi)⟩⟩ (fun _ H' hH => ⟨_, h1, hd, .inr ⟨hw, hc, .inl (hr _ hH)⟩⟩) (fun _ => hi) t, q⟩
theorem GoW.skipG {i : Nat} {os : List Oper} {dst : Option Tmp} {op : Op} {ty : TypeId} {pos : String} {after : Array Edge} {g : Nat × Bool} {b : Option Bool} (hd : okDst sz dst)
    (hy : yieldS ops ρ g.1 = some b) (hw : (b == some g.2) = false) (hi : i < F → Inv H) (h : GoW P orc fl sz ops loose Inv F (i + 1) os k (putD ρ dst dUndef) H Q) : GoW P orc fl sz ops loose Inv F i (⟨dst, op, ty, pos, after, some g⟩ :: os) k ρ H Q := fun hi' => by
  obtain ⟨h1, h2⟩ := get_of_drop hi'
  obtain ⟨l, ρ', H', t, q⟩ := h h2
  have e : dstOf ops i = dst := by simp [dstOf, h1]
  rw [← e] at t
  exact ⟨_, ρ', H', .cons ⟨_, h1, hd, .inl ⟨_, _, rfl, hy, hw, rfl, rfl⟩⟩ (fun _ H' hH => ⟨_, h1, hd, .inl ⟨_, _, rfl, hy, hw, rfl, rfl⟩⟩) hi t, q⟩
theorem GoW.call {i : Nat} {os : List Oper} {dst : Option Tmp} {c : Call} {ty : TypeId} {pos : String} {after : Array Edge} {f : FuncId} {args : List D} {fn : Func} (hd : okDst sz dst) (hc : (Op.call c).operands.toList.all okOperand = true)
    (ht : targetD ρ (.call c) = some (f, args)) (hf : P.funcs[f]? = some fn) (hn : (fn.name == "runtime.NumGoroutine") = false) (hb : fn.body.isNone = false) (hl : loose.contains i = false)
    (h : CallD P orc f args H fun v H1 => (i < F → Inv H1) ∧ GoW P orc fl sz ops loose Inv F (i + 1) os k (putD ρ dst v) H1 Q) : GoW P orc fl sz ops loose Inv F i (⟨dst, .call c, ty, pos, after, none⟩ :: os) k ρ H Q := fun hi => by
  obtain ⟨h1, h2⟩ := get_of_drop hi
  obtain ⟨v, H1, hcall, hinv, h⟩ := h
  obtain ⟨l, ρ', H', t, q⟩ := h h2
  have e : dstOf ops i = dst := by simp [dstOf, h1]
  rw [← e] at t
  exact ⟨_, ρ', H', .cons ⟨_, h1, hd, .inr ⟨rfl, hc, .inr ⟨_, _, _, ht, hf, by simpa using hn, hb, hcall⟩⟩⟩ (fun hm => by simp [hm] at hl) hinv t, q⟩
end

end Go.DM
