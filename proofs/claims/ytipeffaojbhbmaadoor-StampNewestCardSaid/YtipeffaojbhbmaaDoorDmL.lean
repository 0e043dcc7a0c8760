/- An abstract machine over Go's operations: rules for walking through a text. -/
import Derived.Test.YtipeffaojbhbmaaDoorDmK
import Derived.Test.YtipeffaojbhbmaaDoorAmM
set_option linter.unusedSimpArgs false
set_option linter.unusedVariables false
namespace Go.DM
open Go Go.AM

section
variable (P : Program) (orc : DOracle) (fl sz : Nat)

def WPcD (c : Code) (ρ : DEnv) (H : Mem) (Q : AExit → DEnv → Mem → Prop) : Prop := ∃ e ρ' H', BigD P orc fl (.code sz c ρ) H (.exit e ρ') H' ∧ Q e ρ' H'
def WPoD (ops : Array Oper) (l : List Nat) (ρ : DEnv) (H : Mem) (Q : DEnv → Mem → Prop) : Prop := ∃ ρ' H', BigD P orc fl (.ops sz ops l ρ) H (.env ρ') H' ∧ Q ρ' H'

/-- A call that returns so. -/
def CallD (f : FuncId) (args : List D) (H : Mem) (Q : D → Mem → Prop) : Prop := ∃ v H', BigD P orc 0 (.call f args) H (.val v) H' ∧ Q v H'

def Go : List K → AExit → DEnv → Mem → (AExit → DEnv → Mem → Prop) → Prop
  | [], e, ρ, H, Q => Q e ρ H
  | .code c :: k, .normal, ρ, H, Q => WPcD P orc fl sz c ρ H fun e ρ' H' => Go k e ρ' H' Q
  | .code _ :: k, e, ρ, H, Q => Go k e ρ H Q
  | .blk _ :: k, .normal, ρ, H, Q => Go k .normal ρ H Q
  | .blk id :: k, .exit id', ρ, H, Q => if id' = id then Go k .normal ρ H Q else Go k (.exit id') ρ H Q
  | .blk _ :: k, .ret, ρ, H, Q => Go k .ret ρ H Q
  | .lp c :: k, .normal, ρ, H, Q => WPcD P orc fl sz (.loop c) ρ H fun e ρ' H' => Go k e ρ' H' Q
  | .lp _ :: k, e, ρ, H, Q => Go k e ρ H Q

def GoO (ops : Array Oper) (l : List Nat) (k : List K) (ρ : DEnv) (H : Mem) (Q : AExit → DEnv → Mem → Prop) : Prop :=
  WPoD P orc fl sz ops l ρ H fun ρ' H' => Go P orc fl sz k .normal ρ' H' Q

def opThen (x : Option (D × Mem)) (F : D → Mem → Prop) : Prop := match x with | some (v, H) => F v H | none => False
end

section
variable {P : Program} {orc : DOracle} {fl sz : Nat} {k : List K} {ρ : DEnv} {H : Mem} {Q : AExit → DEnv → Mem → Prop}

theorem opThen_some {v : D} {H : Mem} {F : D → Mem → Prop} : opThen (some (v, H)) F = F v H := rfl

theorem WPcD.mono {c : Code} {Q' : AExit → DEnv → Mem → Prop} (h : WPcD P orc fl sz c ρ H Q) (hq : ∀ e ρ' H', Q e ρ' H' → Q' e ρ' H') : WPcD P orc fl sz c ρ H Q' := by
  obtain ⟨e, ρ', H', hb, q⟩ := h
  exact ⟨e, ρ', H', hb, hq _ _ _ q⟩

theorem Go.ret' : ∀ (k : List K), Q .ret ρ H → Go P orc fl sz k .ret ρ H Q
  | [], h => h
  | .code _ :: k, h => Go.ret' k h
  | .blk _ :: k, h => Go.ret' k h
  | .lp _ :: k, h => Go.ret' k h

theorem Go.skip (h : Go P orc fl sz k .normal ρ H Q) : Go P orc fl sz (.code .skip :: k) .normal ρ H Q := ⟨_, _, _, .skip, h⟩
theorem Go.ret (h : Q .ret ρ H) : Go P orc fl sz (.code .ret :: k) .normal ρ H Q := ⟨_, _, _, .ret, Go.ret' k h⟩
theorem Go.exit {id : Nat} (h : Go P orc fl sz k (.exit id) ρ H Q) : Go P orc fl sz (.code (.exit id) :: k) .normal ρ H Q := ⟨_, _, _, .exit, h⟩
theorem Go.blkN {id : Nat} (h : Go P orc fl sz k .normal ρ H Q) : Go P orc fl sz (.blk id :: k) .normal ρ H Q := h
theorem Go.blkX {id : Nat} (h : Go P orc fl sz k .normal ρ H Q) : Go P orc fl sz (.blk id :: k) (.exit id) ρ H Q := by simp only [Go, if_true]; exact h
theorem Go.blkE {id id' : Nat} (hne : id' ≠ id) (h : Go P orc fl sz k (.exit id') ρ H Q) : Go P orc fl sz (.blk id :: k) (.exit id') ρ H Q := by simp only [Go, hne, if_false]; exact h
theorem Go.passX {c : Code} {id : Nat} (h : Go P orc fl sz k (.exit id) ρ H Q) : Go P orc fl sz (.code c :: k) (.exit id) ρ H Q := h
theorem Go.lpX {c : Code} {id : Nat} (h : Go P orc fl sz k (.exit id) ρ H Q) : Go P orc fl sz (.lp c :: k) (.exit id) ρ H Q := h
theorem Go.done (h : Q .normal ρ H) : Go P orc fl sz [] .normal ρ H Q := h

theorem Go.seq {c d : Code} (h : Go P orc fl sz (.code c :: .code d :: k) .normal ρ H Q) : Go P orc fl sz (.code (.seq c d) :: k) .normal ρ H Q := by
  obtain ⟨e, ρ1, H1, hb, h⟩ := h
  cases e with
  | normal =>
    obtain ⟨e2, ρ2, H2, hb2, h2⟩ := h
    exact ⟨e2, ρ2, H2, .seqN hb hb2, h2⟩
  | exit id => exact ⟨_, ρ1, H1, .seqE hb (by simp), h⟩
  | ret => exact ⟨_, ρ1, H1, .seqE hb (by simp), h⟩

theorem Go.block {id : Nat} {c : Code} (h : Go P orc fl sz (.code c :: .blk id :: k) .normal ρ H Q) : Go P orc fl sz (.code (.block id c) :: k) .normal ρ H Q := by
  obtain ⟨e, ρ1, H1, hb, h⟩ := h
  cases e with
  | normal => exact ⟨.normal, ρ1, H1, .blockN hb, h⟩
  | exit id' =>
    by_cases he : id' = id
    · subst he
      simp only [Go, if_true] at h
      exact ⟨.normal, ρ1, H1, .blockX hb, h⟩
    · simp only [Go, he, if_false] at h
      exact ⟨.exit id', ρ1, H1, .blockE hb (by simp) (by simp [he]), h⟩
  | ret => exact ⟨.ret, ρ1, H1, .blockE hb (by simp) (by simp), h⟩

theorem Go.loop {c : Code} (h : Go P orc fl sz (.code c :: .lp c :: k) .normal ρ H Q) : Go P orc fl sz (.code (.loop c) :: k) .normal ρ H Q := by
  obtain ⟨e, ρ1, H1, hb, h⟩ := h
  cases e with
  | normal =>
    obtain ⟨e2, ρ2, H2, hb2, h2⟩ := h
    exact ⟨e2, ρ2, H2, .loopN hb hb2, h2⟩
  | exit id => exact ⟨_, ρ1, H1, .loopE hb (by simp), h⟩
  | ret => exact ⟨_, ρ1, H1, .loopE hb (by simp), h⟩

theorem Go.lp {c : Code} (h : Go P orc fl sz (.code (.loop c) :: k) .normal ρ H Q) : Go P orc fl sz (.lp c :: k) .normal ρ H Q := h
theorem Go.lp' {c : Code} (h : Go P orc fl sz (.code c :: .lp c :: k) .normal ρ H Q) : Go P orc fl sz (.lp c :: k) .normal ρ H Q := Go.loop h

theorem Go.cond {c : Operand} {x y : Code} {t : Bool} (hk : okOperand c = true) (hc : evalD ρ c = .bool t) (h : Go P orc fl sz (.code (if t then x else y) :: k) .normal ρ H Q) :
    Go P orc fl sz (.code (.cond c x y) :: k) .normal ρ H Q := by
  obtain ⟨e, ρ1, H1, hb, h⟩ := h
  exact ⟨e, ρ1, H1, .cond hk hc hb, h⟩
theorem Go.condT {t : Tmp} {x y : Code} (hc : ρ t = .bool true) (h : Go P orc fl sz (.code x :: k) .normal ρ H Q) : Go P orc fl sz (.code (.cond (.tmp t) x y) :: k) .normal ρ H Q := Go.cond rfl hc h
theorem Go.condF {t : Tmp} {x y : Code} (hc : ρ t = .bool false) (h : Go P orc fl sz (.code y :: k) .normal ρ H Q) : Go P orc fl sz (.code (.cond (.tmp t) x y) :: k) .normal ρ H Q := Go.cond rfl hc h
theorem Go.condB {t : Tmp} {x y : Code} {b : Bool} (hc : ρ t = .bool b) (h1 : b = true → Go P orc fl sz (.code x :: k) .normal ρ H Q) (h2 : b = false → Go P orc fl sz (.code y :: k) .normal ρ H Q) :
    Go P orc fl sz (.code (.cond (.tmp t) x y) :: k) .normal ρ H Q := by
  cases b
  · exact Go.condF hc (h2 rfl)
  · exact Go.condT hc (h1 rfl)

theorem Go.region {id : Nat} {ops : Array Oper} (h : GoO P orc fl sz ops (List.range ops.size) k ρ H Q) : Go P orc fl sz (.code (.region id ops false) :: k) .normal ρ H Q := by
  obtain ⟨ρ1, H1, hb, h⟩ := h
  exact ⟨.normal, ρ1, H1, .region hb, h⟩

theorem GoO.nil {ops : Array Oper} (h : Go P orc fl sz k .normal ρ H Q) : GoO P orc fl sz ops [] k ρ H Q := ⟨ρ, H, .opsNil, h⟩
theorem GoO.op {ops : Array Oper} {i : Nat} {l : List Nat} {o : Oper} (ho : ops[i]? = some o) (hd : okDst sz o.dst) (hc : o.op.operands.toList.all okOperand = true)
    (hw : Region.wanted o (yieldedD ops ρ) = true) (h : opThen (opD P ρ o.op H) fun v H1 => GoO P orc fl sz ops l k (putD ρ o.dst v) H1 Q) : GoO P orc fl sz ops (i :: l) k ρ H Q := by
  cases hop : opD P ρ o.op H with
  | none => rw [hop] at h; exact h.elim
  | some r =>
    obtain ⟨v, H1⟩ := r
    rw [hop] at h
    obtain ⟨ρ', H', hb, h⟩ := h
    exact ⟨ρ', H', .opsOp ho hw hd hc hop hb, h⟩
theorem GoO.skip {ops : Array Oper} {i : Nat} {l : List Nat} {o : Oper} {g : Nat × Bool} {b : Option Bool} (ho : ops[i]? = some o) (hd : okDst sz o.dst)
    (hg : o.guard = some g) (hy : yieldS ops ρ g.1 = some b) (hw : (b == some g.2) = false) (h : GoO P orc fl sz ops l k (putD ρ o.dst dUndef) H Q) : GoO P orc fl sz ops (i :: l) k ρ H Q := by
  obtain ⟨ρ', H', hb, h⟩ := h
  exact ⟨ρ', H', .opsSkip ho hg hy hw hd hb, h⟩
theorem GoO.call {ops : Array Oper} {i : Nat} {l : List Nat} {o : Oper} {f : FuncId} {args : List D} {fn : Func} (ho : ops[i]? = some o) (hd : okDst sz o.dst) (hc : o.op.operands.toList.all okOperand = true)
    (hw : Region.wanted o (yieldedD ops ρ) = true) (ht : targetD ρ o.op = some (f, args)) (hf : P.funcs[f]? = some fn) (hn : fn.name ≠ "runtime.NumGoroutine") (hb : fn.body.isNone = false)
    (h : CallD P orc f args H fun v H1 => GoO P orc fl sz ops l k (putD ρ o.dst v) H1 Q) : GoO P orc fl sz ops (i :: l) k ρ H Q := by
  obtain ⟨v, H1, hcall, ρ', H', hbig, h⟩ := h
  exact ⟨ρ', H', .opsCall ho hw hd hc ht hf hn hb hcall hbig, h⟩

/-- The operations from the i-th on. -/
def GoI (P : Program) (orc : DOracle) (fl sz : Nat) (ops : Array Oper) (i : Nat) (k : List K) (ρ : DEnv) (H : Mem) (Q : AExit → DEnv → Mem → Prop) : Prop :=
  GoO P orc fl sz ops (List.range' i (ops.size - i)) k ρ H Q

theorem range_cons {n i : Nat} (h : i < n) : List.range' i (n - i) = i :: List.range' (i + 1) (n - (i + 1)) := by
  rw [show n - i = (n - (i + 1)) + 1 by omega, List.range'_succ]

theorem lt_of_get {ops : Array Oper} {i : Nat} {o : Oper} (ho : ops[i]? = some o) : i < ops.size := (Array.getElem?_eq_some_iff.1 ho).1

theorem Go.reg {id : Nat} {ops : Array Oper} (h : GoI P orc fl sz ops 0 k ρ H Q) : Go P orc fl sz (.code (.region id ops false) :: k) .normal ρ H Q := by
  refine Go.region ?_
  rw [List.range_eq_range']
  exact h
theorem GoI.nil {ops : Array Oper} {i : Nat} (ho : ops.size = i) (h : Go P orc fl sz k .normal ρ H Q) : GoI P orc fl sz ops i k ρ H Q := by
  unfold GoI
  rw [show ops.size - i = 0 by omega]
  exact GoO.nil h
theorem GoI.op {ops : Array Oper} {i : Nat} {o : Oper} (ho : ops[i]? = some o) (hd : okDst sz o.dst) (hc : o.op.operands.toList.all okOperand = true)
    (hw : Region.wanted o (yieldedD ops ρ) = true) (h : opThen (opD P ρ o.op H) fun v H1 => GoI P orc fl sz ops (i + 1) k (putD ρ o.dst v) H1 Q) : GoI P orc fl sz ops i k ρ H Q := by
  unfold GoI
  rw [range_cons (lt_of_get ho)]
  exact GoO.op ho hd hc hw h
theorem GoI.skip {ops : Array Oper} {i : Nat} {o : Oper} {g : Nat × Bool} {b : Option Bool} (ho : ops[i]? = some o) (hd : okDst sz o.dst)
    (hg : o.guard = some g) (hy : yieldS ops ρ g.1 = some b) (hw : (b == some g.2) = false) (h : GoI P orc fl sz ops (i + 1) k (putD ρ o.dst dUndef) H Q) : GoI P orc fl sz ops i k ρ H Q := by
  unfold GoI
  rw [range_cons (lt_of_get ho)]
  exact GoO.skip ho hd hg hy hw h
theorem GoI.call {ops : Array Oper} {i : Nat} {o : Oper} {f : FuncId} {args : List D} {fn : Func} (ho : ops[i]? = some o) (hd : okDst sz o.dst) (hc : o.op.operands.toList.all okOperand = true)
    (hw : Region.wanted o (yieldedD ops ρ) = true) (ht : targetD ρ o.op = some (f, args)) (hf : P.funcs[f]? = some fn) (hn : fn.name ≠ "runtime.NumGoroutine") (hb : fn.body.isNone = false)
    (h : CallD P orc f args H fun v H1 => GoI P orc fl sz ops (i + 1) k (putD ρ o.dst v) H1 Q) : GoI P orc fl sz ops i k ρ H Q := by
  unfold GoI
  rw [range_cons (lt_of_get ho)]
  exact GoO.call ho hd hc hw ht hf hn hb h

/-- The operations that are left of a region. -/
def GoR (P : Program) (orc : DOracle) (fl sz : Nat) (ops : Array Oper) (rest : List Oper) (k : List K) (ρ : DEnv) (H : Mem) (Q : AExit → DEnv → Mem → Prop) : Prop :=
  ∀ i, ops.toList.drop i = rest → GoI P orc fl sz ops i k ρ H Q

theorem get_of_drop {ops : Array Oper} {i : Nat} {o : Oper} {os : List Oper} (h : ops.toList.drop i = o :: os) : ops[i]? = some o ∧ ops.toList.drop (i + 1) = os := by
  have h1 : (ops.toList.drop i)[0]? = some o := by rw [h]; rfl
  rw [List.getElem?_drop] at h1
  refine ⟨by simpa using h1, ?_⟩
  rw [← List.drop_drop, h]
  rfl

theorem Go.rg {id : Nat} {l : List Oper} (h : GoR P orc fl sz l.toArray l k ρ H Q) : Go P orc fl sz (.code (.region id l.toArray false) :: k) .normal ρ H Q := Go.reg (h 0 (by simp))
theorem GoR.nil {ops : Array Oper} (h : Go P orc fl sz k .normal ρ H Q) : GoR P orc fl sz ops [] k ρ H Q := fun i hi => by
  unfold GoI
  have : ops.size ≤ i := by simpa [List.drop_eq_nil_iff] using hi
  rw [show ops.size - i = 0 by omega]
  exact GoO.nil h
theorem GoR.op {ops : Array Oper} {os : List Oper} {dst : Option Tmp} {op : Op} {ty : TypeId} {pos : String} {after : Array Edge} (hd : okDst sz dst) (hc : op.operands.toList.all okOperand = true)
    (h : opThen (opD P ρ op H) fun v H1 => GoR P orc fl sz ops os k (putD ρ dst v) H1 Q) : GoR P orc fl sz ops (⟨dst, op, ty, pos, after, none⟩ :: os) k ρ H Q := fun i hi => by
  obtain ⟨h1, h2⟩ := get_of_drop hi
  refine GoI.op h1 hd hc rfl ?_
  cases hop : opD P ρ op H with
  | none => rw [hop] at h; exact h.elim
  | some r =>
    rw [hop] at h
    exact h (i + 1) h2
theorem GoR.opG {ops : Array Oper} {os : List Oper} {dst : Option Tmp} {op : Op} {ty : TypeId} {pos : String} {after : Array Edge} {g : Nat × Bool} (hd : okDst sz dst) (hc : op.operands.toList.all okOperand = true)
    (hw : (yieldedD ops ρ g.1 == some g.2) = true) (h : opThen (opD P ρ op H) fun v H1 => GoR P orc fl sz ops os k (putD ρ dst v) H1 Q) : GoR P orc fl sz ops (⟨dst, op, ty, pos, after, some g⟩ :: os) k ρ H Q := fun i hi => by
  obtain ⟨h1, h2⟩ := get_of_drop hi
  refine GoI.op h1 hd hc hw ?_
  cases hop : opD P ρ op H with
  | none => rw [hop] at h; exact h.elim
  | some r =>
    rw [hop] at h
    exact h (i + 1) h2
theorem GoR.skipG {ops : Array Oper} {os : List Oper} {dst : Option Tmp} {op : Op} {ty : TypeId} {pos : String} {after : Array Edge} {g : Nat × Bool} {b : Option Bool} (hd : okDst sz dst)
    (hy : yieldS ops ρ g.1 = some b) (hw : (b == some g.2) = false) (h : GoR P orc fl sz ops os k (putD ρ dst dUndef) H Q) : GoR P orc fl sz ops (⟨dst, op, ty, pos, after, some g⟩ :: os) k ρ H Q := fun i hi => by
  obtain ⟨h1, h2⟩ := get_of_drop hi
  exact GoI.skip h1 hd rfl hy hw (h (i + 1) h2)
theorem GoR.call {ops : Array Oper} {os : List Oper} {dst : Option Tmp} {c : Call} {ty : TypeId} {pos : String} {after : Array Edge} {f : FuncId} {args : List D} {fn : Func} (hd : okDst sz dst) (hc : (Op.call c).operands.toList.all okOperand = true)
    (ht : targetD ρ (.call c) = some (f, args)) (hf : P.funcs[f]? = some fn) (hn : (fn.name == "runtime.NumGoroutine") = false) (hb : fn.body.isNone = false)
    (h : CallD P orc f args H fun v H1 => GoR P orc fl sz ops os k (putD ρ dst v) H1 Q) : GoR P orc fl sz ops (⟨dst, .call c, ty, pos, after, none⟩ :: os) k ρ H Q := fun i hi => by
  obtain ⟨h1, h2⟩ := get_of_drop hi
  refine GoI.call h1 hd hc rfl ht hf (by simpa using hn) hb ?_
  obtain ⟨v, H', hb, q⟩ := h
  exact ⟨v, H', hb, q (i + 1) h2⟩

/-- A guard that is not known. -/
theorem GoR.splitG {ops : Array Oper} {os : List Oper} {dst : Option Tmp} {op : Op} {ty : TypeId} {pos : String} {after : Array Edge} {g : Nat × Bool} {b : Bool} (hy : yieldedD ops ρ g.1 = some b)
    (h1 : b = true → GoR P orc fl sz ops (⟨dst, op, ty, pos, after, some g⟩ :: os) k ρ H Q) (h2 : b = false → GoR P orc fl sz ops (⟨dst, op, ty, pos, after, some g⟩ :: os) k ρ H Q) :
    GoR P orc fl sz ops (⟨dst, op, ty, pos, after, some g⟩ :: os) k ρ H Q := by
  cases b
  · exact h2 rfl
  · exact h1 rfl
theorem GoR.callG {ops : Array Oper} {os : List Oper} {dst : Option Tmp} {c : Call} {ty : TypeId} {pos : String} {after : Array Edge} {g : Nat × Bool} {f : FuncId} {args : List D} {fn : Func} (hd : okDst sz dst) (hc : (Op.call c).operands.toList.all okOperand = true)
    (hw : (yieldedD ops ρ g.1 == some g.2) = true) (ht : targetD ρ (.call c) = some (f, args)) (hf : P.funcs[f]? = some fn) (hn : (fn.name == "runtime.NumGoroutine") = false) (hb : fn.body.isNone = false)
    (h : CallD P orc f args H fun v H1 => GoR P orc fl sz ops os k (putD ρ dst v) H1 Q) : GoR P orc fl sz ops (⟨dst, .call c, ty, pos, after, some g⟩ :: os) k ρ H Q := fun i hi => by
  obtain ⟨h1, h2⟩ := get_of_drop hi
  refine GoI.call h1 hd hc hw ht hf (by simpa using hn) hb ?_
  obtain ⟨v, H', hb, q⟩ := h
  exact ⟨v, H', hb, q (i + 1) h2⟩

theorem CallD.mono {f : FuncId} {args : List D} {R R' : D → Mem → Prop} (h : CallD P orc f args H R) (hr : ∀ v H', R v H' → R' v H') : CallD P orc f args H R' := by
  obtain ⟨v, H', hb, q⟩ := h
  exact ⟨v, H', hb, hr _ _ q⟩

/-- A function's own text. -/
theorem CallD.body {f : FuncId} {args : List D} {fn : Func} {c : Code} {R : D → Mem → Prop} (hf : P.funcs[f]? = some fn) (hb : fn.body = some c) (ha : args.length ≤ fn.ntmps)
    (h : Go P orc H.length fn.ntmps [.code c] .normal (initD args) H fun e ρ H' => (e = .normal ∨ e = .ret) ∧ ∃ v, resultsD P fn ρ H' = some v ∧ R v H') : CallD P orc f args H R := by
  obtain ⟨e, ρ, H', hbig, he, v, hv, hr⟩ := h
  exact ⟨v, H', .call hf hb ha hbig he hv, hr⟩

theorem putD_eq {ρ : DEnv} {t : Tmp} {v : D} : putD ρ (some t) v t = v := by simp [putD, updD]
theorem putD_ne {ρ : DEnv} {t u : Tmp} {v : D} (h : (u == t) = false) : putD ρ (some t) v u = ρ u := by simp at h; simp [putD, updD, h]
theorem putD_none {ρ : DEnv} {v : D} : putD ρ none v = ρ := rfl
theorem init_zero {a : D} {l : List D} : initD (a :: l) 0 = a := rfl
theorem init_succ {a : D} {l : List D} {n : Nat} : initD (a :: l) (n + 1) = initD l n := by simp [initD]

/-- What the walk rewrites by. -/
theorem G :
    (∀ {v : D} {H : Mem} {F : D → Mem → Prop}, opThen (some (v, H)) F = F v H) ∧
    (∀ {P ρ x H}, opD P ρ (.move x) H = some (evalD ρ x, H)) ∧
    (∀ {P ρ x H}, opD P ρ (.assign x) H = some (evalD ρ x, H)) ∧
    (∀ {P ρ c a b H}, opD P ρ (.pick c a b) H = match evalD ρ c with | .bool t => some (if t then evalD ρ a else evalD ρ b, H) | _ => none) ∧
    (∀ {P ρ t x H}, opD P ρ (.box t x) H = (cellsD (evalD ρ x)).map fun cs => (.ptr H.length 0, H ++ [.obj cs])) ∧
    (∀ {P ρ t x H}, opD P ρ (.load t x) H = (loadD P t (evalD ρ x) H).map (·, H)) ∧
    (∀ {P ρ t x y H}, opD P ρ (.store t x y) H = (storeD P t (evalD ρ x) (evalD ρ y) H).map (dUndef, ·)) ∧
    (∀ {P ρ s x f H}, opD P ρ (.fieldAddr s x f) H = (fieldAtD P s (evalD ρ x) f).map (·, H)) ∧
    (∀ {P ρ t x i H}, opD P ρ (.indexAddr t x i) H = (indexAtD P t (evalD ρ x) (evalD ρ i)).map (·, H)) ∧
    (∀ {P ρ fn a b H}, opD P ρ (.makeFunc fn a b) H = some (.fn fn (a.toList.map (evalD ρ)) (b.toList.map (evalD ρ)), H)) ∧
    (∀ {P ρ t x lo hi mx H}, opD P ρ (.slice t x lo hi mx) H = (sliceD P t (evalD ρ x) (lo.map (evalD ρ)) (hi.map (evalD ρ)) (mx.map (evalD ρ))).map (·, H)) ∧
    (∀ {P ρ t n ps H}, opD P ρ (.buildSlice t n ps) H = buildSliceD P t n (ps.toList.map fun (i, x) => (i, evalD ρ x)) H) ∧
    (∀ {P ρ t ps H}, opD P ρ (.build t ps) H = (buildD P t (ps.toList.map fun (i, x) => (i, evalD ρ x))).map (·, H)) ∧
    (∀ {P ρ s d x H}, opD P ρ (.convert s d x) H = convD P s d (evalD ρ x) H) ∧
    (∀ {P ρ op t x y u H}, opD P ρ (.binOp op t x y u) H = (binD P op t x y (evalD ρ x) (evalD ρ y)).map (·, H)) ∧
    (∀ {P ρ b args at_ H}, opD P ρ (.call { callee := .builtin b, args := args, argTypes := at_ }) H = builtinD P b at_ (args.toList.map (evalD ρ)) H) ∧
    (∀ {ρ : DEnv} {t : Tmp}, evalD ρ (.tmp t) = ρ t) ∧
    (∀ {ρ : DEnv} {v : Value}, evalD ρ (.const v) = ofV v) ∧
    (∀ {ρ : DEnv} {f : FuncId}, evalD ρ (.func f) = .fn (.func f) [] []) ∧
    (∀ {ρ : DEnv} {t : Tmp} {v : D}, putD ρ (some t) v t = v) ∧
    (∀ {a : D} {l : List D}, initD (a :: l) 0 = a) ∧
    (∀ {a : D} {l : List D} {n : Nat}, initD (a :: l) (n + 1) = initD l n) :=
  ⟨rfl, rfl, rfl, rfl, rfl, rfl, rfl, rfl, rfl, rfl, rfl, rfl, rfl, rfl, rfl, rfl, rfl, rfl, rfl, putD_eq, rfl, init_succ⟩

end
end Go.DM
