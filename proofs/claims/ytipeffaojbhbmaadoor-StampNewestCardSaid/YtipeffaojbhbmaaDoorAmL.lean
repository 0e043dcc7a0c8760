/- An abstract machine over Go's operations: rules for walking through a text. -/
import Derived.Test.YtipeffaojbhbmaaDoorAmK
set_option linter.unusedSimpArgs false
set_option linter.unusedVariables false
namespace Go.AM
open Go

inductive K where
  | code (c : Code)
  | blk (id : Nat)
  | lp (c : Code)

section
variable (P : Program) (orc : Oracle) (base sz : Nat)

def WPc (c : Code) (ρ : Env) (H : Heap) (Q : AExit → Env → Heap → Prop) : Prop := ∃ e ρ' H', Big P orc base (.code sz c ρ) H (.exit e ρ') H' ∧ Q e ρ' H'
def WPo (ops : Array Oper) (l : List Nat) (ρ : Env) (H : Heap) (Q : Env → Heap → Prop) : Prop := ∃ ρ' H', Big P orc base (.ops sz ops l ρ) H (.env ρ') H' ∧ Q ρ' H'

/-- A call that returns so. -/
def CallA (f : FuncId) (args : List Value) (H : Heap) (Q : Value → Heap → Prop) : Prop := ∃ v H', Big P orc base (.call f args) H (.val v) H' ∧ Q v H'

def Go : List K → AExit → Env → Heap → (AExit → Env → Heap → Prop) → Prop
  | [], e, ρ, H, Q => Q e ρ H
  | .code c :: k, .normal, ρ, H, Q => WPc P orc base sz c ρ H fun e ρ' H' => Go k e ρ' H' Q
  | .code _ :: k, e, ρ, H, Q => Go k e ρ H Q
  | .blk _ :: k, .normal, ρ, H, Q => Go k .normal ρ H Q
  | .blk id :: k, .exit id', ρ, H, Q => if id' = id then Go k .normal ρ H Q else Go k (.exit id') ρ H Q
  | .blk _ :: k, .ret, ρ, H, Q => Go k .ret ρ H Q
  | .lp c :: k, .normal, ρ, H, Q => WPc P orc base sz (.loop c) ρ H fun e ρ' H' => Go k e ρ' H' Q
  | .lp _ :: k, e, ρ, H, Q => Go k e ρ H Q

def GoO (ops : Array Oper) (l : List Nat) (k : List K) (ρ : Env) (H : Heap) (Q : AExit → Env → Heap → Prop) : Prop :=
  WPo P orc base sz ops l ρ H fun ρ' H' => Go P orc base sz k .normal ρ' H' Q

def opThen (x : Option (Value × Heap)) (F : Value → Heap → Prop) : Prop := match x with | some (v, H) => F v H | none => False
end

section
variable {P : Program} {orc : Oracle} {base sz : Nat} {k : List K} {ρ : Env} {H : Heap} {Q : AExit → Env → Heap → Prop}

theorem opThen_some {v : Value} {H : Heap} {F : Value → Heap → Prop} : opThen (some (v, H)) F = F v H := rfl

theorem WPc.mono {c : Code} {Q' : AExit → Env → Heap → Prop} (h : WPc P orc base sz c ρ H Q) (hq : ∀ e ρ' H', Q e ρ' H' → Q' e ρ' H') : WPc P orc base sz c ρ H Q' := by
  obtain ⟨e, ρ', H', hb, q⟩ := h
  exact ⟨e, ρ', H', hb, hq _ _ _ q⟩

theorem Go.ret' : ∀ (k : List K), Q .ret ρ H → Go P orc base sz k .ret ρ H Q
  | [], h => h
  | .code _ :: k, h => Go.ret' k h
  | .blk _ :: k, h => Go.ret' k h
  | .lp _ :: k, h => Go.ret' k h

theorem Go.skip (h : Go P orc base sz k .normal ρ H Q) : Go P orc base sz (.code .skip :: k) .normal ρ H Q := ⟨_, _, _, .skip, h⟩
theorem Go.ret (h : Q .ret ρ H) : Go P orc base sz (.code .ret :: k) .normal ρ H Q := ⟨_, _, _, .ret, Go.ret' k h⟩
theorem Go.exit {id : Nat} (h : Go P orc base sz k (.exit id) ρ H Q) : Go P orc base sz (.code (.exit id) :: k) .normal ρ H Q := ⟨_, _, _, .exit, h⟩
theorem Go.blkN {id : Nat} (h : Go P orc base sz k .normal ρ H Q) : Go P orc base sz (.blk id :: k) .normal ρ H Q := h
theorem Go.blkX {id : Nat} (h : Go P orc base sz k .normal ρ H Q) : Go P orc base sz (.blk id :: k) (.exit id) ρ H Q := by simp only [Go, if_true]; exact h
theorem Go.blkE {id id' : Nat} (hne : id' ≠ id) (h : Go P orc base sz k (.exit id') ρ H Q) : Go P orc base sz (.blk id :: k) (.exit id') ρ H Q := by simp only [Go, hne, if_false]; exact h
theorem Go.passX {c : Code} {id : Nat} (h : Go P orc base sz k (.exit id) ρ H Q) : Go P orc base sz (.code c :: k) (.exit id) ρ H Q := h
theorem Go.lpX {c : Code} {id : Nat} (h : Go P orc base sz k (.exit id) ρ H Q) : Go P orc base sz (.lp c :: k) (.exit id) ρ H Q := h
theorem Go.done (h : Q .normal ρ H) : Go P orc base sz [] .normal ρ H Q := h

theorem Go.seq {c d : Code} (h : Go P orc base sz (.code c :: .code d :: k) .normal ρ H Q) : Go P orc base sz (.code (.seq c d) :: k) .normal ρ H Q := by
  obtain ⟨e, ρ1, H1, hb, h⟩ := h
  cases e with
  | normal =>
    obtain ⟨e2, ρ2, H2, hb2, h2⟩ := h
    exact ⟨e2, ρ2, H2, .seqN hb hb2, h2⟩
  | exit id => exact ⟨_, ρ1, H1, .seqE hb (by simp), h⟩
  | ret => exact ⟨_, ρ1, H1, .seqE hb (by simp), h⟩

theorem Go.block {id : Nat} {c : Code} (h : Go P orc base sz (.code c :: .blk id :: k) .normal ρ H Q) : Go P orc base sz (.code (.block id c) :: k) .normal ρ H Q := by
  obtain ⟨e, ρ1, H1, hb, h⟩ := h
  cases e with
  | normal => exact ⟨.normal, ρ1, H1, .blockN hb, h⟩
  | exit id' =>
    by_cases he : id' = id
    · subst he
      simp only [Go, if_true] at h
      exact ⟨.normal, ρ1, H1, .blockX hb, h⟩
    · simp only [Go, he, if_false] at h
      exact ⟨.exit id', ρ1, H1, .blockE hb (by simp) (by simp [he]), h⟩
  | ret => exact ⟨.ret, ρ1, H1, .blockE hb (by simp) (by simp), h⟩

theorem Go.loop {c : Code} (h : Go P orc base sz (.code c :: .lp c :: k) .normal ρ H Q) : Go P orc base sz (.code (.loop c) :: k) .normal ρ H Q := by
  obtain ⟨e, ρ1, H1, hb, h⟩ := h
  cases e with
  | normal =>
    obtain ⟨e2, ρ2, H2, hb2, h2⟩ := h
    exact ⟨e2, ρ2, H2, .loopN hb hb2, h2⟩
  | exit id => exact ⟨_, ρ1, H1, .loopE hb (by simp), h⟩
  | ret => exact ⟨_, ρ1, H1, .loopE hb (by simp), h⟩

theorem Go.lp {c : Code} (h : Go P orc base sz (.code (.loop c) :: k) .normal ρ H Q) : Go P orc base sz (.lp c :: k) .normal ρ H Q := h
theorem Go.lp' {c : Code} (h : Go P orc base sz (.code c :: .lp c :: k) .normal ρ H Q) : Go P orc base sz (.lp c :: k) .normal ρ H Q := Go.loop h

theorem Go.cond {c : Operand} {x y : Code} {t : Bool} (hk : okOperand c = true) (hc : evalA ρ c = .bool t) (h : Go P orc base sz (.code (if t then x else y) :: k) .normal ρ H Q) :
    Go P orc base sz (.code (.cond c x y) :: k) .normal ρ H Q := by
  obtain ⟨e, ρ1, H1, hb, h⟩ := h
  exact ⟨e, ρ1, H1, .cond hk hc hb, h⟩
theorem Go.condT {t : Tmp} {x y : Code} (hc : ρ t = .bool true) (h : Go P orc base sz (.code x :: k) .normal ρ H Q) : Go P orc base sz (.code (.cond (.tmp t) x y) :: k) .normal ρ H Q := Go.cond rfl hc h
theorem Go.condF {t : Tmp} {x y : Code} (hc : ρ t = .bool false) (h : Go P orc base sz (.code y :: k) .normal ρ H Q) : Go P orc base sz (.code (.cond (.tmp t) x y) :: k) .normal ρ H Q := Go.cond rfl hc h
theorem Go.condB {t : Tmp} {x y : Code} {b : Bool} (hc : ρ t = .bool b) (h1 : b = true → Go P orc base sz (.code x :: k) .normal ρ H Q) (h2 : b = false → Go P orc base sz (.code y :: k) .normal ρ H Q) :
    Go P orc base sz (.code (.cond (.tmp t) x y) :: k) .normal ρ H Q := by
  cases b
  · exact Go.condF hc (h2 rfl)
  · exact Go.condT hc (h1 rfl)

theorem Go.region {id : Nat} {ops : Array Oper} (h : GoO P orc base sz ops (List.range ops.size) k ρ H Q) : Go P orc base sz (.code (.region id ops false) :: k) .normal ρ H Q := by
  obtain ⟨ρ1, H1, hb, h⟩ := h
  exact ⟨.normal, ρ1, H1, .region hb, h⟩

theorem GoO.nil {ops : Array Oper} (h : Go P orc base sz k .normal ρ H Q) : GoO P orc base sz ops [] k ρ H Q := ⟨ρ, H, .opsNil, h⟩
theorem GoO.op {ops : Array Oper} {i : Nat} {l : List Nat} {o : Oper} (ho : ops[i]? = some o) (hd : okDst sz o.dst) (hc : o.op.operands.toList.all okOperand = true)
    (hw : Region.wanted o (yieldedA ops ρ) = true) (h : opThen (opA P base ρ o.op H) fun v H1 => GoO P orc base sz ops l k (put ρ o.dst v) H1 Q) : GoO P orc base sz ops (i :: l) k ρ H Q := by
  cases hop : opA P base ρ o.op H with
  | none => rw [hop] at h; exact h.elim
  | some r =>
    obtain ⟨v, H1⟩ := r
    rw [hop] at h
    obtain ⟨ρ', H', hb, h⟩ := h
    exact ⟨ρ', H', .opsOp ho hw hd hc hop hb, h⟩
theorem GoO.skip {ops : Array Oper} {i : Nat} {l : List Nat} {o : Oper} (ho : ops[i]? = some o) (hd : okDst sz o.dst)
    (hw : Region.wanted o (yieldedA ops ρ) = false) (h : GoO P orc base sz ops l k (put ρ o.dst undef) H Q) : GoO P orc base sz ops (i :: l) k ρ H Q := by
  obtain ⟨ρ', H', hb, h⟩ := h
  exact ⟨ρ', H', .opsSkip ho hw hd hb, h⟩
theorem GoO.call {ops : Array Oper} {i : Nat} {l : List Nat} {o : Oper} {f : FuncId} {args : List Value} {fn : Func} (ho : ops[i]? = some o) (hd : okDst sz o.dst) (hc : o.op.operands.toList.all okOperand = true)
    (hw : Region.wanted o (yieldedA ops ρ) = true) (ht : targetA ρ o.op = some (f, args)) (hf : P.funcs[f]? = some fn) (hn : fn.name ≠ "runtime.NumGoroutine") (hb : fn.body.isNone = false)
    (h : CallA P orc base f args H fun v H1 => GoO P orc base sz ops l k (put ρ o.dst v) H1 Q) : GoO P orc base sz ops (i :: l) k ρ H Q := by
  obtain ⟨v, H1, hcall, ρ', H', hbig, h⟩ := h
  exact ⟨ρ', H', .opsCall ho hw hd hc ht hf hn hb hcall hbig, h⟩

/-- The operations from the i-th on. -/
def GoI (P : Program) (orc : Oracle) (base sz : Nat) (ops : Array Oper) (i : Nat) (k : List K) (ρ : Env) (H : Heap) (Q : AExit → Env → Heap → Prop) : Prop :=
  GoO P orc base sz ops (List.range' i (ops.size - i)) k ρ H Q

theorem range_cons {n i : Nat} (h : i < n) : List.range' i (n - i) = i :: List.range' (i + 1) (n - (i + 1)) := by
  rw [show n - i = (n - (i + 1)) + 1 by omega, List.range'_succ]

theorem lt_of_get {ops : Array Oper} {i : Nat} {o : Oper} (ho : ops[i]? = some o) : i < ops.size := (Array.getElem?_eq_some_iff.1 ho).1

theorem Go.reg {id : Nat} {ops : Array Oper} (h : GoI P orc base sz ops 0 k ρ H Q) : Go P orc base sz (.code (.region id ops false) :: k) .normal ρ H Q := by
  refine Go.region ?_
  rw [List.range_eq_range']
  exact h
theorem GoI.nil {ops : Array Oper} {i : Nat} (ho : ops.size = i) (h : Go P orc base sz k .normal ρ H Q) : GoI P orc base sz ops i k ρ H Q := by
  unfold GoI
  rw [show ops.size - i = 0 by omega]
  exact GoO.nil h
theorem GoI.op {ops : Array Oper} {i : Nat} {o : Oper} (ho : ops[i]? = some o) (hd : okDst sz o.dst) (hc : o.op.operands.toList.all okOperand = true)
    (hw : Region.wanted o (yieldedA ops ρ) = true) (h : opThen (opA P base ρ o.op H) fun v H1 => GoI P orc base sz ops (i + 1) k (put ρ o.dst v) H1 Q) : GoI P orc base sz ops i k ρ H Q := by
  unfold GoI
  rw [range_cons (lt_of_get ho)]
  exact GoO.op ho hd hc hw h
theorem GoI.skip {ops : Array Oper} {i : Nat} {o : Oper} (ho : ops[i]? = some o) (hd : okDst sz o.dst)
    (hw : Region.wanted o (yieldedA ops ρ) = false) (h : GoI P orc base sz ops (i + 1) k (put ρ o.dst undef) H Q) : GoI P orc base sz ops i k ρ H Q := by
  unfold GoI
  rw [range_cons (lt_of_get ho)]
  exact GoO.skip ho hd hw h
theorem GoI.call {ops : Array Oper} {i : Nat} {o : Oper} {f : FuncId} {args : List Value} {fn : Func} (ho : ops[i]? = some o) (hd : okDst sz o.dst) (hc : o.op.operands.toList.all okOperand = true)
    (hw : Region.wanted o (yieldedA ops ρ) = true) (ht : targetA ρ o.op = some (f, args)) (hf : P.funcs[f]? = some fn) (hn : fn.name ≠ "runtime.NumGoroutine") (hb : fn.body.isNone = false)
    (h : CallA P orc base f args H fun v H1 => GoI P orc base sz ops (i + 1) k (put ρ o.dst v) H1 Q) : GoI P orc base sz ops i k ρ H Q := by
  unfold GoI
  rw [range_cons (lt_of_get ho)]
  exact GoO.call ho hd hc hw ht hf hn hb h

/-- The operations that are left of a region. -/
def GoR (P : Program) (orc : Oracle) (base sz : Nat) (ops : Array Oper) (rest : List Oper) (k : List K) (ρ : Env) (H : Heap) (Q : AExit → Env → Heap → Prop) : Prop :=
  ∀ i, ops.toList.drop i = rest → GoI P orc base sz ops i k ρ H Q

theorem get_of_drop {ops : Array Oper} {i : Nat} {o : Oper} {os : List Oper} (h : ops.toList.drop i = o :: os) : ops[i]? = some o ∧ ops.toList.drop (i + 1) = os := by
  have h1 : (ops.toList.drop i)[0]? = some o := by rw [h]; rfl
  rw [List.getElem?_drop] at h1
  refine ⟨by simpa using h1, ?_⟩
  rw [← List.drop_drop, h]
  rfl

theorem Go.rg {id : Nat} {l : List Oper} (h : GoR P orc base sz l.toArray l k ρ H Q) : Go P orc base sz (.code (.region id l.toArray false) :: k) .normal ρ H Q := Go.reg (h 0 (by simp))
theorem GoR.nil {ops : Array Oper} (h : Go P orc base sz k .normal ρ H Q) : GoR P orc base sz ops [] k ρ H Q := fun i hi => by
  unfold GoI
  have : ops.size ≤ i := by simpa [List.drop_eq_nil_iff] using hi
  rw [show ops.size - i = 0 by omega]
  exact GoO.nil h
theorem GoR.op {ops : Array Oper} {os : List Oper} {dst : Option Tmp} {op : Op} {ty : TypeId} {pos : String} {after : Array Edge} (hd : okDst sz dst) (hc : op.operands.toList.all okOperand = true)
    (h : opThen (opA P base ρ op H) fun v H1 => GoR P orc base sz ops os k (put ρ dst v) H1 Q) : GoR P orc base sz ops (⟨dst, op, ty, pos, after, none⟩ :: os) k ρ H Q := fun i hi => by
  obtain ⟨h1, h2⟩ := get_of_drop hi
  refine GoI.op h1 hd hc rfl ?_
  cases hop : opA P base ρ op H with
  | none => rw [hop] at h; exact h.elim
  | some r =>
    rw [hop] at h
    exact h (i + 1) h2
theorem GoR.opG {ops : Array Oper} {os : List Oper} {dst : Option Tmp} {op : Op} {ty : TypeId} {pos : String} {after : Array Edge} {g : Nat × Bool} (hd : okDst sz dst) (hc : op.operands.toList.all okOperand = true)
    (hw : (yieldedA ops ρ g.1 == some g.2) = true) (h : opThen (opA P base ρ op H) fun v H1 => GoR P orc base sz ops os k (put ρ dst v) H1 Q) : GoR P orc base sz ops (⟨dst, op, ty, pos, after, some g⟩ :: os) k ρ H Q := fun i hi => by
  obtain ⟨h1, h2⟩ := get_of_drop hi
  refine GoI.op h1 hd hc hw ?_
  cases hop : opA P base ρ op H with
  | none => rw [hop] at h; exact h.elim
  | some r =>
    rw [hop] at h
    exact h (i + 1) h2
theorem GoR.skipG {ops : Array Oper} {os : List Oper} {dst : Option Tmp} {op : Op} {ty : TypeId} {pos : String} {after : Array Edge} {g : Nat × Bool} (hd : okDst sz dst)
    (hw : (yieldedA ops ρ g.1 == some g.2) = false) (h : GoR P orc base sz ops os k (put ρ dst undef) H Q) : GoR P orc base sz ops (⟨dst, op, ty, pos, after, some g⟩ :: os) k ρ H Q := fun i hi => by
  obtain ⟨h1, h2⟩ := get_of_drop hi
  exact GoI.skip h1 hd hw (h (i + 1) h2)
theorem GoR.call {ops : Array Oper} {os : List Oper} {dst : Option Tmp} {c : Call} {ty : TypeId} {pos : String} {after : Array Edge} {f : FuncId} {args : List Value} {fn : Func} (hd : okDst sz dst) (hc : (Op.call c).operands.toList.all okOperand = true)
    (ht : targetA ρ (.call c) = some (f, args)) (hf : P.funcs[f]? = some fn) (hn : (fn.name == "runtime.NumGoroutine") = false) (hb : fn.body.isNone = false)
    (h : CallA P orc base f args H fun v H1 => GoR P orc base sz ops os k (put ρ dst v) H1 Q) : GoR P orc base sz ops (⟨dst, .call c, ty, pos, after, none⟩ :: os) k ρ H Q := fun i hi => by
  obtain ⟨h1, h2⟩ := get_of_drop hi
  refine GoI.call h1 hd hc rfl ht hf (by simpa using hn) hb ?_
  obtain ⟨v, H', hb, q⟩ := h
  exact ⟨v, H', hb, q (i + 1) h2⟩

/-- A guard that is not known. -/
theorem GoR.splitG {ops : Array Oper} {os : List Oper} {dst : Option Tmp} {op : Op} {ty : TypeId} {pos : String} {after : Array Edge} {g : Nat × Bool} {b : Bool} (hy : yieldedA ops ρ g.1 = some b)
    (h1 : b = true → GoR P orc base sz ops (⟨dst, op, ty, pos, after, some g⟩ :: os) k ρ H Q) (h2 : b = false → GoR P orc base sz ops (⟨dst, op, ty, pos, after, some g⟩ :: os) k ρ H Q) :
    GoR P orc base sz ops (⟨dst, op, ty, pos, after, some g⟩ :: os) k ρ H Q := by
  cases b
  · exact h2 rfl
  · exact h1 rfl
theorem GoR.callG {ops : Array Oper} {os : List Oper} {dst : Option Tmp} {c : Call} {ty : TypeId} {pos : String} {after : Array Edge} {g : Nat × Bool} {f : FuncId} {args : List Value} {fn : Func} (hd : okDst sz dst) (hc : (Op.call c).operands.toList.all okOperand = true)
    (hw : (yieldedA ops ρ g.1 == some g.2) = true) (ht : targetA ρ (.call c) = some (f, args)) (hf : P.funcs[f]? = some fn) (hn : (fn.name == "runtime.NumGoroutine") = false) (hb : fn.body.isNone = false)
    (h : CallA P orc base f args H fun v H1 => GoR P orc base sz ops os k (put ρ dst v) H1 Q) : GoR P orc base sz ops (⟨dst, .call c, ty, pos, after, some g⟩ :: os) k ρ H Q := fun i hi => by
  obtain ⟨h1, h2⟩ := get_of_drop hi
  refine GoI.call h1 hd hc hw ht hf (by simpa using hn) hb ?_
  obtain ⟨v, H', hb, q⟩ := h
  exact ⟨v, H', hb, q (i + 1) h2⟩

theorem CallA.mono {f : FuncId} {args : List Value} {R R' : Value → Heap → Prop} (h : CallA P orc base f args H R) (hr : ∀ v H', R v H' → R' v H') : CallA P orc base f args H R' := by
  obtain ⟨v, H', hb, q⟩ := h
  exact ⟨v, H', hb, hr _ _ q⟩

/-- A function's own text. -/
theorem CallA.body {f : FuncId} {args : List Value} {fn : Func} {c : Code} {R : Value → Heap → Prop} (hf : P.funcs[f]? = some fn) (hb : fn.body = some c) (ha : args.length ≤ fn.ntmps)
    (h : Go P orc base fn.ntmps [.code c] .normal (initEnv args) H fun e ρ H' => (e = .normal ∨ e = .ret) ∧ ∃ v, resultsA P fn ρ H' = some v ∧ R v H') : CallA P orc base f args H R := by
  obtain ⟨e, ρ, H', hbig, he, v, hv, hr⟩ := h
  exact ⟨v, H', .call hf hb ha hbig he hv, hr⟩

theorem put_eq {ρ : Env} {t : Tmp} {v : Value} : put ρ (some t) v t = v := by simp [put, upd]
theorem put_ne {ρ : Env} {t u : Tmp} {v : Value} (h : (u == t) = false) : put ρ (some t) v u = ρ u := by simp at h; simp [put, upd, h]
theorem put_none {ρ : Env} {v : Value} : put ρ none v = ρ := rfl
theorem init_zero {a : Value} {l : List Value} : initEnv (a :: l) 0 = a := rfl
theorem init_succ {a : Value} {l : List Value} {n : Nat} : initEnv (a :: l) (n + 1) = initEnv l n := by simp [initEnv]

/-- What the walk rewrites by. -/
theorem G :
    (∀ {v : Value} {H : Heap} {F : Value → Heap → Prop}, opThen (some (v, H)) F = F v H) ∧
    (∀ {P base ρ x H}, opA P base ρ (.move x) H = some (evalA ρ x, H)) ∧
    (∀ {P base ρ x H}, opA P base ρ (.assign x) H = some (evalA ρ x, H)) ∧
    (∀ {P base ρ c a b H}, opA P base ρ (.pick c a b) H = match evalA ρ c with | .bool t => some (if t then evalA ρ a else evalA ρ b, H) | _ => none) ∧
    (∀ {P base ρ t x H}, opA P base ρ (.box t x) H = some (.pointer (some (atNew H)), newA H (evalA ρ x).cells.toList 1)) ∧
    (∀ {P base ρ t x H}, opA P base ρ (.load t x) H = (loadA P t (evalA ρ x) H).map (·, H)) ∧
    (∀ {P base ρ t x y H}, opA P base ρ (.store t x y) H = (storeA P base t (evalA ρ x) (evalA ρ y) H).map (undef, ·)) ∧
    (∀ {P base ρ s x f H}, opA P base ρ (.fieldAddr s x f) H = (fieldAtA P s (evalA ρ x) f).map (·, H)) ∧
    (∀ {P base ρ t x i H}, opA P base ρ (.indexAddr t x i) H = (indexAtA P t (evalA ρ x) (evalA ρ i)).map (·, H)) ∧
    (∀ {P base ρ fn a b H}, opA P base ρ (.makeFunc fn a b) H = some (.func fn (a.map (evalA ρ)) (b.map (evalA ρ)), H)) ∧
    (∀ {P base ρ t x lo hi mx H}, opA P base ρ (.slice t x lo hi mx) H = (sliceA P t (evalA ρ x) (lo.map (evalA ρ)) (hi.map (evalA ρ)) (mx.map (evalA ρ)) H).map (·, H)) ∧
    (∀ {P base ρ t n ps H}, opA P base ρ (.buildSlice t n ps) H = buildSliceA P t n (ps.toList.map fun (i, x) => (i, evalA ρ x)) H) ∧
    (∀ {P base ρ t ps H}, opA P base ρ (.build t ps) H = (buildA P t (ps.toList.map fun (i, x) => (i, evalA ρ x))).map (·, H)) ∧
    (∀ {P base ρ s d x H}, opA P base ρ (.convert s d x) H = convA P s d (evalA ρ x) H) ∧
    (∀ {P base ρ b args at_ H}, opA P base ρ (.call { callee := .builtin b, args := args, argTypes := at_ }) H = builtinA P base b at_ (args.toList.map (evalA ρ)) H) ∧
    (∀ {ρ : Env} {t : Tmp}, evalA ρ (.tmp t) = ρ t) ∧ (∀ {ρ : Env} {v : Value}, evalA ρ (.const v) = v) ∧ (∀ {ρ : Env} {f : FuncId}, evalA ρ (.func f) = .func (.func f) #[] #[]) ∧
    (∀ {ρ : Env} {t : Tmp} {v : Value}, put ρ (some t) v t = v) ∧
    (∀ {a : Value} {l : List Value}, initEnv (a :: l) 0 = a) ∧ (∀ {a : Value} {l : List Value} {n : Nat}, initEnv (a :: l) (n + 1) = initEnv l n) :=
  ⟨rfl, rfl, rfl, rfl, rfl, rfl, rfl, rfl, rfl, rfl, rfl, rfl, rfl, rfl, rfl, rfl, rfl, rfl, put_eq, rfl, init_succ⟩

theorem opA_bin {op : BinOp} {t u : TypeId} {x y : Operand} {v : Value} (h : binA P op t (evalA ρ x) (evalA ρ y) = some v) : opA P base ρ (.binOp op t x y u) H = some (v, H) := by simp only [opA, h]
theorem opA_not {t : TypeId} {x : Operand} {b : Bool} (h : evalA ρ x = .bool b) : opA P base ρ (.unOp .not t x) H = some (.bool !b, H) := by simp only [opA, h]
theorem opA_extract {x : Operand} {i : Nat} {vs : Array Value} (h : evalA ρ x = .tuple vs) : opA P base ρ (.extract x i) H = (vs[i]?).map (·, H) := by simp only [opA, h]
end
end Go.AM
