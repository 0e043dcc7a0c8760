/- An abstract machine over Go's operations: single operations, and the big steps. -/
import Derived.Test.YtipeffaojbhbmaaDoorAmA
import Derived.Laws.Tables
set_option linter.unusedSimpArgs false
set_option linter.unusedVariables false
namespace Go.AM
open Go

def intBin (op : BinOp) (k : IntKind) (a b : Int) : Option Value :=
  match op with
  | .add => some (.int k (k.wrap (a + b)))
  | .sub => some (.int k (k.wrap (a - b)))
  | .mul => some (.int k (k.wrap (a * b)))
  | .quo => if b = 0 then none else some (.int k (k.wrap (a.tdiv b)))
  | .rem => if b = 0 then none else some (.int k (a.tmod b))
  | .eql => some (.bool (a == b))
  | .neq => some (.bool (a != b))
  | .lss => some (.bool (decide (a < b)))
  | .leq => some (.bool (decide (a ≤ b)))
  | .gtr => some (.bool (decide (a > b)))
  | .geq => some (.bool (decide (a ≥ b)))
  | _ => none

def strBin (op : BinOp) (x y : ByteArray) : Option Value :=
  match op with
  | .add => if ((x.size + y.size : Nat) : Int) > IntKind.i64.max then none else some (.string (x ++ y))
  | .eql => some (.bool (x.toList == y.toList))
  | .neq => some (.bool !(x.toList == y.toList))
  | .lss => some (.bool (Op.bytesLess x.toList y.toList))
  | .leq => some (.bool (Op.bytesLess x.toList y.toList || x.toList == y.toList))
  | .gtr => some (.bool !(Op.bytesLess x.toList y.toList || x.toList == y.toList))
  | .geq => some (.bool !(Op.bytesLess x.toList y.toList))
  | _ => none

/-- Two values under a sign. -/
def binA (P : Program) (op : BinOp) (t : TypeId) (x y : Value) : Option Value :=
  match x, y with
  | .int k a, .int k' b =>
    match op with
    | .shl => if b < 0 then none else some (.int k (k.wrap (a * 2 ^ (min b.toNat k.bits))))
    | .shr => if b < 0 then none else some (.int k (a.fdiv (2 ^ (min b.toNat k.bits))))
    | .and | .or | .xor | .andNot => if k = k' then pureRun P (Op.intBits op k a b) else none
    | op => if k = k' then intBin op k a b else none
  | .string a, .string b => strBin op a b
  | .bool a, .bool b =>
    match op with
    | .eql => if (P.underlying t).map (fun | .bool => true | _ => false) = some true then some (.bool (a == b)) else none
    | .neq => if (P.underlying t).map (fun | .bool => true | _ => false) = some true then some (.bool !(a == b)) else none
    | _ => none
  | x, y => none

/-- Two structs, or something and nil, held against each other. -/
def eqA (P : Program) (op : BinOp) (t : TypeId) (x y : Operand) (a b : Value) : Option Value :=
  match op with
  | .eql => if closedV a && closedV b then pureRun P (do eqGuard .eql t x y a b; binOp .eql t a b) else none
  | .neq => if closedV a && closedV b then pureRun P (do eqGuard .neq t x y a b; binOp .neq t a b) else none
  | _ => none

def convA (P : Program) (src dst : TypeId) (x : Value) (H : Heap) : Option (Value × Heap) := do
  let s ← P.underlying src
  let d ← P.underlying dst
  match s, d, x with
  | .int _, .int k, .int _ n => some (.int k (k.wrap n), H)
  | .string, .string, .string a => some (.string a, H)
  | .string, .slice e, .string a =>
    match ← P.underlying e with
    | .int .u8 => some (.slice (some (atNew H)) a.size a.size, newA H (a.data.toList.map fun b => .int .u8 b.toNat) 1)
    | _ => none
  | .slice e, .string, .slice b n _ =>
    match ← P.underlying e with
    | .int .u8 =>
      match b with
      | none => some (.string .empty, H)
      | some a => if n = 0 then some (.string .empty, H) else do
        let cs ← readA H a n
        some (.string (strOfNums (← u8s cs)), H)
    | _ => none
  | _, _, _ => none

def buildA (P : Program) (t : TypeId) (parts : List (Nat × Value)) : Option Value :=
  match zeroA P t with
  | some z => if z.cells.all scalarV = false then none else (P.built t parts).map .agg
  | none => none

def buildSliceA (P : Program) (t : TypeId) (len : Nat) (parts : List (Nat × Value)) (H : Heap) : Option (Value × Heap) := do
  let .slice e ← P.underlying t | none
  let size ← sizeA P e
  let z ← zeroA P e
  if len * size > 2 ^ 24 ∨ z.cells.all scalarV = false ∨ z.cells.size ≠ size then none else
  let cells ← Instr.fill (fun i => some (i * size, size)) ((Array.range (len * size)).map (z.cells[· % z.cells.size]!)) parts
  some (.slice (some (atNew H)) len len, newA H cells.toList size)

def makeSliceA (P : Program) (t : TypeId) (l c : Value) (H : Heap) : Option (Value × Heap) := do
  let .slice e ← P.underlying t | none
  let info ← P.info? e
  let z ← info.zero
  let .int .i64 l := l | none
  let .int .i64 c := c | none
  if 0 ≤ l ∧ l ≤ c ∧ info.bytes * c ≤ 2 ^ 48 ∧ c < 2 ^ 62 ∧ z.cells.all scalarV = true ∧ z.cells.size = info.size then
    some (.slice (some (atNew H)) l.toNat l.toNat, newA H ((Array.range (l.toNat * info.size)).map (z.cells[· % z.cells.size]!)).toList info.size)
  else none

def builtinA (P : Program) (base : Nat) (b : Builtin) (at_ : Array TypeId) (args : List Value) (H : Heap) : Option (Value × Heap) :=
  match b, args with
  | .len, [x] =>
    match (at_[0]?).bind P.underlying, x with
    | some .string, .string s => some (.int .i64 s.size, H)
    | some (.slice _), .slice _ n _ => some (.int .i64 n, H)
    | _, _ => none
  | .append, [s, x] => appendA P base at_ s x H
  | .copy, [d, s] => copyA P base at_ d s H
  | .clear, [d] => clearA P base at_ d H
  | .max, [.int k a, .int k' b] => some (.int k (if b > a then b else a), H)
  | .min, [.int k a, .int k' b] => some (.int k (if b < a then b else a), H)
  | _, _ => none

/-- One operation that is no call of Go code. -/
def opA (P : Program) (base : Nat) (ρ : Env) (op : Op) (H : Heap) : Option (Value × Heap) :=
  match op with
  | .move x | .assign x => some (evalA ρ x, H)
  | .pick c a b => match evalA ρ c with | .bool t => some (if t then evalA ρ a else evalA ρ b, H) | _ => none
  | .alloc t => do
    let z ← zeroA P t
    if z.cells.all scalarV then some (.pointer (some (atNew H)), newA H z.cells.toList 1) else none
  | .box _ x => some (.pointer (some (atNew H)), newA H (evalA ρ x).cells.toList 1)
  | .build t parts => (buildA P t (parts.toList.map fun (i, x) => (i, evalA ρ x))).map (·, H)
  | .buildSlice t n parts => buildSliceA P t n (parts.toList.map fun (i, x) => (i, evalA ρ x)) H
  | .load t a => (loadA P t (evalA ρ a) H).map (·, H)
  | .store t a x => (storeA P base t (evalA ρ a) (evalA ρ x) H).map (undef, ·)
  | .nilCheck x => match evalA ρ x with | .pointer (some a) => some (.pointer (some a), H) | .func (.func f) a b => some (.func (.func f) a b, H) | _ => none
  | .binOp op t x y _ =>
    match binA P op t (evalA ρ x) (evalA ρ y) with
    | some v => some (v, H)
    | none =>
      match op, nilEq P t (evalA ρ x) (evalA ρ y) with
      | .eql, some b => some (.bool b, H)
      | .neq, some b => some (.bool !b, H)
      | _, _ => (eqA P op t x y (evalA ρ x) (evalA ρ y)).bind fun v => if closedV v then some (v, H) else none
  | .unOp op _ x =>
    match op, evalA ρ x with
    | .not, .bool b => some (.bool !b, H)
    | .neg, .int k n => some (.int k (k.wrap (0 - n)), H)
    | .xor, .int k n => (pureRun P (Op.intBits .xor k (if k.signed then -1 else k.max) n)).bind fun v => if closedV v then some (v, H) else none
    | _, _ => none
  | .convert s d x => convA P s d (evalA ρ x) H
  | .makeInterface t x => match P.underlying t with | some (.interface _) => none | some _ => some (.iface t (evalA ρ x), H) | none => none
  | .makeFunc fn a b => some (.func fn (a.map (evalA ρ)) (b.map (evalA ρ)), H)
  | .makeSlice t l c => makeSliceA P t (evalA ρ l) (evalA ρ c) H
  | .slice t x lo hi mx => (sliceA P t (evalA ρ x) (lo.map (evalA ρ)) (hi.map (evalA ρ)) (mx.map (evalA ρ)) H).map (·, H)
  | .fieldAddr s x f => (fieldAtA P s (evalA ρ x) f).map (·, H)
  | .indexAddr t x i => (indexAtA P t (evalA ρ x) (evalA ρ i)).map (·, H)
  | .index t x i =>
    match P.underlying t, evalA ρ x, evalA ρ i with
    | some .string, .string s, .int _ i => if 0 ≤ i then (s.data[i.toNat]?).map fun b => (.int .u8 b.toNat, H) else none
    | _, _, _ => none
  | .extract x i => match evalA ρ x with | .tuple vs => (vs[i]?).map (·, H) | _ => none
  | .call { callee := .builtin b, args, argTypes } => builtinA P base b argTypes (args.toList.map (evalA ρ)) H
  | _ => none

def resultA (P : Program) (ρ : Env) (H : Heap) : ResultVar → Option Value
  | .tmp t => some (ρ t)
  | .cell a t => loadA P t (ρ a) H
def resultsA (P : Program) (fn : Func) (ρ : Env) (H : Heap) : Option Value :=
  match fn.results.toList with
  | [r] => resultA P ρ H r
  | rs => (rs.mapM (resultA P ρ H)).map fun vs => .tuple vs.toArray

inductive AExit where
  | normal
  | exit (id : Nat)
  | ret

inductive Job where
  | ops (sz : Nat) (ops : Array Oper) (l : List Nat) (ρ : Env)
  | code (sz : Nat) (c : Code) (ρ : Env)
  | call (f : FuncId) (args : List Value)
inductive Out where
  | env (ρ : Env)
  | exit (e : AExit) (ρ : Env)
  | val (v : Value)

def okDst (sz : Nat) : Option Tmp → Prop
  | some t => t < sz
  | none => True

instance {sz : Nat} {d : Option Tmp} : Decidable (okDst sz d) := by cases d <;> unfold okDst <;> infer_instance

def initEnv (args : List Value) : Env := fun i => args.getD i undef

/-- Whom a call calls, and with what. -/
def targetA (ρ : Env) (op : Op) : Option (FuncId × List Value) :=
  match op with
  | .call { callee := .value f, args, .. } =>
    match evalA ρ f with
    | .func (.func g) first captured => some (g, first.toList ++ args.toList.map (evalA ρ) ++ captured.toList)
    | _ => none
  | _ => none

/-- A value whose addresses lie below a number of blocks. -/
inductive VLow (n : Nat) : Value → Prop
  | scalar {v} (h : scalarV v = true) : VLow n v
  | ptr (h o) (hn : h < n) : VLow n (.pointer (some ⟨h, o, none⟩))
  | sl (h o l m) (hn : h < n) : VLow n (.slice (some ⟨h, o, none⟩) l m)
  | func (fn : Fn) (xs cs : Array Value) (h1 : ∀ i (h : i < xs.size), VLow n xs[i]) (h2 : ∀ i (h : i < cs.size), VLow n cs[i]) : VLow n (.func fn xs cs)
  | iface (t v) (h : VLow n v) : VLow n (.iface t v)
  | agg (xs : Array Value) (h : ∀ i (h : i < xs.size), VLow n xs[i]) : VLow n (.agg xs)
  | tuple (xs : Array Value) (h : ∀ i (h : i < xs.size), VLow n xs[i]) : VLow n (.tuple xs)
  | free : VLow n (.slice (some freeA) 0 0)
  | glob (g) : VLow n (.map (some g))

inductive Big (P : Program) (orc : Nat → FuncId → List Value → Heap → Value → Heap → Prop) : Nat → Job → Heap → Out → Heap → Prop
  | opsNil {base sz ops ρ H} : Big P orc base (.ops sz ops [] ρ) H (.env ρ) H
  | opsSkip {base sz ops i l ρ H out H' o} (ho : ops[i]? = some o) (hw : Region.wanted o (yieldedA ops ρ) = false) (hd : okDst sz o.dst)
      (h : Big P orc base (.ops sz ops l (put ρ o.dst undef)) H out H') : Big P orc base (.ops sz ops (i :: l) ρ) H out H'
  | opsOp {base sz ops i l ρ H H1 v out H' o} (ho : ops[i]? = some o) (hw : Region.wanted o (yieldedA ops ρ) = true) (hd : okDst sz o.dst)
      (hc : o.op.operands.toList.all okOperand = true) (hop : opA P base ρ o.op H = some (v, H1))
      (h : Big P orc base (.ops sz ops l (put ρ o.dst v)) H1 out H') : Big P orc base (.ops sz ops (i :: l) ρ) H out H'
  | opsCall {base sz ops i l ρ H H1 v out H' o f args fn} (ho : ops[i]? = some o) (hw : Region.wanted o (yieldedA ops ρ) = true) (hd : okDst sz o.dst)
      (hc : o.op.operands.toList.all okOperand = true) (ht : targetA ρ o.op = some (f, args)) (hf : P.funcs[f]? = some fn) (hn : fn.name ≠ "runtime.NumGoroutine") (hb : fn.body.isNone = false)
      (hcall : Big P orc base (.call f args) H (.val v) H1)
      (h : Big P orc base (.ops sz ops l (put ρ o.dst v)) H1 out H') : Big P orc base (.ops sz ops (i :: l) ρ) H out H'
  | skip {base sz ρ H} : Big P orc base (.code sz .skip ρ) H (.exit .normal ρ) H
  | label {base sz ρ H l} : Big P orc base (.code sz (.label l) ρ) H (.exit .normal ρ) H
  | exit {base sz ρ H id} : Big P orc base (.code sz (.exit id) ρ) H (.exit (.exit id) ρ) H
  | ret {base sz ρ H} : Big P orc base (.code sz .ret ρ) H (.exit .ret ρ) H
  | seqN {base sz c d ρ ρ1 H H1 out H'} (h1 : Big P orc base (.code sz c ρ) H (.exit .normal ρ1) H1) (h2 : Big P orc base (.code sz d ρ1) H1 out H') :
      Big P orc base (.code sz (.seq c d) ρ) H out H'
  | seqE {base sz c d ρ ρ1 H H1 e} (h1 : Big P orc base (.code sz c ρ) H (.exit e ρ1) H1) (he : e ≠ .normal) : Big P orc base (.code sz (.seq c d) ρ) H (.exit e ρ1) H1
  | cond {base sz c x y ρ H out H' t} (hk : okOperand c = true) (hc : evalA ρ c = .bool t) (h : Big P orc base (.code sz (if t then x else y) ρ) H out H') :
      Big P orc base (.code sz (.cond c x y) ρ) H out H'
  | blockN {base sz id c ρ ρ1 H H1} (h : Big P orc base (.code sz c ρ) H (.exit .normal ρ1) H1) : Big P orc base (.code sz (.block id c) ρ) H (.exit .normal ρ1) H1
  | blockX {base sz id c ρ ρ1 H H1} (h : Big P orc base (.code sz c ρ) H (.exit (.exit id) ρ1) H1) : Big P orc base (.code sz (.block id c) ρ) H (.exit .normal ρ1) H1
  | blockE {base sz id c ρ ρ1 H H1 e} (h : Big P orc base (.code sz c ρ) H (.exit e ρ1) H1) (h1 : e ≠ .normal) (h2 : e ≠ .exit id) : Big P orc base (.code sz (.block id c) ρ) H (.exit e ρ1) H1
  | loopN {base sz c ρ ρ1 H H1 out H'} (h1 : Big P orc base (.code sz c ρ) H (.exit .normal ρ1) H1) (h2 : Big P orc base (.code sz (.loop c) ρ1) H1 out H') :
      Big P orc base (.code sz (.loop c) ρ) H out H'
  | loopE {base sz c ρ ρ1 H H1 e} (h1 : Big P orc base (.code sz c ρ) H (.exit e ρ1) H1) (he : e ≠ .normal) : Big P orc base (.code sz (.loop c) ρ) H (.exit e ρ1) H1
  | region {base sz id ops ρ ρ1 H H1} (h : Big P orc base (.ops sz ops (List.range ops.size) ρ) H (.env ρ1) H1) :
      Big P orc base (.code sz (.region id ops false) ρ) H (.exit .normal ρ1) H1
  | regionD {base sz id ops ρ ρ1 H H1} (hm : P.follows .mixedOrders = true) (h : ∀ t, Big P orc base (.ops sz ops (Region.linearise .any ops t) ρ) H (.env ρ1) H1) :
      Big P orc base (.code sz (.region id ops true) ρ) H (.exit .normal ρ1) H1
  | call {base f args fn c e ρ H H' v} (hf : P.funcs[f]? = some fn) (hb : fn.body = some c) (ha : args.length ≤ fn.ntmps)
      (h : Big P orc base (.code fn.ntmps c (initEnv args)) H (.exit e ρ) H') (he : e = .normal ∨ e = .ret) (hv : resultsA P fn ρ H' = some v) :
      Big P orc base (.call f args) H (.val v) H'
  | orc {base f args H v H'} (h : orc base f args H v H') : Big P orc base (.call f args) H (.val v) H'
  | pure {base base' f args H H1 v} (h : Big P orc base' (.call f args) [] (.val v) H1) (ha : args.all closedV = true) (hv : closedV v = true) : Big P orc base (.call f args) H (.val v) H
  | drop {base f args H H1 v} (h : Big P orc base (.call f args) H (.val v) H1) (hk : ∀ i b, hget H i = some b → hget H1 i = some b) (hv : VLow H.length v) : Big P orc base (.call f args) H (.val v) H

end Go.AM
