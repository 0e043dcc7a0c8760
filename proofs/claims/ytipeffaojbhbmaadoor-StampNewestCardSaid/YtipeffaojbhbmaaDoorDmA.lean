/- A machine over Go's operations in which slices are values: definitions. -/
import Derived.Test.YtipeffaojbhbmaaDoorAmM
set_option linter.unusedSimpArgs false
set_option linter.unusedVariables false
namespace Go.DM
open Go Go.AM

/-- What a temporary holds: a slice is the list of its cells; memory holds objects alone. 'bot': whatever. -/
inductive D where
  | bool (b : Bool)
  | int (k : IntKind) (n : Int)
  | str (s : ByteArray)
  | nilp
  | ptr (o off : Nat)
  | eptr (cells : List D) (off : Nat)
  | nils
  /-- nil, or an empty slice that has no room -/
  | sl0
  /-- an empty slice that is not nil -/
  | slx
  | sl (own : Option Nat) (sz len : Nat) (cells : List D)
  | fn (f : Fn) (first captured : List D)
  | nilf
  | iface (t : TypeId) (v : D)
  | nili
  | agg (xs : List D)
  | tup (xs : List D)
  | bot

/-- An object's cells; a slice's right to grow, live or spent. -/
inductive Ob where
  | obj (cells : List D)
  | own
  | dead

abbrev Mem := List Ob
abbrev DEnv := Nat → D
def updD (ρ : DEnv) (t : Nat) (v : D) : DEnv := fun i => if i = t then v else ρ i
def putD (ρ : DEnv) (dst : Option Tmp) (v : D) : DEnv := match dst with | some t => updD ρ t v | none => ρ

/-- A value without an address, as it is held. -/
def ofS : Value → D
  | .bool b => .bool b
  | .int k n => .int k n
  | .string s => .str s
  | .pointer none => .nilp
  | .slice none 0 0 => .nils
  | .nilFunc => .nilf
  | .nilIface => .nili
  | _ => .bot
def ofV : Value → D
  | .agg xs => .agg (xs.toList.map ofS)
  | .tuple xs => .tup (xs.toList.map ofS)
  | v => ofS v
def toS : D → Option Value
  | .bool b => some (.bool b)
  | .int k n => some (.int k n)
  | .str s => some (.string s)
  | .nilp => some (.pointer none)
  | .nils => some (.slice none 0 0)
  | .nilf => some .nilFunc
  | .nili => some .nilIface
  | _ => none
def toSs : List D → Option (List Value)
  | [] => some []
  | x :: xs => match toS x, toSs xs with | some v, some vs => some (v :: vs) | _, _ => none
def toV : D → Option Value
  | .agg xs => (toSs xs).map fun vs => .agg vs.toArray
  | .tup xs => (toSs xs).map fun vs => .tuple vs.toArray
  | d => toS d

def dUndef : D := .tup []
def evalD (ρ : DEnv) : Operand → D
  | .tmp t => ρ t
  | .const v => ofV v
  | .global _ => .bot
  | .func f => .fn (.func f) [] []

def D.one : D → Bool
  | .agg _ | .tup _ | .bot => false
  | _ => true
/-- The cells of a value. -/
def cellsD : D → Option (List D)
  | .agg xs => some xs
  | .tup _ | .bot => none
  | d => some [d]

def yieldedD (ops : Array Oper) (ρ : DEnv) (j : Nat) : Option Bool :=
  match (ops[j]?).bind (·.dst) with
  | some t => match ρ t with | .bool b => some b | _ => none
  | none => none

/-- As above, and of one that was left out: nothing. -/
def yieldS (ops : Array Oper) (ρ : DEnv) (j : Nat) : Option (Option Bool) :=
  match (ops[j]?).bind (·.dst) with
  | some t => match ρ t with | .bool b => some (some b) | .tup [] => some none | _ => none
  | none => none

def wr {α : Type} : List α → Nat → List α → List α
  | cs, _, [] => cs
  | cs, o, v :: vs => wr (cs.set o v) (o + 1) vs

def objAt (S : Mem) (o : Nat) : Option (List D) := match S[o]? with | some (.obj cells) => some cells | _ => none

/-- The cells that a pointer points into, from it on. -/
def cellsAt (x : D) (S : Mem) : Option (List D × Nat) :=
  match x with
  | .ptr o off => (objAt S o).map (·, off)
  | .eptr cells off => some (cells, off)
  | _ => none
def loadD (P : Program) (t : TypeId) (x : D) (S : Mem) : Option D :=
  match cellsAt x S, isAggA P t, sizeA P t with
  | some (cells, off), some true, some n => if off + n ≤ cells.length then some (.agg ((cells.drop off).take n)) else none
  | some (cells, off), some false, _ => cells[off]?
  | _, _, _ => none
def storeD (P : Program) (t : TypeId) (x v : D) (S : Mem) : Option Mem :=
  match x, cellsD v, sizeA P t with
  | .ptr o off, some vs, some n =>
    match objAt S o with
    | some cells => if vs.length = n ∧ off + vs.length ≤ cells.length ∧ vs.all D.one = true then some (S.set o (.obj (wr cells off vs))) else none
    | none => none
  | _, _, _ => none

def natD : D → Option Nat
  | .int _ i => if 0 ≤ i then some i.toNat else none
  | _ => none
def optNatD : Option D → Option (Option Nat)
  | none => some none
  | some v => (natD v).map some

def sliceD (P : Program) (t : TypeId) (x : D) (lo hi mx : Option D) : Option D :=
  match optNatD lo, optNatD hi, optNatD mx, P.underlying t, x with
  | some lo, some hi, some mx, some .string, .str s =>
    if mx.isSome then none else
    let l := lo.getD 0; let h := hi.getD s.size
    if l ≤ h ∧ h ≤ s.size then some (.str (s.extract l h)) else none
  | some lo, some hi, some mx, some (.slice e), .sl own sz len cells =>
    if sizeA P e = some sz ∧ ¬ (mx.isSome = true ∧ hi.isNone = true) then
      let m := mx.getD len; let h := hi.getD len; let l := lo.getD 0
      if l ≤ h ∧ h ≤ m ∧ m ≤ len then
        if mx.isSome = true ∧ m = l then some .sl0 else
        some (.sl (if h = len then own else none) sz (h - l) ((cells.drop (l * sz)).take ((h - l) * sz)))
      else none
    else none
  | some lo, some hi, some mx, some (.slice e), .nils =>
    if lo.getD 0 = 0 ∧ hi.getD 0 = 0 ∧ mx.getD 0 = 0 ∧ ¬ (mx.isSome = true ∧ hi.isNone = true) ∧ (sizeA P e).isSome = true then some .nils else none
  | some lo, some hi, some mx, some (.slice e), .sl0 =>
    if lo.getD 0 = 0 ∧ hi.getD 0 = 0 ∧ mx.getD 0 = 0 ∧ ¬ (mx.isSome = true ∧ hi.isNone = true) ∧ (sizeA P e).isSome = true then some .sl0 else none
  | _, _, _, _, _ => none

def fieldAtD (P : Program) (s : TypeId) (x : D) (f : Nat) : Option D :=
  match P.underlying s with
  | some (.struct fields) =>
    match fields[f]? with
    | some fd =>
      match sizeA P fd.type, x with
      | some (_ + 1), .ptr o off => some (.ptr o (off + fd.offset))
      | some (_ + 1), .eptr cells off => some (.eptr cells (off + fd.offset))
      | _, _ => none
    | none => none
  | _ => none
def indexAtD (P : Program) (t : TypeId) (x ix : D) : Option D :=
  match P.underlying t, x, ix with
  | some (.slice e), .sl _ sz len cells, .int _ i => if 0 ≤ i ∧ i < len ∧ sizeA P e = some sz then some (.eptr cells (i.toNat * sz)) else none
  | _, _, _ => none

/-- Cells, element by element, and how many. -/
def elemsD (sz : Nat) : D → Option (Nat × List D)
  | .nils | .sl0 | .slx => some (0, [])
  | .sl _ sz' len cells => if sz' = sz then some (len, cells) else none
  | .str s => if sz = 1 then some (s.size, s.data.toList.map fun b => .int .u8 b.toNat) else none
  | _ => none

def appendD (P : Program) (argTypes : Array TypeId) (s x : D) (S : Mem) : Option (D × Mem) := do
  let st ← argTypes[0]?
  let .slice e ← P.underlying st | none
  let xt ← argTypes[1]?
  if ((P.underlying xt).map fun | .slice _ => true | .string => true | _ => false) ≠ some true then none else
  let info ← P.info? e
  let z ← info.zero
  if z.cells.size ≠ info.size then none else
  let (n, new) ← elemsD info.size x
  match s with
  | .nils =>
    if n = 0 then some (.nils, S) else
    if n * info.bytes ≤ 2 ^ 47 ∧ n < 2 ^ 62 ∧ 0 < info.bytes ∧ new.all D.one = true then some (.sl (some S.length) info.size n new, S ++ [.own]) else none
  | .sl0 =>
    if n = 0 then some (.sl0, S) else
    if n * info.bytes ≤ 2 ^ 47 ∧ n < 2 ^ 62 ∧ 0 < info.bytes ∧ new.all D.one = true then some (.sl (some S.length) info.size n new, S ++ [.own]) else none
  | .sl own sz len cells =>
    if sz ≠ info.size then none else
    if n = 0 then some (.sl own sz len cells, S) else
    if (len + n) * info.bytes ≤ 2 ^ 47 ∧ len + n < 2 ^ 62 ∧ 0 < info.bytes ∧ new.all D.one = true then
      match own with
      | some id =>
        match S[id]? with
        | some .own => some (.sl (some S.length) sz (len + n) (cells ++ new), S.set id .dead ++ [.own])
        | _ => none
      | none => none
    else none
  | _ => none

def fillD (place : Nat → Option (Nat × Nat)) (cells : List D) : List (Nat × D) → Option (List D)
  | [] => some cells
  | (i, v) :: rest =>
    match place i, cellsD v with
    | some (off, size), some cs => if cs.length = size ∧ off + size ≤ cells.length then fillD place (wr cells off cs) rest else none
    | _, _ => none

def buildD (P : Program) (t : TypeId) (parts : List (Nat × D)) : Option D :=
  match P.info? t, P.underlying t with
  | some it, some (.array _ e) =>
    match it.zero, P.info? e with
    | some z, some ie => if z.cells.all scalarV then (fillD (fun i => some (i * ie.size, ie.size)) (z.cells.toList.map ofS) parts).map .agg else none
    | _, _ => none
  | some it, some (.struct fields) =>
    match it.zero, fields.toList.mapM (fun f => (P.info? f.type).map fun i => (f.offset, i.size)) with
    | some z, some places => if z.cells.all scalarV then (fillD (places.toArray[·]?) (z.cells.toList.map ofS) parts).map .agg else none
    | _, _ => none
  | _, _ => none

def repD {α : Type} (xs : List α) : Nat → List α
  | 0 => []
  | n + 1 => xs ++ repD xs n

def buildSliceD (P : Program) (t : TypeId) (len : Nat) (parts : List (Nat × D)) (S : Mem) : Option (D × Mem) := do
  let .slice e ← P.underlying t | none
  let size ← sizeA P e
  let z ← zeroA P e
  if len * size > 2 ^ 24 ∨ z.cells.all scalarV = false ∨ z.cells.size ≠ size then none else
  let cells ← fillD (fun i => some (i * size, size)) (repD (z.cells.toList.map ofS) len) parts
  if cells.all D.one = true then some (.sl (some S.length) size len cells, S ++ [.own]) else none

def makeSliceD (P : Program) (t : TypeId) (l c : D) (S : Mem) : Option (D × Mem) := do
  let .slice e ← P.underlying t | none
  let info ← P.info? e
  let z ← info.zero
  let .int .i64 l := l | none
  let .int .i64 c := c | none
  if 0 ≤ l ∧ l ≤ c ∧ info.bytes * c ≤ 2 ^ 48 ∧ c < 2 ^ 62 ∧ z.cells.all scalarV = true ∧ z.cells.size = info.size then
    some (.sl (some S.length) info.size l.toNat (repD (z.cells.toList.map ofS) l.toNat), S ++ [.own])
  else none

def u8sD : List D → Option (List Int)
  | [] => some []
  | .int .u8 n :: r => (u8sD r).map (n :: ·)
  | _ => none
def convD (P : Program) (src dst : TypeId) (x : D) (S : Mem) : Option (D × Mem) :=
  match P.underlying src, P.underlying dst, x with
  | some (.int _), some (.int k), .int _ n => some (.int k (k.wrap n), S)
  | some .string, some .string, .str a => some (.str a, S)
  | some .string, some (.slice e), .str a =>
    match P.underlying e with
    | some (.int .u8) => some (.sl (some S.length) 1 a.size (a.data.toList.map fun b => .int .u8 b.toNat), S ++ [.own])
    | _ => none
  | some (.slice e), some .string, .sl _ sz n cells =>
    match P.underlying e with
    | some (.int .u8) => if sz = 1 then (u8sD cells).map fun ns => (.str (strOfNums ns), S) else none
    | _ => none
  | some (.slice e), some .string, .nils =>
    match P.underlying e with
    | some (.int .u8) => some (.str .empty, S)
    | _ => none
  | some (.slice e), some .string, .sl0 =>
    match P.underlying e with
    | some (.int .u8) => some (.str .empty, S)
    | _ => none
  | _, _, _ => none

/-- Something that is there, and nil, held against each other. -/
def nilEqD (P : Program) (t : TypeId) (x y : D) : Option Bool :=
  match P.underlying t, x, y with
  | some (.pointer _), .nilp, .ptr _ _ => some false
  | some (.pointer _), .nilp, .eptr _ _ => some false
  | some (.pointer _), .ptr _ _, .nilp => some false
  | some (.pointer _), .eptr _ _, .nilp => some false
  | some (.slice _), .nils, .sl _ _ (_ + 1) _ => some false
  | some (.slice _), .nils, .slx => some false
  | some (.slice _), .slx, .nils => some false
  | some (.slice _), .sl _ _ (_ + 1) _, .nils => some false
  | some (.func _ _ _), .nilf, .fn _ _ _ => some false
  | some (.func _ _ _), .fn _ _ _, .nilf => some false
  | some (.interface _), .nili, .iface _ _ => some false
  | some (.interface _), .iface _ _, .nili => some false
  | _, _, _ => none
/-- Two values without addresses under a sign. -/
def binV (P : Program) (op : BinOp) (t : TypeId) (x y : Operand) (a b : Value) : Option Value :=
  match binA P op t a b with
  | some v => some v
  | none =>
    match op, nilEq P t a b with
    | .eql, some b => some (.bool b)
    | .neq, some b => some (.bool !b)
    | _, _ => (eqA P op t x y a b).bind fun v => if closedV v then some v else none
def binD (P : Program) (op : BinOp) (t : TypeId) (x y : Operand) (a b : D) : Option D :=
  match toV a, toV b with
  | some u, some v => (binV P op t x y u v).map ofV
  | _, _ =>
    match op, nilEqD P t a b with
    | .eql, some b => some (.bool b)
    | .neq, some b => some (.bool !b)
    | _, _ => none

def builtinD (P : Program) (b : Builtin) (at_ : Array TypeId) (args : List D) (S : Mem) : Option (D × Mem) :=
  match b, args with
  | .len, [x] =>
    match (at_[0]?).bind P.underlying, x with
    | some .string, .str s => some (.int .i64 s.size, S)
    | some (.slice _), .sl _ _ n _ => some (.int .i64 n, S)
    | some (.slice _), .nils => some (.int .i64 0, S)
    | some (.slice _), .sl0 => some (.int .i64 0, S)
    | some (.slice _), .slx => some (.int .i64 0, S)
    | _, _ => none
  | .append, [s, x] => appendD P at_ s x S
  | .max, [.int k a, .int _ b] => some (.int k (if b > a then b else a), S)
  | .min, [.int k a, .int _ b] => some (.int k (if b < a then b else a), S)
  | _, _ => none

def opD (P : Program) (ρ : DEnv) (op : Op) (S : Mem) : Option (D × Mem) :=
  match op with
  | .move x | .assign x => some (evalD ρ x, S)
  | .pick c a b => match evalD ρ c with | .bool t => some (if t then evalD ρ a else evalD ρ b, S) | _ => none
  | .alloc t =>
    match zeroA P t with
    | some z => if z.cells.all scalarV then some (.ptr S.length 0, S ++ [.obj (z.cells.toList.map ofS)]) else none
    | none => none
  | .box _ x => (cellsD (evalD ρ x)).map fun cs => (.ptr S.length 0, S ++ [.obj cs])
  | .build t parts => (buildD P t (parts.toList.map fun (i, x) => (i, evalD ρ x))).map (·, S)
  | .buildSlice t n parts => buildSliceD P t n (parts.toList.map fun (i, x) => (i, evalD ρ x)) S
  | .load t a => (loadD P t (evalD ρ a) S).map (·, S)
  | .store t a x => (storeD P t (evalD ρ a) (evalD ρ x) S).map (dUndef, ·)
  | .nilCheck x => match evalD ρ x with | .ptr o off => some (.ptr o off, S) | .eptr c off => some (.eptr c off, S) | .fn (.func f) a b => some (.fn (.func f) a b, S) | _ => none
  | .binOp op t x y _ => (binD P op t x y (evalD ρ x) (evalD ρ y)).map (·, S)
  | .unOp op _ x =>
    match op, evalD ρ x with
    | .not, .bool b => some (.bool !b, S)
    | .neg, .int k n => some (.int k (k.wrap (0 - n)), S)
    | .xor, .int k n => (pureRun P (Op.intBits .xor k (if k.signed then -1 else k.max) n)).bind fun v => if closedV v then some (ofV v, S) else none
    | _, _ => none
  | .convert s d x => convD P s d (evalD ρ x) S
  | .makeInterface t x => match P.underlying t with | some (.interface _) => none | some _ => some (.iface t (evalD ρ x), S) | none => none
  | .makeFunc fn a b => some (.fn fn (a.toList.map (evalD ρ)) (b.toList.map (evalD ρ)), S)
  | .makeSlice t l c => makeSliceD P t (evalD ρ l) (evalD ρ c) S
  | .slice t x lo hi mx => (sliceD P t (evalD ρ x) (lo.map (evalD ρ)) (hi.map (evalD ρ)) (mx.map (evalD ρ))).map (·, S)
  | .fieldAddr s x f => (fieldAtD P s (evalD ρ x) f).map (·, S)
  | .indexAddr t x i => (indexAtD P t (evalD ρ x) (evalD ρ i)).map (·, S)
  | .index t x i =>
    match P.underlying t, evalD ρ x, evalD ρ i with
    | some .string, .str s, .int _ i => if 0 ≤ i then (s.data[i.toNat]?).map fun b => (.int .u8 b.toNat, S) else none
    | _, _, _ => none
  | .extract x i => match evalD ρ x with | .tup vs => (vs[i]?).map (·, S) | _ => none
  | .call { callee := .builtin b, args, argTypes } => builtinD P b argTypes (args.toList.map (evalD ρ)) S
  | _ => none

def resultD (P : Program) (ρ : DEnv) (S : Mem) : ResultVar → Option D
  | .tmp t => some (ρ t)
  | .cell a t => loadD P t (ρ a) S
def resultsL (P : Program) (ρ : DEnv) (S : Mem) : List ResultVar → Option (List D)
  | [] => some []
  | r :: rs => match resultD P ρ S r, resultsL P ρ S rs with | some d, some ds => some (d :: ds) | _, _ => none
def resultsD (P : Program) (fn : Func) (ρ : DEnv) (S : Mem) : Option D :=
  match fn.results.toList with
  | [r] => resultD P ρ S r
  | rs => (resultsL P ρ S rs).map .tup

def initD (args : List D) : DEnv := fun i => args.getD i dUndef

/-- Whom a call calls, and with what. -/
def targetD (ρ : DEnv) (op : Op) : Option (FuncId × List D) :=
  match op with
  | .call { callee := .value f, args, .. } =>
    match evalD ρ f with
    | .fn (.func g) first captured => some (g, first ++ args.toList.map (evalD ρ) ++ captured)
    | _ => none
  | _ => none
end Go.DM
