/- An abstract machine over Go's operations: memory is a list of blocks, an append moves a slice to a new block. Definitions. -/
import Derived.Calls
import Derived.Laws.World
import Derived.Laws.Sem
import Derived.Laws.Cells
import Derived.Laws.BytesArg
set_option linter.unusedSimpArgs false
set_option linter.unusedVariables false
namespace Go.AM
open Go

/-- A block of cells as the abstract machine sees it: its cells, how many cells an element has, whether it may be written; from which cell on no other block shares it, and which ones share what lies ahead. -/
structure Blk where
  cells : List Value
  sz : Nat
  rw : Bool
  lo : Nat
  par : List Nat

/-- Blocks by their numbers; 'none': one that is read no more. -/
abbrev Heap := List (Option Blk)

def hget (H : Heap) (h : Nat) : Option Blk := (H[h]?).join
def hset (H : Heap) (h : Nat) (b : Option Blk) : Heap := H.set h b

abbrev Env := Nat → Value
def upd (ρ : Env) (t : Nat) (v : Value) : Env := fun i => if i = t then v else ρ i
def put (ρ : Env) (dst : Option Tmp) (v : Value) : Env := match dst with | some t => upd ρ t v | none => ρ

def evalA (ρ : Env) : Operand → Value
  | .tmp t => ρ t
  | .const v => v
  | .global g => .map (some g)
  | .func f => .func (.func f) #[] #[]

def scalarV : Value → Bool
  | .bool _ | .int _ _ | .string _ | .pointer none | .slice none _ _ | .nilFunc | .nilIface => true
  | _ => false
/-- A value that holds no address. -/
def closedV : Value → Bool
  | .agg xs => xs.all scalarV
  | .tuple xs => xs.all scalarV
  | v => scalarV v
def okOperand : Operand → Bool
  | .const v => closedV v
  | _ => true

def yieldedA (ops : Array Oper) (ρ : Env) (j : Nat) : Option Bool :=
  match (ops[j]?).bind (·.dst) with
  | some t => match ρ t with | .bool b => some b | _ => none
  | none => none

/-- What an operation without memory comes to. -/
def pureRun {α : Type} (P : Program) : Sem α → Option α
  | .pure a => some a
  | .program k => pureRun P (k P)
  | .mark _ k => pureRun P k
  | _ => none

def sizeA (P : Program) (t : TypeId) : Option Nat := (P.info? t).map (·.size)
def isAggA (P : Program) (t : TypeId) : Option Bool := (P.underlying t).map fun | .struct _ | .array _ _ => true | _ => false
def zeroA (P : Program) (t : TypeId) : Option Value := (P.info? t).bind (·.zero)

def writeL : List Value → Nat → List Value → List Value
  | cs, _, [] => cs
  | cs, o, v :: vs => writeL (cs.set o v) (o + 1) vs

def readA (H : Heap) (a : Addr) (n : Nat) : Option (List Value) :=
  if a.spot.isSome then none else
  match hget H a.block with
  | some b => if a.off + n ≤ b.cells.length then some ((b.cells.drop a.off).take n) else none
  | none => none

def loadA (P : Program) (t : TypeId) (x : Value) (H : Heap) : Option Value :=
  match x with
  | .pointer (some a) => do
    if ← isAggA P t then do
      let cs ← readA H a (← sizeA P t)
      some (.agg cs.toArray)
    else if a.spot.isSome then none else do
      let b ← hget H a.block
      b.cells[a.off]?
  | _ => none

/-- Those that share a block's first cells are read no more. -/
def killAll (H : Heap) (ps : List Nat) : Heap := ps.foldl (fun H p => hset H p none) H

/-- Cells are written into a block that may be. -/
def writeA (base : Nat) (a : Addr) (vs : List Value) (H : Heap) : Option Heap :=
  if a.spot.isSome then none else
  match hget H a.block with
  | some b => if b.rw = true ∧ base ≤ a.block ∧ a.off + vs.length ≤ b.cells.length ∧ vs.all Value.oneCell' = true
      then (if b.lo ≤ a.off then some (hset H a.block (some { b with cells := writeL b.cells a.off vs }))
        else if b.par.all (fun p => p != a.block) = true then some (hset (killAll H b.par) a.block (some { b with cells := writeL b.cells a.off vs, lo := 0, par := [] })) else none) else none
  | none => none

def storeA (P : Program) (base : Nat) (t : TypeId) (x v : Value) (H : Heap) : Option Heap :=
  match x with
  | .pointer (some a) => do
    if v.cells.size ≠ (← sizeA P t) then none else writeA base a v.cells.toList H
  | _ => none

def newB (H : Heap) (b : Blk) : Heap := H ++ [some b]
def newA (H : Heap) (cells : List Value) (sz : Nat) : Heap := newB H ⟨cells, sz, true, 0, []⟩
def atNew (H : Heap) : Addr := ⟨H.length, 0, none⟩

/-- Where an empty slice lies that has no room and of which nothing else is known. -/
def freeA : Addr := ⟨0, 0, some 0⟩

def natA : Value → Option Nat
  | .int _ i => if 0 ≤ i then some i.toNat else none
  | _ => none
def optNat : Option Value → Option (Option Nat)
  | none => some none
  | some v => (natA v).map some

def sliceA (P : Program) (t : TypeId) (x : Value) (lo hi mx : Option Value) (H : Heap) : Option Value := do
  let lo ← optNat lo
  let hi ← optNat hi
  let mx ← optNat mx
  match ← P.underlying t, x with
  | .string, .string s =>
    if mx.isSome then none else
    let l := lo.getD 0; let h := hi.getD s.size
    if l ≤ h ∧ h ≤ s.size then some (.string (s.extract l h)) else none
  | .slice e, .slice a len cap =>
    let sz ← sizeA P e
    if mx.isSome && hi.isNone then none else
    let m := mx.getD cap; let h := hi.getD len; let l := lo.getD 0
    if l ≤ h ∧ h ≤ m ∧ m ≤ cap then
      match a with
      | none => some (.slice none (h - l) (m - l))
      | some a =>
        if mx.isSome = true ∧ m = l then some (.slice (some freeA) 0 0) else
        if l = 0 then some (.slice (some a) h m) else
        if a.spot.isSome then none else
        match hget H a.block with
        | some b => if b.sz = sz then some (.slice (some ⟨a.block, a.off + l * sz, none⟩) (h - l) (m - l)) else none
        | none => none
    else none
  | _, _ => none

def fieldAtA (P : Program) (s : TypeId) (x : Value) (f : Nat) : Option Value := do
  let .struct fields ← P.underlying s | none
  let fd ← fields[f]?
  let .pointer (some a) := x | none
  if a.spot.isSome ∨ (← sizeA P fd.type) = 0 then none else some (.pointer (some ⟨a.block, a.off + fd.offset, none⟩))

def indexAtA (P : Program) (t : TypeId) (x ix : Value) : Option Value := do
  let .int _ i := ix | none
  match ← P.underlying t, x with
  | .slice e, .slice (some a) len _ =>
    if 0 ≤ i ∧ i < len ∧ a.spot.isSome = false then some (.pointer (some ⟨a.block, a.off + i.toNat * (← sizeA P e), none⟩)) else none
  | _, _ => none

/-- The cells of a slice's or a text's first n. -/
def firstA (H : Heap) (sz n : Nat) : Value → Option (List Value)
  | .slice (some a) _ _ => if n * sz = 0 then some [] else readA H a (n * sz)
  | .slice none _ _ => some []
  | .string s => some ((s.extract 0 n).data.toList.map fun b => .int .u8 b.toNat)
  | _ => none
def lenA : Value → Option Nat
  | .slice _ n _ => some n
  | .string s => some s.size
  | _ => none

def appendA (P : Program) (base : Nat) (argTypes : Array TypeId) (s x : Value) (H : Heap) : Option (Value × Heap) := do
  let st ← argTypes[0]?
  let .slice e ← P.underlying st | none
  let xt ← argTypes[1]?
  if ((P.underlying xt).map fun | .slice _ => true | .string => true | _ => false) ≠ some true then none else
  let sz ← sizeA P e
  let info ← P.info? e
  let z ← info.zero
  if z.cells.size ≠ sz then none else
  let n ← lenA x
  let new ← firstA H sz n x
  let .slice a len cap := s | none
  let need := len + n
  if new.length ≠ n * sz then none
  else if need ≤ cap then
    if n * sz = 0 then some (.slice a need cap, H) else
    match a with
    | some a => do
      if a.spot.isSome then none else
      let H' ← writeA base ⟨a.block, a.off + len * sz, none⟩ new H
      some (.slice (some a) need cap, H')
    | none => none
  else if ¬ (need * info.bytes ≤ 2 ^ 47 ∧ need < 2 ^ 62 ∧ 0 < info.bytes) ∨ new.all Value.oneCell' = false then none
  else match a with
    | none => if len = 0 ∧ cap = 0 then some (.slice (some (atNew H)) need need, newA H new sz) else none
    | some a => do
      if a.spot.isSome then (if len = 0 ∧ cap = 0 then some (.slice (some (atNew H)) need need, newA H new sz) else none) else
      let b ← hget H a.block
      if b.rw = true ∧ base ≤ a.block ∧ b.sz = sz ∧ a.off + len * sz = b.cells.length then
        some (.slice (some (atNew H)) need need, newB (hset H a.block (some { b with rw := false })) ⟨b.cells.drop a.off ++ new, sz, true, len * sz, a.block :: b.par⟩)
      else none

def copyA (P : Program) (base : Nat) (argTypes : Array TypeId) (d s : Value) (H : Heap) : Option (Value × Heap) := do
  let dt ← argTypes[0]?
  let .slice e ← P.underlying dt | none
  let sz ← sizeA P e
  let .slice a dl _ := d | none
  let n := Nat.min (← lenA s) dl
  let new ← firstA H sz n s
  if new = [] then some (.int .i64 n, H) else
  match a with
  | some a => do some (.int .i64 n, ← writeA base a new H)
  | none => none

def clearA (P : Program) (base : Nat) (argTypes : Array TypeId) (d : Value) (H : Heap) : Option (Value × Heap) := do
  let dt ← argTypes[0]?
  let .slice e ← P.underlying dt | none
  let z ← zeroA P e
  let .slice a n _ := d | none
  if z.cells.all scalarV = false then none else
  if n = 0 then some (.tuple #[], H) else
  match a with
  | some a => do some (.tuple #[], ← writeA base a (Builtin.zeroCells z.cells n).toList H)
  | none => none

def u8s : List Value → Option (List Int)
  | [] => some []
  | .int .u8 n :: r => (u8s r).map (n :: ·)
  | _ => none

/-- Equality with nil. -/
def nilEq (P : Program) (t : TypeId) (x y : Value) : Option Bool :=
  match P.underlying t, x, y with
  | some (.pointer _), .pointer none, .pointer b => some b.isNone
  | some (.pointer _), .pointer (some _), .pointer none => some false
  | some (.slice _), .slice none _ _, .slice b _ _ => some b.isNone
  | some (.slice _), .slice (some _) _ _, .slice none _ _ => some false
  | some (.func _ _ _), .nilFunc, .nilFunc => some true
  | some (.func _ _ _), .nilFunc, .func _ _ _ => some false
  | some (.func _ _ _), .func _ _ _, .nilFunc => some false
  | some (.interface _), .nilIface, .iface _ _ => some false
  | some (.interface _), .iface _ _, .nilIface => some false
  | _, _, _ => none

end Go.AM
