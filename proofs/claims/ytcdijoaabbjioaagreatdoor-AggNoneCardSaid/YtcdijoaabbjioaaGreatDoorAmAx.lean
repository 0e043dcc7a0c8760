/- An abstract machine over Go's operations: memory is a list of blocks, an append moves a slice to a new block. Definitions. -/
import Derived.Calls
import Derived.Laws.World
import Derived.Laws.Sem
import Derived.Laws.Cells
import Derived.Laws.BytesArg
import Derived.Laws.Tables
import Derived.Laws.Rows
import Derived.Lib.ConvBytes
import Derived.Laws.AppendOwn
set_option linter.unusedSimpArgs false
set_option linter.unusedVariables false
namespace Go.AM
open Go
structure Blk where
 cells:List Value
 sz:Nat
 rw:Bool
 lo:Nat
 par:List Nat
abbrev Heap:=List (Option Blk)
def hget (H:Heap) (h:Nat):Option Blk:=(H[h]?).join
def hset (H:Heap) (h:Nat) (b:Option Blk):Heap:=H.set h b
abbrev Env:=Nat→Value
def upd (ρ:Env) (t:Nat) (v:Value):Env:=fun i=>if i=t then v else ρ i
def put (ρ:Env) (dst:Option Tmp) (v:Value):Env:=match dst with | some t=>upd ρ t v | none=>ρ
def evalA (ρ:Env):Operand→Value
 | .tmp t=>ρ t
 | .const v=>v
 | .global g=>.map (some g)
 | .func f=>.func (.func f) #[] #[]
def scalarV:Value→Bool
 | .bool _ | .int _ _ | .string _ | .pointer none | .slice none _ _ | .nilFunc | .nilIface=>true
 | _=>false
def closedV:Value→Bool
 | .agg xs=>xs.all scalarV
 | .tuple xs=>xs.all scalarV
 | v=>scalarV v
def okOperand:Operand→Bool
 | .const v=>closedV v
 | _=>true
def yieldedA (ops:Array Oper) (ρ:Env) (j:Nat):Option Bool:=
 match (ops[j]?).bind (·.dst) with
 | some t=>match ρ t with | .bool b=>some b | _=>none
 | none=>none
def pureRun {α:Type} (P:Program):Sem α→Option α
 | .pure a=>some a
 | .program k=>pureRun P (k P)
 | .mark _ k=>pureRun P k
 | _=>none
def sizeA (P:Program) (t:TypeId):Option Nat:=(P.info? t).map (·.size)
def isAggA (P:Program) (t:TypeId):Option Bool:=(P.underlying t).map fun | .struct _ | .array _ _=>true | _=>false
def zeroA (P:Program) (t:TypeId):Option Value:=(P.info? t).bind (·.zero)
def writeL:List Value→Nat→List Value→List Value
 | cs,_,[]=>cs
 | cs,o,v::vs=>writeL (cs.set o v) (o+1) vs
def readA (H:Heap) (a:Addr) (n:Nat):Option (List Value):=
 if a.spot.isSome then none else
 match hget H a.block with
 | some b=>if a.off+n≤b.cells.length then some ((b.cells.drop a.off).take n) else none
 | none=>none
def loadA (P:Program) (t:TypeId) (x:Value) (H:Heap):Option Value:=
 match x with
 | .pointer (some a)=>do
  if ← isAggA P t then do
   let cs ← readA H a (← sizeA P t)
   some (.agg cs.toArray)
  else if a.spot.isSome then none else do
   let b ← hget H a.block
   b.cells[a.off]?
 | _=>none
def killAll (H:Heap) (ps:List Nat):Heap:=ps.foldl (fun H p=>hset H p none) H
def writeA (base:Nat) (a:Addr) (vs:List Value) (H:Heap):Option Heap:=
 if a.spot.isSome then none else
 match hget H a.block with
 | some b=>if b.rw=true∧base≤a.block∧a.off+vs.length≤b.cells.length∧vs.all Value.oneCell'=true
   then (if b.lo≤a.off then some (hset H a.block (some { b with cells:=writeL b.cells a.off vs }))
    else if b.par.all (fun p=>p != a.block)=true then some (hset (killAll H b.par) a.block (some { b with cells:=writeL b.cells a.off vs,lo:=0,par:=[] })) else none) else none
 | none=>none
def storeA (P:Program) (base:Nat) (t:TypeId) (x v:Value) (H:Heap):Option Heap:=
 match x with
 | .pointer (some a)=>do
  if v.cells.size≠(← sizeA P t) then none else writeA base a v.cells.toList H
 | _=>none
def newB (H:Heap) (b:Blk):Heap:=H++[some b]
def newA (H:Heap) (cells:List Value) (sz:Nat):Heap:=newB H ⟨cells,sz,true,0,[]⟩
def atNew (H:Heap):Addr:=⟨H.length,0,none⟩
def freeA:Addr:=⟨0,0,some 0⟩
def natA:Value→Option Nat
 | .int _ i=>if 0≤i then some i.toNat else none
 | _=>none
def optNat:Option Value→Option (Option Nat)
 | none=>some none
 | some v=>(natA v).map some
def sliceA (P:Program) (t:TypeId) (x:Value) (lo hi mx:Option Value) (H:Heap):Option Value:=do
 let lo ← optNat lo
 let hi ← optNat hi
 let mx ← optNat mx
 match ← P.underlying t,x with
 | .string,.string s=>
  if mx.isSome then none else
  let l:=lo.getD 0;let h:=hi.getD s.size
  if l≤h∧h≤s.size then some (.string (s.extract l h)) else none
 | .slice e,.slice a len cap=>
  let sz ← sizeA P e
  if mx.isSome&&hi.isNone then none else
  let m:=mx.getD cap;let h:=hi.getD len;let l:=lo.getD 0
  if l≤h∧h≤m∧m≤cap then
   match a with
   | none=>some (.slice none (h - l) (m - l))
   | some a=>
    if mx.isSome=true∧m=l then some (.slice (some freeA) 0 0) else
    if l=0 then some (.slice (some a) h m) else
    if a.spot.isSome then none else
    match hget H a.block with
    | some b=>if b.sz=sz then some (.slice (some ⟨a.block,a.off+l*sz,none⟩) (h - l) (m - l)) else none
    | none=>none
  else none
 | _,_=>none
def fieldAtA (P:Program) (s:TypeId) (x:Value) (f:Nat):Option Value:=do
 let .struct fields ← P.underlying s | none
 let fd ← fields[f]?
 let .pointer (some a):=x | none
 if a.spot.isSome∨(← sizeA P fd.type)=0 then none else some (.pointer (some ⟨a.block,a.off+fd.offset,none⟩))
def fieldVA (P:Program) (s:TypeId) (x:Value) (f:Nat):Option Value:=
 match P.underlying s,x with
 | some (.struct fields),.agg cs=>
  match fields[f]? with
  | some fd=>
   match isAggA P fd.type,sizeA P fd.type with
   | some true,some n=>if fd.offset+n≤cs.size then some (.agg (cs.extract fd.offset (fd.offset+n))) else none
   | some false,some _=>cs[fd.offset]?
   | _,_=>none
  | none=>none
 | _,_=>none
def indexAtA (P:Program) (t:TypeId) (x ix:Value):Option Value:=do
 let .int _ i:=ix | none
 match ← P.underlying t,x with
 | .slice e,.slice (some a) len _=>
  if 0≤i∧i<len∧a.spot.isSome=false then some (.pointer (some ⟨a.block,a.off+i.toNat*(← sizeA P e),none⟩)) else none
 | _,_=>none
def firstA (H:Heap) (sz n:Nat):Value→Option (List Value)
 | .slice (some a) _ _=>if n*sz=0 then some [] else readA H a (n*sz)
 | .slice none _ _=>some []
 | .string s=>some ((s.extract 0 n).data.toList.map fun b=>.int .u8 b.toNat)
 | _=>none
def lenA:Value→Option Nat
 | .slice _ n _=>some n
 | .string s=>some s.size
 | _=>none
def appendA (P:Program) (base:Nat) (argTypes:Array TypeId) (s x:Value) (H:Heap):Option (Value×Heap):=do
 let st ← argTypes[0]?
 let .slice e ← P.underlying st | none
 let xt ← argTypes[1]?
 if ((P.underlying xt).map fun | .slice _=>true | .string=>true | _=>false)≠some true then none else
 let sz ← sizeA P e
 let info ← P.info? e
 let z ← info.zero
 if z.cells.size≠sz then none else
 let n ← lenA x
 let new ← firstA H sz n x
 let .slice a len cap:=s | none
 let need:=len+n
 if new.length≠n*sz then none
 else if need≤cap then
  if n*sz=0 then some (.slice a need cap,H) else
  match a with
  | some a=>do
   if a.spot.isSome then none else
   let H' ← writeA base ⟨a.block,a.off+len*sz,none⟩ new H
   some (.slice (some a) need cap,H')
  | none=>none
 else if ¬ (need*info.bytes≤2 ^ 47∧need<2 ^ 62∧0<info.bytes)∨new.all Value.oneCell'=false then none
 else match a with
  | none=>if len=0∧cap=0 then some (.slice (some (atNew H)) need need,newA H new sz) else none
  | some a=>do
   if a.spot.isSome then (if len=0∧cap=0 then some (.slice (some (atNew H)) need need,newA H new sz) else none) else
   let b ← hget H a.block
   if b.rw=true∧base≤a.block∧b.sz=sz∧a.off+len*sz=b.cells.length then
    some (.slice (some (atNew H)) need need,newB (hset H a.block (some { b with rw:=false })) ⟨b.cells.drop a.off++new,sz,true,len*sz,a.block::b.par⟩)
   else none
def copyA (P:Program) (base:Nat) (argTypes:Array TypeId) (d s:Value) (H:Heap):Option (Value×Heap):=do
 let dt ← argTypes[0]?
 let .slice e ← P.underlying dt | none
 let sz ← sizeA P e
 let .slice a dl _:=d | none
 let n:=Nat.min (← lenA s) dl
 let new ← firstA H sz n s
 if new=[] then some (.int .i64 n,H) else
 match a with
 | some a=>do some (.int .i64 n,← writeA base a new H)
 | none=>none
def clearA (P:Program) (base:Nat) (argTypes:Array TypeId) (d:Value) (H:Heap):Option (Value×Heap):=do
 let dt ← argTypes[0]?
 let .slice e ← P.underlying dt | none
 let z ← zeroA P e
 let .slice a n _:=d | none
 if z.cells.all scalarV=false then none else
 if n=0 then some (.tuple #[],H) else
 match a with
 | some a=>do some (.tuple #[],← writeA base a (Builtin.zeroCells z.cells n).toList H)
 | none=>none
def u8s:List Value→Option (List Int)
 | []=>some []
 | .int .u8 n::r=>(u8s r).map (n :: ·)
 | _=>none
def nilEq (P:Program) (t:TypeId) (x y:Value):Option Bool:=
 match P.underlying t,x,y with
 | some (.pointer _),.pointer none,.pointer b=>some b.isNone
 | some (.pointer _),.pointer (some _),.pointer none=>some false
 | some (.slice _),.slice none _ _,.slice b _ _=>some b.isNone
 | some (.slice _),.slice (some _) _ _,.slice none _ _=>some false
 | some (.func _ _ _),.nilFunc,.nilFunc=>some true
 | some (.func _ _ _),.nilFunc,.func _ _ _=>some false
 | some (.func _ _ _),.func _ _ _,.nilFunc=>some false
 | some (.interface _),.nilIface,.iface _ _=>some false
 | some (.interface _),.iface _ _,.nilIface=>some false
 | _,_,_=>none
end Go.AM
namespace Go.AM
open Go
def intBin (op:BinOp) (k:IntKind) (a b:Int):Option Value:=
 match op with
 | .add=>some (.int k (k.wrap (a+b)))
 | .sub=>some (.int k (k.wrap (a - b)))
 | .mul=>some (.int k (k.wrap (a*b)))
 | .quo=>if b=0 then none else some (.int k (k.wrap (a.tdiv b)))
 | .rem=>if b=0 then none else some (.int k (a.tmod b))
 | .eql=>some (.bool (a==b))
 | .neq=>some (.bool (a != b))
 | .lss=>some (.bool (decide (a<b)))
 | .leq=>some (.bool (decide (a≤b)))
 | .gtr=>some (.bool (decide (a>b)))
 | .geq=>some (.bool (decide (a≥b)))
 | _=>none
def strBin (op:BinOp) (x y:ByteArray):Option Value:=
 match op with
 | .add=>if ((x.size+y.size:Nat):Int)>IntKind.i64.max then none else some (.string (x++y))
 | .eql=>some (.bool (x.toList==y.toList))
 | .neq=>some (.bool !(x.toList==y.toList))
 | .lss=>some (.bool (Op.bytesLess x.toList y.toList))
 | .leq=>some (.bool (Op.bytesLess x.toList y.toList || x.toList==y.toList))
 | .gtr=>some (.bool !(Op.bytesLess x.toList y.toList || x.toList==y.toList))
 | .geq=>some (.bool !(Op.bytesLess x.toList y.toList))
 | _=>none
def binA (P:Program) (op:BinOp) (t:TypeId) (x y:Value):Option Value:=
 match x,y with
 | .int k a,.int k' b=>
  match op with
  | .shl=>if b<0 then none else some (.int k (k.wrap (a*2 ^ (min b.toNat k.bits))))
  | .shr=>if b<0 then none else some (.int k (a.fdiv (2 ^ (min b.toNat k.bits))))
  | .and | .or | .xor | .andNot=>if k=k' then pureRun P (Op.intBits op k a b) else none
  | op=>if k=k' then intBin op k a b else none
 | .string a,.string b=>strBin op a b
 | .bool a,.bool b=>
  match op with
  | .eql=>if (P.underlying t).map (fun | .bool=>true | _=>false)=some true then some (.bool (a==b)) else none
  | .neq=>if (P.underlying t).map (fun | .bool=>true | _=>false)=some true then some (.bool !(a==b)) else none
  | _=>none
 | x,y=>none
def eqA (P:Program) (op:BinOp) (t:TypeId) (x y:Operand) (a b:Value):Option Value:=
 match op with
 | .eql=>if closedV a&&closedV b then pureRun P (do eqGuard .eql t x y a b;binOp .eql t a b) else none
 | .neq=>if closedV a&&closedV b then pureRun P (do eqGuard .neq t x y a b;binOp .neq t a b) else none
 | _=>none
def convA (P:Program) (src dst:TypeId) (x:Value) (H:Heap):Option (Value×Heap):=do
 let s ← P.underlying src
 let d ← P.underlying dst
 match s,d,x with
 | .int _,.int k,.int _ n=>some (.int k (k.wrap n),H)
 | .string,.string,.string a=>some (.string a,H)
 | .string,.slice e,.string a=>
  match ← P.underlying e with
  | .int .u8=>some (.slice (some (atNew H)) a.size a.size,newA H (a.data.toList.map fun b=>.int .u8 b.toNat) 1)
  | _=>none
 | .slice e,.string,.slice b n _=>
  match ← P.underlying e with
  | .int .u8=>
   match b with
   | none=>some (.string .empty,H)
   | some a=>if n=0 then some (.string .empty,H) else do
    let cs ← readA H a n
    some (.string (strOfNums (← u8s cs)),H)
  | _=>none
 | _,_,_=>none
def buildA (P:Program) (t:TypeId) (parts:List (Nat×Value)):Option Value:=
 match zeroA P t with
 | some z=>if z.cells.all scalarV=false then none else (P.built t parts).map .agg
 | none=>none
def buildSliceA (P:Program) (t:TypeId) (len:Nat) (parts:List (Nat×Value)) (H:Heap):Option (Value×Heap):=do
 let .slice e ← P.underlying t | none
 let size ← sizeA P e
 let z ← zeroA P e
 if len*size>2 ^ 24∨z.cells.all scalarV=false∨z.cells.size≠size then none else
 let cells ← Instr.fill (fun i=>some (i*size,size)) ((Array.range (len*size)).map (z.cells[· % z.cells.size]!)) parts
 some (.slice (some (atNew H)) len len,newA H cells.toList size)
def makeSliceA (P:Program) (t:TypeId) (l c:Value) (H:Heap):Option (Value×Heap):=do
 let .slice e ← P.underlying t | none
 let info ← P.info? e
 let z ← info.zero
 let .int .i64 l:=l | none
 let .int .i64 c:=c | none
 if 0≤l∧l≤c∧info.bytes*c≤2 ^ 48∧c<2 ^ 62∧z.cells.all scalarV=true∧z.cells.size=info.size then
  some (.slice (some (atNew H)) l.toNat l.toNat,newA H ((Array.range (l.toNat*info.size)).map (z.cells[· % z.cells.size]!)).toList info.size)
 else none
def builtinA (P:Program) (base:Nat) (b:Builtin) (at_:Array TypeId) (args:List Value) (H:Heap):Option (Value×Heap):=
 match b,args with
 | .len,[x]=>
  match (at_[0]?).bind P.underlying,x with
  | some .string,.string s=>some (.int .i64 s.size,H)
  | some (.slice _),.slice _ n _=>some (.int .i64 n,H)
  | _,_=>none
 | .append,[s,x]=>appendA P base at_ s x H
 | .copy,[d,s]=>copyA P base at_ d s H
 | .clear,[d]=>clearA P base at_ d H
 | .max,[.int k a,.int k' b]=>some (.int k (if b>a then b else a),H)
 | .min,[.int k a,.int k' b]=>some (.int k (if b<a then b else a),H)
 | _,_=>none
def assertA (P:Program) (as:TypeId) (v:Value):Option Value:=
 match P.underlying as with
 | some (.interface _)=>none
 | some _=>
  match v with
  | .iface t u=>if t=as then some (.tuple #[u,.bool true]) else match zeroA P as with | some z=>(match closedV z with | true=>some (.tuple #[z,.bool false]) | false=>none) | none=>none
  | _=>none
 | none=>none
def opA (P:Program) (base:Nat) (ρ:Env) (op:Op) (H:Heap):Option (Value×Heap):=
 match op with
 | .move x | .assign x=>some (evalA ρ x,H)
 | .pick c a b=>match evalA ρ c with | .bool t=>some (if t then evalA ρ a else evalA ρ b,H) | _=>none
 | .alloc t=>do
  let z ← zeroA P t
  if z.cells.all scalarV then some (.pointer (some (atNew H)),newA H z.cells.toList 1) else none
 | .box _ x=>some (.pointer (some (atNew H)),newA H (evalA ρ x).cells.toList 1)
 | .build t parts=>(buildA P t (parts.toList.map fun (i,x)=>(i,evalA ρ x))).map (·,H)
 | .buildSlice t n parts=>buildSliceA P t n (parts.toList.map fun (i,x)=>(i,evalA ρ x)) H
 | .load t a=>(loadA P t (evalA ρ a) H).map (·,H)
 | .store t a x=>(storeA P base t (evalA ρ a) (evalA ρ x) H).map (undef,·)
 | .nilCheck x=>match evalA ρ x with | .pointer (some a)=>some (.pointer (some a),H) | .func (.func f) a b=>some (.func (.func f) a b,H) | _=>none
 | .binOp op t x y _=>
  match binA P op t (evalA ρ x) (evalA ρ y) with
  | some v=>some (v,H)
  | none=>
   match op,nilEq P t (evalA ρ x) (evalA ρ y) with
   | .eql,some b=>some (.bool b,H)
   | .neq,some b=>some (.bool !b,H)
   | _,_=>(eqA P op t x y (evalA ρ x) (evalA ρ y)).bind fun v=>if closedV v then some (v,H) else none
 | .unOp op _ x=>
  match op,evalA ρ x with
  | .not,.bool b=>some (.bool !b,H)
  | .neg,.int k n=>some (.int k (k.wrap (0 - n)),H)
  | .xor,.int k n=>(pureRun P (Op.intBits .xor k (if k.signed then -1 else k.max) n)).bind fun v=>if closedV v then some (v,H) else none
  | _,_=>none
 | .convert s d x=>convA P s d (evalA ρ x) H
 | .typeAssert x _ as co=>match co with | true=>(assertA P as (evalA ρ x)).map (·,H) | false=>none
 | .makeInterface t x=>match P.underlying t with | some (.interface _)=>none | some _=>some (.iface t (evalA ρ x),H) | none=>none
 | .makeFunc fn a b=>some (.func fn (a.map (evalA ρ)) (b.map (evalA ρ)),H)
 | .makeSlice t l c=>makeSliceA P t (evalA ρ l) (evalA ρ c) H
 | .slice t x lo hi mx=>(sliceA P t (evalA ρ x) (lo.map (evalA ρ)) (hi.map (evalA ρ)) (mx.map (evalA ρ)) H).map (·,H)
 | .fieldAddr s x f=>(fieldAtA P s (evalA ρ x) f).map (·,H)
 | .field s x f=>(fieldVA P s (evalA ρ x) f).map (·,H)
 | .indexAddr t x i=>(indexAtA P t (evalA ρ x) (evalA ρ i)).map (·,H)
 | .index t x i=>
  match P.underlying t,evalA ρ x,evalA ρ i with
  | some .string,.string s,.int _ i=>if 0≤i then (s.data[i.toNat]?).map fun b=>(.int .u8 b.toNat,H) else none
  | _,_,_=>none
 | .extract x i=>match evalA ρ x with | .tuple vs=>(vs[i]?).map (·,H) | _=>none
 | .call { callee:=.builtin b,args,argTypes } => builtinA P base b argTypes (args.toList.map (evalA ρ)) H
 | _=>none
def resultA (P:Program) (ρ:Env) (H:Heap):ResultVar→Option Value
 | .tmp t=>some (ρ t)
 | .cell a t=>loadA P t (ρ a) H
def resultsA (P:Program) (fn:Func) (ρ:Env) (H:Heap):Option Value:=
 match fn.results.toList with
 | [r]=>resultA P ρ H r
 | rs=>(rs.mapM (resultA P ρ H)).map fun vs=>.tuple vs.toArray
inductive AExit where
 | normal
 | exit (id:Nat)
 | ret
inductive Job where
 | ops (sz:Nat) (ops:Array Oper) (l:List Nat) (ρ:Env)
 | code (sz:Nat) (c:Code) (ρ:Env)
 | call (f:FuncId) (args:List Value)
inductive Out where
 | env (ρ:Env)
 | exit (e:AExit) (ρ:Env)
 | val (v:Value)
def okDst (sz:Nat):Option Tmp→Prop
 | some t=>t<sz
 | none=>True
instance {sz:Nat} {d:Option Tmp} : Decidable (okDst sz d):=by cases d<;>unfold okDst<;>infer_instance
def initEnv (args:List Value):Env:=fun i=>args.getD i undef
def targetA (ρ:Env) (op:Op):Option (FuncId×List Value):=
 match op with
 | .call { callee:=.value f,args,.. } =>
  match evalA ρ f with
  | .func (.func g) first captured=>some (g,first.toList++args.toList.map (evalA ρ)++captured.toList)
  | _=>none
 | _=>none
inductive VLow (n:Nat):Value→Prop
 | scalar {v} (h:scalarV v=true):VLow n v
 | ptr (h o) (hn:h<n):VLow n (.pointer (some ⟨h,o,none⟩))
 | sl (h o l m) (hn:h<n):VLow n (.slice (some ⟨h,o,none⟩) l m)
 | func (fn:Fn) (xs cs:Array Value) (h1 : ∀ i (h:i<xs.size),VLow n xs[i]) (h2 : ∀ i (h:i<cs.size),VLow n cs[i]):VLow n (.func fn xs cs)
 | iface (t v) (h:VLow n v):VLow n (.iface t v)
 | agg (xs:Array Value) (h : ∀ i (h:i<xs.size),VLow n xs[i]):VLow n (.agg xs)
 | tuple (xs:Array Value) (h : ∀ i (h:i<xs.size),VLow n xs[i]):VLow n (.tuple xs)
 | free:VLow n (.slice (some freeA) 0 0)
 | glob (g):VLow n (.map (some g))
inductive Big (P:Program) (orc:Nat→FuncId→List Value→Heap→Value→Heap→Prop):Nat→Job→Heap→Out→Heap→Prop
 | opsNil {base sz ops ρ H} : Big P orc base (.ops sz ops [] ρ) H (.env ρ) H
 | opsSkip {base sz ops i l ρ H out H' o} (ho:ops[i]?=some o) (hw:Region.wanted o (yieldedA ops ρ)=false) (hd:okDst sz o.dst)
   (h:Big P orc base (.ops sz ops l (put ρ o.dst undef)) H out H'):Big P orc base (.ops sz ops (i::l) ρ) H out H'
 | opsOp {base sz ops i l ρ H H1 v out H' o} (ho:ops[i]?=some o) (hw:Region.wanted o (yieldedA ops ρ)=true) (hd:okDst sz o.dst)
   (hc:o.op.operands.toList.all okOperand=true) (hop:opA P base ρ o.op H=some (v,H1))
   (h:Big P orc base (.ops sz ops l (put ρ o.dst v)) H1 out H'):Big P orc base (.ops sz ops (i::l) ρ) H out H'
 | opsCall {base sz ops i l ρ H H1 v out H' o f args fn} (ho:ops[i]?=some o) (hw:Region.wanted o (yieldedA ops ρ)=true) (hd:okDst sz o.dst)
   (hc : o.op.operands.toList.all okOperand = true) (ht : targetA ρ o.op = some (f, args)) (hf : P.funcs[f]? = some fn) (hn : fn.name ≠ "runtime.NumGoroutine") (hb : fn.body.isNone = false)
   (hcall:Big P orc base (.call f args) H (.val v) H1)
   (h:Big P orc base (.ops sz ops l (put ρ o.dst v)) H1 out H'):Big P orc base (.ops sz ops (i::l) ρ) H out H'
 | skip {base sz ρ H} : Big P orc base (.code sz .skip ρ) H (.exit .normal ρ) H
 | label {base sz ρ H l} : Big P orc base (.code sz (.label l) ρ) H (.exit .normal ρ) H
 | exit {base sz ρ H id} : Big P orc base (.code sz (.exit id) ρ) H (.exit (.exit id) ρ) H
 | ret {base sz ρ H} : Big P orc base (.code sz .ret ρ) H (.exit .ret ρ) H
 | seqN {base sz c d ρ ρ1 H H1 out H'} (h1:Big P orc base (.code sz c ρ) H (.exit .normal ρ1) H1) (h2:Big P orc base (.code sz d ρ1) H1 out H') :
   Big P orc base (.code sz (.seq c d) ρ) H out H'
 | seqE {base sz c d ρ ρ1 H H1 e} (h1:Big P orc base (.code sz c ρ) H (.exit e ρ1) H1) (he:e ≠ .normal):Big P orc base (.code sz (.seq c d) ρ) H (.exit e ρ1) H1
 | cond {base sz c x y ρ H out H' t} (hk:okOperand c=true) (hc:evalA ρ c = .bool t) (h:Big P orc base (.code sz (if t then x else y) ρ) H out H') :
   Big P orc base (.code sz (.cond c x y) ρ) H out H'
 | blockN {base sz id c ρ ρ1 H H1} (h:Big P orc base (.code sz c ρ) H (.exit .normal ρ1) H1):Big P orc base (.code sz (.block id c) ρ) H (.exit .normal ρ1) H1
 | blockX {base sz id c ρ ρ1 H H1} (h:Big P orc base (.code sz c ρ) H (.exit (.exit id) ρ1) H1):Big P orc base (.code sz (.block id c) ρ) H (.exit .normal ρ1) H1
 | blockE {base sz id c ρ ρ1 H H1 e} (h:Big P orc base (.code sz c ρ) H (.exit e ρ1) H1) (h1:e ≠ .normal) (h2:e ≠ .exit id):Big P orc base (.code sz (.block id c) ρ) H (.exit e ρ1) H1
 | loopN {base sz c ρ ρ1 H H1 out H'} (h1:Big P orc base (.code sz c ρ) H (.exit .normal ρ1) H1) (h2:Big P orc base (.code sz (.loop c) ρ1) H1 out H') :
   Big P orc base (.code sz (.loop c) ρ) H out H'
 | loopE {base sz c ρ ρ1 H H1 e} (h1:Big P orc base (.code sz c ρ) H (.exit e ρ1) H1) (he:e ≠ .normal):Big P orc base (.code sz (.loop c) ρ) H (.exit e ρ1) H1
 | region {base sz id ops ρ ρ1 H H1} (h:Big P orc base (.ops sz ops (List.range ops.size) ρ) H (.env ρ1) H1) :
   Big P orc base (.code sz (.region id ops false) ρ) H (.exit .normal ρ1) H1
 | regionD {base sz id ops ρ ρ1 H H1} (hm:P.follows .mixedOrders=true) (h : ∀ t,Big P orc base (.ops sz ops (Region.linearise .any ops t) ρ) H (.env ρ1) H1) :
   Big P orc base (.code sz (.region id ops true) ρ) H (.exit .normal ρ1) H1
 | call {base f args fn c e ρ H H' v} (hf:P.funcs[f]?=some fn) (hb:fn.body=some c) (ha:args.length≤fn.ntmps)
   (h:Big P orc base (.code fn.ntmps c (initEnv args)) H (.exit e ρ) H') (he:e = .normal∨e = .ret) (hv:resultsA P fn ρ H'=some v) :
   Big P orc base (.call f args) H (.val v) H'
 | orc {base f args H v H'} (h:orc base f args H v H'):Big P orc base (.call f args) H (.val v) H'
 | pure {base base' f args H H1 v} (h:Big P orc base' (.call f args) [] (.val v) H1) (ha:args.all closedV=true) (hv:closedV v=true):Big P orc base (.call f args) H (.val v) H
 | drop {base f args H H1 v} (h:Big P orc base (.call f args) H (.val v) H1) (hk : ∀ i b,hget H i=some b→hget H1 i=some b) (hv:VLow H.length v):Big P orc base (.call f args) H (.val v) H
end Go.AM
namespace Go.AM
open Go
structure Place where
 B:Nat
 base:Nat
 fin:Nat
 sz:Nat
inductive VRel (n:Nat) (φ:Nat→Place):Value→Value→Prop
 | bool (b):VRel n φ (.bool b) (.bool b)
 | int (k x):VRel n φ (.int k x) (.int k x)
 | string (s):VRel n φ (.string s) (.string s)
 | ptrNil:VRel n φ (.pointer none) (.pointer none)
 | ptr (h o) (hn:h<n):VRel n φ (.pointer (some ⟨h,o,none⟩)) (.pointer (some ⟨(φ h).B,(φ h).base+o,none⟩))
 | slNil (l c):VRel n φ (.slice none l c) (.slice none l c)
 | sl (h o l m c) (hn:h<n) (hl:l≤m) (hm:m≤c) (hf:(φ h).base+o+c*(φ h).sz≤(φ h).fin) :
   VRel n φ (.slice (some ⟨h,o,none⟩) l m) (.slice (some ⟨(φ h).B,(φ h).base+o,none⟩) l c)
 | slEmp (h o b) (hn:h<n):VRel n φ (.slice (some ⟨h,o,none⟩) 0 0) (.slice (some b) 0 0)
 | slFree (b):VRel n φ (.slice (some freeA) 0 0) (.slice (some b) 0 0)
 | func (fn:Fn) (xs ys cs ds:Array Value) (h1:xs.size=ys.size) (h2 : ∀ i (h:i<xs.size) (h':i<ys.size),VRel n φ xs[i] ys[i])
   (h3:cs.size=ds.size) (h4 : ∀ i (h:i<cs.size) (h':i<ds.size),VRel n φ cs[i] ds[i]):VRel n φ (.func fn xs cs) (.func fn ys ds)
 | nilFunc:VRel n φ .nilFunc .nilFunc
 | nilIface:VRel n φ .nilIface .nilIface
 | iface (t v v') (h:VRel n φ v v'):VRel n φ (.iface t v) (.iface t v')
 | agg (xs ys:Array Value) (h1:xs.size=ys.size) (h2 : ∀ i (h:i<xs.size) (h':i<ys.size),VRel n φ xs[i] ys[i]):VRel n φ (.agg xs) (.agg ys)
 | tuple (xs ys:Array Value) (h1:xs.size=ys.size) (h2 : ∀ i (h:i<xs.size) (h':i<ys.size),VRel n φ xs[i] ys[i]):VRel n φ (.tuple xs) (.tuple ys)
 | glob (g):VRel n φ (.map (some g)) (.pointer (some ⟨g,0,none⟩))
theorem VRel.mono {n n':Nat} {φ φ':Nat→Place} {v v':Value} (h:VRel n φ v v') (hn:n≤n') (hk : ∀ i,i<n→φ' i=φ i):VRel n' φ' v v':=by
 induction h with
 | bool b=>exact .bool b
 | int k x=>exact .int k x
 | string s=>exact .string s
 | ptrNil=>exact .ptrNil
 | ptr h o hh=>rw [← hk h hh];exact .ptr h o (Nat.lt_of_lt_of_le hh hn)
 | slNil l c=>exact .slNil l c
 | sl h o l m c hh hl hm hf=>rw [← hk h hh] at hf ⊢;exact .sl h o l m c (Nat.lt_of_lt_of_le hh hn) hl hm hf
 | slEmp h o b hh=>exact .slEmp h o b (Nat.lt_of_lt_of_le hh hn)
 | slFree b=>exact .slFree b
 | func fn xs ys cs ds h1 _ h3 _ i2 i4=>exact .func fn xs ys cs ds h1 i2 h3 i4
 | nilFunc=>exact .nilFunc
 | nilIface=>exact .nilIface
 | iface t v v' _ ih=>exact .iface t v v' ih
 | agg xs ys h1 _ i2=>exact .agg xs ys h1 i2
 | tuple xs ys h1 _ i2=>exact .tuple xs ys h1 i2
 | glob g=>exact .glob g
theorem VRel.scalar {n:Nat} {φ:Nat→Place} {v:Value} (h:scalarV v=true):VRel n φ v v:=by
 cases v with
 | bool b=>exact .bool b
 | int k x=>exact .int k x
 | string s=>exact .string s
 | pointer a=>cases a with | none=>exact .ptrNil | some a=>simp [scalarV] at h
 | slice a l c=>cases a with | none=>exact .slNil l c | some a=>simp [scalarV] at h
 | nilFunc=>exact .nilFunc
 | nilIface=>exact .nilIface
 | _=>simp [scalarV] at h
theorem VRel.closed {n:Nat} {φ:Nat→Place} {v:Value} (h:closedV v=true):VRel n φ v v:=by
 cases v with
 | agg xs=>
  simp only [closedV,Array.all_eq_true] at h
  exact .agg xs xs rfl fun i hi _=>.scalar (h i hi)
 | tuple xs=>
  simp only [closedV,Array.all_eq_true] at h
  exact .tuple xs xs rfl fun i hi _=>.scalar (h i hi)
 | _=>exact .scalar (by simpa [closedV] using h)
theorem VRel.undef {n:Nat} {φ:Nat→Place} : VRel n φ undef undef:=.tuple _ _ rfl (fun i h=>by simp at h)
theorem VRel.scalar_eq {n:Nat} {φ:Nat→Place} {v v':Value} (h:VRel n φ v v') (hs:scalarV v=true):v'=v:=by
 cases h<;>first | rfl | (simp [scalarV] at hs)
theorem VRel.closed_eq {n:Nat} {φ:Nat→Place} {v v':Value} (h:VRel n φ v v') (hs:closedV v=true):v'=v:=by
 cases h with
 | agg xs ys h1 h2=>
  simp only [closedV,Array.all_eq_true] at hs
  congr 1
  exact Array.ext h1.symm fun i hi hi'=>(h2 i hi' hi).scalar_eq (hs i hi')
 | tuple xs ys h1 h2=>
  simp only [closedV,Array.all_eq_true] at hs
  congr 1
  exact Array.ext h1.symm fun i hi hi'=>(h2 i hi' hi).scalar_eq (hs i hi')
 | _=>first | rfl | (simp [closedV,scalarV] at hs)
theorem VRel.oneCell {n:Nat} {φ:Nat→Place} {v v':Value} (h:VRel n φ v v'):v'.oneCell'=v.oneCell':=by
 cases h<;>rfl
def LRel (n:Nat) (φ:Nat→Place) (vs vs':List Value):Prop:=vs.length=vs'.length ∧ ∀ (i:Nat) (v v':Value),vs[i]?=some v→vs'[i]?=some v'→VRel n φ v v'
theorem LRel.nil {n φ} : LRel n φ [] []:=⟨rfl,fun i v v' h=>by simp at h⟩
theorem LRel.cons {n φ v v' vs vs'} (h:VRel n φ v v') (hs:LRel n φ vs vs'):LRel n φ (v::vs) (v'::vs'):=by
 refine ⟨by simp [hs.1],fun i u u' hu hu' => ?_⟩
 cases i with
 | zero=>simp at hu hu';subst hu hu';exact h
 | succ i=>simp at hu hu';exact hs.2 i u u' hu hu'
theorem LRel.head {n φ v v' vs vs'} (h:LRel n φ (v::vs) (v'::vs')):VRel n φ v v':=h.2 0 v v' rfl rfl
theorem LRel.tail {n φ v v' vs vs'} (h:LRel n φ (v::vs) (v'::vs')):LRel n φ vs vs' :=
 ⟨by simpa using h.1,fun i u u' hu hu'=>h.2 (i+1) u u' (by simpa using hu) (by simpa using hu')⟩
theorem LRel.mono {n n':Nat} {φ φ':Nat→Place} {v v':List Value} (h:LRel n φ v v') (hn:n≤n') (hk : ∀ i,i<n→φ' i=φ i):LRel n' φ' v v' :=
 ⟨h.1,fun i u u' hu hu'=>(h.2 i u u' hu hu').mono hn hk⟩
theorem LRel.append {n φ a a' b b'} (h:LRel n φ a a') (k:LRel n φ b b'):LRel n φ (a++b) (a'++b'):=by
 induction a generalizing a' with
 | nil=>cases a' with | nil=>exact k | cons _ _=>simp [LRel] at h
 | cons x xs ih=>
  cases a' with
  | nil=>simp [LRel] at h
  | cons y ys=>exact .cons h.head (ih h.tail)
theorem LRel.of_scalar {n φ} {l:List Value} (h : ∀ v∈l,scalarV v=true):LRel n φ l l:=
 ⟨rfl,fun i v v' hv hv'=>by rw [hv] at hv';cases hv';exact .scalar (h v (List.mem_of_getElem? hv))⟩
theorem VRel.cells {n φ v v'} (h:VRel n φ v v'):LRel n φ v.cells.toList v'.cells.toList:=by
 cases h with
 | agg xs ys h1 h2=>
  refine ⟨by simpa [Value.cells] using h1,fun i u u' hu hu' => ?_⟩
  simp only [Value.cells,Array.getElem?_toList] at hu hu'
  obtain ⟨hi,rfl⟩:=Array.getElem?_eq_some_iff.1 hu
  obtain ⟨hi',rfl⟩:=Array.getElem?_eq_some_iff.1 hu'
  exact h2 i hi hi'
 | _=>exact .cons (by constructor<;>assumption) .nil
theorem VRel.agg_of {n φ l l'} (h:LRel n φ l l'):VRel n φ (.agg l.toArray) (.agg l'.toArray):=
 .agg _ _ (by simpa using h.1) fun i hi hi'=>h.2 i _ _ (by simp at hi;simp [hi]) (by simp at hi';simp [hi'])
theorem VRel.tuple_of {n φ l l'} (h:LRel n φ l l'):VRel n φ (.tuple l.toArray) (.tuple l'.toArray):=
 .tuple _ _ (by simpa using h.1) fun i hi hi'=>h.2 i _ _ (by simp at hi;simp [hi]) (by simp at hi';simp [hi'])
def Cov (n:Nat) (φ:Nat→Place) (w:World) (p:Place) (b:Blk):Prop:=
 ∃ c e fr,w.heap[p.B]?=some (.cells c e fr)∧p.base+b.cells.length≤p.fin∧p.fin≤c.size∧p.sz=b.sz ∧
  (∀ (i:Nat) (v:Value),b.cells[i]?=some v → ∃ v':Value,c[p.base+i]?=some v'∧VRel n φ v v') ∧
  (b.rw=true→(∀ i,p.base≤i→(i<p.fin∨p.sz≠1) → ¬(fr.1≤i∧i<fr.2))∧(p.sz≠1→p.fin≤p.base+9223372036854775807*p.sz))∧b.lo≤b.cells.length
def rEnd (p:Place) (b:Blk):Nat:=if b.rw then p.fin else p.base+b.cells.length
def wBeg (p:Place) (b:Blk) (h':Nat):Nat:=if h'∈b.par then p.base+b.lo else p.base
structure Sim (φ:Nat→Place) (H:Heap) (w:World):Prop where
 cov : ∀ h b,hget H h=some b→Cov H.length φ w (φ h) b
 apart : ∀ h h' b b',h≠h'→hget H h=some b→hget H h'=some b'→b.rw=true →
  (φ h).B≠(φ h').B∨(φ h).fin≤(φ h').base∨rEnd (φ h') b'≤wBeg (φ h) b h'
 par : ∀ h b p b',hget H h=some b→p∈b.par→hget H p=some b'→b'.rw=false
 parlt : ∀ h b p,hget H h=some b→p∈b.par→p<H.length
structure Step (base:Nat) (φ:Nat→Place) (H:Heap) (w:World) (φ':Nat→Place) (H':Heap) (w':World):Prop where
 len:H.length≤H'.length
 keep : ∀ h,h<H.length→φ' h=φ h
 size:w.heap.size≤w'.heap.size
 os:w'.os=w.os
 tape:w'.tape=w.tape
 output:w'.output=w.output
 frame : ∀ b,b<w.heap.size→(∀ h blk,base≤h→hget H h=some blk→blk.rw=true→(φ h).B≠b)→w'.heap[b]?=w.heap[b]?
 old : ∀ h b',h<H.length→hget H' h=some b' → ∃ b,hget H h=some b∧(b'.rw=true→b.rw=true)
 later : ∀ h' b',base≤h'→hget H' h'=some b'→b'.rw=true→w.heap.size≤(φ' h').B ∨ ∃ h b,base≤h∧hget H h=some b∧b.rw=true∧(φ h).B=(φ' h').B
 fresh : ∀ h' b',H.length≤h'→hget H' h'=some b'→w.heap.size≤(φ' h').B ∨ ∃ h b,hget H h=some b∧(φ h).B=(φ' h').B
 sim:Sim φ' H' w'
theorem hget_lt {H:Heap} {h b} (e:hget H h=some b):h<H.length:=by
 rcases Nat.lt_or_ge h H.length with hl | hl
 ·exact hl
 ·simp [hget,List.getElem?_eq_none hl] at e
theorem no_fresh {φ φ':Nat→Place} {H H':Heap} {w:World} (hl:H'.length=H.length) : ∀ h' b',H.length≤h'→hget H' h'=some b'→w.heap.size≤(φ' h').B ∨ ∃ h b,hget H h=some b∧(φ h).B=(φ' h').B:=fun h' b' hh hg=>by
 have:=hget_lt hg
 omega
theorem Step.refl {base φ H w} (hs:Sim φ H w):Step base φ H w φ H w:=
 ⟨Nat.le_refl _,fun _ _=>rfl,Nat.le_refl _,rfl,rfl,rfl,fun _ _ _=>rfl,fun h b' _ hb=>⟨b',hb,id⟩,fun h b hb hg hr=>.inr ⟨h,b,hb,hg,hr,rfl⟩,no_fresh rfl,hs⟩
theorem Step.trans {base φ H w φ1 H1 w1 φ2 H2 w2} (s:Step base φ H w φ1 H1 w1) (t:Step base φ1 H1 w1 φ2 H2 w2):Step base φ H w φ2 H2 w2 where
 len:=Nat.le_trans s.len t.len
 keep h hh:=(t.keep h (Nat.lt_of_lt_of_le hh s.len)).trans (s.keep h hh)
 size:=Nat.le_trans s.size t.size
 os:=t.os.trans s.os
 tape:=t.tape.trans s.tape
 output:=t.output.trans s.output
 frame b hb hn:=by
  rw [t.frame b (Nat.lt_of_lt_of_le hb s.size) (fun h blk hbase hg hr he => ?_),s.frame b hb hn]
  rcases s.later h blk hbase hg hr with hl | ⟨h0,b0,hb0,hg0,hr0,e0⟩
  ·omega
  ·exact hn h0 b0 hb0 hg0 hr0 (e0.trans he)
 old h b' hh hg:=by
  obtain ⟨b1,hg1,e1⟩:=t.old h b' (Nat.lt_of_lt_of_le hh s.len) hg
  obtain ⟨b,hg0,e0⟩:=s.old h b1 hh hg1
  exact ⟨b,hg0,fun hr=>e0 (e1 hr)⟩
 later h' b' hb hg hr:=by
  rcases t.later h' b' hb hg hr with hl | ⟨h1,b1,hb1,hg1,hr1,e1⟩
  ·exact .inl (Nat.le_trans s.size hl)
  ·rcases s.later h1 b1 hb1 hg1 hr1 with hl | ⟨h0,b0,hb0,hg0,hr0,e0⟩
   ·exact .inl (e1▸hl)
   ·exact .inr ⟨h0,b0,hb0,hg0,hr0,e0.trans e1⟩
 sim:=t.sim
 fresh h' b' hh hg:=by
  have key : ∀ h1 b1,H.length≤h1→hget H1 h1=some b1→(φ1 h1).B=(φ2 h').B→w.heap.size≤(φ2 h').B ∨ ∃ h b,hget H h=some b∧(φ h).B=(φ2 h').B:=fun h1 b1 hl g1 e1=>by
   rcases s.fresh h1 b1 hl g1 with hl | ⟨h0,b0,g0,e0⟩
   ·exact .inl (e1▸hl)
   ·exact .inr ⟨h0,b0,g0,e0.trans e1⟩
  rcases Nat.lt_or_ge h' H1.length with hlt | hge
  ·obtain ⟨b1,g1,_⟩:=t.old h' b' hlt hg
   exact key h' b1 hh g1 (by rw [t.keep h' hlt])
  ·rcases t.fresh h' b' hge hg with hl | ⟨h1,b1,g1,e1⟩
   ·exact .inl (Nat.le_trans s.size hl)
   ·rcases Nat.lt_or_ge h1 H.length with hlt | hge1
    ·obtain ⟨b0,g0,_⟩:=s.old h1 b1 hlt g1
     exact .inr ⟨h1,b0,g0,by rw [← s.keep h1 hlt];exact e1⟩
    ·exact key h1 b1 hge1 g1 e1
theorem Step.vrel {base φ H w φ' H' w' v v'} (s:Step base φ H w φ' H' w') (h:VRel H.length φ v v'):VRel H'.length φ' v v':=h.mono s.len s.keep
theorem Step.lrel {base φ H w φ' H' w' v v'} (s:Step base φ H w φ' H' w') (h:LRel H.length φ v v'):LRel H'.length φ' v v':=h.mono s.len s.keep
theorem hget_new_old {H:Heap} {b:Option Blk} {h:Nat} (hh:h<H.length):hget (H++[b]) h=hget H h:=by
 simp [hget,List.getElem?_append_left hh]
theorem hget_new_at {H:Heap} {b:Option Blk} : hget (H++[b]) H.length=b:=by
 simp [hget]
theorem hget_set_ne {H:Heap} {b:Option Blk} {h h':Nat} (hh:h≠h'):hget (hset H h b) h'=hget H h':=by
 simp [hget,hset,List.getElem?_set_ne hh]
theorem hget_set_eq {H:Heap} {b:Option Blk} {h:Nat} (hh:h<H.length):hget (hset H h b) h=b:=by
 simp [hget,hset,hh]
theorem length_hset {H:Heap} {b:Option Blk} {h:Nat} : (hset H h b).length=H.length:=by simp [hset]
def extP (φ:Nat→Place) (n:Nat) (p:Place):Nat→Place:=fun h=>if h=n then p else φ h
theorem extP_lt {φ n p h} (hh:h<n):extP φ n p h=φ h:=by simp [extP,Nat.ne_of_lt hh]
theorem extP_eq {φ n p} : extP φ n p n=p:=by simp [extP]
theorem step_newB {base φ H w} (hs:Sim φ H w) {nb:Blk} {cs:Array Value} {e:TypeId} {fr:Nat×Nat} {fin:Nat} {w1:World}
  (hw:w1.heap=w.heap.push (.cells cs e fr)) (ho:w1.os=w.os) (ht:w1.tape=w.tape) (hu:w1.output=w.output)
  (hl:nb.cells.length≤fin) (hf:fin≤cs.size) (hfr : ∀ i,(i<fin∨nb.sz≠1) → ¬(fr.1≤i∧i<fr.2)) (hcb:nb.sz≠1→fin≤9223372036854775807*nb.sz) (hlo:nb.lo≤nb.cells.length)
  (hpar : ∀ p∈nb.par,p<H.length ∧ ∀ b',hget H p=some b'→b'.rw=false)
  (hc : ∀ (i:Nat) (v:Value),nb.cells[i]?=some v → ∃ v':Value,cs[i]?=some v'∧VRel H.length φ v v') :
  Step base φ H w (extP φ H.length ⟨w.heap.size,0,fin,nb.sz⟩) (newB H nb) w1:=by
 have hk : ∀ h,h<H.length→extP φ H.length ⟨w.heap.size,0,fin,nb.sz⟩ h=φ h:=fun h hh=>extP_lt hh
 have hold : ∀ b,b<w.heap.size→w1.heap[b]?=w.heap[b]?:=fun b hb=>by
  rw [hw,Array.getElem?_push_lt hb];simp [hb]
 have hlen:(newB H nb).length=H.length+1:=by simp [newB]
 have hBlt : ∀ h b,hget H h=some b→(φ h).B<w.heap.size:=fun h b hg=>by
  obtain ⟨c,e,fr,hB,_⟩:=hs.cov h b hg
  exact (Array.getElem?_eq_some_iff.1 hB).1
 refine ⟨by omega,hk,by rw [hw];simp,ho,ht,hu,fun b hb _=>hold b hb,?_,?_,fun h' b' hh hg=>(by
  have:=hget_lt hg
  rw [hlen] at this
  obtain rfl:h'=H.length:=by omega
  rw [extP_eq]
  exact .inl (Nat.le_refl _)),?_,?_,?_,?_⟩
 ·intro h b' hh hg
  rw [newB,hget_new_old hh] at hg
  exact ⟨b',hg,id⟩
 ·intro h' b' hb hg hr
  have hlt:=hget_lt hg
  rw [hlen] at hlt
  rcases Nat.lt_or_ge h' H.length with h1 | h1
  ·rw [newB,hget_new_old h1] at hg
   rw [hk h' h1]
   exact .inr ⟨h',b',hb,hg,hr,rfl⟩
  ·have:h'=H.length:=by omega
   subst this
   rw [extP_eq]
   exact .inl (Nat.le_refl _)
 ·intro h b hg
  have hlt:=hget_lt hg
  rw [hlen] at hlt ⊢
  rcases Nat.lt_or_ge h H.length with h1 | h1
  ·rw [newB,hget_new_old h1] at hg
   obtain ⟨c,e',fr',hB,g1,g2,g3,g4,g5,g6⟩:=hs.cov h b hg
   rw [hk h h1]
   refine ⟨c,e',fr',by rw [hold _ (hBlt h b hg)];exact hB,g1,g2,g3,fun i v hv => ?_,g5,g6⟩
   obtain ⟨v',hv',hr⟩:=g4 i v hv
   exact ⟨v',hv',hr.mono (by omega) hk⟩
  ·have:h=H.length:=by omega
   subst this
   rw [newB,hget_new_at] at hg
   cases hg
   rw [extP_eq]
   refine ⟨cs,e,fr,by rw [hw];simp,by simpa using hl,hf,rfl,fun i v hv => ?_,fun _=>⟨fun i _ hi=>hfr i hi,fun h=>by simpa using hcb h⟩,hlo⟩
   obtain ⟨v',hv',hr⟩:=hc i v hv
   exact ⟨v',by simpa using hv',hr.mono (by omega) hk⟩
 ·intro h h' b b' hne hg hg' hr
  have hlt:=hget_lt hg
  have hlt':=hget_lt hg'
  rw [hlen] at hlt hlt'
  rcases Nat.lt_or_ge h H.length with h1 | h1<;>rcases Nat.lt_or_ge h' H.length with h2 | h2
  ·rw [newB,hget_new_old h1] at hg
   rw [newB,hget_new_old h2] at hg'
   rw [hk h h1,hk h' h2]
   exact hs.apart h h' b b' hne hg hg' hr
  ·have:h'=H.length:=by omega
   subst this
   rw [newB,hget_new_old h1] at hg
   rw [hk h h1,extP_eq]
   left
   have:=hBlt h b hg
   simp;omega
  ·have:h=H.length:=by omega
   subst this
   rw [newB,hget_new_old h2] at hg'
   rw [hk h' h2,extP_eq]
   left
   have:=hBlt h' b' hg'
   simp;omega
  ·omega
 ·intro h b p b' hg hp hg'
  have hlt:=hget_lt hg
  rw [hlen] at hlt
  rcases Nat.lt_or_ge h H.length with h1 | h1
  ·rw [newB,hget_new_old h1] at hg
   rcases Nat.lt_or_ge p H.length with h2 | h2
   ·rw [newB,hget_new_old h2] at hg'
    exact hs.par h b p b' hg hp hg'
   ·have hlt':=hget_lt hg'
    rw [hlen] at hlt'
    have:p=H.length:=by omega
    subst this
    exact absurd (hs.parlt h b _ hg hp) (Nat.lt_irrefl _)
  ·have:h=H.length:=by omega
   subst this
   rw [newB,hget_new_at] at hg
   cases hg
   obtain ⟨hpl,hpr⟩:=hpar p hp
   rw [newB,hget_new_old hpl] at hg'
   exact hpr b' hg'
 ·intro h b p hg hp
  have hlt:=hget_lt hg
  rw [hlen] at hlt ⊢
  rcases Nat.lt_or_ge h H.length with h1 | h1
  ·rw [newB,hget_new_old h1] at hg
   have:=hs.parlt h b p hg hp
   omega
  ·have:h=H.length:=by omega
   subst this
   rw [newB,hget_new_at] at hg
   cases hg
   have:=(hpar p hp).1
   omega
theorem step_new {base φ H w} (hs:Sim φ H w) {cells:List Value} {sz:Nat} {cs:Array Value} {e:TypeId} {fr:Nat×Nat} {fin:Nat} {w1:World}
  (hw:w1.heap=w.heap.push (.cells cs e fr)) (ho:w1.os=w.os) (ht:w1.tape=w.tape) (hu:w1.output=w.output)
  (hl:cells.length≤fin) (hf:fin≤cs.size) (hfr : ∀ i,(i<fin∨sz≠1) → ¬(fr.1≤i∧i<fr.2)) (hcb:sz≠1→fin≤9223372036854775807*sz)
  (hc : ∀ (i:Nat) (v:Value),cells[i]?=some v → ∃ v':Value,cs[i]?=some v'∧VRel H.length φ v v') :
  Step base φ H w (extP φ H.length ⟨w.heap.size,0,fin,sz⟩) (newA H cells sz) w1:=
 step_newB (nb:=⟨cells,sz,true,0,[]⟩) hs hw ho ht hu hl hf hfr hcb (Nat.zero_le _) (fun p hp=>by cases hp) hc
theorem Step.new_at {φ:Nat→Place} {H:Heap} {w:World} {fin sz:Nat} {cells:List Value} :
  VRel (newA H cells sz).length (extP φ H.length ⟨w.heap.size,0,fin,sz⟩) (.pointer (some (atNew H))) (.pointer (some ⟨w.heap.size,0,none⟩)):=by
 have:=VRel.ptr (n:=(newA H cells sz).length) (φ:=extP φ H.length ⟨w.heap.size,0,fin,sz⟩) H.length 0 (by simp [newA,newB])
 simpa [atNew,extP_eq] using this
end Go.AM
namespace Go.AM
open Go
theorem add_none (B o j:Nat):(⟨B,o,none⟩:Addr).add j=⟨B,o+j,none⟩:=by unfold Addr.add;split<;>simp_all
theorem ptr_inv {n φ x'} {a:Addr} (h:VRel n φ (.pointer (some a)) x') (hs:a.spot.isSome=false) :
  a.block<n∧a=⟨a.block,a.off,none⟩∧x' = .pointer (some ⟨(φ a.block).B,(φ a.block).base+a.off,none⟩):=by
 cases h with
 | ptr h o hn=>exact ⟨hn,rfl,rfl⟩
theorem run_isAgg {P:Program} {t:TypeId} {b:Bool} (h:isAggA P t=some b) (w:World):(isAgg t).run P w = .ok b w:=by
 unfold isAggA at h
 cases hu:P.underlying t with
 | none=>simp [hu] at h
 | some d=>
  unfold isAgg
  rw [Sem.run_bind]
  have:(underlying t).run P w = .ok d w:=by simp [underlying,hu]
  rw [this]
  simp only [hu,Option.map_some,Option.some.injEq] at h
  subst h
  cases d<;>simp
theorem run_sizeOf {P:Program} {t:TypeId} {n:Nat} (h:sizeA P t=some n) (w:World):(sizeOf t).run P w = .ok n w:=by
 unfold sizeA at h
 cases hi:P.info? t with
 | none=>simp [hi] at h
 | some i=>simp [hi] at h;simp [sizeOf,typeInfo,hi,h]
theorem run_underA {P:Program} {t:TypeId} {d:TypeDesc} (h:P.underlying t=some d) (w:World):(underlying t).run P w = .ok d w:=by simp [underlying,h]
theorem run_infoA {P:Program} {t:TypeId} {d:TypeInfo} (h:P.info? t=some d) (w:World):(typeInfo t).run P w = .ok d w:=by simp [typeInfo,h]
theorem run_zeroA {P:Program} {t:TypeId} {v:Value} (h:zeroA P t=some v) (w:World):(zeroValue t).run P w = .ok v w:=by
 unfold zeroA at h
 cases hi:P.info? t with
 | none=>simp [hi] at h
 | some i=>simp [hi] at h;simp [zeroValue,typeInfo,hi,h]
theorem run_read {P:Program} {φ H w} (hs:Sim φ H w) {a:Addr} {n:Nat} {cs:List Value} (hr:readA H a n=some cs) :
  ∃ cs',LRel H.length φ cs cs'∧cs.length=n∧(∀ (j:Nat) (v:Value),cs'[j]?=some v→w.cell? ⟨(φ a.block).B,(φ a.block).base+a.off+j,none⟩=some v) ∧
   (loadCells ⟨(φ a.block).B,(φ a.block).base+a.off,none⟩ n).run P w = .ok cs'.toArray w:=by
 unfold readA at hr
 split at hr
 ·cases hr
 cases hg:hget H a.block with
 | none=>simp [hg] at hr
 | some b=>
  simp only [hg] at hr
  split at hr
  ·rename_i hlen
   cases hr
   obtain ⟨c,e,fr,hB,g1,g2,g3,g4,g5,g6⟩:=hs.cov a.block b hg
   have hl:((b.cells.drop a.off).take n).length=n:=by simp;omega
   have hcell : ∀ j,j<n → ∃ v v',b.cells[a.off+j]?=some v∧c[(φ a.block).base+a.off+j]?=some v'∧VRel H.length φ v v':=by
    intro j hj
    have hlt:a.off+j<b.cells.length:=by omega
    obtain ⟨v',hv',hrel⟩:=g4 (a.off+j) b.cells[a.off+j] (List.getElem?_eq_getElem hlt)
    exact ⟨_,v',List.getElem?_eq_getElem hlt,by rwa [← Nat.add_assoc] at hv',hrel⟩
   refine ⟨(c.toList.drop ((φ a.block).base+a.off)).take n,⟨?_,?_⟩,hl,?_,?_⟩
   ·rw [hl];simp;omega
   ·intro i v v' hv hv'
    have hi:i<n:=by
     have:=(List.getElem?_eq_some_iff.1 hv).1
     omega
    obtain ⟨u,u',hu,hu',hrel⟩:=hcell i hi
    simp [List.getElem?_take,hi,List.getElem?_drop] at hv hv'
    rw [hv] at hu
    rw [hv'] at hu'
    cases hu;cases hu'
    exact hrel
   ·intro j v hv
    have hj:j<n:=by
     have:=(List.getElem?_eq_some_iff.1 hv).1
     simp at this;omega
    simp [List.getElem?_take,hj,List.getElem?_drop] at hv
    rw [cell_of_row w _ _ c e fr hB]
    exact hv
   ·have hl':((c.toList.drop ((φ a.block).base+a.off)).take n).length=n:=by simp;omega
    have:=run_loadCells_list (P:=P) w ⟨(φ a.block).B,(φ a.block).base+a.off,none⟩ ((c.toList.drop ((φ a.block).base+a.off)).take n) (fun j v hv=>by
     have hj:j<n:=by
      have:=(List.getElem?_eq_some_iff.1 hv).1
      omega
     simp [List.getElem?_take,hj,List.getElem?_drop] at hv
     rw [add_none,cell_of_row w _ _ c e fr hB]
     exact hv)
    rw [hl'] at this
    exact this
  ·cases hr
theorem run_loadVarA {P:Program} {φ H w} (hs:Sim φ H w) {t:TypeId} {x x' v:Value} (hl:loadA P t x H=some v) (hx:VRel H.length φ x x') :
  ∃ v' a',x' = .pointer (some a')∧(loadVar t a').run P w = .ok v' w∧VRel H.length φ v v':=by
 cases x with
 | pointer p=>
  cases p with
  | none=>simp [loadA] at hl
  | some a=>
   simp only [loadA] at hl
   cases hagg:isAggA P t with
   | none=>simp [hagg] at hl
   | some b=>
    have hra:=fun w=>run_isAgg hagg w
    cases b with
    | true=>
     simp only [hagg,Option.bind_eq_bind,Option.bind_some,if_true] at hl
     cases hsz:sizeA P t with
     | none=>simp [hsz] at hl
     | some n=>
      simp only [hsz,Option.bind_some] at hl
      cases hrd:readA H a n with
      | none=>simp [hrd] at hl
      | some cs=>
       simp only [hrd,Option.bind_some,Option.some.injEq] at hl
       subst hl
       have hsp:a.spot.isSome=false:=by
        unfold readA at hrd
        split at hrd
        ·cases hrd
        ·rename_i h;simpa using h
       obtain ⟨hn,ha,rfl⟩:=ptr_inv hx hsp
       obtain ⟨cs',hrel,_,_,hrun⟩:=run_read (P:=P) hs hrd
       exact ⟨.agg cs'.toArray,_,rfl,by simp [loadVar,Sem.run_bind,hra,run_sizeOf hsz,hrun],.agg_of hrel⟩
    | false=>
     simp only [hagg,Option.bind_eq_bind,Option.bind_some,Bool.false_eq_true,if_false] at hl
     split at hl
     ·cases hl
     ·rename_i hsp
      have hsp:a.spot.isSome=false:=by simpa using hsp
      obtain ⟨hn,ha,rfl⟩:=ptr_inv hx hsp
      cases hg:hget H a.block with
      | none=>simp [hg] at hl
      | some b=>
       simp only [hg,Option.bind_some] at hl
       obtain ⟨c,e,fr,hB,g1,g2,g3,g4,g5,g6⟩:=hs.cov a.block b hg
       obtain ⟨v',hv',hrel⟩:=g4 a.off v hl
       refine ⟨v',_,rfl,?_,hrel⟩
       have hcell:w.cell? ⟨(φ a.block).B,(φ a.block).base+a.off,none⟩=some v':=by rw [cell_of_row w _ _ c e fr hB];exact hv'
       simp [loadVar,Sem.run_bind,hra,hcell]
 | _=>simp [loadA] at hl
theorem wBeg_le {p:Place} {b:Blk} {h:Nat} : wBeg p b h≤p.base+b.lo:=by unfold wBeg;split<;>omega
theorem le_rEnd {p:Place} {b:Blk} (h:p.base+b.cells.length≤p.fin):p.base+b.cells.length≤rEnd p b:=by unfold rEnd;split<;>omega
theorem step_cell {base φ H w} (hs:Sim φ H w) {h:Nat} {b:Blk} (hg:hget H h=some b) (hrw:b.rw=true) (hbase:base≤h) {o:Nat} (ho:o<b.cells.length) (hlo:b.lo≤o) {v v':Value} (hv:VRel H.length φ v v') :
  (∃ u,w.cell? ⟨(φ h).B,(φ h).base+o,none⟩=some u)∧w.frozen? ⟨(φ h).B,(φ h).base+o,none⟩=false ∧
   Step base φ H w φ (hset H h (some { b with cells:=b.cells.set o v })) (w.setCell ⟨(φ h).B,(φ h).base+o,none⟩ v'):=by
 obtain ⟨c,e,fr,hB,g1,g2,g3,g4,g5,g6⟩:=hs.cov h b hg
 have hlt:=hget_lt hg
 have hcs:(φ h).base+o<c.size:=by omega
 have hnew:(w.setCell ⟨(φ h).B,(φ h).base+o,none⟩ v').heap[(φ h).B]?=some (.cells (c.setIfInBounds ((φ h).base+o) v') e fr):=by
  simp [World.setCell,Array.getElem?_modify,hB]
 have hoth : ∀ k,k≠(φ h).B→(w.setCell ⟨(φ h).B,(φ h).base+o,none⟩ v').heap[k]?=w.heap[k]?:=fun k hk=>heap_setCell_other w _ k v' hk
 refine ⟨⟨_,by rw [cell_of_row w _ _ c e fr hB];exact Array.getElem?_eq_getElem hcs⟩,?_,?_⟩
 ·have:=(g5 hrw).1 ((φ h).base+o) (by omega) (.inl (by omega))
  simp only [World.frozen?,hB]
  simp only [Bool.and_eq_false_imp,decide_eq_true_eq,decide_eq_false_iff_not]
  omega
 ·have back : ∀ h' b',hget (hset H h (some { b with cells:=b.cells.set o v })) h'=some b' → ∃ b0,hget H h'=some b0∧b0.rw=b'.rw∧b0.lo=b'.lo∧b0.par=b'.par∧b0.cells.length=b'.cells.length:=by
   intro h' b' hg'
   by_cases he:h'=h
   ·subst he
    rw [hget_set_eq hlt] at hg'
    cases hg'
    exact ⟨b,hg,rfl,rfl,rfl,by simp⟩
   ·rw [hget_set_ne (Ne.symm he)] at hg'
    exact ⟨b',hg',rfl,rfl,rfl,rfl⟩
  refine ⟨by simp [length_hset],fun _ _=>rfl,by simp [World.setCell],rfl,rfl,rfl,?_,?_,?_,no_fresh length_hset,?_,?_,?_,?_⟩
  ·intro k hk hn
   exact hoth k fun e=>hn h b hbase hg hrw e.symm
  ·intro h' b' hh' hg'
   obtain ⟨b0,k0,k1,_⟩:=back h' b' hg'
   exact ⟨b0,k0,fun hr=>k1.trans hr⟩
  ·intro h' b' hb' hg' hr'
   obtain ⟨b0,k0,k1,_⟩:=back h' b' hg'
   exact .inr ⟨h',b0,hb',k0,k1.trans hr',rfl⟩
  ·intro h' b' hg'
   rw [length_hset]
   by_cases he:h'=h
   ·subst he
    rw [hget_set_eq hlt] at hg'
    cases hg'
    refine ⟨_,e,fr,hnew,by simpa using g1,by simpa using g2,g3,fun i u hu => ?_,g5,by simpa using g6⟩
    by_cases hio:i=o
    ·subst hio
     simp only [List.getElem?_set,if_true] at hu
     simp only [ho,if_true,Option.some.injEq] at hu
     subst hu
     exact ⟨v',by simp [hcs],hv⟩
    ·rw [List.getElem?_set_ne (Ne.symm hio)] at hu
     obtain ⟨u',hu',hrel⟩:=g4 i u hu
     exact ⟨u',by rw [Array.getElem?_setIfInBounds_ne (by omega)];exact hu',hrel⟩
   ·rw [hget_set_ne (Ne.symm he)] at hg'
    obtain ⟨c',e',fr',hB',k1,k2,k3,k4,k5,k6⟩:=hs.cov h' b' hg'
    by_cases hBB:(φ h').B=(φ h).B
    ·rw [hBB,hB] at hB'
     cases hB'
     refine ⟨_,e,fr,by rw [hBB];exact hnew,k1,by simpa using k2,k3,fun i u hu => ?_,k5,k6⟩
     obtain ⟨u',hu',hrel⟩:=k4 i u hu
     refine ⟨u',?_,hrel⟩
     have hi:=(List.getElem?_eq_some_iff.1 hu).1
     have:=hs.apart h h' b b' (Ne.symm he) hg hg' hrw
     have q1 := @wBeg_le (φ h) b h'
     have q2:=le_rEnd k1
     rw [Array.getElem?_setIfInBounds_ne (by omega)]
     exact hu'
    ·exact ⟨c',e',fr',by rw [hoth _ hBB];exact hB',k1,k2,k3,k4,k5,k6⟩
  ·intro h1 h2 b1 b2 hne k1 k2 kr
   obtain ⟨b1',k1',e1,e1l,e1p,e1c⟩:=back h1 b1 k1
   obtain ⟨b2',k2',e2,e2l,e2p,e2c⟩:=back h2 b2 k2
   have:=hs.apart h1 h2 b1' b2' hne k1' k2' (e1.trans kr)
   unfold rEnd wBeg at this ⊢
   rw [e2,e2c,e1l,e1p] at this
   exact this
  ·intro h1 b1 p b' k1 hp k2
   obtain ⟨b1',k1',e1,e1l,e1p,e1c⟩:=back h1 b1 k1
   obtain ⟨b2',k2',e2,_⟩:=back p b' k2
   rw [← e2]
   exact hs.par h1 b1' p b2' k1' (e1p▸hp) k2'
  ·intro h1 b1 p k1 hp
   obtain ⟨b1',k1',e1,e1l,e1p,e1c⟩:=back h1 b1 k1
   rw [length_hset]
   exact hs.parlt h1 b1' p k1' (e1p▸hp)
theorem hset_hset {H:Heap} {h:Nat} {b c:Option Blk} : hset (hset H h b) h c=hset H h c:=by simp [hset]
theorem run_writeAux {P:Program} {base φ} {a:Addr} : ∀ (vs vs':List Value) (i:Nat) {H w} (_:Sim φ H w) {b:Blk} (_:hget H a.block=some b) (_:b.rw=true) (_:base≤a.block)
  (_:a.off+i+vs.length≤b.cells.length) (_:b.lo≤a.off+i) (_:vs.all Value.oneCell'=true) (_:LRel H.length φ vs vs'),
  ∃ w',(storeCells ⟨(φ a.block).B,(φ a.block).base+a.off,none⟩ vs' i).run P w = .ok () w' ∧
   Step base φ H w φ (hset H a.block (some { b with cells:=writeL b.cells (a.off+i) vs })) w'
 | [],[],i,H,w,hs,b,hg,_,_,_,_,_,_=>by
  refine ⟨w,rfl,?_⟩
  have:hset H a.block (some { b with cells:=writeL b.cells (a.off+i) [] })=H:=by
   have hlt:=hget_lt hg
   apply List.ext_getElem?
   intro k
   simp only [hset,writeL,List.getElem?_set]
   split
   ·rename_i hk;subst hk
    simp only [hget] at hg
    rw [List.getElem?_eq_getElem hlt] at hg ⊢
    simp at hg
    simp [hlt,hg]
   ·rfl
  rw [this]
  exact .refl hs
 | [],_::_,_,_,_,_,_,_,_,_,_,_,_,h=>by simp [LRel] at h
 | _::_,[],_,_,_,_,_,_,_,_,_,_,_,h=>by simp [LRel] at h
 | v::vs,v'::vs',i,H,w,hs,b,hg,hrw,hb,hl,hlo,h1,hrel=>by
  simp only [List.length_cons] at hl
  simp only [List.all_cons,Bool.and_eq_true] at h1
  have hlt:=hget_lt hg
  obtain ⟨⟨u,hu⟩,hfz,st⟩:=step_cell hs hg hrw hb (o:=a.off+i) (by omega) hlo hrel.head
  have hg1:hget (hset H a.block (some { b with cells:=b.cells.set (a.off+i) v })) a.block=some { b with cells:=b.cells.set (a.off+i) v } := hget_set_eq hlt
  obtain ⟨w',hrun,st'⟩:=run_writeAux (P:=P) (base:=base) (a:=a) vs vs' (i+1) st.sim hg1 hrw hb (by simp;omega) (by simp;omega) h1.2 (by rw [length_hset];exact hrel.tail)
  refine ⟨w',?_,?_⟩
  ·simp only [storeCells,Sem.run_bind,add_none]
   rw [show (φ a.block).base+a.off+i=(φ a.block).base+(a.off+i) by omega,run_store P w _ v' .plain (by rw [hrel.head.oneCell];exact h1.1),hu]
   simp only [hfz,Bool.false_eq_true,if_false,Result.andThen]
   exact hrun
  ·have:=st.trans st'
   rw [hset_hset] at this
   simpa [writeL,Nat.add_assoc] using this
theorem hget_hset_none {H:Heap} {p i:Nat} : hget (hset H p none) i=if i=p then none else hget H i:=by
 by_cases h:i=p
 ·subst h
  simp only [if_true]
  rcases Nat.lt_or_ge i H.length with hl | hl
  ·exact hget_set_eq hl
  ·simp [hget,hset,List.getElem?_eq_none (show (H.set i none).length≤i by simpa using hl)]
 ·simp only [h,if_false]
  exact hget_set_ne (Ne.symm h)
theorem length_killAll {ps:List Nat} : ∀ {H:Heap},(killAll H ps).length=H.length:=by
 induction ps with
 | nil=>intro H;rfl
 | cons p ps ih=>intro H;simp only [killAll,List.foldl_cons] at ih ⊢;rw [ih];exact length_hset
theorem hget_killAll {ps:List Nat} : ∀ {H:Heap} {i:Nat},hget (killAll H ps) i=if i∈ps then none else hget H i:=by
 induction ps with
 | nil=>intro H i;simp [killAll]
 | cons p ps ih=>
  intro H i
  simp only [killAll,List.foldl_cons] at ih ⊢
  rw [ih,hget_hset_none]
  by_cases h1:i∈ps<;>by_cases h2:i=p<;>simp [h1,h2]
theorem step_free {base φ H w} (hs:Sim φ H w) {h:Nat} {b:Blk} (hg:hget H h=some b) (hp:h∉b.par) :
  Step base φ H w φ (hset (killAll H b.par) h (some { b with lo:=0,par:=[] })) w:=by
 have hlt:=hget_lt hg
 have hl:(hset (killAll H b.par) h (some { b with lo:=0,par:=[] })).length=H.length:=by rw [length_hset,length_killAll]
 have back : ∀ i c,hget (hset (killAll H b.par) h (some { b with lo:=0,par:=[] })) i=some c → ∃ c0,hget H i=some c0∧c0.rw=c.rw∧c0.cells=c.cells∧c0.sz=c.sz∧((i=h∧c.lo=0∧c.par=[])∨(i≠h∧c0=c))∧i∉b.par:=by
  intro i c hi
  by_cases he:i=h
  ·subst he
   rw [hget_set_eq (by rw [length_killAll];exact hlt)] at hi
   cases hi
   exact ⟨b,hg,rfl,rfl,rfl,.inl ⟨rfl,rfl,rfl⟩,hp⟩
  ·rw [hget_set_ne (Ne.symm he),hget_killAll] at hi
   by_cases hm:i∈b.par
   ·simp [hm] at hi
   ·simp only [hm,if_false] at hi
    exact ⟨c,hi,rfl,rfl,rfl,.inr ⟨he,rfl⟩,hm⟩
 refine ⟨by omega,fun _ _=>rfl,Nat.le_refl _,rfl,rfl,rfl,fun _ _ _=>rfl,?_,?_,no_fresh (by omega),?_,?_,?_,?_⟩
 ·intro i c _ hi
  obtain ⟨c0,k0,k1,_⟩:=back i c hi
  exact ⟨c0,k0,fun hr=>k1.trans hr⟩
 ·intro i c hb hi hr
  obtain ⟨c0,k0,k1,_⟩:=back i c hi
  exact .inr ⟨i,c0,hb,k0,k1.trans hr,rfl⟩
 ·intro i c hi
  obtain ⟨c0,k0,k1,k2,k3,k4,_⟩:=back i c hi
  obtain ⟨d,e,fr,hB,g1,g2,g3,g4,g5,g6⟩:=hs.cov i c0 k0
  rw [hl]
  refine ⟨d,e,fr,hB,k2▸g1,g2,g3.trans k3,k2▸g4,fun hr=>g5 (k1.trans hr),?_⟩
  rcases k4 with ⟨_,h0,_⟩ | ⟨_,rfl⟩
  ·omega
  ·exact g6
 ·intro i j c d hne hi hj hr
  obtain ⟨c0,k0,k1,k2,k3,k4,k5⟩:=back i c hi
  obtain ⟨d0,l0,l1,l2,l3,l4,l5⟩:=back j d hj
  have:=hs.apart i j c0 d0 hne k0 l0 (k1.trans hr)
  have e1:rEnd (φ j) d=rEnd (φ j) d0:=by unfold rEnd;rw [l1,l2]
  rw [e1]
  rcases k4 with ⟨rfl,_,hpn⟩ | ⟨_,rfl⟩
  ·rw [hg] at k0
   cases k0
   have e2:wBeg (φ i) b j=(φ i).base:=by unfold wBeg;simp [l5]
   have e3:wBeg (φ i) c j=(φ i).base:=by unfold wBeg;simp [hpn]
   rw [e3]
   rw [e2] at this
   exact this
  ·exact this
 ·intro i c p d hi hpm hj
  obtain ⟨c0,k0,k1,k2,k3,k4,k5⟩:=back i c hi
  obtain ⟨d0,l0,l1,_⟩:=back p d hj
  rcases k4 with ⟨_,_,hpn⟩ | ⟨_,rfl⟩
  ·rw [hpn] at hpm;cases hpm
  ·rw [← l1];exact hs.par i c0 p d0 k0 hpm l0
 ·intro i c p hi hpm
  obtain ⟨c0,k0,k1,k2,k3,k4,k5⟩:=back i c hi
  rw [hl]
  rcases k4 with ⟨_,_,hpn⟩ | ⟨_,rfl⟩
  ·rw [hpn] at hpm;cases hpm
  ·exact hs.parlt i c0 p k0 hpm
theorem run_writeA {P:Program} {base φ H w} (hs:Sim φ H w) {a:Addr} {vs vs':List Value} {H':Heap} (hw:writeA base a vs H=some H') (hrel:LRel H.length φ vs vs') :
  ∃ w',(storeCells ⟨(φ a.block).B,(φ a.block).base+a.off,none⟩ vs').run P w = .ok () w'∧Step base φ H w φ H' w':=by
 unfold writeA at hw
 split at hw
 ·cases hw
 cases hg:hget H a.block with
 | none=>simp [hg] at hw
 | some b=>
  simp only [hg] at hw
  split at hw
  ·rename_i hc
   split at hw
   ·rename_i hlo
    cases hw
    obtain ⟨w',h1,h2⟩:=run_writeAux (P:=P) (base:=base) (a:=a) vs vs' 0 hs hg hc.1 hc.2.1 (by simpa using hc.2.2.1) (by simpa using hlo) hc.2.2.2 hrel
    exact ⟨w',h1,h2⟩
   ·split at hw
    ·rename_i hp
     cases hw
     have hpn:a.block∉b.par:=by
      intro hm
      have:=List.all_eq_true.1 hp _ hm
      simp at this
     have st:=step_free (base:=base) hs hg hpn
     have hg1:hget (hset (killAll H b.par) a.block (some { b with lo:=0,par:=[] })) a.block=some { b with lo:=0,par:=[] } := hget_set_eq (by rw [length_killAll];exact hget_lt hg)
     obtain ⟨w',h1,h2⟩:=run_writeAux (P:=P) (base:=base) (a:=a) vs vs' 0 st.sim hg1 hc.1 hc.2.1 (by simpa using hc.2.2.1) (Nat.zero_le _) hc.2.2.2 (st.lrel hrel)
     refine ⟨w',h1,?_⟩
     have:=st.trans h2
     rw [hset_hset] at this
     exact this
    ·cases hw
  ·cases hw
theorem writeA_spot {base a vs H H'} (hw:writeA base a vs H=some H'):a.spot.isSome=false:=by
 unfold writeA at hw
 split at hw
 ·cases hw
 ·rename_i h;simpa using h
theorem run_storeVarA {P:Program} {base φ H w} (hs:Sim φ H w) {t:TypeId} {x x' v v':Value} {H':Heap} (hw:storeA P base t x v H=some H') (hx:VRel H.length φ x x') (hv:VRel H.length φ v v') :
  ∃ w' a',x' = .pointer (some a')∧(storeVar t a' v').run P w = .ok () w'∧Step base φ H w φ H' w':=by
 cases x with
 | pointer p=>
  cases p with
  | none=>simp [storeA] at hw
  | some a=>
   simp only [storeA,Option.bind_eq_bind] at hw
   cases hsz:sizeA P t with
   | none=>simp [hsz] at hw
   | some n=>
    simp only [hsz,Option.bind_some] at hw
    split at hw
    ·cases hw
    ·rename_i hn
     obtain ⟨_,_,rfl⟩:=ptr_inv hx (writeA_spot hw)
     obtain ⟨w',h1,h2⟩:=run_writeA (P:=P) hs hw hv.cells
     refine ⟨w',_,rfl,?_,h2⟩
     have hl:=hv.cells.1
     simp only [Array.length_toList] at hl
     simp only [storeVar,Sem.run_bind,run_sizeOf hsz,Result.andThen_ok]
     have : ¬ (v'.cells.size≠n):=by rw [← hl];simpa using hn
     simp only [this,if_false,Sem.run_bind]
     simpa using h1
 | _=>simp [storeA] at hw
end Go.AM
namespace Go.AM
open Go
structure ERel (n:Nat) (φ:Nat→Place) (sz:Nat) (ρ:Env) (a:Act):Prop where
 size:a.tmps.size=sz
 vals : ∀ t,VRel n φ (ρ t) (a.tmps.getD t undef)
 defers:a.defers=[]
theorem ERel.eval {n φ sz ρ a} (h:ERel n φ sz ρ a) {x:Operand} (hx:okOperand x=true):VRel n φ (evalA ρ x) (a.eval x):=by
 cases x with
 | tmp t=>exact h.vals t
 | const v=>exact .closed hx
 | global g=>exact .glob g
 | func f=>exact .func _ _ _ _ _ rfl (fun i h=>by simp at h) rfl (fun i h=>by simp at h)
theorem ERel.put {n φ sz ρ a} (h:ERel n φ sz ρ a) {d:Option Tmp} (hd:okDst sz d) {v v'} (hv:VRel n φ v v'):ERel n φ sz (put ρ d v) (a.put d v'):=by
 cases d with
 | none=>exact h
 | some t=>
  have ht:t<a.tmps.size:=by rw [h.size];exact hd
  refine ⟨by simpa [Act.put] using h.size,fun i => ?_,h.defers⟩
  by_cases hi:i=t
  ·subst hi
   simp [Act.put,AM.put,upd,ht,Array.getD]
   exact hv
  ·have:(a.tmps.setIfInBounds t v').getD i undef=a.tmps.getD i undef:=by
    simp [Array.getD_eq_getD_getElem?,Array.getElem?_setIfInBounds_ne (Ne.symm hi)]
   simp only [Act.put,AM.put,upd,hi,if_false,this]
   exact h.vals i
theorem ERel.mono {n n' φ φ' sz ρ a} (h:ERel n φ sz ρ a) (hn:n≤n') (hk : ∀ i,i<n→φ' i=φ i):ERel n' φ' sz ρ a:=
 ⟨h.size,fun t=>(h.vals t).mono hn hk,h.defers⟩
def Sound (P:Program) (base:Nat) (φ:Nat→Place) (H:Heap) (w:World) (s:Sem Value) (v:Value) (H':Heap):Prop:=
 ∃ v' w' φ',s.run P w = .ok v' w'∧Step base φ H w φ' H' w'∧VRel H'.length φ' v v'
theorem Sound.pure {P base φ H w} (hs:Sim φ H w) {v v'} {s:Sem Value} (hr:s.run P w = .ok v' w) (h:VRel H.length φ v v'):Sound P base φ H w s v H:=
 ⟨v',w,φ,hr,.refl hs,h⟩
theorem sound_new {P:Program} {base φ H w} (hs:Sim φ H w) {cells:List Value} {cs:Array Value} {sz:Nat} (e:TypeId) (hc:LRel H.length φ cells cs.toList) (hcb:sz≠1→cs.size≤9223372036854775807*sz) :
  ∃ φ',Step base φ H w φ' (newA H cells sz) (w.alloc (.cells cs e))∧VRel (newA H cells sz).length φ' (.pointer (some (atNew H))) (.pointer (some ⟨w.heap.size,0,none⟩)) ∧
   φ' H.length=⟨w.heap.size,0,cs.size,sz⟩:=by
 refine ⟨_,step_new (e:=e) (fr:=(0,0)) (fin:=cs.size) hs rfl rfl rfl rfl ?_ (Nat.le_refl _) (fun i _ h=>by simp at h) hcb ?_,Step.new_at,extP_eq⟩
 ·have:=hc.1;simp at this;omega
 ·intro i v hv
  have hi:=(List.getElem?_eq_some_iff.1 hv).1
  have hi':i<cs.size:=by have:=hc.1;simp at this;omega
  exact ⟨cs[i],by simp [hi'],hc.2 i v cs[i] hv (by simp [hi'])⟩
theorem sound_newT {P:Program} {base φ H w} (hs:Sim φ H w) {cells:List Value} {cs:Array Value} {sz:Nat} (e:TypeId) (hl:cells.length≤cs.size) (hc : ∀ (i:Nat) (v:Value),cells[i]?=some v → ∃ v':Value,cs[i]?=some v'∧VRel H.length φ v v') (hcb:sz≠1→cs.size≤9223372036854775807*sz) :
  ∃ φ',Step base φ H w φ' (newA H cells sz) (w.alloc (.cells cs e))∧φ' H.length=⟨w.heap.size,0,cs.size,sz⟩:=
 ⟨_,step_new (e:=e) (fr:=(0,0)) (fin:=cs.size) hs rfl rfl rfl rfl hl (Nat.le_refl _) (fun i _ h=>by simp at h) hcb hc,extP_eq⟩
theorem scalar_cells {n φ} {z:Value} (h:z.cells.all scalarV=true):LRel n φ z.cells.toList z.cells.toList:=
 .of_scalar fun v hv=>by
  rw [Array.all_eq_true] at h
  obtain ⟨i,hi,rfl⟩:=List.getElem_of_mem hv
  exact h i (by simpa using hi)
theorem sound_alloc {P:Program} {base φ H w} (hs:Sim φ H w) {t:TypeId} {z:Value} (hz:zeroA P t=some z) (hc:z.cells.all scalarV=true) :
  Sound P base φ H w (Instr.alloc t true (.tuple #[])) (.pointer (some (atNew H))) (newA H z.cells.toList 1):=by
 obtain ⟨φ',hst,hv,_⟩:=sound_new (P:=P) (base:=base) (sz:=1) hs (cs:=z.cells) t (scalar_cells hc) (fun h=>absurd rfl h)
 refine ⟨.pointer (some ⟨w.heap.size,0,none⟩),w.alloc (.cells z.cells t),φ',?_,hst,hv⟩
 simp [Instr.alloc,run_zeroA hz,newVar,newRow]
theorem sound_box {P:Program} {base φ H w} (hs:Sim φ H w) {t:TypeId} {v v':Value} (hv:VRel H.length φ v v') :
  Sound P base φ H w (Instr.box t v') (.pointer (some (atNew H))) (newA H v.cells.toList 1):=by
 obtain ⟨φ',hst,hv,_⟩:=sound_new (P:=P) (base:=base) (sz:=1) hs (cs:=v'.cells) t hv.cells (fun h=>absurd rfl h)
 refine ⟨.pointer (some ⟨w.heap.size,0,none⟩),w.alloc (.cells v'.cells t),φ',?_,hst,hv⟩
 simp [Instr.box,newVar,newRow]
def PRel (n:Nat) (φ:Nat→Place) (ps qs:List (Nat×Value)):Prop:=ps.length=qs.length ∧ ∀ i,i<ps.length→(ps.getD i default).1=(qs.getD i default).1∧VRel n φ (ps.getD i default).2 (qs.getD i default).2
theorem PRel.tail {n φ p q ps qs} (h:PRel n φ (p::ps) (q::qs)):PRel n φ ps qs:=
 ⟨by simpa using h.1,fun i hi=>by simpa using h.2 (i+1) (by simpa using hi)⟩
theorem PRel.head {n φ p q ps qs} (h:PRel n φ (p::ps) (q::qs)):p.1=q.1∧VRel n φ p.2 q.2:=by simpa using h.2 0 (by simp)
theorem PRel.of_map {n φ sz ρ a} (h:ERel n φ sz ρ a) : ∀ (ps:List (Nat×Operand)),ps.all (fun p=>okOperand p.2)=true →
  PRel n φ (ps.map fun (i,x)=>(i,evalA ρ x)) (ps.map fun (i,x)=>(i,a.eval x))
 | [],_=>⟨rfl,fun i hi=>by simp at hi⟩
 | p::ps,hp=>by
  simp only [List.all_cons,Bool.and_eq_true] at hp
  have ih:=PRel.of_map h ps hp.2
  refine ⟨by simp,fun i hi => ?_⟩
  cases i with
  | zero=>simpa using h.eval hp.1
  | succ i=>simpa using ih.2 i (by simpa using hi)
theorem LRel.set {n φ a a'} (h:LRel n φ a a') {i:Nat} {v v'} (hv:VRel n φ v v'):LRel n φ (a.set i v) (a'.set i v'):=by
 refine ⟨by simpa using h.1,fun j u u' hu hu' => ?_⟩
 simp only [List.getElem?_set] at hu hu'
 split at hu
 ·rename_i hij
  simp only [hij,if_true] at hu'
  split at hu
  ·cases hu
   split at hu'
   ·cases hu';exact hv
   ·cases hu'
  ·cases hu
 ·rename_i hij
  simp only [hij,if_false] at hu'
  exact h.2 j u u' hu hu'
theorem fold_rel {n φ} {off:Nat} : ∀ (vs vs':List Value) (k:Nat) (cs cs':Array Value),LRel n φ vs vs'→LRel n φ cs.toList cs'.toList →
  LRel n φ ((vs.zipIdx k).foldl (fun cs (c,j)=>cs.setIfInBounds (off+j) c) cs).toList ((vs'.zipIdx k).foldl (fun cs (c,j)=>cs.setIfInBounds (off+j) c) cs').toList
 | [],[],_,_,_,_,h=>h
 | [],_::_,_,_,_,h,_=>by simp [LRel] at h
 | _::_,[],_,_,_,h,_=>by simp [LRel] at h
 | v::vs,v'::vs',k,cs,cs',hv,hc=>by
  simp only [List.zipIdx_cons,List.foldl_cons]
  refine fold_rel vs vs' (k+1) _ _ hv.tail ?_
  rw [Array.toList_setIfInBounds,Array.toList_setIfInBounds]
  exact hc.set hv.head
theorem fill_rel {n φ} {place:Nat→Option (Nat×Nat)} : ∀ (ps qs:List (Nat×Value)) (cs cs':Array Value) {r:Array Value},PRel n φ ps qs→LRel n φ cs.toList cs'.toList →
  Instr.fill place cs ps=some r → ∃ r',Instr.fill place cs' qs=some r'∧LRel n φ r.toList r'.toList
 | [],[],_,cs',_,_,hc,h=>by simp [Instr.fill] at h;subst h;exact ⟨cs',rfl,hc⟩
 | [],_::_,_,_,_,h,_,_=>by simp [PRel] at h
 | _::_,[],_,_,_,h,_,_=>by simp [PRel] at h
 | (i,v)::ps,(i',v')::qs,cs,cs',r,hp,hc,h=>by
  obtain ⟨e,hv⟩:=hp.head
  simp only at e hv
  subst e
  have hvl:=hv.cells.1
  simp only [Array.length_toList] at hvl
  have hcl:=hc.1
  simp only [Array.length_toList] at hcl
  simp only [Instr.fill] at h ⊢
  cases hpl:place i with
  | none=>simp [hpl] at h
  | some os=>
   obtain ⟨off,size⟩:=os
   simp only [hpl] at h ⊢
   rw [← hvl,← hcl]
   split at h
   ·cases h
   ·rename_i hcond
    simp only [hcond]
    refine fill_rel ps qs _ _ hp.tail ?_ h
    have:=fold_rel (off:=off) v.cells.toList v'.cells.toList 0 cs cs' hv.cells hc
    rw [← Array.foldl_toList,← Array.foldl_toList]
    simpa using this
theorem fill_size {size:Nat} : ∀ (ps:List (Nat×Value)) (cs:Array Value) {r:Array Value},Instr.fill (fun i=>some (i*size,size)) cs ps=some r→r.size=cs.size:=by
 intro ps
 induction ps with
 | nil=>intro cs r h;simp [Instr.fill] at h;rw [h]
 | cons p ps ih=>
  intro cs r h
  obtain ⟨i,v⟩:=p
  simp only [Instr.fill] at h
  split at h
  ·cases h
  ·rw [ih _ h]
   rw [← Array.foldl_toList]
   generalize v.cells.zipIdx.toList=l
   rename_i hcc
   clear h ih hcc
   induction l generalizing cs with
   | nil=>rfl
   | cons a l ih2=>simp only [List.foldl_cons];rw [ih2];simp
theorem sound_build {P:Program} {base φ H w} (hs:Sim φ H w) {t:TypeId} {ps:List (Nat×Value)} {qs:Array (Nat×Value)} (hp:PRel H.length φ ps qs.toList) {v:Value} (h:buildA P t ps=some v) :
  Sound P base φ H w (Instr.build t qs) v H:=by
 unfold buildA at h
 cases hz:zeroA P t with
 | none=>simp [hz] at h
 | some z=>
  simp only [hz] at h
  split at h
  ·cases h
  ·rename_i hsc
   have hsc:z.cells.all scalarV=true:=by simpa using hsc
   cases hb:P.built t ps with
   | none=>simp [hb] at h
   | some cells=>
    simp only [hb,Option.map_some,Option.some.injEq] at h
    subst h
    have : ∃ cells',P.built t qs.toList=some cells'∧LRel H.length φ cells.toList cells'.toList:=by
     unfold Program.built at hb ⊢
     unfold zeroA at hz
     cases hi:P.info? t with
     | none=>simp [hi] at hz
     | some it=>
      simp only [hi,Option.bind_some] at hz
      cases hu:P.underlying t with
      | none=>simp [hi,hu] at hb
      | some d=>
       cases d<;>try (simp [hi,hu] at hb;done)
       case array n e=>
        cases hie:P.info? e with
        | none=>simp [hi,hu,hie] at hb
        | some ie=>
         simp only [hi,hu,hz,hie] at hb ⊢
         exact fill_rel ps qs.toList z.cells z.cells hp (scalar_cells hsc) hb
       case struct fields=>
        cases hpl:fields.toList.mapM (fun f=>(P.info? f.type).map fun i=>(f.offset,i.size)) with
        | none=>simp [hi,hu,hpl] at hb
        | some places=>
         simp only [hi,hu,hz,hpl] at hb ⊢
         exact fill_rel ps qs.toList z.cells z.cells hp (scalar_cells hsc) hb
    obtain ⟨cells',hb',hrel⟩:=this
    exact .pure hs (run_build w t qs cells' hb') (by simpa using VRel.agg_of hrel)
theorem range_rel {n φ} {z:Value} (hsc:z.cells.all scalarV=true) (k:Nat):LRel n φ ((Array.range k).map (z.cells[· % z.cells.size]!)).toList ((Array.range k).map (z.cells[· % z.cells.size]!)).toList:=by
 refine ⟨rfl,fun i v v' hv hv' => ?_⟩
 rw [hv] at hv'
 cases hv'
 obtain ⟨hi,rfl⟩:=List.getElem?_eq_some_iff.1 hv
 simp only [Array.toList_map,List.getElem_map]
 rcases Nat.eq_zero_or_pos z.cells.size with h0 | h0
 ·rw [getElem!_neg z.cells _ (by omega)]
  exact .scalar rfl
 ·have hlt : ∀ j,j%z.cells.size<z.cells.size:=fun j=>Nat.mod_lt _ h0
  rw [getElem!_pos z.cells _ (hlt _)]
  rw [Array.all_eq_true] at hsc
  exact .scalar (hsc _ (hlt _))
theorem sound_buildSlice {P:Program} {base φ H w} (hs:Sim φ H w) {t:TypeId} {len:Nat} {ps:List (Nat×Value)} {qs:Array (Nat×Value)} (hp:PRel H.length φ ps qs.toList) {v:Value} {H':Heap} (h:buildSliceA P t len ps H=some (v,H')) :
  Sound P base φ H w (Instr.buildSlice t len qs) v H':=by
 simp only [buildSliceA,Option.bind_eq_bind] at h
 cases hu:P.underlying t with
 | none=>simp [hu] at h
 | some d=>
  cases d<;>try (simp [hu] at h;done)
  rename_i e
  simp only [hu,Option.bind_some] at h
  cases hsz:sizeA P e with
  | none=>simp [hsz] at h
  | some size=>
   simp only [hsz,Option.bind_some] at h
   cases hz:zeroA P e with
   | none=>simp [hz] at h
   | some z=>
    simp only [hz,Option.bind_some] at h
    split at h
    ·cases h
    ·rename_i hc
     simp only [not_or,Nat.not_lt,ne_eq,Decidable.not_not,Bool.not_eq_false] at hc
     obtain ⟨h1,h2,h3⟩:=hc
     cases hf:Instr.fill (fun i=>some (i*size,size)) ((Array.range (len*size)).map (z.cells[· % z.cells.size]!)) ps with
     | none=>simp [hf] at h
     | some cells=>
      simp only [hf,Option.bind_some,Option.some.injEq,Prod.mk.injEq] at h
      obtain ⟨rfl,rfl⟩:=h
      obtain ⟨cells',hf',hrel⟩:=fill_rel ps qs.toList _ ((Array.range (len*size)).map (z.cells[· % z.cells.size]!)) hp (range_rel h2 _) hf
      obtain ⟨φ',hst,hv,hφ⟩:=sound_new (P:=P) (base:=base) (sz:=size) hs (cs:=cells') e hrel (fun _=>by
       have hsz2:cells'.size=len*size:=by
        have:=fill_size qs.toList _ hf'
        simpa using this
       rcases Nat.eq_zero_or_pos size with h0 | h0
       ·rw [hsz2,h0];simp
       ·rw [hsz2]
        refine Nat.mul_le_mul_right _ ?_
        have:=Nat.le_mul_of_pos_right len h0
        omega)
      refine ⟨.slice (some ⟨w.heap.size,0,none⟩) len len,w.alloc (.cells cells' e),φ',?_,hst,?_⟩
      ·by_cases h0:len*size=0
       ·have e1:((Array.range (len*size)).map (z.cells[· % z.cells.size]!)) = #[]:=by simp [h0]
        rw [e1] at hf'
        have e3:(Array.map (fun _=>(default:Value)) (Array.range 0)) = #[]:=by simp
        simp [Instr.buildSlice,run_underA hu,run_sizeOf hsz,h0,e3,hf',newRow]
       ·have h1' : ¬ (2 ^ 24<len*size):=by omega
        simp [Instr.buildSlice,run_underA hu,run_sizeOf hsz,run_zeroA hz,h0,h1',hf',newRow]
      ·have hfl:=hrel.1
       have hlen:cells'.size=len*size:=by
        have:=fill_size qs.toList _ hf'
        simpa using this
       have hs0:=VRel.sl (n:=(newA H cells.toList size).length) (φ:=φ') H.length 0 len len len (by simp [newA,newB]) (Nat.le_refl _) (Nat.le_refl _) (by rw [hφ];simp [hlen])
       rw [hφ] at hs0
       simpa [atNew] using hs0
end Go.AM
namespace Go.AM
open Go
theorem pureRun_run {α:Type} {P:Program} : ∀ (s:Sem α) {a:α} (_:pureRun P s=some a) (w:World),s.run P w = .ok a w
 | .pure b,a,h,w=>by simp [pureRun] at h;subst h;rfl
 | .program k,a,h,w=>by simp only [pureRun] at h;simp only [Sem.run];exact pureRun_run (k P) h w
 | .mark m k,a,h,w=>by simp only [pureRun] at h;simp only [Sem.run];exact pureRun_run k h w
 | .load _ _ _,_,h,_ | .store _ _ _ _,_,h,_ | .new _ _,_,h,_ | .shape _ _,_,h,_ | .freeze _ _ _,_,h,_ | .frozen _ _,_,h,_ | .getObj _ _,_,h,_ | .setObj _ _ _,_,h,_
 | .choose _ _,_,h,_ | .sys _ _,_,h,_ | .halt _,_,h,_=>by simp [pureRun] at h
theorem run_eqGuard_int {P:Program} {op:BinOp} {t:TypeId} {x y:Operand} {k:IntKind} {a:Int} {b:Value} (w:World):(eqGuard op t x y (.int k a) b).run P w = .ok () w:=by
 cases op<;>simp [eqGuard]
theorem run_eqGuard_str {P:Program} {op:BinOp} {t:TypeId} {x y:Operand} {a:ByteArray} {b:Value} (w:World):(eqGuard op t x y (.string a) b).run P w = .ok () w:=by
 cases op<;>simp [eqGuard]
theorem run_eqGuard_bool {P:Program} {op:BinOp} {t:TypeId} {x y:Operand} {a:Bool} {b:Value} (w:World):(eqGuard op t x y (.bool a) b).run P w = .ok () w:=by
 cases op<;>simp [eqGuard]
theorem run_intBin {P:Program} {op:BinOp} {k:IntKind} {a b:Int} {v:Value} (h:intBin op k a b=some v) {t:TypeId} (w:World):(binOp op t (.int k a) (.int k b)).run P w = .ok v w∧scalarV v=true:=by
 cases op<;>simp only [intBin] at h
 case quo | rem=>
  split at h
  ·cases h
  ·rename_i hb;cases h;simp [binOp,Op.intDiv,hb,scalarV]
 all_goals first
  | (cases h;done)
  | (cases h;simp [binOp,Op.intArith,Op.intCmp,scalarV])
theorem run_equalIn_bool {P:Program} {t:TypeId} {a b:Bool} (d:Nat) (h:P.underlying t=some .bool) (w:World):(Op.equalIn (d+1) t (.bool a) (.bool b)).run P w = .ok (a==b) w:=by
 simp only [Op.equalIn,Sem.run_bind,run_underA h,Result.andThen_ok]
 rfl
theorem run_equal_bool {P:Program} {t:TypeId} {a b:Bool} (h:P.underlying t=some .bool) (w:World):(Op.equal t (.bool a) (.bool b)).run P w = .ok (a==b) w:=
 run_equalIn_bool 9999 h w
theorem run_binA {P:Program} {op:BinOp} {t:TypeId} {x y v:Value} (h:binA P op t x y=some v) {ox oy:Operand} (w:World) :
  (do eqGuard op t ox oy x y;binOp op t x y:Sem Value).run P w = .ok v w∧scalarV x=true∧scalarV y=true∧scalarV v=true:=by
 unfold binA at h
 split at h
 ·rename_i k a k' b
  have hg:(eqGuard op t ox oy (.int k a) (.int k' b)).run P w = .ok () w:=run_eqGuard_int w
  split at h
  ·split at h
   ·cases h
   ·rename_i hb;cases h
    simp [Sem.run_bind,hg,binOp,Op.shift,hb,scalarV]
  ·split at h
   ·cases h
   ·rename_i hb;cases h
    simp [Sem.run_bind,hg,binOp,Op.shift,hb,scalarV]
  ·split at h
   ·rename_i hk;subst hk
    have hr:=pureRun_run _ h w
    have:scalarV v=true:=by simp [Op.intBits,pureRun] at h;cases h;rfl
    refine ⟨?_,rfl,rfl,this⟩
    simp only [Sem.run_bind,hg,Result.andThen_ok]
    simpa [binOp] using hr
   ·cases h
  ·split at h
   ·rename_i hk;subst hk
    have hr:=pureRun_run _ h w
    have:scalarV v=true:=by simp [Op.intBits,pureRun] at h;cases h;rfl
    refine ⟨?_,rfl,rfl,this⟩
    simp only [Sem.run_bind,hg,Result.andThen_ok]
    simpa [binOp] using hr
   ·cases h
  ·split at h
   ·rename_i hk;subst hk
    have hr:=pureRun_run _ h w
    have:scalarV v=true:=by simp [Op.intBits,pureRun] at h;cases h;rfl
    refine ⟨?_,rfl,rfl,this⟩
    simp only [Sem.run_bind,hg,Result.andThen_ok]
    simpa [binOp] using hr
   ·cases h
  ·split at h
   ·rename_i hk;subst hk
    have hr:=pureRun_run _ h w
    have:scalarV v=true:=by simp [Op.intBits,pureRun] at h;cases h;rfl
    refine ⟨?_,rfl,rfl,this⟩
    simp only [Sem.run_bind,hg,Result.andThen_ok]
    simpa [binOp] using hr
   ·cases h
  ·split at h
   ·rename_i hk;subst hk
    have hr:=run_intBin (P:=P) (t:=t) h w
    refine ⟨?_,rfl,rfl,hr.2⟩
    simp only [Sem.run_bind,hg,Result.andThen_ok]
    exact hr.1
   ·cases h
 ·rename_i a b
  have hg:(eqGuard op t ox oy (.string a) (.string b)).run P w = .ok () w:=run_eqGuard_str w
  simp only [Sem.run_bind,hg,Result.andThen_ok]
  cases op<;>simp only [strBin] at h
  case add=>
   split at h
   ·cases h
   ·rename_i hb;cases h;simp only [binOp,Op.stringOp,hb,if_false];simp [scalarV]
  all_goals first
   | (cases h;done)
   | (cases h;simp [binOp,Op.stringOp,scalarV])
 ·rename_i a b
  have hg:(eqGuard op t ox oy (.bool a) (.bool b)).run P w = .ok () w:=run_eqGuard_bool w
  simp only [Sem.run_bind,hg,Result.andThen_ok]
  cases op<;>simp only at h
  case eql | neq=>
   split at h
   ·rename_i hu
    cases h
    cases hu':P.underlying t with
    | none=>simp [hu'] at hu
    | some d=>
     cases d<;>simp [hu'] at hu
     have he:=run_equal_bool (a:=a) (b:=b) hu' w
     refine ⟨?_,rfl,rfl,rfl⟩
     first
      | (rw [show binOp .eql t (.bool a) (.bool b)=(do pure (.bool (← Op.equal t (.bool a) (.bool b)))) from rfl];simp [he])
      | (rw [show binOp .neq t (.bool a) (.bool b)=(do pure (.bool (!(← Op.equal t (.bool a) (.bool b))))) from rfl];simp [he])
   ·cases h
  all_goals cases h
 ·cases h
theorem run_equalIn_nil {P:Program} {t:TypeId} {n φ x y x' y'} {b:Bool} (d:Nat) (h:nilEq P t x y=some b) (hx:VRel n φ x x') (hy:VRel n φ y y') (w:World) :
  (Op.equalIn (d+1) t x' y').run P w = .ok b w:=by
 unfold nilEq at h
 split at h<;>first | (cases h;done) | skip
 all_goals
  rename_i hu
  cases h
  simp only [Op.equalIn,Sem.run_bind,run_underA hu,Result.andThen_ok]
  cases hx<;>cases hy<;>rfl
theorem guard_nil {P:Program} {t:TypeId} {n φ x y x' y'} {b:Bool} (h:nilEq P t x y=some b) (hx:VRel n φ x x') (hy:VRel n φ y y') (op:BinOp) (ox oy:Operand) (w:World) :
  (eqGuard op t ox oy x' y').run P w = .ok () w:=by
 unfold nilEq at h
 split at h<;>first | (cases h;done) | skip
 all_goals cases hx<;>cases hy<;>cases op<;>simp [eqGuard]
theorem run_nilEq {P:Program} {n φ} {t:TypeId} {x y x' y':Value} {b:Bool} (h:nilEq P t x y=some b) (hx:VRel n φ x x') (hy:VRel n φ y y') {ox oy:Operand} (w:World) :
  (do eqGuard .eql t ox oy x' y';binOp .eql t x' y':Sem Value).run P w = .ok (.bool b) w∧(do eqGuard .neq t ox oy x' y';binOp .neq t x' y':Sem Value).run P w = .ok (.bool !b) w:=by
 have he:(Op.equal t x' y').run P w = .ok b w:=run_equalIn_nil 9999 h hx hy w
 simp only [Sem.run_bind,guard_nil h hx hy,Result.andThen_ok]
 have h1:binOp .eql t x' y'=(do pure (.bool (← Op.equal t x' y')))∧binOp .neq t x' y'=(do pure (.bool (!(← Op.equal t x' y')))):=by
  unfold nilEq at h
  split at h<;>first | (cases h;done) | skip
  all_goals cases hx<;>cases hy<;>exact ⟨rfl,rfl⟩
 rw [h1.1,h1.2]
 simp [he]
theorem run_unA {P:Program} {op:UnOp} {x:Value} {v:Value} (h:(match op,x with
  | .not,.bool b=>some (.bool !b)
  | .neg,.int k n=>some (.int k (k.wrap (0 - n)))
  | .xor,.int k n=>pureRun P (Op.intBits .xor k (if k.signed then -1 else k.max) n)
  | _,_=>(none:Option Value))=some v) (w:World):(Op.unary op x).run P w = .ok v w∧scalarV x=true:=by
 split at h
 ·cases h;simp [Op.unary,scalarV]
 ·cases h;simp [Op.unary,Op.intArith,scalarV]
 ·exact ⟨pureRun_run _ h w,rfl⟩
 ·cases h
theorem sound_conv {P:Program} {base φ H w} (hs:Sim φ H w) {s d:TypeId} {x x' v:Value} {H':Heap} (h:convA P s d x H=some (v,H')) (hx:VRel H.length φ x x') :
  Sound P base φ H w (convert s d x') v H':=by
 simp only [convA,Option.bind_eq_bind] at h
 cases hu:P.underlying s with
 | none=>simp [hu] at h
 | some us=>
  cases hd:P.underlying d with
  | none=>simp [hu,hd] at h
  | some ud=>
   simp only [hu,hd,Option.bind_some] at h
   split at h
   ·cases h;cases hx
    exact .pure hs (by simp [convert,run_underA hu,run_underA hd,Conv.intToInt]) (.int _ _)
   ·cases h;cases hx
    exact .pure hs (by simp [convert,run_underA hu,run_underA hd]) (.string _)
   ·rename_i e a
    cases he:P.underlying e with
    | none=>simp [he] at h
    | some ue=>
     simp only [he,Option.bind_some] at h
     split at h
     ·cases h;cases hx
      have hheap:(Lib.bytesWorld w e a).heap=w.heap.push (.cells (Lib.bytesCells w e a) e ((Lib.bytesCells w e a).size,(Lib.bytesCells w e a).size+1)):=by
       apply Array.ext_getElem?
       intro i
       rcases Nat.lt_trichotomy i w.heap.size with hi | hi | hi
       ·rw [Lib.bytesWorld_at_old w e a i hi,Array.getElem?_push_lt hi];simp [hi]
       ·subst hi;rw [Lib.bytesWorld_at_new];simp
       ·rw [Array.getElem?_eq_none (by rw [Lib.bytesWorld_size];omega),Array.getElem?_eq_none (by simp;omega)]
      have hge:=grownCap_ge w a.size 0 e
      have hsz:(Lib.bytesCells w e a).size=grownCap w a.size 0 e:=by simp [Lib.bytesCells];omega
      have st:=step_new (base:=base) (sz:=1) (cells:=a.data.toList.map fun b=>Value.int .u8 b.toNat) (fin:=(Lib.bytesCells w e a).size) hs hheap rfl rfl rfl (by simp [hsz];omega) (Nat.le_refl _) (fun i h1 h2=>by have h1:=h1.resolve_right (fun h=>h rfl);simp at h2;omega) (fun h=>absurd rfl h) (fun i v hv=>by
       refine ⟨v,?_,?_⟩
       ·have hi:=(List.getElem?_eq_some_iff.1 hv).1
        simp at hi
        simp only [Lib.bytesCells]
        rw [Array.getElem?_append_left (by simpa using hi)]
        simpa using hv
       ·simp at hv
        obtain ⟨b,_,rfl⟩:=hv
        exact .int _ _)
      refine ⟨_,_,_,Lib.run_convert_string_bytes w s d e a hu hd he,st,?_⟩
      have:=VRel.sl (n:=(newA H (a.data.toList.map fun b=>Value.int .u8 b.toNat) 1).length) (φ:=extP φ H.length ⟨w.heap.size,0,(Lib.bytesCells w e a).size,1⟩) H.length 0 a.size a.size (grownCap w a.size 0 e) (by simp [newA,newB]) (Nat.le_refl _) hge (by rw [extP_eq];simp [hsz])
      rw [extP_eq] at this
      simpa [atNew] using this
     ·cases h
   ·rename_i e b n c
    cases he:P.underlying e with
    | none=>simp [he] at h
    | some ue=>
     simp only [he,Option.bind_some] at h
     split at h
     ·split at h
      ·cases h
       cases hx
       exact .pure hs (by simp [convert,run_underA hu,run_underA hd,run_underA he,Conv.bytesToString]) (.string _)
      ·rename_i a
       split at h
       ·rename_i hn0
        subst hn0
        cases h
        have key : ∀ B c',(convert s d (.slice (some B) 0 c')).run P w = .ok (.string .empty) w:=by
         intro B c'
         simp only [convert,Sem.run_bind,run_underA hu,run_underA hd,run_underA he,Result.andThen_ok]
         simp [Conv.bytesToString,loadCells,loadCellsFrom]
        cases hx<;>exact .pure hs (key _ _) (.string _)
       rename_i hn0
       cases hr:readA H a n with
       | none=>simp [hr] at h
       | some cs=>
        simp only [hr,Option.bind_some] at h
        cases hb:u8s cs with
        | none=>simp [hb] at h
        | some xs=>
         simp only [hb,Option.bind_some,Option.some.injEq,Prod.mk.injEq] at h
         obtain ⟨rfl,rfl⟩:=h
         obtain ⟨cs',hrel,hlen,hcell,hrun⟩:=run_read (P:=P) hs hr
         have hxs : ∀ (cs:List Value) {xs:List Int},u8s cs=some xs→cs=xs.map (Value.int .u8):=by
          intro cs
          induction cs with
          | nil=>intro xs h;simp [u8s] at h;subst h;rfl
          | cons c cs ih=>
           intro xs h
           unfold u8s at h
           split at h
           ·rename_i he;cases he
           ·rename_i k r he
            cases he
            cases hr:u8s cs with
            | none=>simp [hr] at h
            | some ys=>
             simp only [hr,Option.map_some,Option.some.injEq] at h
             subst h
             rw [ih hr]
             rfl
           ·cases h
         have hcs:=hxs cs hb
         have hcs':cs'=xs.map (Value.int .u8):=by
          apply List.ext_getElem?
          intro i
          by_cases hi:i<cs.length
          ·have hi':i<cs'.length:=by rw [← hrel.1];exact hi
           have h1:=hrel.2 i cs[i] cs'[i] (List.getElem?_eq_getElem hi) (List.getElem?_eq_getElem hi')
           have hcl:scalarV cs[i]=true:=by simp [hcs,scalarV]
           rw [List.getElem?_eq_getElem hi',h1.scalar_eq hcl,← List.getElem?_eq_getElem hi,hcs]
          ·rw [List.getElem?_eq_none (by rw [← hrel.1];omega),List.getElem?_eq_none (by rw [← hcs];omega)]
         have hxl:xs.length=n:=by rw [← hlen,hcs];simp
         have key : ∀ B o c',(∀ (j:Nat) (v:Value),cs'[j]?=some v→w.cell? ⟨B,o+j,none⟩=some v)→(convert s d (.slice (some ⟨B,o,none⟩) n c')).run P w = .ok (.string (strOfNums xs)) w:=by
          intro B o c' hc
          refine run_convert_bytes_arg w s e hu he B o n c' xs hxl (fun i hi => ?_) d hd
          refine hc i _ ?_
          rw [hcs']
          simp [hxl,hi,List.getD_eq_getElem?_getD]
         cases hx with
         | sl h o l m c' hn hl hm hf=>
          refine .pure hs (key _ _ c' fun j v hv => ?_) (.string _)
          exact hcell j v hv
         | slEmp _ _ b _=>exact absurd rfl hn0
         | slFree b=>exact absurd rfl hn0
     ·cases h
   ·cases h
end Go.AM
namespace Go.AM
open Go
theorem natA_inv {n φ v v' k} (h:natA v=some k) (hv:VRel n φ v v') : ∃ kd i,v' = .int kd i∧0≤i∧i.toNat=k:=by
 cases v with
 | int kd i=>
  simp only [natA] at h
  split at h
  ·rename_i hi;cases h;cases hv;exact ⟨kd,i,rfl,hi,rfl⟩
  ·cases h
 | _=>simp [natA] at h
theorem run_bound {P:Program} {n φ v v' k y code} (h:natA v=some k) (hv:VRel n φ v v') (hk:k≤y) (w:World):(Instr.sliceBound v' y code).run P w = .ok k w:=by
 obtain ⟨kd,i,rfl,hi,rfl⟩:=natA_inv h hv
 have:0≤i∧i≤(y:Int):=by omega
 simp [Instr.sliceBound,asIntOf,this]
def ORel (n:Nat) (φ:Nat→Place) (x y:Option Value):Prop:=match x,y with | none,none=>True | some v,some v'=>VRel n φ v v' | _,_=>False
theorem run_bounds {P:Program} {n φ} {isSlice:Bool} {len cap:Nat} {lo hi mx lo' hi' mx':Option Value} {l h m:Option Nat} (hl:optNat lo=some l) (hh:optNat hi=some h) (hm:optNat mx=some m)
  (rl:ORel n φ lo lo') (rh:ORel n φ hi hi') (rm:ORel n φ mx mx') (hc:(m.isSome&&h.isNone)=false)
  (b1:l.getD 0≤h.getD len) (b2:h.getD len≤m.getD cap) (b3:m.getD cap≤cap) (w:World) :
  (Instr.sliceBounds isSlice len cap lo' hi' mx').run P w = .ok (l.getD 0,h.getD len,m.getD cap) w:=by
 have inv : ∀ {x x':Option Value} {k:Option Nat},optNat x=some k→ORel n φ x x'→(k=none∧x'=none) ∨ ∃ v v' j,x'=some v'∧k=some j∧natA v=some j∧VRel n φ v v':=by
  intro x x' k hx hr
  cases x with
  | none=>cases x' with | none=>simp [optNat] at hx;exact .inl ⟨hx.symm,rfl⟩ | some _=>exact hr.elim
  | some v=>
   cases x' with
   | none=>exact hr.elim
   | some v' =>
    simp only [optNat,Option.map_eq_some_iff] at hx
    obtain ⟨j,hj,rfl⟩:=hx
    exact .inr ⟨v,v',j,rfl,rfl,hj,hr⟩
 rcases inv hl rl with ⟨rfl,rfl⟩ | ⟨vl,vl',jl,rfl,rfl,nl,rl⟩<;>rcases inv hh rh with ⟨rfl,rfl⟩ | ⟨vh,vh',jh,rfl,rfl,nh,rh⟩<;>rcases inv hm rm with ⟨rfl,rfl⟩ | ⟨vm,vm',jm,rfl,rfl,nm,rm⟩ <;>
  simp at hc b1 b2 b3 ⊢ <;>
  (
   simp only [Instr.sliceBounds,Sem.run_bind,Sem.run_pure,Result.andThen_ok]
   try rw [run_bound nm rm (by omega)]
   try simp only [Result.andThen_ok]
   try rw [run_bound nh rh (by omega)]
   try simp only [Result.andThen_ok]
   try rw [run_bound nl rl (by omega)]
   try simp)
theorem sound_slice {P:Program} {base φ H w} (hs:Sim φ H w) {t:TypeId} {x x' v:Value} {lo hi mx lo' hi' mx':Option Value} (h:sliceA P t x lo hi mx H=some v) (hx:VRel H.length φ x x')
  (rl:ORel H.length φ lo lo') (rh:ORel H.length φ hi hi') (rm:ORel H.length φ mx mx'):Sound P base φ H w (Instr.sliceAt t x' lo' hi' mx') v H:=by
 simp only [sliceA,Option.bind_eq_bind] at h
 cases hl:optNat lo with
 | none=>simp [hl] at h
 | some l=>
 cases hh:optNat hi with
 | none=>simp [hl,hh] at h
 | some hh' =>
 cases hm:optNat mx with
 | none=>simp [hl,hh,hm] at h
 | some m=>
 cases hu:P.underlying t with
 | none=>simp [hl,hh,hm,hu] at h
 | some d=>
 simp only [hl,hh,hm,hu,Option.bind_some] at h
 split at h
 ·rename_i s
  split at h
  ·cases h
  ·rename_i hmx
   split at h
   ·rename_i hb
    cases h
    cases hx
    have hmn:m=none:=by simpa using hmx
    subst hmn
    have hmx':mx'=none:=by
     cases mx with
     | none=>cases mx' with | none=>rfl | some _=>exact rm.elim
     | some v=>simp [optNat] at hm
    subst hmx'
    have hr:=run_bounds (P:=P) (isSlice:=false) (len:=s.size) (cap:=s.size) hl hh (show optNat none=some none from rfl) rl rh (show ORel H.length φ none none from trivial) rfl hb.1 hb.2 (Nat.le_refl _) w
    refine .pure hs ?_ (.string _)
    simp [Instr.sliceAt,Instr.slice,run_underA hu,hr]
   ·cases h
 ·rename_i e a len cap
  cases hsz:sizeA P e with
  | none=>simp [hsz] at h
  | some sz=>
  simp only [hsz,Option.bind_some] at h
  split at h
  ·cases h
  ·rename_i hc
   have hc:(m.isSome&&hh'.isNone)=false:=Bool.eq_false_iff.2 hc
   split at h
   ·rename_i hb
    obtain ⟨b1,b2,b3⟩:=hb
    cases hx with
    | slNil _ _=>
     simp only [Option.some.injEq] at h
     subst h
     have hr:=run_bounds (P:=P) (isSlice:=true) (len:=len) (cap:=cap) hl hh hm rl rh rm hc b1 b2 b3 w
     refine .pure hs ?_ (.slNil _ _)
     simp [Instr.sliceAt,Instr.slice,run_underA hu,hr,run_sizeOf hsz]
    | sl hd o _ _ c hn hlm hmc hf=>
     have hmc':m.getD cap≤m.getD c:=by cases m<;>simp;omega
     have hr:=run_bounds (P:=P) (isSlice:=true) (len:=len) (cap:=c) hl hh hm rl rh rm hc b1 (by omega) (by cases m<;>simp at b3 ⊢;omega) w
     have hle:m.getD c≤c:=by cases m<;>simp at b3 ⊢;omega
     have hrun:(Instr.sliceAt t (.slice (some ⟨(φ hd).B,(φ hd).base+o,none⟩) len c) lo' hi' mx').run P w =
       .ok (.slice (some (if m.getD c=l.getD 0 then ⟨(φ hd).B,(φ hd).base+o,none⟩ else (⟨(φ hd).B,(φ hd).base+o,none⟩:Addr).add (l.getD 0*sz))) (hh'.getD len - l.getD 0) (m.getD c - l.getD 0)) w:=by
      simp only [Instr.sliceAt,Instr.slice,Sem.run_bind,run_underA hu,Result.andThen_ok,hr,run_sizeOf hsz]
      split<;>rfl
     simp only at h
     by_cases hfree:m.isSome=true∧m.getD cap=l.getD 0
     ·rw [if_pos hfree] at h
      cases h
      have e0:m.getD c=l.getD 0:=by
       cases m with
       | none=>simp at hfree
       | some m=>simpa using hfree
      have e1:hh'.getD len - l.getD 0=0:=by omega
      have e3:m.getD c - l.getD 0=0:=by omega
      refine .pure hs hrun ?_
      simp only [e1,e3]
      exact .slFree _
     rw [if_neg hfree] at h
     by_cases hl0:l.getD 0=0
     ·simp only [hl0,if_true,Option.some.injEq] at h
      subst h
      refine .pure hs hrun ?_
      simp only [hl0,Nat.zero_mul,Nat.sub_zero,add_none,Nat.add_zero,ite_self]
      refine .sl hd o _ _ _ hn b2 hmc' ?_
      have:m.getD c*(φ hd).sz≤c*(φ hd).sz:=Nat.mul_le_mul_right _ hle
      omega
     ·simp only [hl0,if_false,Option.isSome_none,Bool.false_eq_true] at h
      cases hg:hget H hd with
      | none=>simp [hg] at h
      | some b=>
       simp only [hg] at h
       split at h
       ·rename_i hbz
        simp only [Option.some.injEq] at h
        subst h
        obtain ⟨_,_,_,_,_,_,hsz',_⟩:=hs.cov hd b hg
        refine .pure hs hrun ?_
        by_cases hcl:m.getD c=l.getD 0
        ·have e1:hh'.getD len - l.getD 0=0:=by omega
         have e2:m.getD cap - l.getD 0=0:=by omega
         have e3:m.getD c - l.getD 0=0:=by omega
         simp only [e1,e2,e3]
         exact .slEmp _ _ _ hn
        ·simp only [hcl,if_false,add_none,Nat.add_assoc]
         refine .sl hd (o+l.getD 0*sz) _ _ _ hn (by omega) (by omega) ?_
         have hq:(φ hd).sz=sz:=by rw [hsz',hbz]
         rw [hq] at hf ⊢
         have h1:l.getD 0*sz+(m.getD c - l.getD 0)*sz=m.getD c*sz:=by rw [← Nat.add_mul];congr 1;omega
         have h2:m.getD c*sz≤c*sz:=Nat.mul_le_mul_right _ hle
         omega
       ·cases h
    | slEmp _ _ b hhn=>
     have hl0:l.getD 0=0:=by omega
     have hh0:hh'.getD 0=0:=by omega
     have hm0:m.getD 0=0:=by omega
     have hr:=run_bounds (P:=P) (isSlice:=true) (len:=0) (cap:=0) hl hh hm rl rh rm hc b1 b2 b3 w
     have hrun:(Instr.sliceAt t (.slice (some b) 0 0) lo' hi' mx').run P w = .ok (.slice (some b) 0 0) w:=by
      simp only [Instr.sliceAt,Instr.slice,Sem.run_bind,run_underA hu,Result.andThen_ok,hr,run_sizeOf hsz,hl0,hh0,hm0]
      simp
     simp only at h
     by_cases hfree:m.isSome=true∧m.getD 0=l.getD 0
     ·rw [if_pos hfree] at h
      cases h
      exact .pure hs hrun (.slFree _)
     rw [if_neg hfree] at h
     simp only [hl0,if_true,Option.some.injEq] at h
     subst h
     exact .pure hs hrun (by rw [hh0,hm0];exact .slEmp _ _ _ hhn)
    | slFree b=>
     have hl0:l.getD 0=0:=by omega
     have hh0:hh'.getD 0=0:=by omega
     have hm0:m.getD 0=0:=by omega
     have hr:=run_bounds (P:=P) (isSlice:=true) (len:=0) (cap:=0) hl hh hm rl rh rm hc b1 b2 b3 w
     have hrun:(Instr.sliceAt t (.slice (some b) 0 0) lo' hi' mx').run P w = .ok (.slice (some b) 0 0) w:=by
      simp only [Instr.sliceAt,Instr.slice,Sem.run_bind,run_underA hu,Result.andThen_ok,hr,run_sizeOf hsz,hl0,hh0,hm0]
      simp
     simp only at h
     by_cases hfree:m.isSome=true∧m.getD 0=l.getD 0
     ·rw [if_pos hfree] at h
      cases h
      exact .pure hs hrun (.slFree _)
     rw [if_neg hfree] at h
     simp only [hl0,if_true,Option.some.injEq] at h
     subst h
     exact .pure hs hrun (by rw [hh0,hm0];exact .slFree _)
   ·cases h
 ·cases h
theorem sound_fieldAt {P:Program} {base φ H w} (hs:Sim φ H w) {s:TypeId} {x x' v:Value} {f:Nat} (h:fieldAtA P s x f=some v) (hx:VRel H.length φ x x'):Sound P base φ H w (Instr.fieldAt s x' f) v H:=by
 simp only [fieldAtA,Option.bind_eq_bind] at h
 cases hu:P.underlying s with
 | none=>simp [hu] at h
 | some d=>
  cases d<;>try (simp [hu] at h;done)
  rename_i fields
  simp only [hu,Option.bind_some] at h
  cases hf:fields[f]? with
  | none=>simp [hf] at h
  | some fd=>
   simp only [hf,Option.bind_some] at h
   cases x<;>try (simp at h;done)
   rename_i p
   cases p with
   | none=>simp at h
   | some a=>
    simp only at h
    cases hsz:sizeA P fd.type with
    | none=>simp [hsz] at h
    | some sz=>
     simp only [hsz,Option.bind_some] at h
     split at h
     ·cases h
     ·rename_i hc
      simp only [not_or] at hc
      simp only [Option.some.injEq] at h
      subst h
      obtain ⟨hn,ha,rfl⟩:=ptr_inv hx (by simpa using hc.1)
      refine .pure hs (v':=.pointer (some ⟨(φ a.block).B,(φ a.block).base+(a.off+fd.offset),none⟩)) ?_ (.ptr _ _ hn)
      simp [Instr.fieldAt,run_underA hu,hf,Instr.sureAddr,fieldPlace,run_sizeOf hsz,hc.2,add_none,Nat.add_assoc]
theorem sound_field {P:Program} {base φ H w} (hs:Sim φ H w) {s:TypeId} {x x' v:Value} {f:Nat} (h:fieldVA P s x f=some v) (hx:VRel H.length φ x x'):Sound P base φ H w (Instr.field s x' f) v H:=by
 unfold fieldVA at h
 split at h
 ·rename_i fields cs hu
  split at h
  ·rename_i fd hf
   split at h
   ·rename_i n hg hn
    split at h
    ·rename_i hc
     cases h
     cases hx with
     | agg _ ys h1 h2=>
      refine .pure hs (v':=.agg (ys.extract fd.offset (fd.offset+n))) ?_ (.agg _ _ (by simp [h1]) fun i hi hi' => ?_)
      ·simp [Instr.field,run_underA hu,hf,asAgg,part,run_isAgg hg,run_sizeOf hn]
      ·simp only [Array.getElem_extract]
       exact h2 _ _ _
    ·cases h
   ·rename_i n hg hn
    cases hx with
    | agg _ ys h1 h2=>
     obtain ⟨hi,rfl⟩:=Array.getElem?_eq_some_iff.1 h
     have hi':fd.offset<ys.size:=h1▸hi
     refine .pure hs (v':=ys[fd.offset]) ?_ (h2 _ _ _)
     simp [Instr.field,run_underA hu,hf,asAgg,part,run_isAgg hg,hi']
   ·cases h
  ·cases h
 ·cases h
theorem sound_indexAt {P:Program} {base φ H w} (hs:Sim φ H w) {t:TypeId} {x x' i i' v:Value} (h:indexAtA P t x i=some v) (hx:VRel H.length φ x x') (hi:VRel H.length φ i i'):Sound P base φ H w (Instr.indexAt t x' i') v H:=by
 simp only [indexAtA,Option.bind_eq_bind] at h
 cases i<;>try (simp at h;done)
 rename_i k i
 cases hi
 simp only at h
 cases hu:P.underlying t with
 | none=>simp [hu] at h
 | some d=>
  simp only [hu,Option.bind_some] at h
  split at h
  ·rename_i e a len cap
   split at h
   ·rename_i hc
    obtain ⟨h0,h1,hsp⟩:=hc
    cases hsz:sizeA P e with
    | none=>simp [hsz] at h
    | some sz=>
     simp only [hsz,Option.bind_some,Option.some.injEq] at h
     subst h
     cases hx with
     | sl hd o _ _ c hn hl hm hf=>
      refine .pure hs (v':=.pointer (some ⟨(φ hd).B,(φ hd).base+(o+i.toNat*sz),none⟩)) ?_ (.ptr _ _ hn)
      simp [Instr.indexAt,asIntOf,run_underA hu,h0,h1,run_sizeOf hsz,add_none,Nat.add_assoc]
     | slEmp=>omega
     | slFree=>simp [freeA] at hsp
   ·cases h
  ·cases h
theorem sound_index {P:Program} {base φ H w} (hs:Sim φ H w) {t:TypeId} {s:ByteArray} {k:IntKind} {i:Int} {b:UInt8} (hu:P.underlying t=some .string) (h0:0≤i) (hb:s.data[i.toNat]?=some b) :
  Sound P base φ H w (Instr.index t (.string s) (.int k i)) (.int .u8 b.toNat) H:=by
 have hb':s[i.toNat]?=some b:=by
  obtain ⟨hlt,e⟩:=Array.getElem?_eq_some_iff.1 hb
  have:i.toNat<s.size:=hlt
  rw [getElem?_pos s i.toNat this]
  exact congrArg some e
 refine .pure hs (v':=.int .u8 b.toNat) ?_ (.int _ _)
 simp [Instr.index,asIntOf,run_underA hu,h0,hb']
theorem VRel.tuple_get {n φ x' v} {vs:Array Value} {i:Nat} (h:VRel n φ (.tuple vs) x') (hv:vs[i]?=some v) : ∃ (vs':Array Value) (v':Value),x' = .tuple vs'∧vs'[i]?=some v'∧VRel n φ v v':=by
 cases h with
 | tuple xs ys h1 h2=>
  obtain ⟨hi,rfl⟩:=Array.getElem?_eq_some_iff.1 hv
  exact ⟨ys,ys[i]'(by omega),rfl,by simp [show i<ys.size by omega],h2 i hi (by omega)⟩
theorem sound_makeSlice {P:Program} {base φ H w} (hs:Sim φ H w) {t:TypeId} {l c l' c' v:Value} {H':Heap} (h:makeSliceA P t l c H=some (v,H')) (hl:VRel H.length φ l l') (hc:VRel H.length φ c c') :
  Sound P base φ H w (Instr.makeSlice t l' c') v H':=by
 simp only [makeSliceA,Option.bind_eq_bind] at h
 cases hu:P.underlying t with
 | none=>simp [hu] at h
 | some d=>
  cases d<;>try (simp [hu] at h;done)
  rename_i e
  simp only [hu,Option.bind_some] at h
  cases hi:P.info? e with
  | none=>simp [hi] at h
  | some info=>
   simp only [hi,Option.bind_some] at h
   cases hz:info.zero with
   | none=>simp [hz] at h
   | some z=>
    simp only [hz,Option.bind_some] at h
    cases l<;>try (simp at h;done)
    rename_i k1 l
    cases k1<;>try (simp at h;done)
    cases c<;>try (simp at h;done)
    rename_i k2 c
    cases k2<;>try (simp at h;done)
    cases hl;cases hc
    simp only at h
    split at h
    ·rename_i hcond
     obtain ⟨h0,h1,h2,h3,h4,h5⟩:=hcond
     simp only [Option.some.injEq,Prod.mk.injEq] at h
     obtain ⟨rfl,rfl⟩:=h
     have hwl:IntKind.i64.wrap l=l:=by simp [IntKind.wrap,IntKind.bits,IntKind.signed];omega
     have hwc:IntKind.i64.wrap c=c:=by simp [IntKind.wrap,IntKind.bits,IntKind.signed];omega
     have hle:l.toNat*info.size≤c.toNat*info.size:=Nat.mul_le_mul_right _ (by omega)
     obtain ⟨φ',hst,hφ⟩:=sound_newT (P:=P) (base:=base) (sz:=info.size) hs (cells:=((Array.range (l.toNat*info.size)).map (z.cells[· % z.cells.size]!)).toList) (cs:=(Array.range (c.toNat*info.size)).map (z.cells[· % z.cells.size]!)) e (by simpa using hle) (fun i v hv=>by
      have hr:=range_rel (n:=H.length) (φ:=φ) h4 (l.toNat*info.size)
      have hi:=(List.getElem?_eq_some_iff.1 hv).1
      have hi2:i<c.toNat*info.size:=by simp at hi;omega
      refine ⟨v,?_,hr.2 i v v hv hv⟩
      rw [← hv]
      simp at hi
      simp [hi,hi2]) (fun _=>by
      simp only [Array.size_map,Array.size_range]
      exact Nat.mul_le_mul_right _ (by omega))
     refine ⟨.slice (some ⟨w.heap.size,0,none⟩) l.toNat c.toNat,w.alloc (.cells ((Array.range (c.toNat*info.size)).map (z.cells[· % z.cells.size]!)) e),φ',?_,hst,?_⟩
     ·have g1 : ¬ (c<0):=by omega
      have g2 : ¬ ((281474976710656:Int)<(info.bytes:Int)*c):=by omega
      have g3 : ¬ (l<0):=by omega
      have g4 : ¬ (c<l):=by omega
      have hzz:zeroA P e=some z:=by simp [zeroA,hi,hz]
      by_cases hn:c.toNat*info.size=0
      ·have e1:((Array.range (c.toNat*info.size)).map (z.cells[· % z.cells.size]!)) = #[]:=by rw [hn];simp
       have e3:(Array.map (fun _=>(default:Value)) (Array.range 0)) = #[]:=by simp
       rw [e1]
       simp [Instr.makeSlice,run_underA hu,run_infoA hi,asInt,asIntOf,hwl,hwc,g1,g2,g3,g4,sizeOf,hn,newRow,e3]
      ·simp [Instr.makeSlice,run_underA hu,run_infoA hi,asInt,asIntOf,hwl,hwc,g1,g2,g3,g4,sizeOf,hn,newRow,run_zeroA hzz]
     ·have hs0:=VRel.sl (n:=(newA H ((Array.range (l.toNat*info.size)).map (z.cells[· % z.cells.size]!)).toList info.size).length) (φ:=φ') H.length 0 l.toNat l.toNat c.toNat (by simp [newA,newB]) (Nat.le_refl _) (by omega) (by rw [hφ];simp)
      rw [hφ] at hs0
      simpa [atNew] using hs0
    ·cases h
end Go.AM
namespace Go.AM
open Go
theorem Sim.heap {φ H} {w w1:World} (hs:Sim φ H w) (h:w1.heap=w.heap):Sim φ H w1:=
 ⟨fun i b hg=>by obtain ⟨c,e,fr,hB,r⟩:=hs.cov i b hg;exact ⟨c,e,fr,by rw [h];exact hB,r⟩,hs.apart,hs.par,hs.parlt⟩
theorem Step.draw {base φ H w} {w1:World} (hs:Sim φ H w) (h:w1.heap=w.heap) (ho:w1.os=w.os) (ht:w1.tape=w.tape) (hu:w1.output=w.output):Step base φ H w φ H w1:=
 ⟨Nat.le_refl _,fun _ _=>rfl,by rw [h];exact Nat.le_refl _,ho,ht,hu,fun _ _ _=>by rw [h],fun h b' _ hb=>⟨b',hb,id⟩,fun h b hb hg hr=>.inr ⟨h,b,hb,hg,hr,rfl⟩,no_fresh rfl,hs.heap h⟩
theorem run_first {P:Program} {φ H w} (hs:Sim φ H w) {sz n m:Nat} {x x':Value} {new:List Value} (h:firstA H sz n x=some new) (hx:VRel H.length φ x x') (hl:lenA x=some m) (hn:n≤m) :
  ∃ new',LRel H.length φ new new'∧(Builtin.firstCells sz n x').run P w = .ok new'.toArray w:=by
 cases hx<;>simp only [firstA] at h<;>try (cases h;done)
 case slNil=>cases h;exact ⟨[],.nil,rfl⟩
 case string s=>
  cases h
  refine ⟨_,.of_scalar (fun v hv => ?_),?_⟩
  ·simp only [List.mem_map] at hv
   obtain ⟨b,_,rfl⟩:=hv
   rfl
  ·simp only [Builtin.firstCells,Sem.run_pure]
   congr 1
   apply Array.ext'
   simp
 case sl hd o l mm c hh hl' hm hf=>
  split at h
  ·rename_i h0
   cases h
   exact ⟨[],.nil,by simp [Builtin.firstCells,loadCells,loadCellsFrom,h0]⟩
  obtain ⟨cs',hrel,_,_,hrun⟩:=run_read (P:=P) hs h
  exact ⟨cs',hrel,by simpa [Builtin.firstCells] using hrun⟩
 case slEmp _ _ b hhn=>
  simp only [lenA,Option.some.injEq] at hl
  have:n=0:=by omega
  subst this
  simp at h
  subst h
  exact ⟨[],.nil,by simp [Builtin.firstCells,loadCells,loadCellsFrom]⟩
 case slFree b=>
  simp only [lenA,Option.some.injEq] at hl
  have:n=0:=by omega
  subst this
  simp at h
  subst h
  exact ⟨[],.nil,by simp [Builtin.firstCells,loadCells,loadCellsFrom]⟩
theorem run_lenOf {P:Program} {n φ x x' m} (h:lenA x=some m) (hx:VRel n φ x x') (w:World):(Builtin.lenOf x').run P w = .ok m w:=by
 cases hx<;>simp only [lenA] at h<;>try (cases h;done)
 all_goals cases h;rfl
theorem step_ro {base φ H w} (hs:Sim φ H w) {h:Nat} {b:Blk} (hg:hget H h=some b):Step base φ H w φ (hset H h (some { b with rw:=false })) w:=by
 have hlt:=hget_lt hg
 have back : ∀ i c,hget (hset H h (some { b with rw:=false })) i=some c → ∃ c0,hget H i=some c0∧(c.rw=true→c0.rw=true∧i≠h)∧c0.cells=c.cells∧c0.sz=c.sz∧c0.lo=c.lo∧c0.par=c.par∧(i≠h→c0=c)∧(c0.rw=false→c.rw=false):=by
  intro i c hi
  by_cases he:i=h
  ·subst he
   rw [hget_set_eq hlt] at hi
   cases hi
   exact ⟨b,hg,(fun h=>by cases h),rfl,rfl,rfl,rfl,(fun h=>absurd rfl h),fun _=>rfl⟩
  ·rw [hget_set_ne (Ne.symm he)] at hi
   exact ⟨c,hi,fun h=>⟨h,he⟩,rfl,rfl,rfl,rfl,fun _=>rfl,id⟩
 refine ⟨by simp [length_hset],fun _ _=>rfl,Nat.le_refl _,rfl,rfl,rfl,fun _ _ _=>rfl,?_,?_,no_fresh length_hset,?_,?_,?_,?_⟩
 ·intro i c _ hi
  obtain ⟨c0,k0,k1,_⟩:=back i c hi
  exact ⟨c0,k0,fun hr=>(k1 hr).1⟩
 ·intro i c hb hi hr
  obtain ⟨c0,k0,k1,_⟩:=back i c hi
  exact .inr ⟨i,c0,hb,k0,(k1 hr).1,rfl⟩
 ·intro i c hi
  obtain ⟨c0,k0,k1,k2,k3,k4,k5,k6,_⟩:=back i c hi
  obtain ⟨d,e,fr,hB,g1,g2,g3,g4,g5,g6⟩:=hs.cov i c0 k0
  rw [length_hset]
  exact ⟨d,e,fr,hB,k2▸g1,g2,g3.trans k3,k2▸g4,fun hr=>g5 (k1 hr).1,by rw [← k4,← k2];exact g6⟩
 ·intro i j c d hne hi hj hr
  obtain ⟨c0,k0,k1,k2,k3,k4,k5,k6,_⟩:=back i c hi
  obtain ⟨d0,l0,l1,l2,l3,l4,l5,l6,l7⟩:=back j d hj
  have:=hs.apart i j c0 d0 hne k0 l0 (k1 hr).1
  obtain rfl:=k6 (k1 hr).2
  have hle:rEnd (φ j) d≤rEnd (φ j) d0:=by
   obtain ⟨_,_,_,_,q1,_⟩:=hs.cov j d0 l0
   unfold rEnd
   rw [l2] at q1 ⊢
   cases hd:d.rw with
   | true=>rw [(l1 hd).1];exact Nat.le_refl _
   | false=>simp only [Bool.false_eq_true,if_false];split<;>omega
  omega
 ·intro i c p d hi hp hj
  obtain ⟨c0,k0,k1,k2,k3,k4,k5,k6,_⟩:=back i c hi
  obtain ⟨d0,l0,l1,l2,l3,l4,l5,l6,l7⟩:=back p d hj
  exact l7 (hs.par i c0 p d0 k0 (k5▸hp) l0)
 ·intro i c p hi hp
  obtain ⟨c0,k0,k1,k2,k3,k4,k5,k6,_⟩:=back i c hi
  rw [length_hset]
  exact hs.parlt i c0 p k0 (k5▸hp)
theorem step_fork {base φ H w} (hs:Sim φ H w) {h:Nat} {b:Blk} (hg:hget H h=some b) (hrw:b.rw=true) (hbase:base≤h) {o fin:Nat} (ho:o≤b.cells.length) (hf:fin≤(φ h).fin) (hf2:(φ h).base+b.cells.length≤fin) :
  Step base φ H w (extP φ H.length ⟨(φ h).B,(φ h).base+o,fin,b.sz⟩) (newB (hset H h (some { b with rw:=false })) ⟨b.cells.drop o,b.sz,true,b.cells.length - o,h::b.par⟩) w:=by
 have hlt:=hget_lt hg
 have st:=step_ro (base:=base) hs hg
 have hl:(hset H h (some { b with rw:=false })).length=H.length:=length_hset
 have hlen:(newB (hset H h (some { b with rw:=false })) ⟨b.cells.drop o,b.sz,true,b.cells.length - o,h::b.par⟩).length=H.length+1:=by simp [newB,length_hset]
 have hk : ∀ i,i<H.length→extP φ H.length ⟨(φ h).B,(φ h).base+o,fin,b.sz⟩ i=φ i:=fun i hi=>extP_lt hi
 have hold : ∀ i c,i<H.length→hget (newB (hset H h (some { b with rw:=false })) ⟨b.cells.drop o,b.sz,true,b.cells.length - o,h::b.par⟩) i=some c→hget (hset H h (some { b with rw:=false })) i=some c:=fun i c hi hg'=>by
  rwa [newB,hget_new_old (by rw [hl];exact hi)] at hg'
 have hnew:hget (newB (hset H h (some { b with rw:=false })) ⟨b.cells.drop o,b.sz,true,b.cells.length - o,h::b.par⟩) H.length=some ⟨b.cells.drop o,b.sz,true,b.cells.length - o,h::b.par⟩:=by
  have:=hget_new_at (H:=hset H h (some { b with rw:=false })) (b:=some ⟨b.cells.drop o,b.sz,true,b.cells.length - o,h::b.par⟩)
  rw [hl] at this
  exact this
 have hroh:hget (hset H h (some { b with rw:=false })) h=some { b with rw:=false } := hget_set_eq hlt
 obtain ⟨c,e,fr,hB,g1,g2,g3,g4,g5,g6⟩:=hs.cov h b hg
 have s2:Step base φ (hset H h (some { b with rw:=false })) w (extP φ H.length ⟨(φ h).B,(φ h).base+o,fin,b.sz⟩) (newB (hset H h (some { b with rw:=false })) ⟨b.cells.drop o,b.sz,true,b.cells.length - o,h::b.par⟩) w→Step base φ H w (extP φ H.length ⟨(φ h).B,(φ h).base+o,fin,b.sz⟩) (newB (hset H h (some { b with rw:=false })) ⟨b.cells.drop o,b.sz,true,b.cells.length - o,h::b.par⟩) w:=fun s=>st.trans s
 refine ⟨by omega,hk,Nat.le_refl _,rfl,rfl,rfl,fun _ _ _=>rfl,?_,?_,fun i c hi hg'=>(by
  have hlt':=hget_lt hg'
  rw [hlen] at hlt'
  obtain rfl:i=H.length:=by omega
  rw [extP_eq]
  exact .inr ⟨h,b,hg,rfl⟩),?_,?_,?_,?_⟩
 ·intro i c hi hg'
  exact st.old i c hi (hold i c hi hg')
 ·intro i c hi hg' hr
  have hlt':=hget_lt hg'
  rw [hlen] at hlt'
  rcases Nat.lt_or_ge i H.length with h1 | h1
  ·rw [hk i h1];exact st.later i c hi (hold i c h1 hg') hr
  ·have:i=H.length:=by omega
   subst this
   rw [extP_eq]
   exact .inr ⟨h,b,hbase,hg,hrw,rfl⟩
 ·intro i d hg'
  have hlt':=hget_lt hg'
  rw [hlen] at hlt' ⊢
  rcases Nat.lt_or_ge i H.length with h1 | h1
  ·obtain ⟨c',e',fr',hB',k1,k2,k3,k4,k5⟩:=st.sim.cov i d (hold i d h1 hg')
   rw [hk i h1]
   exact ⟨c',e',fr',hB',k1,k2,k3,fun j v hv=>let ⟨v',hv',hr⟩:=k4 j v hv;⟨v',hv',hr.mono (by rw [hl];omega) (by rw [hl];exact hk)⟩,k5⟩
  ·have:i=H.length:=by omega
   subst this
   rw [hnew] at hg'
   cases hg'
   rw [extP_eq]
   refine ⟨c,e,fr,hB,by simp;omega,by simp;omega,rfl,fun j v hv => ?_,fun _=>⟨fun j h1 h2=>(g5 hrw).1 j (by simp at h1;omega) (h2.elim (fun h2=>.inl (by simp at h2;omega)) (fun h2=>.inr (by rw [g3];exact h2))),fun h=>by
    have:=(g5 hrw).2 (by rw [g3];exact h)
    rw [g3] at this
    dsimp only
    omega⟩,by simp⟩
   rw [List.getElem?_drop] at hv
   obtain ⟨v',hv',hr⟩:=g4 (o+j) v hv
   exact ⟨v',by simpa [Nat.add_assoc] using hv',hr.mono (by omega) hk⟩
 ·intro i j c d hne h1 h2 hr
  have l1:=hget_lt h1
  have l2:=hget_lt h2
  rw [hlen] at l1 l2
  rcases Nat.lt_or_ge i H.length with a1 | a1<;>rcases Nat.lt_or_ge j H.length with a2 | a2
  ·rw [hk i a1,hk j a2]
   exact st.sim.apart i j c d hne (hold i c a1 h1) (hold j d a2 h2) hr
  ·have:j=H.length:=by omega
   subst this
   have hi:=hold i c a1 h1
   rw [hnew] at h2
   cases h2
   rw [hk i a1,extP_eq]
   have hih:i≠h:=by
    intro he
    subst he
    rw [hroh] at hi
    cases hi
    cases hr
   have hi0:hget H i=some c:=by rwa [hget_set_ne (Ne.symm hih)] at hi
   have:=hs.apart i h c b hih hi0 hg hr
   have hnp:h∉c.par:=fun hm=>by
    have:=hs.par i c h b hi0 hm hg
    rw [hrw] at this
    cases this
   have hnp2:H.length∉c.par:=fun hm=>absurd (hs.parlt i c _ hi0 hm) (Nat.lt_irrefl _)
   have w1:wBeg (φ i) c h=(φ i).base:=by unfold wBeg;simp [hnp]
   have w2:wBeg (φ i) c H.length=(φ i).base:=by unfold wBeg;simp [hnp2]
   have r1:rEnd (φ h) b=(φ h).fin:=by unfold rEnd;simp [hrw]
   rw [w2]
   rw [w1,r1] at this
   simp only [rEnd,if_true]
   omega
  ·have:i=H.length:=by omega
   subst this
   have hj:=hold j d a2 h2
   rw [hnew] at h1
   cases h1
   rw [hk j a2,extP_eq]
   by_cases hjh:j=h
   ·subst hjh
    rw [hroh] at hj
    cases hj
    right;right
    simp only [rEnd,wBeg,List.mem_cons,true_or,if_true,Bool.false_eq_true,if_false]
    omega
   ·have hj0:hget H j=some d:=by rwa [hget_set_ne (Ne.symm hjh)] at hj
    have:=hs.apart h j b d (Ne.symm hjh) hg hj0 hrw
    by_cases hjp:j∈b.par
    ·have w1:wBeg (φ h) b j=(φ h).base+b.lo:=by unfold wBeg;simp [hjp]
     rw [w1] at this
     simp only [wBeg,List.mem_cons,hjp,or_true,if_true]
     omega
    ·have w1:wBeg (φ h) b j=(φ h).base:=by unfold wBeg;simp [hjp]
     rw [w1] at this
     simp only [wBeg,List.mem_cons,hjp,hjh,or_self,if_false]
     omega
  ·omega
 ·intro i c p d hi hp hj
  have l1:=hget_lt hi
  rw [hlen] at l1
  rcases Nat.lt_or_ge i H.length with a1 | a1
  ·have hi':=hold i c a1 hi
   have hpl:=st.sim.parlt i c p hi' hp
   rw [hl] at hpl
   exact st.sim.par i c p d hi' hp (hold p d hpl hj)
  ·have:i=H.length:=by omega
   subst this
   rw [hnew] at hi
   cases hi
   rcases List.mem_cons.1 hp with rfl | hp
   ·have hj':=hold _ d hlt hj
    rw [hroh] at hj'
    cases hj'
    rfl
   ·have hpl:=hs.parlt h b p hg hp
    have hj':=hold p d hpl hj
    have hb':(({ b with rw:=false } : Blk)).par=b.par:=rfl
    exact st.sim.par h { b with rw:=false } p d hroh (by rw [hb'];exact hp) hj'
 ·intro i c p hi hp
  have l1:=hget_lt hi
  rw [hlen] at l1 ⊢
  rcases Nat.lt_or_ge i H.length with a1 | a1
  ·have:=st.sim.parlt i c p (hold i c a1 hi) hp
   rw [hl] at this
   omega
  ·have:i=H.length:=by omega
   subst this
   rw [hnew] at hi
   cases hi
   rcases List.mem_cons.1 hp with rfl | hp
   ·omega
   ·have:=hs.parlt h b p hg hp
    omega
theorem step_grow {base φ H w} (hs:Sim φ H w) {h:Nat} {b:Blk} (hg:hget H h=some b) (hrw:b.rw=true) (hbase:base≤h) (ho:(φ h).base+b.cells.length<(φ h).fin) {v v':Value} (hv:VRel H.length φ v v') :
  (∃ u,w.cell? ⟨(φ h).B,(φ h).base+b.cells.length,none⟩=some u)∧w.frozen? ⟨(φ h).B,(φ h).base+b.cells.length,none⟩=false ∧
   Step base φ H w φ (hset H h (some { b with cells:=b.cells++[v] })) (w.setCell ⟨(φ h).B,(φ h).base+b.cells.length,none⟩ v'):=by
 obtain ⟨c,e,fr,hB,g1,g2,g3,g4,g5,g6⟩:=hs.cov h b hg
 have hlt:=hget_lt hg
 have hcs:(φ h).base+b.cells.length<c.size:=by omega
 have hnew:(w.setCell ⟨(φ h).B,(φ h).base+b.cells.length,none⟩ v').heap[(φ h).B]?=some (.cells (c.setIfInBounds ((φ h).base+b.cells.length) v') e fr):=by
  simp [World.setCell,Array.getElem?_modify,hB]
 have hoth : ∀ k,k≠(φ h).B→(w.setCell ⟨(φ h).B,(φ h).base+b.cells.length,none⟩ v').heap[k]?=w.heap[k]?:=fun k hk=>heap_setCell_other w _ k v' hk
 refine ⟨⟨_,by rw [cell_of_row w _ _ c e fr hB];exact Array.getElem?_eq_getElem hcs⟩,?_,?_⟩
 ·have:=(g5 hrw).1 ((φ h).base+b.cells.length) (by omega) (.inl (by omega))
  simp only [World.frozen?,hB]
  simp only [Bool.and_eq_false_imp,decide_eq_true_eq,decide_eq_false_iff_not]
  omega
 ·have back : ∀ h' b',hget (hset H h (some { b with cells:=b.cells++[v] })) h'=some b' → ∃ b0,hget H h'=some b0∧b0.rw=b'.rw∧b0.lo=b'.lo∧b0.par=b'.par∧rEnd (φ h') b0=rEnd (φ h') b':=by
   intro h' b' hg'
   by_cases he:h'=h
   ·subst he
    rw [hget_set_eq hlt] at hg'
    cases hg'
    exact ⟨b,hg,rfl,rfl,rfl,by unfold rEnd;simp [hrw]⟩
   ·rw [hget_set_ne (Ne.symm he)] at hg'
    exact ⟨b',hg',rfl,rfl,rfl,rfl⟩
  refine ⟨by simp [length_hset],fun _ _=>rfl,by simp [World.setCell],rfl,rfl,rfl,?_,?_,?_,no_fresh length_hset,?_,?_,?_,?_⟩
  ·intro k hk hn
   exact hoth k fun e=>hn h b hbase hg hrw e.symm
  ·intro h' b' hh' hg'
   obtain ⟨b0,k0,k1,_⟩:=back h' b' hg'
   exact ⟨b0,k0,fun hr=>k1.trans hr⟩
  ·intro h' b' hb' hg' hr'
   obtain ⟨b0,k0,k1,_⟩:=back h' b' hg'
   exact .inr ⟨h',b0,hb',k0,k1.trans hr',rfl⟩
  ·intro h' b' hg'
   rw [length_hset]
   by_cases he:h'=h
   ·subst he
    rw [hget_set_eq hlt] at hg'
    cases hg'
    refine ⟨_,e,fr,hnew,by simp;omega,by simpa using g2,g3,fun i u hu => ?_,g5,by simp;omega⟩
    rcases Nat.lt_trichotomy i b.cells.length with hi | hi | hi
    ·simp only [List.getElem?_append_left hi] at hu
     obtain ⟨u',hu',hrel⟩:=g4 i u hu
     exact ⟨u',by rw [Array.getElem?_setIfInBounds_ne (by omega)];exact hu',hrel⟩
    ·subst hi
     simp at hu
     subst hu
     exact ⟨v',by simp [hcs],hv⟩
    ·rw [List.getElem?_eq_none (by simp;omega)] at hu
     cases hu
   ·rw [hget_set_ne (Ne.symm he)] at hg'
    obtain ⟨c',e',fr',hB',k1,k2,k3,k4,k5,k6⟩:=hs.cov h' b' hg'
    by_cases hBB:(φ h').B=(φ h).B
    ·rw [hBB,hB] at hB'
     cases hB'
     refine ⟨_,e,fr,by rw [hBB];exact hnew,k1,by simpa using k2,k3,fun i u hu => ?_,k5,k6⟩
     obtain ⟨u',hu',hrel⟩:=k4 i u hu
     refine ⟨u',?_,hrel⟩
     have hi:=(List.getElem?_eq_some_iff.1 hu).1
     have:=hs.apart h h' b b' (Ne.symm he) hg hg' hrw
     have q1 := @wBeg_le (φ h) b h'
     have q2:=le_rEnd k1
     rw [Array.getElem?_setIfInBounds_ne (by omega)]
     exact hu'
    ·exact ⟨c',e',fr',by rw [hoth _ hBB];exact hB',k1,k2,k3,k4,k5,k6⟩
  ·intro h1 h2 b1 b2 hne k1 k2 kr
   obtain ⟨b1',k1',e1,e1l,e1p,_⟩:=back h1 b1 k1
   obtain ⟨b2',k2',e2,e2l,e2p,e2r⟩:=back h2 b2 k2
   have:=hs.apart h1 h2 b1' b2' hne k1' k2' (e1.trans kr)
   rw [e2r] at this
   unfold wBeg at this ⊢
   rw [e1l,e1p] at this
   exact this
  ·intro h1 b1 p b' k1 hp k2
   obtain ⟨b1',k1',e1,e1l,e1p,_⟩:=back h1 b1 k1
   obtain ⟨b2',k2',e2,_⟩:=back p b' k2
   rw [← e2]
   exact hs.par h1 b1' p b2' k1' (e1p▸hp) k2'
  ·intro h1 b1 p k1 hp
   obtain ⟨b1',k1',e1,e1l,e1p,_⟩:=back h1 b1 k1
   rw [length_hset]
   exact hs.parlt h1 b1' p k1' (e1p▸hp)
theorem hset_same {H:Heap} {h:Nat} {b:Blk} (hg:hget H h=some b):hset H h (some b)=H:=by
 have hlt:=hget_lt hg
 apply List.ext_getElem?
 intro k
 simp only [hset,List.getElem?_set]
 split
 ·rename_i hk;subst hk
  simp only [hget] at hg
  rw [List.getElem?_eq_getElem hlt] at hg ⊢
  simp at hg
  simp [hlt,hg]
 ·rfl
theorem run_growAux {P:Program} {base φ} {h:Nat} {a:Addr} : ∀ (vs vs':List Value) (i:Nat) {H w} (_:Sim φ H w) {b:Blk} (_:hget H h=some b) (_:b.rw=true) (_:base≤h)
  (_:a=⟨(φ h).B,a.off,none⟩) (_:a.off+i=(φ h).base+b.cells.length) (_:(φ h).base+b.cells.length+vs.length≤(φ h).fin) (_:vs.all Value.oneCell'=true) (_:LRel H.length φ vs vs'),
  ∃ w',(storeCells a vs' i).run P w = .ok () w'∧Step base φ H w φ (hset H h (some { b with cells:=b.cells++vs })) w'
 | [],[],i,H,w,hs,b,hg,_,_,_,_,_,_,_=>by
  refine ⟨w,rfl,?_⟩
  have:hset H h (some { b with cells:=b.cells++[] })=H:=by simpa using hset_same hg
  rw [this]
  exact .refl hs
 | [],_::_,_,_,_,_,_,_,_,_,_,_,_,_,h=>by simp [LRel] at h
 | _::_,[],_,_,_,_,_,_,_,_,_,_,_,_,h=>by simp [LRel] at h
 | v::vs,v'::vs',i,H,w,hs,b,hg,hrw,hb,ha,hi,hl,h1,hrel=>by
  simp only [List.length_cons] at hl
  simp only [List.all_cons,Bool.and_eq_true] at h1
  have hlt:=hget_lt hg
  obtain ⟨⟨u,hu⟩,hfz,st⟩:=step_grow hs hg hrw hb (by omega) hrel.head
  have hg1:hget (hset H h (some { b with cells:=b.cells++[v] })) h=some { b with cells:=b.cells++[v] } := hget_set_eq hlt
  obtain ⟨w',hrun,st'⟩:=run_growAux (P:=P) (base:=base) (h:=h) (a:=a) vs vs' (i+1) st.sim hg1 hrw hb ha (by simp;omega) (by simp;omega) h1.2 (by rw [length_hset];exact hrel.tail)
  refine ⟨w',?_,?_⟩
  ·rw [ha] at hrun ⊢
   simp only [storeCells,Sem.run_bind,add_none]
   rw [hi,run_store P w _ v' .plain (by rw [hrel.head.oneCell];exact h1.1),hu]
   simp only [hfz,Bool.false_eq_true,if_false,Result.andThen]
   exact hrun
  ·have:=st.trans st'
   rw [hset_hset] at this
   simpa using this
theorem run_append_room {P:Program} {at_:Array TypeId} {ty:TypeId} {x:Value} {st xt e:TypeId} {a:Option Addr} {len cap n:Nat} {info:TypeInfo} {d:TypeDesc} {w w':World} {new:List Value}
  (h0:at_[0]?=some st) (hu:P.underlying st=some (.slice e)) (h1:at_[1]?=some xt) (hx:P.underlying xt=some d) (hd:(∃ u,d = .slice u)∨d = .string)
  (hi:P.info? e=some info) (hn:(Builtin.lenOf x).run P w = .ok n w) (hle:len+n≤cap)
  (hf:(Builtin.firstCells info.size n x).run P w = .ok new.toArray w) (hst : ∀ b,a=some b→(storeCells (b.add (len*info.size)) new).run P w = .ok () w') (hnone:a=none→w'=w) :
  (Builtin.append_ at_ ty #[.slice a len cap,x]).run P w = .ok (.slice a (len+n) cap) w':=by
 cases a with
 | none=>
  obtain rfl:=hnone rfl
  rcases hd with ⟨u,rfl⟩ | rfl <;>
   simp [Builtin.append_,h0,h1,run_underA hu,run_underA hx,sizeOf,typeInfo,zeroValue,hi,hn,hle,hf]
 | some b=>
  have hst:=hst b rfl
  rcases hd with ⟨u,rfl⟩ | rfl <;>
   simp [Builtin.append_,h0,h1,run_underA hu,run_underA hx,sizeOf,typeInfo,zeroValue,hi,hn,hle,hf,hst]
theorem run_append_new {P:Program} {at_:Array TypeId} {ty:TypeId} {x:Value} {st xt e:TypeId} {a:Option Addr} {len cap n:Nat} {info:TypeInfo} {z:Value} {d:TypeDesc} {w:World} {new old:List Value}
  (h0:at_[0]?=some st) (hu:P.underlying st=some (.slice e)) (h1:at_[1]?=some xt) (hx:P.underlying xt=some d) (hd:(∃ u,d = .slice u)∨d = .string)
  (hi:P.info? e=some info) (hz:info.zero=some z) (hn:(Builtin.lenOf x).run P w = .ok n w) (hle:cap<len+n) (hb:(len+n)*info.bytes≤2 ^ 47) (hc:len+n<2 ^ 62)
  (hf:(Builtin.firstCells info.size n x).run P w.drew = .ok new.toArray w.drew) (ho:(Builtin.firstCells info.size len (.slice a len cap)).run P w.drew = .ok old.toArray w.drew) :
  (Builtin.append_ at_ ty #[.slice a len cap,x]).run P w = .ok (.slice (some ⟨w.heap.size,0,none⟩) (len+n) (grownCap w (len+n) cap e))
   (w.drew.alloc (.cells (old.toArray++new.toArray++Builtin.zeroCells z.cells (grownCap w (len+n) cap e - (len+n))) e)):=by
 have hle' : ¬ (len+n≤cap):=by omega
 have h63 : ¬ (9223372036854775807<((len:Int)+(n:Int))):=by omega
 have h48 : ¬ (281474976710656<Builtin.nextslicecap (len+n) cap*info.bytes):=by
  have:=nextslicecap_le hle
  have h2:=Nat.mul_le_mul_right info.bytes this
  have h3:2*(len+n)*info.bytes=2*((len+n)*info.bytes):=Nat.mul_assoc ..
  omega
 rcases hd with ⟨u,rfl⟩ | rfl <;>
  (
   simp [Builtin.append_,h0,h1,run_underA hu,run_underA hx,sizeOf,typeInfo,zeroValue,hi,hz,hn,hle',h63,h48,Question.forced,hf,ho,newRow,grownCap]
   congr 2
   apply Array.ext'
   simp [List.append_assoc])
theorem sound_grown {P:Program} {base φ H w} (hs:Sim φ H w) {old old' new new':List Value} {e:TypeId} {info:TypeInfo} {z:Value} {need cap lo:Nat} {par:List Nat} {s:Sem Value}
  (ho:LRel H.length φ old old') (hn:LRel H.length φ new new') (hz:z.cells.size=info.size) (hneed:need<2 ^ 62) (hl:old.length+new.length=need*info.size) (hlo:lo≤(old++new).length) (hpar : ∀ p∈par,p<H.length ∧ ∀ b',hget H p=some b'→b'.rw=false)
  (hr:s.run P w = .ok (.slice (some ⟨w.heap.size,0,none⟩) need (grownCap w need cap e)) (w.drew.alloc (.cells (old'.toArray++new'.toArray++Builtin.zeroCells z.cells (grownCap w need cap e - need)) e))) :
  Sound P base φ H w s (.slice (some (atNew H)) need need) (newB H ⟨old++new,info.size,true,lo,par⟩):=by
 have hge:=grownCap_ge w need cap e
 have hsz:(old'.toArray++new'.toArray++Builtin.zeroCells z.cells (grownCap w need cap e - need)).size=grownCap w need cap e*info.size:=by
  have h1:=ho.1
  have h2:=hn.1
  simp only [Array.size_append,List.size_toArray,Builtin.zeroCells,Array.size_map,Array.size_range,hz]
  rw [← h1,← h2,hl,← Nat.add_mul]
  congr 1
  omega
 have hdr:Step base φ H w φ H w.drew:=.draw hs rfl rfl rfl rfl
 have hle:(old++new).length≤(old'.toArray++new'.toArray++Builtin.zeroCells z.cells (grownCap w need cap e - need)).size:=by
  rw [hsz,List.length_append,hl]
  exact Nat.mul_le_mul_right _ hge
 have st:=step_newB (base:=base) (nb:=⟨old++new,info.size,true,lo,par⟩) (e:=e) (fr:=(0,0)) (w1:=w.drew.alloc (.cells (old'.toArray++new'.toArray++Builtin.zeroCells z.cells (grownCap w need cap e - need)) e))
  hdr.sim rfl rfl rfl rfl hle (Nat.le_refl _) (fun i _ h=>by simp at h) (fun _=>by
   rw [hsz]
   refine Nat.mul_le_mul_right _ ?_
   have:=grownCap_le_maxLen w need cap e (by unfold maxLen;omega)
   unfold maxLen at this
   omega) hlo hpar (fun i v hv=>by
   have hon:=ho.append hn
   have hi:=(List.getElem?_eq_some_iff.1 hv).1
   have hi':i<(old'++new').length:=by rw [← hon.1];exact hi
   refine ⟨(old'++new')[i],?_,hon.2 i v _ hv (List.getElem?_eq_getElem hi')⟩
   rw [Array.getElem?_append_left (by simpa using hi')]
   rw [List.append_toArray,List.getElem?_toArray,List.getElem?_eq_getElem hi'])
 refine ⟨_,_,_,hr,hdr.trans st,?_⟩
 have:=VRel.sl (n:=(newB H ⟨old++new,info.size,true,lo,par⟩).length) (φ:=extP φ H.length ⟨w.drew.heap.size,0,(old'.toArray++new'.toArray++Builtin.zeroCells z.cells (grownCap w need cap e - need)).size,info.size⟩) H.length 0 need need (grownCap w need cap e)
  (by simp [newB]) (Nat.le_refl _) hge (by rw [extP_eq];simp only [hsz];omega)
 rw [extP_eq] at this
 simpa [atNew] using this
theorem sound_append {P:Program} {base φ H w} (hs:Sim φ H w) {at_:Array TypeId} {ty:TypeId} {s x s' x' v:Value} {H':Heap} (h:appendA P base at_ s x H=some (v,H')) (hsr:VRel H.length φ s s') (hxr:VRel H.length φ x x') :
  Sound P base φ H w (Builtin.append_ at_ ty #[s',x']) v H':=by
 simp only [appendA,Option.bind_eq_bind] at h
 cases h0:at_[0]? with
 | none=>simp [h0] at h
 | some st=>
 cases hu:P.underlying st with
 | none=>simp [h0,hu] at h
 | some d0=>
 cases d0<;>try (simp [h0,hu] at h;done)
 rename_i e
 cases h1:at_[1]? with
 | none=>simp [h0,hu,h1] at h
 | some xt=>
 simp only [h0,hu,h1,Option.bind_some] at h
 split at h
 ·cases h
 rename_i hxt
 cases hx:P.underlying xt with
 | none=>simp [hx] at hxt
 | some d=>
 have hd:(∃ u,d = .slice u)∨d = .string:=by
  cases d<;>simp [hx] at hxt
  ·exact .inr rfl
  ·exact .inl ⟨_,rfl⟩
 cases hi:P.info? e with
 | none=>simp [hi,sizeA] at h
 | some info=>
 have hszA:sizeA P e=some info.size:=by simp [sizeA,hi]
 simp only [hszA,hi,Option.bind_some] at h
 cases hz:info.zero with
 | none=>simp [hz] at h
 | some z=>
 simp only [hz,Option.bind_some] at h
 split at h
 ·cases h
 rename_i hzs
 have hzs:z.cells.size=info.size:=by simpa using hzs
 cases hn:lenA x with
 | none=>simp [hn] at h
 | some n=>
 cases hf:firstA H info.size n x with
 | none=>simp [hn,hf] at h
 | some new=>
 simp only [hn,hf,Option.bind_some] at h
 have hnr:=run_lenOf (P:=P) hn hxr w
 obtain ⟨new',hnew,hfr⟩:=run_first (P:=P) hs hf hxr hn (Nat.le_refl _)
 have hdr:Sim φ H w.drew:=hs.heap rfl
 obtain ⟨new2,hnew2,hfr2⟩:=run_first (P:=P) hdr hf hxr hn (Nat.le_refl _)
 cases s<;>try (simp at h;done)
 rename_i a len cap
 simp only at h
 split at h
 ·cases h
 rename_i hnl
 have hnl:new.length=n*info.size:=by simpa using hnl
 split at h
 ·rename_i hle
  split at h
  ·rename_i h0n
   simp only [Option.some.injEq,Prod.mk.injEq] at h
   obtain ⟨rfl,rfl⟩:=h
   have hn0:new'=[]:=by
    have:=hnew.1
    rw [hnl,h0n] at this
    exact List.eq_nil_of_length_eq_zero this.symm
   subst hn0
   cases hsr with
   | slNil _ _=>exact .pure hs (run_append_room h0 hu h1 hx hd hi hnr hle hfr (fun b hb=>by cases hb) (fun _=>rfl)) (.slNil _ _)
   | sl hd' o _ _ c hh hl hm hff=>exact .pure hs (run_append_room (w':=w) h0 hu h1 hx hd hi hnr (by omega) hfr (fun b _=>rfl) (fun hb=>rfl)) (.sl hd' o _ _ c hh hle hm hff)
   | slEmp _ _ b hhn=>
    have hn0:n=0:=by omega
    subst hn0
    exact .pure hs (run_append_room (w':=w) h0 hu h1 hx hd hi hnr (by omega) hfr (fun b _=>rfl) (fun hb=>rfl)) (.slEmp _ _ _ hhn)
   | slFree b=>
    have hn0:n=0:=by omega
    subst hn0
    exact .pure hs (run_append_room (w':=w) h0 hu h1 hx hd hi hnr (by omega) hfr (fun b _=>rfl) (fun hb=>rfl)) (.slFree _)
  ·rename_i h0n
   cases a with
   | none=>simp at h
   | some a=>
    simp only at h
    split at h
    ·cases h
    ·rename_i hsp
     cases hw:writeA base ⟨a.block,a.off+len*info.size,none⟩ new H with
     | none=>simp [hw] at h
     | some H1=>
      simp only [hw,Option.bind_some,Option.some.injEq,Prod.mk.injEq] at h
      obtain ⟨rfl,rfl⟩:=h
      obtain ⟨w',hwr,hst⟩:=run_writeA (P:=P) hs hw hnew
      cases hsr with
      | sl hd' o _ _ c hh hl hm hff=>
       refine ⟨_,w',φ,run_append_room (w':=w') h0 hu h1 hx hd hi hnr (by omega) hfr (fun b hb => ?_) (fun hb=>by cases hb),hst,hst.vrel (.sl hd' o _ _ c hh hle hm hff)⟩
       cases hb
       rw [add_none,Nat.add_assoc]
       exact hwr
      | slEmp _ _ b hhn=>exact absurd (by rw [show n=0 by omega,Nat.zero_mul]) h0n
      | slFree b=>exact absurd (by rw [show n=0 by omega,Nat.zero_mul]) h0n
 ·rename_i hle
  split at h
  ·cases h
  ·rename_i hb
   simp only [not_or,Decidable.not_not,Bool.not_eq_false] at hb
   obtain ⟨⟨hb1,hb2,hb3⟩,hb4⟩:=hb
   cases a with
   | none=>
    simp only at h
    split at h
    ·rename_i hlc
     obtain ⟨rfl,rfl⟩:=hlc
     simp only [Option.some.injEq,Prod.mk.injEq] at h
     obtain ⟨rfl,rfl⟩:=h
     cases hsr with
     | slNil _ _=>
      have:=run_append_new (w:=w) (a:=none) (len:=0) (cap:=0) (old:=[]) h0 hu h1 hx hd hi hz hnr (by omega) (by simpa using hb1) (by simpa using hb2) hfr2 rfl (ty:=ty)
      have hg:=sound_grown (P:=P) (base:=base) (old:=[]) (old':=[]) (new:=new) (new':=new2) (need:=0+n) (cap:=0) (info:=info) (z:=z) (e:=e) (lo:=0) (par:=[]) hs .nil hnew2 hzs (by simpa using hb2) (by simpa using hnl) (Nat.zero_le _) (fun p hp=>by cases hp) this
      simpa [newA] using hg
    ·cases h
   | some a=>
    simp only at h
    split at h
    ·rename_i hsp
     split at h
     ·rename_i hlc
      obtain ⟨rfl,rfl⟩:=hlc
      simp only [Option.some.injEq,Prod.mk.injEq] at h
      obtain ⟨rfl,rfl⟩:=h
      cases hsr with
      | slFree b=>
       have hfo:(Builtin.firstCells info.size 0 (.slice (some b) 0 0)).run P w.drew = .ok #[] w.drew:=by simp [Builtin.firstCells,loadCells,loadCellsFrom]
       have:=run_append_new (w:=w) (a:=some b) (len:=0) (cap:=0) (old:=[]) h0 hu h1 hx hd hi hz hnr (by omega) (by simpa using hb1) (by simpa using hb2) hfr2 hfo (ty:=ty)
       have hg:=sound_grown (P:=P) (base:=base) (old:=[]) (old':=[]) (new:=new) (new':=new2) (need:=0+n) (cap:=0) (info:=info) (z:=z) (e:=e) (lo:=0) (par:=[]) hs .nil hnew2 hzs (by simpa using hb2) (by simpa using hnl) (Nat.zero_le _) (fun p hp=>by cases hp) this
       simpa [newA] using hg
      | slEmp=>simp at hsp
      | sl=>simp at hsp
     ·cases h
    ·rename_i hsp
     have hsp:a.spot.isSome=false:=by simpa using hsp
     cases hg:hget H a.block with
     | none=>simp [hg] at h
     | some b=>
      simp only [hg,Option.bind_some] at h
      split at h
      ·rename_i hc
       obtain ⟨hrw,hbase,hbsz,htail⟩:=hc
       simp only [Option.some.injEq,Prod.mk.injEq] at h
       obtain ⟨rfl,rfl⟩:=h
       have hlt:=hget_lt hg
       have hrd:readA H a (len*info.size)=some (b.cells.drop a.off):=by
        simp only [readA,hsp,Bool.false_eq_true,if_false,hg]
        rw [if_pos (by omega)]
        congr 1
        exact List.take_of_length_le (by simp;omega)
       obtain ⟨old',hold,hol,_,hro⟩:=run_read (P:=P) hdr hrd
       have hk:=step_ro (base:=base) hs hg
       have hlen:(hset H a.block (some { b with rw:=false })).length=H.length:=length_hset
       have hbl:(b.cells.drop a.off).length=len*info.size:=by simp;omega
       have hpar : ∀ p∈a.block::b.par,p<(hset H a.block (some { b with rw:=false })).length ∧ ∀ b',hget (hset H a.block (some { b with rw:=false })) p=some b'→b'.rw=false:=by
        intro p hp
        have hroh:hget (hset H a.block (some { b with rw:=false })) a.block=some { b with rw:=false } := hget_set_eq hlt
        rcases List.mem_cons.1 hp with rfl | hp
        ·exact ⟨by omega,fun b' hb'=>by rw [hroh] at hb';cases hb';rfl⟩
        ·exact ⟨hk.sim.parlt a.block { b with rw:=false } p hroh hp,fun b' hb'=>hk.sim.par a.block { b with rw:=false } p b' hroh hp hb'⟩
       have realloc : ∀ (a':Addr) (c:Nat),c<len+n→(Builtin.firstCells info.size len (.slice (some a') len c)).run P w.drew = .ok old'.toArray w.drew →
         Sound P base φ H w (Builtin.append_ at_ ty #[.slice (some a') len c,x']) (.slice (some (atNew H)) (len+n) (len+n)) (newB (hset H a.block (some { b with rw:=false })) ⟨b.cells.drop a.off++new,info.size,true,len*info.size,a.block::b.par⟩):=by
        intro a' c hcl hfo
        have hrun:=run_append_new (w:=w) (a:=some a') (len:=len) (cap:=c) h0 hu h1 hx hd hi hz hnr hcl hb1 hb2 hfr2 hfo (ty:=ty)
        have hgr:=sound_grown (P:=P) (base:=base) (old:=b.cells.drop a.off) (old':=old') (new:=new) (new':=new2) (need:=len+n) (cap:=c) (info:=info) (z:=z) (e:=e) (lo:=len*info.size) (par:=a.block::b.par) hk.sim
         (by rw [hlen];exact hold) (by rw [hlen];exact hnew2) hzs hb2 (by rw [hnl,Nat.add_mul];simp;omega) (by rw [List.length_append,hbl];omega) hpar hrun
        obtain ⟨v',w',φ',r1,r2,r3⟩:=hgr
        refine ⟨v',w',φ',r1,hk.trans r2,?_⟩
        simpa [atNew,hlen] using r3
       cases hsr with
       | slFree b'=>simp [freeA] at hsp
       | slEmp _ _ b' hhn=>
        refine realloc b' 0 (by omega) ?_
        have ho0:old'=[]:=by
         have:=hold.1
         simp at this
         exact List.eq_nil_of_length_eq_zero (by simp at htail;omega)
        subst ho0
        simp [Builtin.firstCells,loadCells,loadCellsFrom]
       | sl hd' o _ _ c hh hl hm hff=>
        rcases Nat.lt_or_ge c (len+n) with hcl | hcl
        ·exact realloc _ c hcl (by simpa [Builtin.firstCells] using hro)
        ·obtain ⟨_,_,_,_,_,_,hszp,_⟩:=hs.cov hd' b hg
         have hpz:(φ hd').sz=info.size:=by rw [hszp,hbsz]
         rw [hpz] at hff
         have hlc:len*info.size≤c*info.size:=Nat.mul_le_mul_right _ (by omega)
         simp only at htail hg hrw hbase
         have hmv:=step_fork (base:=base) (o:=o) (fin:=(φ hd').base+o+c*info.size) hs hg hrw hbase (by omega) hff (by omega)
         have hnewg:hget (newB (hset H hd' (some { b with rw:=false })) ⟨b.cells.drop o,b.sz,true,b.cells.length - o,hd'::b.par⟩) H.length=some ⟨b.cells.drop o,b.sz,true,b.cells.length - o,hd'::b.par⟩:=by
          have:=hget_new_at (H:=hset H hd' (some { b with rw:=false })) (b:=some ⟨b.cells.drop o,b.sz,true,b.cells.length - o,hd'::b.par⟩)
          rw [length_hset] at this
          exact this
         have hncm:n*info.size+len*info.size≤c*info.size:=by rw [← Nat.add_mul];exact Nat.mul_le_mul_right _ (by omega)
         obtain ⟨w',hrun,hst⟩:=run_growAux (P:=P) (base:=base) (h:=H.length) (a:=⟨(φ hd').B,(φ hd').base+o+len*info.size,none⟩) new new' 0 hmv.sim hnewg rfl (by omega) (by rw [extP_eq])
          (by rw [extP_eq];simp;omega) (by rw [extP_eq];simp;omega) hb4 (hmv.lrel hnew)
         have hset_new:hset (newB (hset H hd' (some { b with rw:=false })) ⟨b.cells.drop o,b.sz,true,b.cells.length - o,hd'::b.par⟩) H.length (some ⟨b.cells.drop o++new,b.sz,true,b.cells.length - o,hd'::b.par⟩)=newB (hset H hd' (some { b with rw:=false })) ⟨b.cells.drop o++new,info.size,true,len*info.size,hd'::b.par⟩:=by
          rw [hbsz,show b.cells.length - o=len*info.size by omega]
          have key : ∀ (K:Heap) (x y:Option Blk),K.length=H.length→(K++[x]).set H.length y=K++[y]:=by
           intro K x y h
           rw [← h,List.set_append_right _ _ (Nat.le_refl _)]
           simp
          exact key _ _ _ (by simp [hset])
         rw [hset_new] at hst
         refine ⟨_,w',_,run_append_room (w':=w') h0 hu h1 hx hd hi hnr hcl hfr (fun b0 hb0 => ?_) (fun hb0=>by cases hb0),hmv.trans hst,?_⟩
         ·cases hb0
          rw [add_none]
          exact hrun
         ·have:=VRel.sl (n:=(newB (hset H hd' (some { b with rw:=false })) ⟨b.cells.drop o++new,info.size,true,len*info.size,hd'::b.par⟩).length) (φ:=extP φ H.length ⟨(φ hd').B,(φ hd').base+o,(φ hd').base+o+c*info.size,b.sz⟩) H.length 0 (len+n) (len+n) c
           (by simp [newB,length_hset]) (Nat.le_refl _) hcl (by rw [extP_eq];simp [hbsz])
          rw [extP_eq] at this
          simpa [atNew] using this
      ·cases h
end Go.AM
