/- An abstract machine over Go's operations: memory is a list of blocks, an append moves a slice to a new block. Definitions. -/
import Derived.Calls
import Derived.Laws.World
import Derived.Laws.Sem
import Derived.Laws.Cells
import Derived.Laws.BytesArg
import Derived.Laws.Tables
import Derived.Laws.Rows
import Derived.Lib.ConvBytes
import Derived.Laws.AppendOwn
set_option linter.unusedSimpArgs false
set_option linter.unusedVariables false
namespace Go.AM
open Go
structure Blk where
 cells:List Value
 sz:Nat
 rw:Bool
 lo:Nat
 par:List Nat
abbrev Heap:=List (Option Blk)
def hget (H:Heap) (h:Nat):Option Blk:=(H[h]?).join
def hset (H:Heap) (h:Nat) (b:Option Blk):Heap:=H.set h b
abbrev Env:=Nat→Value
def upd (ρ:Env) (t:Nat) (v:Value):Env:=fun i=>if i=t then v else ρ i
def put (ρ:Env) (dst:Option Tmp) (v:Value):Env:=match dst with | some t=>upd ρ t v | none=>ρ
def d0a (ρ:Env):Operand→Value
 | .tmp t=>ρ t
 | .const v=>v
 | .global g=>.map (some g)
 | .func f=>.func (.func f) #[] #[]
def b3a:Value→Bool
 | .bool _ | .int _ _ | .string _ | .pointer none | .slice none _ _ | .nilFunc | .nilIface=>true
 | _=>false
def f8a:Value→Bool
 | .agg xs=>xs.all b3a
 | .tuple xs=>xs.all b3a
 | v=>b3a v
def b5a:Operand→Bool
 | .const v=>f8a v
 | _=>true
def f5a (ops:Array Oper) (ρ:Env) (j:Nat):Option Bool:=
 match (ops[j]?).bind (·.dst) with
 | some t=>match ρ t with | .bool b=>some b | _=>none
 | none=>none
def k3a {α:Type} (P:Program):Sem α→Option α
 | .pure a=>some a
 | .program k=>k3a P (k P)
 | .mark _ k=>k3a P k
 | _=>none
def f3a (P:Program) (t:TypeId):Option Nat:=(P.info? t).map (·.size)
def g8a (P:Program) (t:TypeId):Option Bool:=(P.underlying t).map fun | .struct _ | .array _ _=>true | _=>false
def i3a (P:Program) (t:TypeId):Option Value:=(P.info? t).bind (·.zero)
def l0b:List Value→Nat→List Value→List Value
 | cs,_,[]=>cs
 | cs,o,v::vs=>l0b (cs.set o v) (o+1) vs
def readA (H:Heap) (a:Addr) (n:Nat):Option (List Value):=
 if a.spot.isSome then none else
 match hget H a.block with
 | some b=>if a.off+n≤b.cells.length then some ((b.cells.drop a.off).take n) else none
 | none=>none
def v7b (P:Program) (t:TypeId) (x:Value) (H:Heap):Option Value:=
 match x with
 | .pointer (some a)=>do
  if ← g8a P t then do
   let cs ← readA H a (← f3a P t)
   some (.agg cs.toArray)
  else if a.spot.isSome then none else do
   let b ← hget H a.block
   b.cells[a.off]?
 | _=>none
def s4a (H:Heap) (ps:List Nat):Heap:=ps.foldl (fun H p=>hset H p none) H
def x4a (base:Nat) (a:Addr) (vs:List Value) (H:Heap):Option Heap:=
 if a.spot.isSome then none else
 match hget H a.block with
 | some b=>if b.rw=true∧base≤a.block∧a.off+vs.length≤b.cells.length∧vs.all Value.oneCell'=true
   then (if b.lo≤a.off then some (hset H a.block (some { b with cells:=l0b b.cells a.off vs }))
    else if b.par.all (fun p=>p != a.block)=true then some (hset (s4a H b.par) a.block (some { b with cells:=l0b b.cells a.off vs,lo:=0,par:=[] })) else none) else none
 | none=>none
def k6b (P:Program) (base:Nat) (t:TypeId) (x v:Value) (H:Heap):Option Heap:=
 match x with
 | .pointer (some a)=>do
  if v.cells.size≠(← f3a P t) then none else x4a base a v.cells.toList H
 | _=>none
def p8a (H:Heap) (b:Blk):Heap:=H++[some b]
def s5a (H:Heap) (cells:List Value) (sz:Nat):Heap:=p8a H ⟨cells,sz,true,0,[]⟩
def o0a (H:Heap):Addr:=⟨H.length,0,none⟩
def v0b:Addr:=⟨0,0,some 0⟩
def e5e:Value→Option Nat
 | .int _ i=>if 0≤i then some i.toNat else none
 | _=>none
def q4a:Option Value→Option (Option Nat)
 | none=>some none
 | some v=>(e5e v).map some
def a1b (P:Program) (t:TypeId) (x:Value) (lo hi mx:Option Value) (H:Heap):Option Value:=do
 let lo ← q4a lo
 let hi ← q4a hi
 let mx ← q4a mx
 match ← P.underlying t,x with
 | .string,.string s=>
  if mx.isSome then none else
  let l:=lo.getD 0;let h:=hi.getD s.size
  if l≤h∧h≤s.size then some (.string (s.extract l h)) else none
 | .slice e,.slice a len cap=>
  let sz ← f3a P e
  if mx.isSome&&hi.isNone then none else
  let m:=mx.getD cap;let h:=hi.getD len;let l:=lo.getD 0
  if l≤h∧h≤m∧m≤cap then
   match a with
   | none=>some (.slice none (h - l) (m - l))
   | some a=>
    if mx.isSome=true∧m=l then some (.slice (some v0b) 0 0) else
    if l=0 then some (.slice (some a) h m) else
    if a.spot.isSome then none else
    match hget H a.block with
    | some b=>if b.sz=sz then some (.slice (some ⟨a.block,a.off+l*sz,none⟩) (h - l) (m - l)) else none
    | none=>none
  else none
 | _,_=>none
def y3a (P:Program) (s:TypeId) (x:Value) (f:Nat):Option Value:=do
 let .struct fields ← P.underlying s | none
 let fd ← fields[f]?
 let .pointer (some a):=x | none
 if a.spot.isSome∨(← f3a P fd.type)=0 then none else some (.pointer (some ⟨a.block,a.off+fd.offset,none⟩))
def m0b (P:Program) (s:TypeId) (x:Value) (f:Nat):Option Value:=
 match P.underlying s,x with
 | some (.struct fields),.agg cs=>
  match fields[f]? with
  | some fd=>
   match g8a P fd.type,f3a P fd.type with
   | some true,some n=>if fd.offset+n≤cs.size then some (.agg (cs.extract fd.offset (fd.offset+n))) else none
   | some false,some _=>cs[fd.offset]?
   | _,_=>none
  | none=>none
 | _,_=>none
def y4a (P:Program) (t:TypeId) (x ix:Value):Option Value:=do
 let .int _ i:=ix | none
 match ← P.underlying t,x with
 | .slice e,.slice (some a) len _=>
  if 0≤i∧i<len∧a.spot.isSome=false then some (.pointer (some ⟨a.block,a.off+i.toNat*(← f3a P e),none⟩)) else none
 | _,_=>none
def s0a (H:Heap) (sz n:Nat):Value→Option (List Value)
 | .slice (some a) _ _=>if n*sz=0 then some [] else readA H a (n*sz)
 | .slice none _ _=>some []
 | .string s=>some ((s.extract 0 n).data.toList.map fun b=>.int .u8 b.toNat)
 | _=>none
def m7d:Value→Option Nat
 | .slice _ n _=>some n
 | .string s=>some s.size
 | _=>none
def q7a (P:Program) (base:Nat) (argTypes:Array TypeId) (s x:Value) (H:Heap):Option (Value×Heap):=do
 let st ← argTypes[0]?
 let .slice e ← P.underlying st | none
 let xt ← argTypes[1]?
 if ((P.underlying xt).map fun | .slice _=>true | .string=>true | _=>false)≠some true then none else
 let sz ← f3a P e
 let info ← P.info? e
 let z ← info.zero
 if z.cells.size≠sz then none else
 let n ← m7d x
 let new ← s0a H sz n x
 let .slice a len cap:=s | none
 let need:=len+n
 if new.length≠n*sz then none
 else if need≤cap then
  if n*sz=0 then some (.slice a need cap,H) else
  match a with
  | some a=>do
   if a.spot.isSome then none else
   let H' ← x4a base ⟨a.block,a.off+len*sz,none⟩ new H
   some (.slice (some a) need cap,H')
  | none=>none
 else if ¬ (need*info.bytes≤2 ^ 47∧need<2 ^ 62∧0<info.bytes)∨new.all Value.oneCell'=false then none
 else match a with
  | none=>if len=0∧cap=0 then some (.slice (some (o0a H)) need need,s5a H new sz) else none
  | some a=>do
   if a.spot.isSome then (if len=0∧cap=0 then some (.slice (some (o0a H)) need need,s5a H new sz) else none) else
   let b ← hget H a.block
   if b.rw=true∧base≤a.block∧b.sz=sz∧a.off+len*sz=b.cells.length then
    some (.slice (some (o0a H)) need need,p8a (hset H a.block (some { b with rw:=false })) ⟨b.cells.drop a.off++new,sz,true,len*sz,a.block::b.par⟩)
   else none
def h4e (P:Program) (base:Nat) (argTypes:Array TypeId) (d s:Value) (H:Heap):Option (Value×Heap):=do
 let dt ← argTypes[0]?
 let .slice e ← P.underlying dt | none
 let sz ← f3a P e
 let .slice a dl _:=d | none
 let n:=Nat.min (← m7d s) dl
 let new ← s0a H sz n s
 if new=[] then some (.int .i64 n,H) else
 match a with
 | some a=>do some (.int .i64 n,← x4a base a new H)
 | none=>none
def i2d (P:Program) (base:Nat) (argTypes:Array TypeId) (d:Value) (H:Heap):Option (Value×Heap):=do
 let dt ← argTypes[0]?
 let .slice e ← P.underlying dt | none
 let z ← i3a P e
 let .slice a n _:=d | none
 if z.cells.all b3a=false then none else
 if n=0 then some (.tuple #[],H) else
 match a with
 | some a=>do some (.tuple #[],← x4a base a (Builtin.zeroCells z.cells n).toList H)
 | none=>none
def u8s:List Value→Option (List Int)
 | []=>some []
 | .int .u8 n::r=>(u8s r).map (n :: ·)
 | _=>none
def q2b (P:Program) (t:TypeId) (x y:Value):Option Bool:=
 match P.underlying t,x,y with
 | some (.pointer _),.pointer none,.pointer b=>some b.isNone
 | some (.pointer _),.pointer (some _),.pointer none=>some false
 | some (.slice _),.slice none _ _,.slice b _ _=>some b.isNone
 | some (.slice _),.slice (some _) _ _,.slice none _ _=>some false
 | some (.func _ _ _),.nilFunc,.nilFunc=>some true
 | some (.func _ _ _),.nilFunc,.func _ _ _=>some false
 | some (.func _ _ _),.func _ _ _,.nilFunc=>some false
 | some (.interface _),.nilIface,.iface _ _=>some false
 | some (.interface _),.iface _ _,.nilIface=>some false
 | _,_,_=>none
end Go.AM
namespace Go.AM
open Go
def b8c (op:BinOp) (k:IntKind) (a b:Int):Option Value:=
 match op with
 | .add=>some (.int k (k.wrap (a+b)))
 | .sub=>some (.int k (k.wrap (a - b)))
 | .mul=>some (.int k (k.wrap (a*b)))
 | .quo=>if b=0 then none else some (.int k (k.wrap (a.tdiv b)))
 | .rem=>if b=0 then none else some (.int k (a.tmod b))
 | .eql=>some (.bool (a==b))
 | .neq=>some (.bool (a != b))
 | .lss=>some (.bool (decide (a<b)))
 | .leq=>some (.bool (decide (a≤b)))
 | .gtr=>some (.bool (decide (a>b)))
 | .geq=>some (.bool (decide (a≥b)))
 | _=>none
def b6d (op:BinOp) (x y:ByteArray):Option Value:=
 match op with
 | .add=>if ((x.size+y.size:Nat):Int)>IntKind.i64.max then none else some (.string (x++y))
 | .eql=>some (.bool (x.toList==y.toList))
 | .neq=>some (.bool !(x.toList==y.toList))
 | .lss=>some (.bool (Op.bytesLess x.toList y.toList))
 | .leq=>some (.bool (Op.bytesLess x.toList y.toList || x.toList==y.toList))
 | .gtr=>some (.bool !(Op.bytesLess x.toList y.toList || x.toList==y.toList))
 | .geq=>some (.bool !(Op.bytesLess x.toList y.toList))
 | _=>none
def j9c (P:Program) (op:BinOp) (t:TypeId) (x y:Value):Option Value:=
 match x,y with
 | .int k a,.int k' b=>
  match op with
  | .shl=>if b<0 then none else some (.int k (k.wrap (a*2 ^ (min b.toNat k.bits))))
  | .shr=>if b<0 then none else some (.int k (a.fdiv (2 ^ (min b.toNat k.bits))))
  | .and | .or | .xor | .andNot=>if k=k' then k3a P (Op.intBits op k a b) else none
  | op=>if k=k' then b8c op k a b else none
 | .string a,.string b=>b6d op a b
 | .bool a,.bool b=>
  match op with
  | .eql=>if (P.underlying t).map (fun | .bool=>true | _=>false)=some true then some (.bool (a==b)) else none
  | .neq=>if (P.underlying t).map (fun | .bool=>true | _=>false)=some true then some (.bool !(a==b)) else none
  | _=>none
 | x,y=>none
def eqA (P:Program) (op:BinOp) (t:TypeId) (x y:Operand) (a b:Value):Option Value:=
 match op with
 | .eql=>if f8a a&&f8a b then k3a P (do eqGuard .eql t x y a b;binOp .eql t a b) else none
 | .neq=>if f8a a&&f8a b then k3a P (do eqGuard .neq t x y a b;binOp .neq t a b) else none
 | _=>none
def p9b (P:Program) (src dst:TypeId) (x:Value) (H:Heap):Option (Value×Heap):=do
 let s ← P.underlying src
 let d ← P.underlying dst
 match s,d,x with
 | .int _,.int k,.int _ n=>some (.int k (k.wrap n),H)
 | .string,.string,.string a=>some (.string a,H)
 | .string,.slice e,.string a=>
  match ← P.underlying e with
  | .int .u8=>some (.slice (some (o0a H)) a.size a.size,s5a H (a.data.toList.map fun b=>.int .u8 b.toNat) 1)
  | _=>none
 | .slice e,.string,.slice b n _=>
  match ← P.underlying e with
  | .int .u8=>
   match b with
   | none=>some (.string .empty,H)
   | some a=>if n=0 then some (.string .empty,H) else do
    let cs ← readA H a n
    some (.string (strOfNums (← u8s cs)),H)
  | _=>none
 | _,_,_=>none
def b4c (P:Program) (t:TypeId) (parts:List (Nat×Value)):Option Value:=
 match i3a P t with
 | some z=>if z.cells.all b3a=false then none else (P.built t parts).map .agg
 | none=>none
def q8a (P:Program) (t:TypeId) (len:Nat) (parts:List (Nat×Value)) (H:Heap):Option (Value×Heap):=do
 let .slice e ← P.underlying t | none
 let size ← f3a P e
 let z ← i3a P e
 if len*size>2 ^ 24∨z.cells.all b3a=false∨z.cells.size≠size then none else
 let cells ← Instr.fill (fun i=>some (i*size,size)) ((Array.range (len*size)).map (z.cells[· % z.cells.size]!)) parts
 some (.slice (some (o0a H)) len len,s5a H cells.toList size)
def w3a (P:Program) (t:TypeId) (l c:Value) (H:Heap):Option (Value×Heap):=do
 let .slice e ← P.underlying t | none
 let info ← P.info? e
 let z ← info.zero
 let .int .i64 l:=l | none
 let .int .i64 c:=c | none
 if 0≤l∧l≤c∧info.bytes*c≤2 ^ 48∧c<2 ^ 62∧z.cells.all b3a=true∧z.cells.size=info.size then
  some (.slice (some (o0a H)) l.toNat l.toNat,s5a H ((Array.range (l.toNat*info.size)).map (z.cells[· % z.cells.size]!)).toList info.size)
 else none
def g1a (P:Program) (base:Nat) (b:Builtin) (at_:Array TypeId) (args:List Value) (H:Heap):Option (Value×Heap):=
 match b,args with
 | .len,[x]=>
  match (at_[0]?).bind P.underlying,x with
  | some .string,.string s=>some (.int .i64 s.size,H)
  | some (.slice _),.slice _ n _=>some (.int .i64 n,H)
  | _,_=>none
 | .append,[s,x]=>q7a P base at_ s x H
 | .copy,[d,s]=>h4e P base at_ d s H
 | .clear,[d]=>i2d P base at_ d H
 | .max,[.int k a,.int k' b]=>some (.int k (if b>a then b else a),H)
 | .min,[.int k a,.int k' b]=>some (.int k (if b<a then b else a),H)
 | _,_=>none
def e4c (P:Program) (as:TypeId) (v:Value):Option Value:=
 match P.underlying as with
 | some (.interface _)=>none
 | some _=>
  match v with
  | .iface t u=>if t=as then some (.tuple #[u,.bool true]) else match i3a P as with | some z=>(match f8a z with | true=>some (.tuple #[z,.bool false]) | false=>none) | none=>none
  | _=>none
 | none=>none
def opA (P:Program) (base:Nat) (ρ:Env) (op:Op) (H:Heap):Option (Value×Heap):=
 match op with
 | .move x | .assign x=>some (d0a ρ x,H)
 | .pick c a b=>match d0a ρ c with | .bool t=>some (if t then d0a ρ a else d0a ρ b,H) | _=>none
 | .alloc t=>do
  let z ← i3a P t
  if z.cells.all b3a then some (.pointer (some (o0a H)),s5a H z.cells.toList 1) else none
 | .box _ x=>some (.pointer (some (o0a H)),s5a H (d0a ρ x).cells.toList 1)
 | .build t parts=>(b4c P t (parts.toList.map fun (i,x)=>(i,d0a ρ x))).map (·,H)
 | .buildSlice t n parts=>q8a P t n (parts.toList.map fun (i,x)=>(i,d0a ρ x)) H
 | .load t a=>(v7b P t (d0a ρ a) H).map (·,H)
 | .store t a x=>(k6b P base t (d0a ρ a) (d0a ρ x) H).map (undef,·)
 | .nilCheck x=>match d0a ρ x with | .pointer (some a)=>some (.pointer (some a),H) | .func (.func f) a b=>some (.func (.func f) a b,H) | _=>none
 | .binOp op t x y _=>
  match j9c P op t (d0a ρ x) (d0a ρ y) with
  | some v=>some (v,H)
  | none=>
   match op,q2b P t (d0a ρ x) (d0a ρ y) with
   | .eql,some b=>some (.bool b,H)
   | .neq,some b=>some (.bool !b,H)
   | _,_=>(eqA P op t x y (d0a ρ x) (d0a ρ y)).bind fun v=>if f8a v then some (v,H) else none
 | .unOp op _ x=>
  match op,d0a ρ x with
  | .not,.bool b=>some (.bool !b,H)
  | .neg,.int k n=>some (.int k (k.wrap (0 - n)),H)
  | .xor,.int k n=>(k3a P (Op.intBits .xor k (if k.signed then -1 else k.max) n)).bind fun v=>if f8a v then some (v,H) else none
  | _,_=>none
 | .convert s d x=>p9b P s d (d0a ρ x) H
 | .typeAssert x _ as co=>match co with | true=>(e4c P as (d0a ρ x)).map (·,H) | false=>none
 | .makeInterface t x=>match P.underlying t with | some (.interface _)=>none | some _=>some (.iface t (d0a ρ x),H) | none=>none
 | .makeFunc fn a b=>some (.func fn (a.map (d0a ρ)) (b.map (d0a ρ)),H)
 | .makeSlice t l c=>w3a P t (d0a ρ l) (d0a ρ c) H
 | .slice t x lo hi mx=>(a1b P t (d0a ρ x) (lo.map (d0a ρ)) (hi.map (d0a ρ)) (mx.map (d0a ρ)) H).map (·,H)
 | .fieldAddr s x f=>(y3a P s (d0a ρ x) f).map (·,H)
 | .field s x f=>(m0b P s (d0a ρ x) f).map (·,H)
 | .indexAddr t x i=>(y4a P t (d0a ρ x) (d0a ρ i)).map (·,H)
 | .index t x i=>
  match P.underlying t,d0a ρ x,d0a ρ i with
  | some .string,.string s,.int _ i=>if 0≤i then (s.data[i.toNat]?).map fun b=>(.int .u8 b.toNat,H) else none
  | _,_,_=>none
 | .extract x i=>match d0a ρ x with | .tuple vs=>(vs[i]?).map (·,H) | _=>none
 | .call { callee:=.builtin b,args,argTypes } => g1a P base b argTypes (args.toList.map (d0a ρ)) H
 | _=>none
def b6b (P:Program) (ρ:Env) (H:Heap):ResultVar→Option Value
 | .tmp t=>some (ρ t)
 | .cell a t=>v7b P t (ρ a) H
def d2b (P:Program) (fn:Func) (ρ:Env) (H:Heap):Option Value:=
 match fn.results.toList with
 | [r]=>b6b P ρ H r
 | rs=>(rs.mapM (b6b P ρ H)).map fun vs=>.tuple vs.toArray
inductive h6a where
 | normal
 | exit (id:Nat)
 | ret
inductive Job where
 | ops (sz:Nat) (ops:Array Oper) (l:List Nat) (ρ:Env)
 | code (sz:Nat) (c:Code) (ρ:Env)
 | call (f:FuncId) (args:List Value)
inductive Out where
 | env (ρ:Env)
 | exit (e:h6a) (ρ:Env)
 | val (v:Value)
def i9a (sz:Nat):Option Tmp→Prop
 | some t=>t<sz
 | none=>True
instance {sz:Nat} {d:Option Tmp} : Decidable (i9a sz d):=by cases d<;>unfold i9a<;>infer_instance
def o2a (args:List Value):Env:=fun i=>args.getD i undef
def l4a (ρ:Env) (op:Op):Option (FuncId×List Value):=
 match op with
 | .call { callee:=.value f,args,.. } =>
  match d0a ρ f with
  | .func (.func g) first captured=>some (g,first.toList++args.toList.map (d0a ρ)++captured.toList)
  | _=>none
 | _=>none
inductive r2c (n:Nat):Value→Prop
 | scalar {v} (h:b3a v=true):r2c n v
 | ptr (h o) (hn:h<n):r2c n (.pointer (some ⟨h,o,none⟩))
 | sl (h o l m) (hn:h<n):r2c n (.slice (some ⟨h,o,none⟩) l m)
 | func (fn:Fn) (xs cs:Array Value) (h1 : ∀ i (h:i<xs.size),r2c n xs[i]) (h2 : ∀ i (h:i<cs.size),r2c n cs[i]):r2c n (.func fn xs cs)
 | iface (t v) (h:r2c n v):r2c n (.iface t v)
 | agg (xs:Array Value) (h : ∀ i (h:i<xs.size),r2c n xs[i]):r2c n (.agg xs)
 | tuple (xs:Array Value) (h : ∀ i (h:i<xs.size),r2c n xs[i]):r2c n (.tuple xs)
 | free:r2c n (.slice (some v0b) 0 0)
 | glob (g):r2c n (.map (some g))
inductive Big (P:Program) (orc:Nat→FuncId→List Value→Heap→Value→Heap→Prop):Nat→Job→Heap→Out→Heap→Prop
 | w4b {base sz ops ρ H} : Big P orc base (.ops sz ops [] ρ) H (.env ρ) H
 | z0a {base sz ops i l ρ H out H' o} (ho:ops[i]?=some o) (hw:Region.wanted o (f5a ops ρ)=false) (hd:i9a sz o.dst)
   (h:Big P orc base (.ops sz ops l (put ρ o.dst undef)) H out H'):Big P orc base (.ops sz ops (i::l) ρ) H out H'
 | w5b {base sz ops i l ρ H H1 v out H' o} (ho:ops[i]?=some o) (hw:Region.wanted o (f5a ops ρ)=true) (hd:i9a sz o.dst)
   (hc:o.op.operands.toList.all b5a=true) (hop:opA P base ρ o.op H=some (v,H1))
   (h:Big P orc base (.ops sz ops l (put ρ o.dst v)) H1 out H'):Big P orc base (.ops sz ops (i::l) ρ) H out H'
 | y9a {base sz ops i l ρ H H1 v out H' o f args fn} (ho:ops[i]?=some o) (hw:Region.wanted o (f5a ops ρ)=true) (hd:i9a sz o.dst)
   (hc : o.op.operands.toList.all b5a = true) (ht : l4a ρ o.op = some (f, args)) (hf : P.funcs[f]? = some fn) (hn : fn.name ≠ "runtime.NumGoroutine") (hb : fn.body.isNone = false)
   (hcall:Big P orc base (.call f args) H (.val v) H1)
   (h:Big P orc base (.ops sz ops l (put ρ o.dst v)) H1 out H'):Big P orc base (.ops sz ops (i::l) ρ) H out H'
 | skip {base sz ρ H} : Big P orc base (.code sz .skip ρ) H (.exit .normal ρ) H
 | label {base sz ρ H l} : Big P orc base (.code sz (.label l) ρ) H (.exit .normal ρ) H
 | exit {base sz ρ H id} : Big P orc base (.code sz (.exit id) ρ) H (.exit (.exit id) ρ) H
 | ret {base sz ρ H} : Big P orc base (.code sz .ret ρ) H (.exit .ret ρ) H
 | z3e {base sz c d ρ ρ1 H H1 out H'} (h1:Big P orc base (.code sz c ρ) H (.exit .normal ρ1) H1) (h2:Big P orc base (.code sz d ρ1) H1 out H') :
   Big P orc base (.code sz (.seq c d) ρ) H out H'
 | n5e {base sz c d ρ ρ1 H H1 e} (h1:Big P orc base (.code sz c ρ) H (.exit e ρ1) H1) (he:e ≠ .normal):Big P orc base (.code sz (.seq c d) ρ) H (.exit e ρ1) H1
 | cond {base sz c x y ρ H out H' t} (hk:b5a c=true) (hc:d0a ρ c = .bool t) (h:Big P orc base (.code sz (if t then x else y) ρ) H out H') :
   Big P orc base (.code sz (.cond c x y) ρ) H out H'
 | x6c {base sz id c ρ ρ1 H H1} (h:Big P orc base (.code sz c ρ) H (.exit .normal ρ1) H1):Big P orc base (.code sz (.block id c) ρ) H (.exit .normal ρ1) H1
 | x7c {base sz id c ρ ρ1 H H1} (h:Big P orc base (.code sz c ρ) H (.exit (.exit id) ρ1) H1):Big P orc base (.code sz (.block id c) ρ) H (.exit .normal ρ1) H1
 | b3c {base sz id c ρ ρ1 H H1 e} (h:Big P orc base (.code sz c ρ) H (.exit e ρ1) H1) (h1:e ≠ .normal) (h2:e ≠ .exit id):Big P orc base (.code sz (.block id c) ρ) H (.exit e ρ1) H1
 | z0d {base sz c ρ ρ1 H H1 out H'} (h1:Big P orc base (.code sz c ρ) H (.exit .normal ρ1) H1) (h2:Big P orc base (.code sz (.loop c) ρ1) H1 out H') :
   Big P orc base (.code sz (.loop c) ρ) H out H'
 | d9d {base sz c ρ ρ1 H H1 e} (h1:Big P orc base (.code sz c ρ) H (.exit e ρ1) H1) (he:e ≠ .normal):Big P orc base (.code sz (.loop c) ρ) H (.exit e ρ1) H1
 | region {base sz id ops ρ ρ1 H H1} (h:Big P orc base (.ops sz ops (List.range ops.size) ρ) H (.env ρ1) H1) :
   Big P orc base (.code sz (.region id ops false) ρ) H (.exit .normal ρ1) H1
 | n2b {base sz id ops ρ ρ1 H H1} (hm:P.follows .mixedOrders=true) (h : ∀ t,Big P orc base (.ops sz ops (Region.linearise .any ops t) ρ) H (.env ρ1) H1) :
   Big P orc base (.code sz (.region id ops true) ρ) H (.exit .normal ρ1) H1
 | call {base f args fn c e ρ H H' v} (hf:P.funcs[f]?=some fn) (hb:fn.body=some c) (ha:args.length≤fn.ntmps)
   (h:Big P orc base (.code fn.ntmps c (o2a args)) H (.exit e ρ) H') (he:e = .normal∨e = .ret) (hv:d2b P fn ρ H'=some v) :
   Big P orc base (.call f args) H (.val v) H'
 | orc {base f args H v H'} (h:orc base f args H v H'):Big P orc base (.call f args) H (.val v) H'
 | pure {base base' f args H H1 v} (h:Big P orc base' (.call f args) [] (.val v) H1) (ha:args.all f8a=true) (hv:f8a v=true):Big P orc base (.call f args) H (.val v) H
 | drop {base f args H H1 v} (h:Big P orc base (.call f args) H (.val v) H1) (hk : ∀ i b,hget H i=some b→hget H1 i=some b) (hv:r2c H.length v):Big P orc base (.call f args) H (.val v) H
end Go.AM
namespace Go.AM
open Go
structure Place where
 B:Nat
 base:Nat
 fin:Nat
 sz:Nat
inductive h3a (n:Nat) (φ:Nat→Place):Value→Value→Prop
 | bool (b):h3a n φ (.bool b) (.bool b)
 | int (k x):h3a n φ (.int k x) (.int k x)
 | string (s):h3a n φ (.string s) (.string s)
 | q4d:h3a n φ (.pointer none) (.pointer none)
 | ptr (h o) (hn:h<n):h3a n φ (.pointer (some ⟨h,o,none⟩)) (.pointer (some ⟨(φ h).B,(φ h).base+o,none⟩))
 | a8c (l c):h3a n φ (.slice none l c) (.slice none l c)
 | sl (h o l m c) (hn:h<n) (hl:l≤m) (hm:m≤c) (hf:(φ h).base+o+c*(φ h).sz≤(φ h).fin) :
   h3a n φ (.slice (some ⟨h,o,none⟩) l m) (.slice (some ⟨(φ h).B,(φ h).base+o,none⟩) l c)
 | e1b (h o b) (hn:h<n):h3a n φ (.slice (some ⟨h,o,none⟩) 0 0) (.slice (some b) 0 0)
 | q5a (b):h3a n φ (.slice (some v0b) 0 0) (.slice (some b) 0 0)
 | func (fn:Fn) (xs ys cs ds:Array Value) (h1:xs.size=ys.size) (h2 : ∀ i (h:i<xs.size) (h':i<ys.size),h3a n φ xs[i] ys[i])
   (h3:cs.size=ds.size) (h4 : ∀ i (h:i<cs.size) (h':i<ds.size),h3a n φ cs[i] ds[i]):h3a n φ (.func fn xs cs) (.func fn ys ds)
 | nilFunc:h3a n φ .nilFunc .nilFunc
 | nilIface:h3a n φ .nilIface .nilIface
 | iface (t v v') (h:h3a n φ v v'):h3a n φ (.iface t v) (.iface t v')
 | agg (xs ys:Array Value) (h1:xs.size=ys.size) (h2 : ∀ i (h:i<xs.size) (h':i<ys.size),h3a n φ xs[i] ys[i]):h3a n φ (.agg xs) (.agg ys)
 | tuple (xs ys:Array Value) (h1:xs.size=ys.size) (h2 : ∀ i (h:i<xs.size) (h':i<ys.size),h3a n φ xs[i] ys[i]):h3a n φ (.tuple xs) (.tuple ys)
 | glob (g):h3a n φ (.map (some g)) (.pointer (some ⟨g,0,none⟩))
theorem h3a.mono {n n':Nat} {φ φ':Nat→Place} {v v':Value} (h:h3a n φ v v') (hn:n≤n') (hk : ∀ i,i<n→φ' i=φ i):h3a n' φ' v v':=by
 induction h with
 | bool b=>exact .bool b
 | int k x=>exact .int k x
 | string s=>exact .string s
 | q4d=>exact .q4d
 | ptr h o hh=>rw [← hk h hh];exact .ptr h o (Nat.lt_of_lt_of_le hh hn)
 | a8c l c=>exact .a8c l c
 | sl h o l m c hh hl hm hf=>rw [← hk h hh] at hf ⊢;exact .sl h o l m c (Nat.lt_of_lt_of_le hh hn) hl hm hf
 | e1b h o b hh=>exact .e1b h o b (Nat.lt_of_lt_of_le hh hn)
 | q5a b=>exact .q5a b
 | func fn xs ys cs ds h1 _ h3 _ i2 i4=>exact .func fn xs ys cs ds h1 i2 h3 i4
 | nilFunc=>exact .nilFunc
 | nilIface=>exact .nilIface
 | iface t v v' _ ih=>exact .iface t v v' ih
 | agg xs ys h1 _ i2=>exact .agg xs ys h1 i2
 | tuple xs ys h1 _ i2=>exact .tuple xs ys h1 i2
 | glob g=>exact .glob g
theorem h3a.scalar {n:Nat} {φ:Nat→Place} {v:Value} (h:b3a v=true):h3a n φ v v:=by
 cases v with
 | bool b=>exact .bool b
 | int k x=>exact .int k x
 | string s=>exact .string s
 | pointer a=>cases a with | none=>exact .q4d | some a=>simp [b3a] at h
 | slice a l c=>cases a with | none=>exact .a8c l c | some a=>simp [b3a] at h
 | nilFunc=>exact .nilFunc
 | nilIface=>exact .nilIface
 | _=>simp [b3a] at h
theorem h3a.closed {n:Nat} {φ:Nat→Place} {v:Value} (h:f8a v=true):h3a n φ v v:=by
 cases v with
 | agg xs=>
  simp only [f8a,Array.all_eq_true] at h
  exact .agg xs xs rfl fun i hi _=>.scalar (h i hi)
 | tuple xs=>
  simp only [f8a,Array.all_eq_true] at h
  exact .tuple xs xs rfl fun i hi _=>.scalar (h i hi)
 | _=>exact .scalar (by simpa [f8a] using h)
theorem h3a.undef {n:Nat} {φ:Nat→Place} : h3a n φ undef undef:=.tuple _ _ rfl (fun i h=>by simp at h)
theorem h3a.n2a {n:Nat} {φ:Nat→Place} {v v':Value} (h:h3a n φ v v') (hs:b3a v=true):v'=v:=by
 cases h<;>first | rfl | (simp [b3a] at hs)
theorem h3a.w2a {n:Nat} {φ:Nat→Place} {v v':Value} (h:h3a n φ v v') (hs:f8a v=true):v'=v:=by
 cases h with
 | agg xs ys h1 h2=>
  simp only [f8a,Array.all_eq_true] at hs
  congr 1
  exact Array.ext h1.symm fun i hi hi'=>(h2 i hi' hi).n2a (hs i hi')
 | tuple xs ys h1 h2=>
  simp only [f8a,Array.all_eq_true] at hs
  congr 1
  exact Array.ext h1.symm fun i hi hi'=>(h2 i hi' hi).n2a (hs i hi')
 | _=>first | rfl | (simp [f8a,b3a] at hs)
theorem h3a.oneCell {n:Nat} {φ:Nat→Place} {v v':Value} (h:h3a n φ v v'):v'.oneCell'=v.oneCell':=by
 cases h<;>rfl
def j5a (n:Nat) (φ:Nat→Place) (vs vs':List Value):Prop:=vs.length=vs'.length ∧ ∀ (i:Nat) (v v':Value),vs[i]?=some v→vs'[i]?=some v'→h3a n φ v v'
theorem j5a.nil {n φ} : j5a n φ [] []:=⟨rfl,fun i v v' h=>by simp at h⟩
theorem j5a.cons {n φ v v' vs vs'} (h:h3a n φ v v') (hs:j5a n φ vs vs'):j5a n φ (v::vs) (v'::vs'):=by
 refine ⟨by simp [hs.1],fun i u u' hu hu' => ?_⟩
 cases i with
 | zero=>simp at hu hu';subst hu hu';exact h
 | succ i=>simp at hu hu';exact hs.2 i u u' hu hu'
theorem j5a.head {n φ v v' vs vs'} (h:j5a n φ (v::vs) (v'::vs')):h3a n φ v v':=h.2 0 v v' rfl rfl
theorem j5a.tail {n φ v v' vs vs'} (h:j5a n φ (v::vs) (v'::vs')):j5a n φ vs vs' :=
 ⟨by simpa using h.1,fun i u u' hu hu'=>h.2 (i+1) u u' (by simpa using hu) (by simpa using hu')⟩
theorem j5a.mono {n n':Nat} {φ φ':Nat→Place} {v v':List Value} (h:j5a n φ v v') (hn:n≤n') (hk : ∀ i,i<n→φ' i=φ i):j5a n' φ' v v' :=
 ⟨h.1,fun i u u' hu hu'=>(h.2 i u u' hu hu').mono hn hk⟩
theorem j5a.append {n φ a a' b b'} (h:j5a n φ a a') (k:j5a n φ b b'):j5a n φ (a++b) (a'++b'):=by
 induction a generalizing a' with
 | nil=>cases a' with | nil=>exact k | cons _ _=>simp [j5a] at h
 | cons x xs ih=>
  cases a' with
  | nil=>simp [j5a] at h
  | cons y ys=>exact .cons h.head (ih h.tail)
theorem j5a.n8c {n φ} {l:List Value} (h : ∀ v∈l,b3a v=true):j5a n φ l l:=
 ⟨rfl,fun i v v' hv hv'=>by rw [hv] at hv';cases hv';exact .scalar (h v (List.mem_of_getElem? hv))⟩
theorem h3a.cells {n φ v v'} (h:h3a n φ v v'):j5a n φ v.cells.toList v'.cells.toList:=by
 cases h with
 | agg xs ys h1 h2=>
  refine ⟨by simpa [Value.cells] using h1,fun i u u' hu hu' => ?_⟩
  simp only [Value.cells,Array.getElem?_toList] at hu hu'
  obtain ⟨hi,rfl⟩:=Array.getElem?_eq_some_iff.1 hu
  obtain ⟨hi',rfl⟩:=Array.getElem?_eq_some_iff.1 hu'
  exact h2 i hi hi'
 | _=>exact .cons (by constructor<;>assumption) .nil
theorem h3a.h3d {n φ l l'} (h:j5a n φ l l'):h3a n φ (.agg l.toArray) (.agg l'.toArray):=
 .agg _ _ (by simpa using h.1) fun i hi hi'=>h.2 i _ _ (by simp at hi;simp [hi]) (by simp at hi';simp [hi'])
theorem h3a.j2c {n φ l l'} (h:j5a n φ l l'):h3a n φ (.tuple l.toArray) (.tuple l'.toArray):=
 .tuple _ _ (by simpa using h.1) fun i hi hi'=>h.2 i _ _ (by simp at hi;simp [hi]) (by simp at hi';simp [hi'])
def Cov (n:Nat) (φ:Nat→Place) (w:World) (p:Place) (b:Blk):Prop:=
 ∃ c e fr,w.heap[p.B]?=some (.cells c e fr)∧p.base+b.cells.length≤p.fin∧p.fin≤c.size∧p.sz=b.sz ∧
  (∀ (i:Nat) (v:Value),b.cells[i]?=some v → ∃ v':Value,c[p.base+i]?=some v'∧h3a n φ v v') ∧
  (b.rw=true→(∀ i,p.base≤i→(i<p.fin∨p.sz≠1) → ¬(fr.1≤i∧i<fr.2))∧(p.sz≠1→p.fin≤p.base+9223372036854775807*p.sz))∧b.lo≤b.cells.length
def o3c (p:Place) (b:Blk):Nat:=if b.rw then p.fin else p.base+b.cells.length
def d5c (p:Place) (b:Blk) (h':Nat):Nat:=if h'∈b.par then p.base+b.lo else p.base
structure Sim (φ:Nat→Place) (H:Heap) (w:World):Prop where
 cov : ∀ h b,hget H h=some b→Cov H.length φ w (φ h) b
 apart : ∀ h h' b b',h≠h'→hget H h=some b→hget H h'=some b'→b.rw=true →
  (φ h).B≠(φ h').B∨(φ h).fin≤(φ h').base∨o3c (φ h') b'≤d5c (φ h) b h'
 par : ∀ h b p b',hget H h=some b→p∈b.par→hget H p=some b'→b'.rw=false
 z2a : ∀ h b p,hget H h=some b→p∈b.par→p<H.length
structure Step (base:Nat) (φ:Nat→Place) (H:Heap) (w:World) (φ':Nat→Place) (H':Heap) (w':World):Prop where
 len:H.length≤H'.length
 keep : ∀ h,h<H.length→φ' h=φ h
 size:w.heap.size≤w'.heap.size
 os:w'.os=w.os
 tape:w'.tape=w.tape
 output:w'.output=w.output
 frame : ∀ b,b<w.heap.size→(∀ h blk,base≤h→hget H h=some blk→blk.rw=true→(φ h).B≠b)→w'.heap[b]?=w.heap[b]?
 old : ∀ h b',h<H.length→hget H' h=some b' → ∃ b,hget H h=some b∧(b'.rw=true→b.rw=true)
 later : ∀ h' b',base≤h'→hget H' h'=some b'→b'.rw=true→w.heap.size≤(φ' h').B ∨ ∃ h b,base≤h∧hget H h=some b∧b.rw=true∧(φ h).B=(φ' h').B
 fresh : ∀ h' b',H.length≤h'→hget H' h'=some b'→w.heap.size≤(φ' h').B ∨ ∃ h b,hget H h=some b∧(φ h).B=(φ' h').B
 sim:Sim φ' H' w'
theorem e7a {H:Heap} {h b} (e:hget H h=some b):h<H.length:=by
 rcases Nat.lt_or_ge h H.length with hl | hl
 ·exact hl
 ·simp [hget,List.getElem?_eq_none hl] at e
theorem t0a {φ φ':Nat→Place} {H H':Heap} {w:World} (hl:H'.length=H.length) : ∀ h' b',H.length≤h'→hget H' h'=some b'→w.heap.size≤(φ' h').B ∨ ∃ h b,hget H h=some b∧(φ h).B=(φ' h').B:=fun h' b' hh hg=>by
 have:=e7a hg
 omega
theorem Step.refl {base φ H w} (hs:Sim φ H w):Step base φ H w φ H w:=
 ⟨Nat.le_refl _,fun _ _=>rfl,Nat.le_refl _,rfl,rfl,rfl,fun _ _ _=>rfl,fun h b' _ hb=>⟨b',hb,id⟩,fun h b hb hg hr=>.inr ⟨h,b,hb,hg,hr,rfl⟩,t0a rfl,hs⟩
theorem Step.trans {base φ H w φ1 H1 w1 φ2 H2 w2} (s:Step base φ H w φ1 H1 w1) (t:Step base φ1 H1 w1 φ2 H2 w2):Step base φ H w φ2 H2 w2 where
 len:=Nat.le_trans s.len t.len
 keep h hh:=(t.keep h (Nat.lt_of_lt_of_le hh s.len)).trans (s.keep h hh)
 size:=Nat.le_trans s.size t.size
 os:=t.os.trans s.os
 tape:=t.tape.trans s.tape
 output:=t.output.trans s.output
 frame b hb hn:=by
  rw [t.frame b (Nat.lt_of_lt_of_le hb s.size) (fun h blk hbase hg hr he => ?_),s.frame b hb hn]
  rcases s.later h blk hbase hg hr with hl | ⟨h0,b0,hb0,hg0,hr0,e0⟩
  ·omega
  ·exact hn h0 b0 hb0 hg0 hr0 (e0.trans he)
 old h b' hh hg:=by
  obtain ⟨b1,hg1,e1⟩:=t.old h b' (Nat.lt_of_lt_of_le hh s.len) hg
  obtain ⟨b,hg0,e0⟩:=s.old h b1 hh hg1
  exact ⟨b,hg0,fun hr=>e0 (e1 hr)⟩
 later h' b' hb hg hr:=by
  rcases t.later h' b' hb hg hr with hl | ⟨h1,b1,hb1,hg1,hr1,e1⟩
  ·exact .inl (Nat.le_trans s.size hl)
  ·rcases s.later h1 b1 hb1 hg1 hr1 with hl | ⟨h0,b0,hb0,hg0,hr0,e0⟩
   ·exact .inl (e1▸hl)
   ·exact .inr ⟨h0,b0,hb0,hg0,hr0,e0.trans e1⟩
 sim:=t.sim
 fresh h' b' hh hg:=by
  have key : ∀ h1 b1,H.length≤h1→hget H1 h1=some b1→(φ1 h1).B=(φ2 h').B→w.heap.size≤(φ2 h').B ∨ ∃ h b,hget H h=some b∧(φ h).B=(φ2 h').B:=fun h1 b1 hl g1 e1=>by
   rcases s.fresh h1 b1 hl g1 with hl | ⟨h0,b0,g0,e0⟩
   ·exact .inl (e1▸hl)
   ·exact .inr ⟨h0,b0,g0,e0.trans e1⟩
  rcases Nat.lt_or_ge h' H1.length with hlt | hge
  ·obtain ⟨b1,g1,_⟩:=t.old h' b' hlt hg
   exact key h' b1 hh g1 (by rw [t.keep h' hlt])
  ·rcases t.fresh h' b' hge hg with hl | ⟨h1,b1,g1,e1⟩
   ·exact .inl (Nat.le_trans s.size hl)
   ·rcases Nat.lt_or_ge h1 H.length with hlt | m9f
    ·obtain ⟨b0,g0,_⟩:=s.old h1 b1 hlt g1
     exact .inr ⟨h1,b0,g0,by rw [← s.keep h1 hlt];exact e1⟩
    ·exact key h1 b1 m9f g1 e1
theorem Step.p1f {base φ H w φ' H' w' v v'} (s:Step base φ H w φ' H' w') (h:h3a H.length φ v v'):h3a H'.length φ' v v':=h.mono s.len s.keep
theorem Step.n3e {base φ H w φ' H' w' v v'} (s:Step base φ H w φ' H' w') (h:j5a H.length φ v v'):j5a H'.length φ' v v':=h.mono s.len s.keep
theorem g5a {H:Heap} {b:Option Blk} {h:Nat} (hh:h<H.length):hget (H++[b]) h=hget H h:=by
 simp [hget,List.getElem?_append_left hh]
theorem n1a {H:Heap} {b:Option Blk} : hget (H++[b]) H.length=b:=by
 simp [hget]
theorem f9a {H:Heap} {b:Option Blk} {h h':Nat} (hh:h≠h'):hget (hset H h b) h'=hget H h':=by
 simp [hget,hset,List.getElem?_set_ne hh]
theorem g6a {H:Heap} {b:Option Blk} {h:Nat} (hh:h<H.length):hget (hset H h b) h=b:=by
 simp [hget,hset,hh]
theorem c7a {H:Heap} {b:Option Blk} {h:Nat} : (hset H h b).length=H.length:=by simp [hset]
def u0b (φ:Nat→Place) (n:Nat) (p:Place):Nat→Place:=fun h=>if h=n then p else φ h
theorem f1c {φ n p h} (hh:h<n):u0b φ n p h=φ h:=by simp [u0b,Nat.ne_of_lt hh]
theorem i2a {φ n p} : u0b φ n p n=p:=by simp [u0b]
theorem y7b {base φ H w} (hs:Sim φ H w) {nb:Blk} {cs:Array Value} {e:TypeId} {fr:Nat×Nat} {fin:Nat} {w1:World}
  (hw:w1.heap=w.heap.push (.cells cs e fr)) (ho:w1.os=w.os) (ht:w1.tape=w.tape) (hu:w1.output=w.output)
  (hl:nb.cells.length≤fin) (hf:fin≤cs.size) (hfr : ∀ i,(i<fin∨nb.sz≠1) → ¬(fr.1≤i∧i<fr.2)) (hcb:nb.sz≠1→fin≤9223372036854775807*nb.sz) (hlo:nb.lo≤nb.cells.length)
  (hpar : ∀ p∈nb.par,p<H.length ∧ ∀ b',hget H p=some b'→b'.rw=false)
  (hc : ∀ (i:Nat) (v:Value),nb.cells[i]?=some v → ∃ v':Value,cs[i]?=some v'∧h3a H.length φ v v') :
  Step base φ H w (u0b φ H.length ⟨w.heap.size,0,fin,nb.sz⟩) (p8a H nb) w1:=by
 have hk : ∀ h,h<H.length→u0b φ H.length ⟨w.heap.size,0,fin,nb.sz⟩ h=φ h:=fun h hh=>f1c hh
 have hold : ∀ b,b<w.heap.size→w1.heap[b]?=w.heap[b]?:=fun b hb=>by
  rw [hw,Array.getElem?_push_lt hb];simp [hb]
 have hlen:(p8a H nb).length=H.length+1:=by simp [p8a]
 have hBlt : ∀ h b,hget H h=some b→(φ h).B<w.heap.size:=fun h b hg=>by
  obtain ⟨c,e,fr,hB,_⟩:=hs.cov h b hg
  exact (Array.getElem?_eq_some_iff.1 hB).1
 refine ⟨by omega,hk,by rw [hw];simp,ho,ht,hu,fun b hb _=>hold b hb,?_,?_,fun h' b' hh hg=>(by
  have:=e7a hg
  rw [hlen] at this
  obtain rfl:h'=H.length:=by omega
  rw [i2a]
  exact .inl (Nat.le_refl _)),?_,?_,?_,?_⟩
 ·intro h b' hh hg
  rw [p8a,g5a hh] at hg
  exact ⟨b',hg,id⟩
 ·intro h' b' hb hg hr
  have hlt:=e7a hg
  rw [hlen] at hlt
  rcases Nat.lt_or_ge h' H.length with h1 | h1
  ·rw [p8a,g5a h1] at hg
   rw [hk h' h1]
   exact .inr ⟨h',b',hb,hg,hr,rfl⟩
  ·have:h'=H.length:=by omega
   subst this
   rw [i2a]
   exact .inl (Nat.le_refl _)
 ·intro h b hg
  have hlt:=e7a hg
  rw [hlen] at hlt ⊢
  rcases Nat.lt_or_ge h H.length with h1 | h1
  ·rw [p8a,g5a h1] at hg
   obtain ⟨c,e',fr',hB,g1,g2,g3,g4,g5,g6⟩:=hs.cov h b hg
   rw [hk h h1]
   refine ⟨c,e',fr',by rw [hold _ (hBlt h b hg)];exact hB,g1,g2,g3,fun i v hv => ?_,g5,g6⟩
   obtain ⟨v',hv',hr⟩:=g4 i v hv
   exact ⟨v',hv',hr.mono (by omega) hk⟩
  ·have:h=H.length:=by omega
   subst this
   rw [p8a,n1a] at hg
   cases hg
   rw [i2a]
   refine ⟨cs,e,fr,by rw [hw];simp,by simpa using hl,hf,rfl,fun i v hv => ?_,fun _=>⟨fun i _ hi=>hfr i hi,fun h=>by simpa using hcb h⟩,hlo⟩
   obtain ⟨v',hv',hr⟩:=hc i v hv
   exact ⟨v',by simpa using hv',hr.mono (by omega) hk⟩
 ·intro h h' b b' hne hg hg' hr
  have hlt:=e7a hg
  have hlt':=e7a hg'
  rw [hlen] at hlt hlt'
  rcases Nat.lt_or_ge h H.length with h1 | h1<;>rcases Nat.lt_or_ge h' H.length with h2 | h2
  ·rw [p8a,g5a h1] at hg
   rw [p8a,g5a h2] at hg'
   rw [hk h h1,hk h' h2]
   exact hs.apart h h' b b' hne hg hg' hr
  ·have:h'=H.length:=by omega
   subst this
   rw [p8a,g5a h1] at hg
   rw [hk h h1,i2a]
   left
   have:=hBlt h b hg
   simp;omega
  ·have:h=H.length:=by omega
   subst this
   rw [p8a,g5a h2] at hg'
   rw [hk h' h2,i2a]
   left
   have:=hBlt h' b' hg'
   simp;omega
  ·omega
 ·intro h b p b' hg hp hg'
  have hlt:=e7a hg
  rw [hlen] at hlt
  rcases Nat.lt_or_ge h H.length with h1 | h1
  ·rw [p8a,g5a h1] at hg
   rcases Nat.lt_or_ge p H.length with h2 | h2
   ·rw [p8a,g5a h2] at hg'
    exact hs.par h b p b' hg hp hg'
   ·have hlt':=e7a hg'
    rw [hlen] at hlt'
    have:p=H.length:=by omega
    subst this
    exact absurd (hs.z2a h b _ hg hp) (Nat.lt_irrefl _)
  ·have:h=H.length:=by omega
   subst this
   rw [p8a,n1a] at hg
   cases hg
   obtain ⟨hpl,hpr⟩:=hpar p hp
   rw [p8a,g5a hpl] at hg'
   exact hpr b' hg'
 ·intro h b p hg hp
  have hlt:=e7a hg
  rw [hlen] at hlt ⊢
  rcases Nat.lt_or_ge h H.length with h1 | h1
  ·rw [p8a,g5a h1] at hg
   have:=hs.z2a h b p hg hp
   omega
  ·have:h=H.length:=by omega
   subst this
   rw [p8a,n1a] at hg
   cases hg
   have:=(hpar p hp).1
   omega
theorem i6c {base φ H w} (hs:Sim φ H w) {cells:List Value} {sz:Nat} {cs:Array Value} {e:TypeId} {fr:Nat×Nat} {fin:Nat} {w1:World}
  (hw:w1.heap=w.heap.push (.cells cs e fr)) (ho:w1.os=w.os) (ht:w1.tape=w.tape) (hu:w1.output=w.output)
  (hl:cells.length≤fin) (hf:fin≤cs.size) (hfr : ∀ i,(i<fin∨sz≠1) → ¬(fr.1≤i∧i<fr.2)) (hcb:sz≠1→fin≤9223372036854775807*sz)
  (hc : ∀ (i:Nat) (v:Value),cells[i]?=some v → ∃ v':Value,cs[i]?=some v'∧h3a H.length φ v v') :
  Step base φ H w (u0b φ H.length ⟨w.heap.size,0,fin,sz⟩) (s5a H cells sz) w1:=
 y7b (nb:=⟨cells,sz,true,0,[]⟩) hs hw ho ht hu hl hf hfr hcb (Nat.zero_le _) (fun p hp=>by cases hp) hc
theorem Step.v2e {φ:Nat→Place} {H:Heap} {w:World} {fin sz:Nat} {cells:List Value} :
  h3a (s5a H cells sz).length (u0b φ H.length ⟨w.heap.size,0,fin,sz⟩) (.pointer (some (o0a H))) (.pointer (some ⟨w.heap.size,0,none⟩)):=by
 have:=h3a.ptr (n:=(s5a H cells sz).length) (φ:=u0b φ H.length ⟨w.heap.size,0,fin,sz⟩) H.length 0 (by simp [s5a,p8a])
 simpa [o0a,i2a] using this
end Go.AM
namespace Go.AM
open Go
theorem s7a (B o j:Nat):(⟨B,o,none⟩:Addr).add j=⟨B,o+j,none⟩:=by unfold Addr.add;split<;>simp_all
theorem g9c {n φ x'} {a:Addr} (h:h3a n φ (.pointer (some a)) x') (hs:a.spot.isSome=false) :
  a.block<n∧a=⟨a.block,a.off,none⟩∧x' = .pointer (some ⟨(φ a.block).B,(φ a.block).base+a.off,none⟩):=by
 cases h with
 | ptr h o hn=>exact ⟨hn,rfl,rfl⟩
theorem y0b {P:Program} {t:TypeId} {b:Bool} (h:g8a P t=some b) (w:World):(isAgg t).run P w = .ok b w:=by
 unfold g8a at h
 cases hu:P.underlying t with
 | none=>simp [hu] at h
 | some d=>
  unfold isAgg
  rw [Sem.run_bind]
  have:(underlying t).run P w = .ok d w:=by simp [underlying,hu]
  rw [this]
  simp only [hu,Option.map_some,Option.some.injEq] at h
  subst h
  cases d<;>simp
theorem run_sizeOf {P:Program} {t:TypeId} {n:Nat} (h:f3a P t=some n) (w:World):(sizeOf t).run P w = .ok n w:=by
 unfold f3a at h
 cases hi:P.info? t with
 | none=>simp [hi] at h
 | some i=>simp [hi] at h;simp [sizeOf,typeInfo,hi,h]
theorem c4a {P:Program} {t:TypeId} {d:TypeDesc} (h:P.underlying t=some d) (w:World):(underlying t).run P w = .ok d w:=by simp [underlying,h]
theorem o5c {P:Program} {t:TypeId} {d:TypeInfo} (h:P.info? t=some d) (w:World):(typeInfo t).run P w = .ok d w:=by simp [typeInfo,h]
theorem x1a {P:Program} {t:TypeId} {v:Value} (h:i3a P t=some v) (w:World):(zeroValue t).run P w = .ok v w:=by
 unfold i3a at h
 cases hi:P.info? t with
 | none=>simp [hi] at h
 | some i=>simp [hi] at h;simp [zeroValue,typeInfo,hi,h]
theorem run_read {P:Program} {φ H w} (hs:Sim φ H w) {a:Addr} {n:Nat} {cs:List Value} (hr:readA H a n=some cs) :
  ∃ cs',j5a H.length φ cs cs'∧cs.length=n∧(∀ (j:Nat) (v:Value),cs'[j]?=some v→w.cell? ⟨(φ a.block).B,(φ a.block).base+a.off+j,none⟩=some v) ∧
   (loadCells ⟨(φ a.block).B,(φ a.block).base+a.off,none⟩ n).run P w = .ok cs'.toArray w:=by
 unfold readA at hr
 split at hr
 ·cases hr
 cases hg:hget H a.block with
 | none=>simp [hg] at hr
 | some b=>
  simp only [hg] at hr
  split at hr
  ·rename_i hlen
   cases hr
   obtain ⟨c,e,fr,hB,g1,g2,g3,g4,g5,g6⟩:=hs.cov a.block b hg
   have hl:((b.cells.drop a.off).take n).length=n:=by simp;omega
   have hcell : ∀ j,j<n → ∃ v v',b.cells[a.off+j]?=some v∧c[(φ a.block).base+a.off+j]?=some v'∧h3a H.length φ v v':=by
    intro j hj
    have hlt:a.off+j<b.cells.length:=by omega
    obtain ⟨v',hv',hrel⟩:=g4 (a.off+j) b.cells[a.off+j] (List.getElem?_eq_getElem hlt)
    exact ⟨_,v',List.getElem?_eq_getElem hlt,by rwa [← Nat.add_assoc] at hv',hrel⟩
   refine ⟨(c.toList.drop ((φ a.block).base+a.off)).take n,⟨?_,?_⟩,hl,?_,?_⟩
   ·rw [hl];simp;omega
   ·intro i v v' hv hv'
    have hi:i<n:=by
     have:=(List.getElem?_eq_some_iff.1 hv).1
     omega
    obtain ⟨u,u',hu,hu',hrel⟩:=hcell i hi
    simp [List.getElem?_take,hi,List.getElem?_drop] at hv hv'
    rw [hv] at hu
    rw [hv'] at hu'
    cases hu;cases hu'
    exact hrel
   ·intro j v hv
    have hj:j<n:=by
     have:=(List.getElem?_eq_some_iff.1 hv).1
     simp at this;omega
    simp [List.getElem?_take,hj,List.getElem?_drop] at hv
    rw [cell_of_row w _ _ c e fr hB]
    exact hv
   ·have hl':((c.toList.drop ((φ a.block).base+a.off)).take n).length=n:=by simp;omega
    have:=run_loadCells_list (P:=P) w ⟨(φ a.block).B,(φ a.block).base+a.off,none⟩ ((c.toList.drop ((φ a.block).base+a.off)).take n) (fun j v hv=>by
     have hj:j<n:=by
      have:=(List.getElem?_eq_some_iff.1 hv).1
      omega
     simp [List.getElem?_take,hj,List.getElem?_drop] at hv
     rw [s7a,cell_of_row w _ _ c e fr hB]
     exact hv)
    rw [hl'] at this
    exact this
  ·cases hr
theorem p6b {P:Program} {φ H w} (hs:Sim φ H w) {t:TypeId} {x x' v:Value} (hl:v7b P t x H=some v) (hx:h3a H.length φ x x') :
  ∃ v' a',x' = .pointer (some a')∧(loadVar t a').run P w = .ok v' w∧h3a H.length φ v v':=by
 cases x with
 | pointer p=>
  cases p with
  | none=>simp [v7b] at hl
  | some a=>
   simp only [v7b] at hl
   cases hagg:g8a P t with
   | none=>simp [hagg] at hl
   | some b=>
    have hra:=fun w=>y0b hagg w
    cases b with
    | true=>
     simp only [hagg,Option.bind_eq_bind,Option.bind_some,if_true] at hl
     cases hsz:f3a P t with
     | none=>simp [hsz] at hl
     | some n=>
      simp only [hsz,Option.bind_some] at hl
      cases hrd:readA H a n with
      | none=>simp [hrd] at hl
      | some cs=>
       simp only [hrd,Option.bind_some,Option.some.injEq] at hl
       subst hl
       have hsp:a.spot.isSome=false:=by
        unfold readA at hrd
        split at hrd
        ·cases hrd
        ·rename_i h;simpa using h
       obtain ⟨hn,ha,rfl⟩:=g9c hx hsp
       obtain ⟨cs',hrel,_,_,hrun⟩:=run_read (P:=P) hs hrd
       exact ⟨.agg cs'.toArray,_,rfl,by simp [loadVar,Sem.run_bind,hra,run_sizeOf hsz,hrun],.h3d hrel⟩
    | false=>
     simp only [hagg,Option.bind_eq_bind,Option.bind_some,Bool.false_eq_true,if_false] at hl
     split at hl
     ·cases hl
     ·rename_i hsp
      have hsp:a.spot.isSome=false:=by simpa using hsp
      obtain ⟨hn,ha,rfl⟩:=g9c hx hsp
      cases hg:hget H a.block with
      | none=>simp [hg] at hl
      | some b=>
       simp only [hg,Option.bind_some] at hl
       obtain ⟨c,e,fr,hB,g1,g2,g3,g4,g5,g6⟩:=hs.cov a.block b hg
       obtain ⟨v',hv',hrel⟩:=g4 a.off v hl
       refine ⟨v',_,rfl,?_,hrel⟩
       have hcell:w.cell? ⟨(φ a.block).B,(φ a.block).base+a.off,none⟩=some v':=by rw [cell_of_row w _ _ c e fr hB];exact hv'
       simp [loadVar,Sem.run_bind,hra,hcell]
 | _=>simp [v7b] at hl
theorem t7d {p:Place} {b:Blk} {h:Nat} : d5c p b h≤p.base+b.lo:=by unfold d5c;split<;>omega
theorem m6d {p:Place} {b:Blk} (h:p.base+b.cells.length≤p.fin):p.base+b.cells.length≤o3c p b:=by unfold o3c;split<;>omega
theorem s2d {base φ H w} (hs:Sim φ H w) {h:Nat} {b:Blk} (hg:hget H h=some b) (hrw:b.rw=true) (hbase:base≤h) {o:Nat} (ho:o<b.cells.length) (hlo:b.lo≤o) {v v':Value} (hv:h3a H.length φ v v') :
  (∃ u,w.cell? ⟨(φ h).B,(φ h).base+o,none⟩=some u)∧w.frozen? ⟨(φ h).B,(φ h).base+o,none⟩=false ∧
   Step base φ H w φ (hset H h (some { b with cells:=b.cells.set o v })) (w.setCell ⟨(φ h).B,(φ h).base+o,none⟩ v'):=by
 obtain ⟨c,e,fr,hB,g1,g2,g3,g4,g5,g6⟩:=hs.cov h b hg
 have hlt:=e7a hg
 have hcs:(φ h).base+o<c.size:=by omega
 have hnew:(w.setCell ⟨(φ h).B,(φ h).base+o,none⟩ v').heap[(φ h).B]?=some (.cells (c.setIfInBounds ((φ h).base+o) v') e fr):=by
  simp [World.setCell,Array.getElem?_modify,hB]
 have hoth : ∀ k,k≠(φ h).B→(w.setCell ⟨(φ h).B,(φ h).base+o,none⟩ v').heap[k]?=w.heap[k]?:=fun k hk=>heap_setCell_other w _ k v' hk
 refine ⟨⟨_,by rw [cell_of_row w _ _ c e fr hB];exact Array.getElem?_eq_getElem hcs⟩,?_,?_⟩
 ·have:=(g5 hrw).1 ((φ h).base+o) (by omega) (.inl (by omega))
  simp only [World.frozen?,hB]
  simp only [Bool.and_eq_false_imp,decide_eq_true_eq,decide_eq_false_iff_not]
  omega
 ·have back : ∀ h' b',hget (hset H h (some { b with cells:=b.cells.set o v })) h'=some b' → ∃ b0,hget H h'=some b0∧b0.rw=b'.rw∧b0.lo=b'.lo∧b0.par=b'.par∧b0.cells.length=b'.cells.length:=by
   intro h' b' hg'
   by_cases he:h'=h
   ·subst he
    rw [g6a hlt] at hg'
    cases hg'
    exact ⟨b,hg,rfl,rfl,rfl,by simp⟩
   ·rw [f9a (Ne.symm he)] at hg'
    exact ⟨b',hg',rfl,rfl,rfl,rfl⟩
  refine ⟨by simp [c7a],fun _ _=>rfl,by simp [World.setCell],rfl,rfl,rfl,?_,?_,?_,t0a c7a,?_,?_,?_,?_⟩
  ·intro k hk hn
   exact hoth k fun e=>hn h b hbase hg hrw e.symm
  ·intro h' b' hh' hg'
   obtain ⟨b0,k0,k1,_⟩:=back h' b' hg'
   exact ⟨b0,k0,fun hr=>k1.trans hr⟩
  ·intro h' b' hb' hg' hr'
   obtain ⟨b0,k0,k1,_⟩:=back h' b' hg'
   exact .inr ⟨h',b0,hb',k0,k1.trans hr',rfl⟩
  ·intro h' b' hg'
   rw [c7a]
   by_cases he:h'=h
   ·subst he
    rw [g6a hlt] at hg'
    cases hg'
    refine ⟨_,e,fr,hnew,by simpa using g1,by simpa using g2,g3,fun i u hu => ?_,g5,by simpa using g6⟩
    by_cases hio:i=o
    ·subst hio
     simp only [List.getElem?_set,if_true] at hu
     simp only [ho,if_true,Option.some.injEq] at hu
     subst hu
     exact ⟨v',by simp [hcs],hv⟩
    ·rw [List.getElem?_set_ne (Ne.symm hio)] at hu
     obtain ⟨u',hu',hrel⟩:=g4 i u hu
     exact ⟨u',by rw [Array.getElem?_setIfInBounds_ne (by omega)];exact hu',hrel⟩
   ·rw [f9a (Ne.symm he)] at hg'
    obtain ⟨c',e',fr',hB',k1,k2,k3,k4,k5,k6⟩:=hs.cov h' b' hg'
    by_cases hBB:(φ h').B=(φ h).B
    ·rw [hBB,hB] at hB'
     cases hB'
     refine ⟨_,e,fr,by rw [hBB];exact hnew,k1,by simpa using k2,k3,fun i u hu => ?_,k5,k6⟩
     obtain ⟨u',hu',hrel⟩:=k4 i u hu
     refine ⟨u',?_,hrel⟩
     have hi:=(List.getElem?_eq_some_iff.1 hu).1
     have:=hs.apart h h' b b' (Ne.symm he) hg hg' hrw
     have q1 := @t7d (φ h) b h'
     have q2:=m6d k1
     rw [Array.getElem?_setIfInBounds_ne (by omega)]
     exact hu'
    ·exact ⟨c',e',fr',by rw [hoth _ hBB];exact hB',k1,k2,k3,k4,k5,k6⟩
  ·intro h1 h2 b1 b2 hne k1 k2 kr
   obtain ⟨b1',k1',e1,e1l,e1p,e1c⟩:=back h1 b1 k1
   obtain ⟨b2',k2',e2,e2l,e2p,e2c⟩:=back h2 b2 k2
   have:=hs.apart h1 h2 b1' b2' hne k1' k2' (e1.trans kr)
   unfold o3c d5c at this ⊢
   rw [e2,e2c,e1l,e1p] at this
   exact this
  ·intro h1 b1 p b' k1 hp k2
   obtain ⟨b1',k1',e1,e1l,e1p,e1c⟩:=back h1 b1 k1
   obtain ⟨b2',k2',e2,_⟩:=back p b' k2
   rw [← e2]
   exact hs.par h1 b1' p b2' k1' (e1p▸hp) k2'
  ·intro h1 b1 p k1 hp
   obtain ⟨b1',k1',e1,e1l,e1p,e1c⟩:=back h1 b1 k1
   rw [c7a]
   exact hs.z2a h1 b1' p k1' (e1p▸hp)
theorem v1b {H:Heap} {h:Nat} {b c:Option Blk} : hset (hset H h b) h c=hset H h c:=by simp [hset]
theorem b7b {P:Program} {base φ} {a:Addr} : ∀ (vs vs':List Value) (i:Nat) {H w} (_:Sim φ H w) {b:Blk} (_:hget H a.block=some b) (_:b.rw=true) (_:base≤a.block)
  (_:a.off+i+vs.length≤b.cells.length) (_:b.lo≤a.off+i) (_:vs.all Value.oneCell'=true) (_:j5a H.length φ vs vs'),
  ∃ w',(storeCells ⟨(φ a.block).B,(φ a.block).base+a.off,none⟩ vs' i).run P w = .ok () w' ∧
   Step base φ H w φ (hset H a.block (some { b with cells:=l0b b.cells (a.off+i) vs })) w'
 | [],[],i,H,w,hs,b,hg,_,_,_,_,_,_=>by
  refine ⟨w,rfl,?_⟩
  have:hset H a.block (some { b with cells:=l0b b.cells (a.off+i) [] })=H:=by
   have hlt:=e7a hg
   apply List.ext_getElem?
   intro k
   simp only [hset,l0b,List.getElem?_set]
   split
   ·rename_i hk;subst hk
    simp only [hget] at hg
    rw [List.getElem?_eq_getElem hlt] at hg ⊢
    simp at hg
    simp [hlt,hg]
   ·rfl
  rw [this]
  exact .refl hs
 | [],_::_,_,_,_,_,_,_,_,_,_,_,_,h=>by simp [j5a] at h
 | _::_,[],_,_,_,_,_,_,_,_,_,_,_,h=>by simp [j5a] at h
 | v::vs,v'::vs',i,H,w,hs,b,hg,hrw,hb,hl,hlo,h1,hrel=>by
  simp only [List.length_cons] at hl
  simp only [List.all_cons,Bool.and_eq_true] at h1
  have hlt:=e7a hg
  obtain ⟨⟨u,hu⟩,hfz,st⟩:=s2d hs hg hrw hb (o:=a.off+i) (by omega) hlo hrel.head
  have hg1:hget (hset H a.block (some { b with cells:=b.cells.set (a.off+i) v })) a.block=some { b with cells:=b.cells.set (a.off+i) v } := g6a hlt
  obtain ⟨w',hrun,st'⟩:=b7b (P:=P) (base:=base) (a:=a) vs vs' (i+1) st.sim hg1 hrw hb (by simp;omega) (by simp;omega) h1.2 (by rw [c7a];exact hrel.tail)
  refine ⟨w',?_,?_⟩
  ·simp only [storeCells,Sem.run_bind,s7a]
   rw [show (φ a.block).base+a.off+i=(φ a.block).base+(a.off+i) by omega,run_store P w _ v' .plain (by rw [hrel.head.oneCell];exact h1.1),hu]
   simp only [hfz,Bool.false_eq_true,if_false,Result.andThen]
   exact hrun
  ·have:=st.trans st'
   rw [v1b] at this
   simpa [l0b,Nat.add_assoc] using this
theorem a5c {H:Heap} {p i:Nat} : hget (hset H p none) i=if i=p then none else hget H i:=by
 by_cases h:i=p
 ·subst h
  simp only [if_true]
  rcases Nat.lt_or_ge i H.length with hl | hl
  ·exact g6a hl
  ·simp [hget,hset,List.getElem?_eq_none (show (H.set i none).length≤i by simpa using hl)]
 ·simp only [h,if_false]
  exact f9a (Ne.symm h)
theorem m2a {ps:List Nat} : ∀ {H:Heap},(s4a H ps).length=H.length:=by
 induction ps with
 | nil=>intro H;rfl
 | cons p ps ih=>intro H;simp only [s4a,List.foldl_cons] at ih ⊢;rw [ih];exact c7a
theorem o9b {ps:List Nat} : ∀ {H:Heap} {i:Nat},hget (s4a H ps) i=if i∈ps then none else hget H i:=by
 induction ps with
 | nil=>intro H i;simp [s4a]
 | cons p ps ih=>
  intro H i
  simp only [s4a,List.foldl_cons] at ih ⊢
  rw [ih,a5c]
  by_cases h1:i∈ps<;>by_cases h2:i=p<;>simp [h1,h2]
theorem p3c {base φ H w} (hs:Sim φ H w) {h:Nat} {b:Blk} (hg:hget H h=some b) (hp:h∉b.par) :
  Step base φ H w φ (hset (s4a H b.par) h (some { b with lo:=0,par:=[] })) w:=by
 have hlt:=e7a hg
 have hl:(hset (s4a H b.par) h (some { b with lo:=0,par:=[] })).length=H.length:=by rw [c7a,m2a]
 have back : ∀ i c,hget (hset (s4a H b.par) h (some { b with lo:=0,par:=[] })) i=some c → ∃ c0,hget H i=some c0∧c0.rw=c.rw∧c0.cells=c.cells∧c0.sz=c.sz∧((i=h∧c.lo=0∧c.par=[])∨(i≠h∧c0=c))∧i∉b.par:=by
  intro i c hi
  by_cases he:i=h
  ·subst he
   rw [g6a (by rw [m2a];exact hlt)] at hi
   cases hi
   exact ⟨b,hg,rfl,rfl,rfl,.inl ⟨rfl,rfl,rfl⟩,hp⟩
  ·rw [f9a (Ne.symm he),o9b] at hi
   by_cases hm:i∈b.par
   ·simp [hm] at hi
   ·simp only [hm,if_false] at hi
    exact ⟨c,hi,rfl,rfl,rfl,.inr ⟨he,rfl⟩,hm⟩
 refine ⟨by omega,fun _ _=>rfl,Nat.le_refl _,rfl,rfl,rfl,fun _ _ _=>rfl,?_,?_,t0a (by omega),?_,?_,?_,?_⟩
 ·intro i c _ hi
  obtain ⟨c0,k0,k1,_⟩:=back i c hi
  exact ⟨c0,k0,fun hr=>k1.trans hr⟩
 ·intro i c hb hi hr
  obtain ⟨c0,k0,k1,_⟩:=back i c hi
  exact .inr ⟨i,c0,hb,k0,k1.trans hr,rfl⟩
 ·intro i c hi
  obtain ⟨c0,k0,k1,k2,k3,k4,_⟩:=back i c hi
  obtain ⟨d,e,fr,hB,g1,g2,g3,g4,g5,g6⟩:=hs.cov i c0 k0
  rw [hl]
  refine ⟨d,e,fr,hB,k2▸g1,g2,g3.trans k3,k2▸g4,fun hr=>g5 (k1.trans hr),?_⟩
  rcases k4 with ⟨_,h0,_⟩ | ⟨_,rfl⟩
  ·omega
  ·exact g6
 ·intro i j c d hne hi hj hr
  obtain ⟨c0,k0,k1,k2,k3,k4,k5⟩:=back i c hi
  obtain ⟨d0,l0,l1,l2,l3,l4,l5⟩:=back j d hj
  have:=hs.apart i j c0 d0 hne k0 l0 (k1.trans hr)
  have e1:o3c (φ j) d=o3c (φ j) d0:=by unfold o3c;rw [l1,l2]
  rw [e1]
  rcases k4 with ⟨rfl,_,hpn⟩ | ⟨_,rfl⟩
  ·rw [hg] at k0
   cases k0
   have e2:d5c (φ i) b j=(φ i).base:=by unfold d5c;simp [l5]
   have e3:d5c (φ i) c j=(φ i).base:=by unfold d5c;simp [hpn]
   rw [e3]
   rw [e2] at this
   exact this
  ·exact this
 ·intro i c p d hi hpm hj
  obtain ⟨c0,k0,k1,k2,k3,k4,k5⟩:=back i c hi
  obtain ⟨d0,l0,l1,_⟩:=back p d hj
  rcases k4 with ⟨_,_,hpn⟩ | ⟨_,rfl⟩
  ·rw [hpn] at hpm;cases hpm
  ·rw [← l1];exact hs.par i c0 p d0 k0 hpm l0
 ·intro i c p hi hpm
  obtain ⟨c0,k0,k1,k2,k3,k4,k5⟩:=back i c hi
  rw [hl]
  rcases k4 with ⟨_,_,hpn⟩ | ⟨_,rfl⟩
  ·rw [hpn] at hpm;cases hpm
  ·exact hs.z2a i c0 p k0 hpm
theorem d3b {P:Program} {base φ H w} (hs:Sim φ H w) {a:Addr} {vs vs':List Value} {H':Heap} (hw:x4a base a vs H=some H') (hrel:j5a H.length φ vs vs') :
  ∃ w',(storeCells ⟨(φ a.block).B,(φ a.block).base+a.off,none⟩ vs').run P w = .ok () w'∧Step base φ H w φ H' w':=by
 unfold x4a at hw
 split at hw
 ·cases hw
 cases hg:hget H a.block with
 | none=>simp [hg] at hw
 | some b=>
  simp only [hg] at hw
  split at hw
  ·rename_i hc
   split at hw
   ·rename_i hlo
    cases hw
    obtain ⟨w',h1,h2⟩:=b7b (P:=P) (base:=base) (a:=a) vs vs' 0 hs hg hc.1 hc.2.1 (by simpa using hc.2.2.1) (by simpa using hlo) hc.2.2.2 hrel
    exact ⟨w',h1,h2⟩
   ·split at hw
    ·rename_i hp
     cases hw
     have hpn:a.block∉b.par:=by
      intro hm
      have:=List.all_eq_true.1 hp _ hm
      simp at this
     have st:=p3c (base:=base) hs hg hpn
     have hg1:hget (hset (s4a H b.par) a.block (some { b with lo:=0,par:=[] })) a.block=some { b with lo:=0,par:=[] } := g6a (by rw [m2a];exact e7a hg)
     obtain ⟨w',h1,h2⟩:=b7b (P:=P) (base:=base) (a:=a) vs vs' 0 st.sim hg1 hc.1 hc.2.1 (by simpa using hc.2.2.1) (Nat.zero_le _) hc.2.2.2 (st.n3e hrel)
     refine ⟨w',h1,?_⟩
     have:=st.trans h2
     rw [v1b] at this
     exact this
    ·cases hw
  ·cases hw
theorem w8c {base a vs H H'} (hw:x4a base a vs H=some H'):a.spot.isSome=false:=by
 unfold x4a at hw
 split at hw
 ·cases hw
 ·rename_i h;simpa using h
theorem h5c {P:Program} {base φ H w} (hs:Sim φ H w) {t:TypeId} {x x' v v':Value} {H':Heap} (hw:k6b P base t x v H=some H') (hx:h3a H.length φ x x') (hv:h3a H.length φ v v') :
  ∃ w' a',x' = .pointer (some a')∧(storeVar t a' v').run P w = .ok () w'∧Step base φ H w φ H' w':=by
 cases x with
 | pointer p=>
  cases p with
  | none=>simp [k6b] at hw
  | some a=>
   simp only [k6b,Option.bind_eq_bind] at hw
   cases hsz:f3a P t with
   | none=>simp [hsz] at hw
   | some n=>
    simp only [hsz,Option.bind_some] at hw
    split at hw
    ·cases hw
    ·rename_i hn
     obtain ⟨_,_,rfl⟩:=g9c hx (w8c hw)
     obtain ⟨w',h1,h2⟩:=d3b (P:=P) hs hw hv.cells
     refine ⟨w',_,rfl,?_,h2⟩
     have hl:=hv.cells.1
     simp only [Array.length_toList] at hl
     simp only [storeVar,Sem.run_bind,run_sizeOf hsz,Result.andThen_ok]
     have : ¬ (v'.cells.size≠n):=by rw [← hl];simpa using hn
     simp only [this,if_false,Sem.run_bind]
     simpa using h1
 | _=>simp [k6b] at hw
end Go.AM
namespace Go.AM
open Go
structure q8c (n:Nat) (φ:Nat→Place) (sz:Nat) (ρ:Env) (a:Act):Prop where
 size:a.tmps.size=sz
 vals : ∀ t,h3a n φ (ρ t) (a.tmps.getD t undef)
 defers:a.defers=[]
theorem q8c.eval {n φ sz ρ a} (h:q8c n φ sz ρ a) {x:Operand} (hx:b5a x=true):h3a n φ (d0a ρ x) (a.eval x):=by
 cases x with
 | tmp t=>exact h.vals t
 | const v=>exact .closed hx
 | global g=>exact .glob g
 | func f=>exact .func _ _ _ _ _ rfl (fun i h=>by simp at h) rfl (fun i h=>by simp at h)
theorem q8c.put {n φ sz ρ a} (h:q8c n φ sz ρ a) {d:Option Tmp} (hd:i9a sz d) {v v'} (hv:h3a n φ v v'):q8c n φ sz (put ρ d v) (a.put d v'):=by
 cases d with
 | none=>exact h
 | some t=>
  have ht:t<a.tmps.size:=by rw [h.size];exact hd
  refine ⟨by simpa [Act.put] using h.size,fun i => ?_,h.defers⟩
  by_cases hi:i=t
  ·subst hi
   simp [Act.put,AM.put,upd,ht,Array.getD]
   exact hv
  ·have:(a.tmps.setIfInBounds t v').getD i undef=a.tmps.getD i undef:=by
    simp [Array.getD_eq_getD_getElem?,Array.getElem?_setIfInBounds_ne (Ne.symm hi)]
   simp only [Act.put,AM.put,upd,hi,if_false,this]
   exact h.vals i
theorem q8c.mono {n n' φ φ' sz ρ a} (h:q8c n φ sz ρ a) (hn:n≤n') (hk : ∀ i,i<n→φ' i=φ i):q8c n' φ' sz ρ a:=
 ⟨h.size,fun t=>(h.vals t).mono hn hk,h.defers⟩
def Sound (P:Program) (base:Nat) (φ:Nat→Place) (H:Heap) (w:World) (s:Sem Value) (v:Value) (H':Heap):Prop:=
 ∃ v' w' φ',s.run P w = .ok v' w'∧Step base φ H w φ' H' w'∧h3a H'.length φ' v v'
theorem Sound.pure {P base φ H w} (hs:Sim φ H w) {v v'} {s:Sem Value} (hr:s.run P w = .ok v' w) (h:h3a H.length φ v v'):Sound P base φ H w s v H:=
 ⟨v',w,φ,hr,.refl hs,h⟩
theorem y6b {P:Program} {base φ H w} (hs:Sim φ H w) {cells:List Value} {cs:Array Value} {sz:Nat} (e:TypeId) (hc:j5a H.length φ cells cs.toList) (hcb:sz≠1→cs.size≤9223372036854775807*sz) :
  ∃ φ',Step base φ H w φ' (s5a H cells sz) (w.alloc (.cells cs e))∧h3a (s5a H cells sz).length φ' (.pointer (some (o0a H))) (.pointer (some ⟨w.heap.size,0,none⟩)) ∧
   φ' H.length=⟨w.heap.size,0,cs.size,sz⟩:=by
 refine ⟨_,i6c (e:=e) (fr:=(0,0)) (fin:=cs.size) hs rfl rfl rfl rfl ?_ (Nat.le_refl _) (fun i _ h=>by simp at h) hcb ?_,Step.v2e,i2a⟩
 ·have:=hc.1;simp at this;omega
 ·intro i v hv
  have hi:=(List.getElem?_eq_some_iff.1 hv).1
  have hi':i<cs.size:=by have:=hc.1;simp at this;omega
  exact ⟨cs[i],by simp [hi'],hc.2 i v cs[i] hv (by simp [hi'])⟩
theorem f3d {P:Program} {base φ H w} (hs:Sim φ H w) {cells:List Value} {cs:Array Value} {sz:Nat} (e:TypeId) (hl:cells.length≤cs.size) (hc : ∀ (i:Nat) (v:Value),cells[i]?=some v → ∃ v':Value,cs[i]?=some v'∧h3a H.length φ v v') (hcb:sz≠1→cs.size≤9223372036854775807*sz) :
  ∃ φ',Step base φ H w φ' (s5a H cells sz) (w.alloc (.cells cs e))∧φ' H.length=⟨w.heap.size,0,cs.size,sz⟩:=
 ⟨_,i6c (e:=e) (fr:=(0,0)) (fin:=cs.size) hs rfl rfl rfl rfl hl (Nat.le_refl _) (fun i _ h=>by simp at h) hcb hc,i2a⟩
theorem b9b {n φ} {z:Value} (h:z.cells.all b3a=true):j5a n φ z.cells.toList z.cells.toList:=
 .n8c fun v hv=>by
  rw [Array.all_eq_true] at h
  obtain ⟨i,hi,rfl⟩:=List.getElem_of_mem hv
  exact h i (by simpa using hi)
theorem v7c {P:Program} {base φ H w} (hs:Sim φ H w) {t:TypeId} {z:Value} (hz:i3a P t=some z) (hc:z.cells.all b3a=true) :
  Sound P base φ H w (Instr.alloc t true (.tuple #[])) (.pointer (some (o0a H))) (s5a H z.cells.toList 1):=by
 obtain ⟨φ',hst,hv,_⟩:=y6b (P:=P) (base:=base) (sz:=1) hs (cs:=z.cells) t (b9b hc) (fun h=>absurd rfl h)
 refine ⟨.pointer (some ⟨w.heap.size,0,none⟩),w.alloc (.cells z.cells t),φ',?_,hst,hv⟩
 simp [Instr.alloc,x1a hz,newVar,newRow]
theorem s0d {P:Program} {base φ H w} (hs:Sim φ H w) {t:TypeId} {v v':Value} (hv:h3a H.length φ v v') :
  Sound P base φ H w (Instr.box t v') (.pointer (some (o0a H))) (s5a H v.cells.toList 1):=by
 obtain ⟨φ',hst,hv,_⟩:=y6b (P:=P) (base:=base) (sz:=1) hs (cs:=v'.cells) t hv.cells (fun h=>absurd rfl h)
 refine ⟨.pointer (some ⟨w.heap.size,0,none⟩),w.alloc (.cells v'.cells t),φ',?_,hst,hv⟩
 simp [Instr.box,newVar,newRow]
def r1c (n:Nat) (φ:Nat→Place) (ps qs:List (Nat×Value)):Prop:=ps.length=qs.length ∧ ∀ i,i<ps.length→(ps.getD i default).1=(qs.getD i default).1∧h3a n φ (ps.getD i default).2 (qs.getD i default).2
theorem r1c.tail {n φ p q ps qs} (h:r1c n φ (p::ps) (q::qs)):r1c n φ ps qs:=
 ⟨by simpa using h.1,fun i hi=>by simpa using h.2 (i+1) (by simpa using hi)⟩
theorem r1c.head {n φ p q ps qs} (h:r1c n φ (p::ps) (q::qs)):p.1=q.1∧h3a n φ p.2 q.2:=by simpa using h.2 0 (by simp)
theorem r1c.of_map {n φ sz ρ a} (h:q8c n φ sz ρ a) : ∀ (ps:List (Nat×Operand)),ps.all (fun p=>b5a p.2)=true →
  r1c n φ (ps.map fun (i,x)=>(i,d0a ρ x)) (ps.map fun (i,x)=>(i,a.eval x))
 | [],_=>⟨rfl,fun i hi=>by simp at hi⟩
 | p::ps,hp=>by
  simp only [List.all_cons,Bool.and_eq_true] at hp
  have ih:=r1c.of_map h ps hp.2
  refine ⟨by simp,fun i hi => ?_⟩
  cases i with
  | zero=>simpa using h.eval hp.1
  | succ i=>simpa using ih.2 i (by simpa using hi)
theorem j5a.set {n φ a a'} (h:j5a n φ a a') {i:Nat} {v v'} (hv:h3a n φ v v'):j5a n φ (a.set i v) (a'.set i v'):=by
 refine ⟨by simpa using h.1,fun j u u' hu hu' => ?_⟩
 simp only [List.getElem?_set] at hu hu'
 split at hu
 ·rename_i hij
  simp only [hij,if_true] at hu'
  split at hu
  ·cases hu
   split at hu'
   ·cases hu';exact hv
   ·cases hu'
  ·cases hu
 ·rename_i hij
  simp only [hij,if_false] at hu'
  exact h.2 j u u' hu hu'
theorem y8c {n φ} {off:Nat} : ∀ (vs vs':List Value) (k:Nat) (cs cs':Array Value),j5a n φ vs vs'→j5a n φ cs.toList cs'.toList →
  j5a n φ ((vs.zipIdx k).foldl (fun cs (c,j)=>cs.setIfInBounds (off+j) c) cs).toList ((vs'.zipIdx k).foldl (fun cs (c,j)=>cs.setIfInBounds (off+j) c) cs').toList
 | [],[],_,_,_,_,h=>h
 | [],_::_,_,_,_,h,_=>by simp [j5a] at h
 | _::_,[],_,_,_,h,_=>by simp [j5a] at h
 | v::vs,v'::vs',k,cs,cs',hv,hc=>by
  simp only [List.zipIdx_cons,List.foldl_cons]
  refine y8c vs vs' (k+1) _ _ hv.tail ?_
  rw [Array.toList_setIfInBounds,Array.toList_setIfInBounds]
  exact hc.set hv.head
theorem r0b {n φ} {place:Nat→Option (Nat×Nat)} : ∀ (ps qs:List (Nat×Value)) (cs cs':Array Value) {r:Array Value},r1c n φ ps qs→j5a n φ cs.toList cs'.toList →
  Instr.fill place cs ps=some r → ∃ r',Instr.fill place cs' qs=some r'∧j5a n φ r.toList r'.toList
 | [],[],_,cs',_,_,hc,h=>by simp [Instr.fill] at h;subst h;exact ⟨cs',rfl,hc⟩
 | [],_::_,_,_,_,h,_,_=>by simp [r1c] at h
 | _::_,[],_,_,_,h,_,_=>by simp [r1c] at h
 | (i,v)::ps,(i',v')::qs,cs,cs',r,hp,hc,h=>by
  obtain ⟨e,hv⟩:=hp.head
  simp only at e hv
  subst e
  have hvl:=hv.cells.1
  simp only [Array.length_toList] at hvl
  have hcl:=hc.1
  simp only [Array.length_toList] at hcl
  simp only [Instr.fill] at h ⊢
  cases hpl:place i with
  | none=>simp [hpl] at h
  | some os=>
   obtain ⟨off,size⟩:=os
   simp only [hpl] at h ⊢
   rw [← hvl,← hcl]
   split at h
   ·cases h
   ·rename_i hcond
    simp only [hcond]
    refine r0b ps qs _ _ hp.tail ?_ h
    have:=y8c (off:=off) v.cells.toList v'.cells.toList 0 cs cs' hv.cells hc
    rw [← Array.foldl_toList,← Array.foldl_toList]
    simpa using this
theorem l7c {size:Nat} : ∀ (ps:List (Nat×Value)) (cs:Array Value) {r:Array Value},Instr.fill (fun i=>some (i*size,size)) cs ps=some r→r.size=cs.size:=by
 intro ps
 induction ps with
 | nil=>intro cs r h;simp [Instr.fill] at h;rw [h]
 | cons p ps ih=>
  intro cs r h
  obtain ⟨i,v⟩:=p
  simp only [Instr.fill] at h
  split at h
  ·cases h
  ·rw [ih _ h]
   rw [← Array.foldl_toList]
   generalize v.cells.zipIdx.toList=l
   rename_i hcc
   clear h ih hcc
   induction l generalizing cs with
   | nil=>rfl
   | cons a l ih2=>simp only [List.foldl_cons];rw [ih2];simp
theorem v8c {P:Program} {base φ H w} (hs:Sim φ H w) {t:TypeId} {ps:List (Nat×Value)} {qs:Array (Nat×Value)} (hp:r1c H.length φ ps qs.toList) {v:Value} (h:b4c P t ps=some v) :
  Sound P base φ H w (Instr.build t qs) v H:=by
 unfold b4c at h
 cases hz:i3a P t with
 | none=>simp [hz] at h
 | some z=>
  simp only [hz] at h
  split at h
  ·cases h
  ·rename_i hsc
   have hsc:z.cells.all b3a=true:=by simpa using hsc
   cases hb:P.built t ps with
   | none=>simp [hb] at h
   | some cells=>
    simp only [hb,Option.map_some,Option.some.injEq] at h
    subst h
    have : ∃ cells',P.built t qs.toList=some cells'∧j5a H.length φ cells.toList cells'.toList:=by
     unfold Program.built at hb ⊢
     unfold i3a at hz
     cases hi:P.info? t with
     | none=>simp [hi] at hz
     | some it=>
      simp only [hi,Option.bind_some] at hz
      cases hu:P.underlying t with
      | none=>simp [hi,hu] at hb
      | some d=>
       cases d<;>try (simp [hi,hu] at hb;done)
       case array n e=>
        cases hie:P.info? e with
        | none=>simp [hi,hu,hie] at hb
        | some ie=>
         simp only [hi,hu,hz,hie] at hb ⊢
         exact r0b ps qs.toList z.cells z.cells hp (b9b hsc) hb
       case struct fields=>
        cases hpl:fields.toList.mapM (fun f=>(P.info? f.type).map fun i=>(f.offset,i.size)) with
        | none=>simp [hi,hu,hpl] at hb
        | some places=>
         simp only [hi,hu,hz,hpl] at hb ⊢
         exact r0b ps qs.toList z.cells z.cells hp (b9b hsc) hb
    obtain ⟨cells',hb',hrel⟩:=this
    exact .pure hs (run_build w t qs cells' hb') (by simpa using h3a.h3d hrel)
theorem w8b {n φ} {z:Value} (hsc:z.cells.all b3a=true) (k:Nat):j5a n φ ((Array.range k).map (z.cells[· % z.cells.size]!)).toList ((Array.range k).map (z.cells[· % z.cells.size]!)).toList:=by
 refine ⟨rfl,fun i v v' hv hv' => ?_⟩
 rw [hv] at hv'
 cases hv'
 obtain ⟨hi,rfl⟩:=List.getElem?_eq_some_iff.1 hv
 simp only [Array.toList_map,List.getElem_map]
 rcases Nat.eq_zero_or_pos z.cells.size with h0 | h0
 ·rw [getElem!_neg z.cells _ (by omega)]
  exact .scalar rfl
 ·have hlt : ∀ j,j%z.cells.size<z.cells.size:=fun j=>Nat.mod_lt _ h0
  rw [getElem!_pos z.cells _ (hlt _)]
  rw [Array.all_eq_true] at hsc
  exact .scalar (hsc _ (hlt _))
theorem q5b {P:Program} {base φ H w} (hs:Sim φ H w) {t:TypeId} {len:Nat} {ps:List (Nat×Value)} {qs:Array (Nat×Value)} (hp:r1c H.length φ ps qs.toList) {v:Value} {H':Heap} (h:q8a P t len ps H=some (v,H')) :
  Sound P base φ H w (Instr.buildSlice t len qs) v H':=by
 simp only [q8a,Option.bind_eq_bind] at h
 cases hu:P.underlying t with
 | none=>simp [hu] at h
 | some d=>
  cases d<;>try (simp [hu] at h;done)
  rename_i e
  simp only [hu,Option.bind_some] at h
  cases hsz:f3a P e with
  | none=>simp [hsz] at h
  | some size=>
   simp only [hsz,Option.bind_some] at h
   cases hz:i3a P e with
   | none=>simp [hz] at h
   | some z=>
    simp only [hz,Option.bind_some] at h
    split at h
    ·cases h
    ·rename_i hc
     simp only [not_or,Nat.not_lt,ne_eq,Decidable.not_not,Bool.not_eq_false] at hc
     obtain ⟨h1,h2,h3⟩:=hc
     cases hf:Instr.fill (fun i=>some (i*size,size)) ((Array.range (len*size)).map (z.cells[· % z.cells.size]!)) ps with
     | none=>simp [hf] at h
     | some cells=>
      simp only [hf,Option.bind_some,Option.some.injEq,Prod.mk.injEq] at h
      obtain ⟨rfl,rfl⟩:=h
      obtain ⟨cells',hf',hrel⟩:=r0b ps qs.toList _ ((Array.range (len*size)).map (z.cells[· % z.cells.size]!)) hp (w8b h2 _) hf
      obtain ⟨φ',hst,hv,hφ⟩:=y6b (P:=P) (base:=base) (sz:=size) hs (cs:=cells') e hrel (fun _=>by
       have hsz2:cells'.size=len*size:=by
        have:=l7c qs.toList _ hf'
        simpa using this
       rcases Nat.eq_zero_or_pos size with h0 | h0
       ·rw [hsz2,h0];simp
       ·rw [hsz2]
        refine Nat.mul_le_mul_right _ ?_
        have:=Nat.le_mul_of_pos_right len h0
        omega)
      refine ⟨.slice (some ⟨w.heap.size,0,none⟩) len len,w.alloc (.cells cells' e),φ',?_,hst,?_⟩
      ·by_cases h0:len*size=0
       ·have e1:((Array.range (len*size)).map (z.cells[· % z.cells.size]!)) = #[]:=by simp [h0]
        rw [e1] at hf'
        have e3:(Array.map (fun _=>(default:Value)) (Array.range 0)) = #[]:=by simp
        simp [Instr.buildSlice,c4a hu,run_sizeOf hsz,h0,e3,hf',newRow]
       ·have h1' : ¬ (2 ^ 24<len*size):=by omega
        simp [Instr.buildSlice,c4a hu,run_sizeOf hsz,x1a hz,h0,h1',hf',newRow]
      ·have hfl:=hrel.1
       have hlen:cells'.size=len*size:=by
        have:=l7c qs.toList _ hf'
        simpa using this
       have hs0:=h3a.sl (n:=(s5a H cells.toList size).length) (φ:=φ') H.length 0 len len len (by simp [s5a,p8a]) (Nat.le_refl _) (Nat.le_refl _) (by rw [hφ];simp [hlen])
       rw [hφ] at hs0
       simpa [o0a] using hs0
end Go.AM
namespace Go.AM
open Go
theorem m0a {α:Type} {P:Program} : ∀ (s:Sem α) {a:α} (_:k3a P s=some a) (w:World),s.run P w = .ok a w
 | .pure b,a,h,w=>by simp [k3a] at h;subst h;rfl
 | .program k,a,h,w=>by simp only [k3a] at h;simp only [Sem.run];exact m0a (k P) h w
 | .mark m k,a,h,w=>by simp only [k3a] at h;simp only [Sem.run];exact m0a k h w
 | .load _ _ _,_,h,_ | .store _ _ _ _,_,h,_ | .new _ _,_,h,_ | .shape _ _,_,h,_ | .freeze _ _ _,_,h,_ | .frozen _ _,_,h,_ | .getObj _ _,_,h,_ | .setObj _ _ _,_,h,_
 | .choose _ _,_,h,_ | .sys _ _,_,h,_ | .halt _,_,h,_=>by simp [k3a] at h
theorem x3b {P:Program} {op:BinOp} {t:TypeId} {x y:Operand} {k:IntKind} {a:Int} {b:Value} (w:World):(eqGuard op t x y (.int k a) b).run P w = .ok () w:=by
 cases op<;>simp [eqGuard]
theorem x4b {P:Program} {op:BinOp} {t:TypeId} {x y:Operand} {a:ByteArray} {b:Value} (w:World):(eqGuard op t x y (.string a) b).run P w = .ok () w:=by
 cases op<;>simp [eqGuard]
theorem q4b {P:Program} {op:BinOp} {t:TypeId} {x y:Operand} {a:Bool} {b:Value} (w:World):(eqGuard op t x y (.bool a) b).run P w = .ok () w:=by
 cases op<;>simp [eqGuard]
theorem e8d {P:Program} {op:BinOp} {k:IntKind} {a b:Int} {v:Value} (h:b8c op k a b=some v) {t:TypeId} (w:World):(binOp op t (.int k a) (.int k b)).run P w = .ok v w∧b3a v=true:=by
 cases op<;>simp only [b8c] at h
 case quo | rem=>
  split at h
  ·cases h
  ·rename_i hb;cases h;simp [binOp,Op.intDiv,hb,b3a]
 all_goals first
  | (cases h;done)
  | (cases h;simp [binOp,Op.intArith,Op.intCmp,b3a])
theorem run_equalIn_bool {P:Program} {t:TypeId} {a b:Bool} (d:Nat) (h:P.underlying t=some .bool) (w:World):(Op.equalIn (d+1) t (.bool a) (.bool b)).run P w = .ok (a==b) w:=by
 simp only [Op.equalIn,Sem.run_bind,c4a h,Result.andThen_ok]
 rfl
theorem run_equal_bool {P:Program} {t:TypeId} {a b:Bool} (h:P.underlying t=some .bool) (w:World):(Op.equal t (.bool a) (.bool b)).run P w = .ok (a==b) w:=
 run_equalIn_bool 9999 h w
theorem a4e {P:Program} {op:BinOp} {t:TypeId} {x y v:Value} (h:j9c P op t x y=some v) {ox oy:Operand} (w:World) :
  (do eqGuard op t ox oy x y;binOp op t x y:Sem Value).run P w = .ok v w∧b3a x=true∧b3a y=true∧b3a v=true:=by
 unfold j9c at h
 split at h
 ·rename_i k a k' b
  have hg:(eqGuard op t ox oy (.int k a) (.int k' b)).run P w = .ok () w:=x3b w
  split at h
  ·split at h
   ·cases h
   ·rename_i hb;cases h
    simp [Sem.run_bind,hg,binOp,Op.shift,hb,b3a]
  ·split at h
   ·cases h
   ·rename_i hb;cases h
    simp [Sem.run_bind,hg,binOp,Op.shift,hb,b3a]
  ·split at h
   ·rename_i hk;subst hk
    have hr:=m0a _ h w
    have:b3a v=true:=by simp [Op.intBits,k3a] at h;cases h;rfl
    refine ⟨?_,rfl,rfl,this⟩
    simp only [Sem.run_bind,hg,Result.andThen_ok]
    simpa [binOp] using hr
   ·cases h
  ·split at h
   ·rename_i hk;subst hk
    have hr:=m0a _ h w
    have:b3a v=true:=by simp [Op.intBits,k3a] at h;cases h;rfl
    refine ⟨?_,rfl,rfl,this⟩
    simp only [Sem.run_bind,hg,Result.andThen_ok]
    simpa [binOp] using hr
   ·cases h
  ·split at h
   ·rename_i hk;subst hk
    have hr:=m0a _ h w
    have:b3a v=true:=by simp [Op.intBits,k3a] at h;cases h;rfl
    refine ⟨?_,rfl,rfl,this⟩
    simp only [Sem.run_bind,hg,Result.andThen_ok]
    simpa [binOp] using hr
   ·cases h
  ·split at h
   ·rename_i hk;subst hk
    have hr:=m0a _ h w
    have:b3a v=true:=by simp [Op.intBits,k3a] at h;cases h;rfl
    refine ⟨?_,rfl,rfl,this⟩
    simp only [Sem.run_bind,hg,Result.andThen_ok]
    simpa [binOp] using hr
   ·cases h
  ·split at h
   ·rename_i hk;subst hk
    have hr:=e8d (P:=P) (t:=t) h w
    refine ⟨?_,rfl,rfl,hr.2⟩
    simp only [Sem.run_bind,hg,Result.andThen_ok]
    exact hr.1
   ·cases h
 ·rename_i a b
  have hg:(eqGuard op t ox oy (.string a) (.string b)).run P w = .ok () w:=x4b w
  simp only [Sem.run_bind,hg,Result.andThen_ok]
  cases op<;>simp only [b6d] at h
  case add=>
   split at h
   ·cases h
   ·rename_i hb;cases h;simp only [binOp,Op.stringOp,hb,if_false];simp [b3a]
  all_goals first
   | (cases h;done)
   | (cases h;simp [binOp,Op.stringOp,b3a])
 ·rename_i a b
  have hg:(eqGuard op t ox oy (.bool a) (.bool b)).run P w = .ok () w:=q4b w
  simp only [Sem.run_bind,hg,Result.andThen_ok]
  cases op<;>simp only at h
  case eql | neq=>
   split at h
   ·rename_i hu
    cases h
    cases hu':P.underlying t with
    | none=>simp [hu'] at hu
    | some d=>
     cases d<;>simp [hu'] at hu
     have he:=run_equal_bool (a:=a) (b:=b) hu' w
     refine ⟨?_,rfl,rfl,rfl⟩
     first
      | (rw [show binOp .eql t (.bool a) (.bool b)=(do pure (.bool (← Op.equal t (.bool a) (.bool b)))) from rfl];simp [he])
      | (rw [show binOp .neq t (.bool a) (.bool b)=(do pure (.bool (!(← Op.equal t (.bool a) (.bool b))))) from rfl];simp [he])
   ·cases h
  all_goals cases h
 ·cases h
theorem x5b {P:Program} {t:TypeId} {n φ x y x' y'} {b:Bool} (d:Nat) (h:q2b P t x y=some b) (hx:h3a n φ x x') (hy:h3a n φ y y') (w:World) :
  (Op.equalIn (d+1) t x' y').run P w = .ok b w:=by
 unfold q2b at h
 split at h<;>first | (cases h;done) | skip
 all_goals
  rename_i hu
  cases h
  simp only [Op.equalIn,Sem.run_bind,c4a hu,Result.andThen_ok]
  cases hx<;>cases hy<;>rfl
theorem k4d {P:Program} {t:TypeId} {n φ x y x' y'} {b:Bool} (h:q2b P t x y=some b) (hx:h3a n φ x x') (hy:h3a n φ y y') (op:BinOp) (ox oy:Operand) (w:World) :
  (eqGuard op t ox oy x' y').run P w = .ok () w:=by
 unfold q2b at h
 split at h<;>first | (cases h;done) | skip
 all_goals cases hx<;>cases hy<;>cases op<;>simp [eqGuard]
theorem o7c {P:Program} {n φ} {t:TypeId} {x y x' y':Value} {b:Bool} (h:q2b P t x y=some b) (hx:h3a n φ x x') (hy:h3a n φ y y') {ox oy:Operand} (w:World) :
  (do eqGuard .eql t ox oy x' y';binOp .eql t x' y':Sem Value).run P w = .ok (.bool b) w∧(do eqGuard .neq t ox oy x' y';binOp .neq t x' y':Sem Value).run P w = .ok (.bool !b) w:=by
 have he:(Op.equal t x' y').run P w = .ok b w:=x5b 9999 h hx hy w
 simp only [Sem.run_bind,k4d h hx hy,Result.andThen_ok]
 have h1:binOp .eql t x' y'=(do pure (.bool (← Op.equal t x' y')))∧binOp .neq t x' y'=(do pure (.bool (!(← Op.equal t x' y')))):=by
  unfold q2b at h
  split at h<;>first | (cases h;done) | skip
  all_goals cases hx<;>cases hy<;>exact ⟨rfl,rfl⟩
 rw [h1.1,h1.2]
 simp [he]
theorem m2e {P:Program} {op:UnOp} {x:Value} {v:Value} (h:(match op,x with
  | .not,.bool b=>some (.bool !b)
  | .neg,.int k n=>some (.int k (k.wrap (0 - n)))
  | .xor,.int k n=>k3a P (Op.intBits .xor k (if k.signed then -1 else k.max) n)
  | _,_=>(none:Option Value))=some v) (w:World):(Op.unary op x).run P w = .ok v w∧b3a x=true:=by
 split at h
 ·cases h;simp [Op.unary,b3a]
 ·cases h;simp [Op.unary,Op.intArith,b3a]
 ·exact ⟨m0a _ h w,rfl⟩
 ·cases h
theorem f1d {P:Program} {base φ H w} (hs:Sim φ H w) {s d:TypeId} {x x' v:Value} {H':Heap} (h:p9b P s d x H=some (v,H')) (hx:h3a H.length φ x x') :
  Sound P base φ H w (convert s d x') v H':=by
 simp only [p9b,Option.bind_eq_bind] at h
 cases hu:P.underlying s with
 | none=>simp [hu] at h
 | some us=>
  cases hd:P.underlying d with
  | none=>simp [hu,hd] at h
  | some ud=>
   simp only [hu,hd,Option.bind_some] at h
   split at h
   ·cases h;cases hx
    exact .pure hs (by simp [convert,c4a hu,c4a hd,Conv.intToInt]) (.int _ _)
   ·cases h;cases hx
    exact .pure hs (by simp [convert,c4a hu,c4a hd]) (.string _)
   ·rename_i e a
    cases he:P.underlying e with
    | none=>simp [he] at h
    | some ue=>
     simp only [he,Option.bind_some] at h
     split at h
     ·cases h;cases hx
      have hheap:(Lib.bytesWorld w e a).heap=w.heap.push (.cells (Lib.bytesCells w e a) e ((Lib.bytesCells w e a).size,(Lib.bytesCells w e a).size+1)):=by
       apply Array.ext_getElem?
       intro i
       rcases Nat.lt_trichotomy i w.heap.size with hi | hi | hi
       ·rw [Lib.bytesWorld_at_old w e a i hi,Array.getElem?_push_lt hi];simp [hi]
       ·subst hi;rw [Lib.bytesWorld_at_new];simp
       ·rw [Array.getElem?_eq_none (by rw [Lib.bytesWorld_size];omega),Array.getElem?_eq_none (by simp;omega)]
      have hge:=grownCap_ge w a.size 0 e
      have hsz:(Lib.bytesCells w e a).size=grownCap w a.size 0 e:=by simp [Lib.bytesCells];omega
      have st:=i6c (base:=base) (sz:=1) (cells:=a.data.toList.map fun b=>Value.int .u8 b.toNat) (fin:=(Lib.bytesCells w e a).size) hs hheap rfl rfl rfl (by simp [hsz];omega) (Nat.le_refl _) (fun i h1 h2=>by have h1:=h1.resolve_right (fun h=>h rfl);simp at h2;omega) (fun h=>absurd rfl h) (fun i v hv=>by
       refine ⟨v,?_,?_⟩
       ·have hi:=(List.getElem?_eq_some_iff.1 hv).1
        simp at hi
        simp only [Lib.bytesCells]
        rw [Array.getElem?_append_left (by simpa using hi)]
        simpa using hv
       ·simp at hv
        obtain ⟨b,_,rfl⟩:=hv
        exact .int _ _)
      refine ⟨_,_,_,Lib.run_convert_string_bytes w s d e a hu hd he,st,?_⟩
      have:=h3a.sl (n:=(s5a H (a.data.toList.map fun b=>Value.int .u8 b.toNat) 1).length) (φ:=u0b φ H.length ⟨w.heap.size,0,(Lib.bytesCells w e a).size,1⟩) H.length 0 a.size a.size (grownCap w a.size 0 e) (by simp [s5a,p8a]) (Nat.le_refl _) hge (by rw [i2a];simp [hsz])
      rw [i2a] at this
      simpa [o0a] using this
     ·cases h
   ·rename_i e b n c
    cases he:P.underlying e with
    | none=>simp [he] at h
    | some ue=>
     simp only [he,Option.bind_some] at h
     split at h
     ·split at h
      ·cases h
       cases hx
       exact .pure hs (by simp [convert,c4a hu,c4a hd,c4a he,Conv.bytesToString]) (.string _)
      ·rename_i a
       split at h
       ·rename_i hn0
        subst hn0
        cases h
        have key : ∀ B c',(convert s d (.slice (some B) 0 c')).run P w = .ok (.string .empty) w:=by
         intro B c'
         simp only [convert,Sem.run_bind,c4a hu,c4a hd,c4a he,Result.andThen_ok]
         simp [Conv.bytesToString,loadCells,loadCellsFrom]
        cases hx<;>exact .pure hs (key _ _) (.string _)
       rename_i hn0
       cases hr:readA H a n with
       | none=>simp [hr] at h
       | some cs=>
        simp only [hr,Option.bind_some] at h
        cases hb:u8s cs with
        | none=>simp [hb] at h
        | some xs=>
         simp only [hb,Option.bind_some,Option.some.injEq,Prod.mk.injEq] at h
         obtain ⟨rfl,rfl⟩:=h
         obtain ⟨cs',hrel,hlen,hcell,hrun⟩:=run_read (P:=P) hs hr
         have hxs : ∀ (cs:List Value) {xs:List Int},u8s cs=some xs→cs=xs.map (Value.int .u8):=by
          intro cs
          induction cs with
          | nil=>intro xs h;simp [u8s] at h;subst h;rfl
          | cons c cs ih=>
           intro xs h
           unfold u8s at h
           split at h
           ·rename_i he;cases he
           ·rename_i k r he
            cases he
            cases hr:u8s cs with
            | none=>simp [hr] at h
            | some ys=>
             simp only [hr,Option.map_some,Option.some.injEq] at h
             subst h
             rw [ih hr]
             rfl
           ·cases h
         have hcs:=hxs cs hb
         have hcs':cs'=xs.map (Value.int .u8):=by
          apply List.ext_getElem?
          intro i
          by_cases hi:i<cs.length
          ·have hi':i<cs'.length:=by rw [← hrel.1];exact hi
           have h1:=hrel.2 i cs[i] cs'[i] (List.getElem?_eq_getElem hi) (List.getElem?_eq_getElem hi')
           have hcl:b3a cs[i]=true:=by simp [hcs,b3a]
           rw [List.getElem?_eq_getElem hi',h1.n2a hcl,← List.getElem?_eq_getElem hi,hcs]
          ·rw [List.getElem?_eq_none (by rw [← hrel.1];omega),List.getElem?_eq_none (by rw [← hcs];omega)]
         have hxl:xs.length=n:=by rw [← hlen,hcs];simp
         have key : ∀ B o c',(∀ (j:Nat) (v:Value),cs'[j]?=some v→w.cell? ⟨B,o+j,none⟩=some v)→(convert s d (.slice (some ⟨B,o,none⟩) n c')).run P w = .ok (.string (strOfNums xs)) w:=by
          intro B o c' hc
          refine run_convert_bytes_arg w s e hu he B o n c' xs hxl (fun i hi => ?_) d hd
          refine hc i _ ?_
          rw [hcs']
          simp [hxl,hi,List.getD_eq_getElem?_getD]
         cases hx with
         | sl h o l m c' hn hl hm hf=>
          refine .pure hs (key _ _ c' fun j v hv => ?_) (.string _)
          exact hcell j v hv
         | e1b _ _ b _=>exact absurd rfl hn0
         | q5a b=>exact absurd rfl hn0
     ·cases h
   ·cases h
end Go.AM
namespace Go.AM
open Go
theorem z1d {n φ v v' k} (h:e5e v=some k) (hv:h3a n φ v v') : ∃ kd i,v' = .int kd i∧0≤i∧i.toNat=k:=by
 cases v with
 | int kd i=>
  simp only [e5e] at h
  split at h
  ·rename_i hi;cases h;cases hv;exact ⟨kd,i,rfl,hi,rfl⟩
  ·cases h
 | _=>simp [e5e] at h
theorem x2b {P:Program} {n φ v v' k y code} (h:e5e v=some k) (hv:h3a n φ v v') (hk:k≤y) (w:World):(Instr.sliceBound v' y code).run P w = .ok k w:=by
 obtain ⟨kd,i,rfl,hi,rfl⟩:=z1d h hv
 have:0≤i∧i≤(y:Int):=by omega
 simp [Instr.sliceBound,asIntOf,this]
def q9c (n:Nat) (φ:Nat→Place) (x y:Option Value):Prop:=match x,y with | none,none=>True | some v,some v'=>h3a n φ v v' | _,_=>False
theorem w9a {P:Program} {n φ} {isSlice:Bool} {len cap:Nat} {lo hi mx lo' hi' mx':Option Value} {l h m:Option Nat} (hl:q4a lo=some l) (hh:q4a hi=some h) (hm:q4a mx=some m)
  (rl:q9c n φ lo lo') (rh:q9c n φ hi hi') (rm:q9c n φ mx mx') (hc:(m.isSome&&h.isNone)=false)
  (b1:l.getD 0≤h.getD len) (b2:h.getD len≤m.getD cap) (b3:m.getD cap≤cap) (w:World) :
  (Instr.sliceBounds isSlice len cap lo' hi' mx').run P w = .ok (l.getD 0,h.getD len,m.getD cap) w:=by
 have inv : ∀ {x x':Option Value} {k:Option Nat},q4a x=some k→q9c n φ x x'→(k=none∧x'=none) ∨ ∃ v v' j,x'=some v'∧k=some j∧e5e v=some j∧h3a n φ v v':=by
  intro x x' k hx hr
  cases x with
  | none=>cases x' with | none=>simp [q4a] at hx;exact .inl ⟨hx.symm,rfl⟩ | some _=>exact hr.elim
  | some v=>
   cases x' with
   | none=>exact hr.elim
   | some v' =>
    simp only [q4a,Option.map_eq_some_iff] at hx
    obtain ⟨j,hj,rfl⟩:=hx
    exact .inr ⟨v,v',j,rfl,rfl,hj,hr⟩
 rcases inv hl rl with ⟨rfl,rfl⟩ | ⟨vl,vl',jl,rfl,rfl,nl,rl⟩<;>rcases inv hh rh with ⟨rfl,rfl⟩ | ⟨vh,vh',jh,rfl,rfl,nh,rh⟩<;>rcases inv hm rm with ⟨rfl,rfl⟩ | ⟨vm,vm',jm,rfl,rfl,nm,rm⟩ <;>
  simp at hc b1 b2 b3 ⊢ <;>
  (
   simp only [Instr.sliceBounds,Sem.run_bind,Sem.run_pure,Result.andThen_ok]
   try rw [x2b nm rm (by omega)]
   try simp only [Result.andThen_ok]
   try rw [x2b nh rh (by omega)]
   try simp only [Result.andThen_ok]
   try rw [x2b nl rl (by omega)]
   try simp)
theorem w2c {P:Program} {base φ H w} (hs:Sim φ H w) {t:TypeId} {x x' v:Value} {lo hi mx lo' hi' mx':Option Value} (h:a1b P t x lo hi mx H=some v) (hx:h3a H.length φ x x')
  (rl:q9c H.length φ lo lo') (rh:q9c H.length φ hi hi') (rm:q9c H.length φ mx mx'):Sound P base φ H w (Instr.sliceAt t x' lo' hi' mx') v H:=by
 simp only [a1b,Option.bind_eq_bind] at h
 cases hl:q4a lo with
 | none=>simp [hl] at h
 | some l=>
 cases hh:q4a hi with
 | none=>simp [hl,hh] at h
 | some hh' =>
 cases hm:q4a mx with
 | none=>simp [hl,hh,hm] at h
 | some m=>
 cases hu:P.underlying t with
 | none=>simp [hl,hh,hm,hu] at h
 | some d=>
 simp only [hl,hh,hm,hu,Option.bind_some] at h
 split at h
 ·rename_i s
  split at h
  ·cases h
  ·rename_i hmx
   split at h
   ·rename_i hb
    cases h
    cases hx
    have hmn:m=none:=by simpa using hmx
    subst hmn
    have g2d:mx'=none:=by
     cases mx with
     | none=>cases mx' with | none=>rfl | some _=>exact rm.elim
     | some v=>simp [q4a] at hm
    subst g2d
    have hr:=w9a (P:=P) (isSlice:=false) (len:=s.size) (cap:=s.size) hl hh (show q4a none=some none from rfl) rl rh (show q9c H.length φ none none from trivial) rfl hb.1 hb.2 (Nat.le_refl _) w
    refine .pure hs ?_ (.string _)
    simp [Instr.sliceAt,Instr.slice,c4a hu,hr]
   ·cases h
 ·rename_i e a len cap
  cases hsz:f3a P e with
  | none=>simp [hsz] at h
  | some sz=>
  simp only [hsz,Option.bind_some] at h
  split at h
  ·cases h
  ·rename_i hc
   have hc:(m.isSome&&hh'.isNone)=false:=Bool.eq_false_iff.2 hc
   split at h
   ·rename_i hb
    obtain ⟨b1,b2,b3⟩:=hb
    cases hx with
    | a8c _ _=>
     simp only [Option.some.injEq] at h
     subst h
     have hr:=w9a (P:=P) (isSlice:=true) (len:=len) (cap:=cap) hl hh hm rl rh rm hc b1 b2 b3 w
     refine .pure hs ?_ (.a8c _ _)
     simp [Instr.sliceAt,Instr.slice,c4a hu,hr,run_sizeOf hsz]
    | sl hd o _ _ c hn hlm hmc hf=>
     have n3f:m.getD cap≤m.getD c:=by cases m<;>simp;omega
     have hr:=w9a (P:=P) (isSlice:=true) (len:=len) (cap:=c) hl hh hm rl rh rm hc b1 (by omega) (by cases m<;>simp at b3 ⊢;omega) w
     have hle:m.getD c≤c:=by cases m<;>simp at b3 ⊢;omega
     have hrun:(Instr.sliceAt t (.slice (some ⟨(φ hd).B,(φ hd).base+o,none⟩) len c) lo' hi' mx').run P w =
       .ok (.slice (some (if m.getD c=l.getD 0 then ⟨(φ hd).B,(φ hd).base+o,none⟩ else (⟨(φ hd).B,(φ hd).base+o,none⟩:Addr).add (l.getD 0*sz))) (hh'.getD len - l.getD 0) (m.getD c - l.getD 0)) w:=by
      simp only [Instr.sliceAt,Instr.slice,Sem.run_bind,c4a hu,Result.andThen_ok,hr,run_sizeOf hsz]
      split<;>rfl
     simp only at h
     by_cases hfree:m.isSome=true∧m.getD cap=l.getD 0
     ·rw [if_pos hfree] at h
      cases h
      have e0:m.getD c=l.getD 0:=by
       cases m with
       | none=>simp at hfree
       | some m=>simpa using hfree
      have e1:hh'.getD len - l.getD 0=0:=by omega
      have e3:m.getD c - l.getD 0=0:=by omega
      refine .pure hs hrun ?_
      simp only [e1,e3]
      exact .q5a _
     rw [if_neg hfree] at h
     by_cases hl0:l.getD 0=0
     ·simp only [hl0,if_true,Option.some.injEq] at h
      subst h
      refine .pure hs hrun ?_
      simp only [hl0,Nat.zero_mul,Nat.sub_zero,s7a,Nat.add_zero,ite_self]
      refine .sl hd o _ _ _ hn b2 n3f ?_
      have:m.getD c*(φ hd).sz≤c*(φ hd).sz:=Nat.mul_le_mul_right _ hle
      omega
     ·simp only [hl0,if_false,Option.isSome_none,Bool.false_eq_true] at h
      cases hg:hget H hd with
      | none=>simp [hg] at h
      | some b=>
       simp only [hg] at h
       split at h
       ·rename_i hbz
        simp only [Option.some.injEq] at h
        subst h
        obtain ⟨_,_,_,_,_,_,hsz',_⟩:=hs.cov hd b hg
        refine .pure hs hrun ?_
        by_cases hcl:m.getD c=l.getD 0
        ·have e1:hh'.getD len - l.getD 0=0:=by omega
         have e2:m.getD cap - l.getD 0=0:=by omega
         have e3:m.getD c - l.getD 0=0:=by omega
         simp only [e1,e2,e3]
         exact .e1b _ _ _ hn
        ·simp only [hcl,if_false,s7a,Nat.add_assoc]
         refine .sl hd (o+l.getD 0*sz) _ _ _ hn (by omega) (by omega) ?_
         have hq:(φ hd).sz=sz:=by rw [hsz',hbz]
         rw [hq] at hf ⊢
         have h1:l.getD 0*sz+(m.getD c - l.getD 0)*sz=m.getD c*sz:=by rw [← Nat.add_mul];congr 1;omega
         have h2:m.getD c*sz≤c*sz:=Nat.mul_le_mul_right _ hle
         omega
       ·cases h
    | e1b _ _ b hhn=>
     have hl0:l.getD 0=0:=by omega
     have hh0:hh'.getD 0=0:=by omega
     have hm0:m.getD 0=0:=by omega
     have hr:=w9a (P:=P) (isSlice:=true) (len:=0) (cap:=0) hl hh hm rl rh rm hc b1 b2 b3 w
     have hrun:(Instr.sliceAt t (.slice (some b) 0 0) lo' hi' mx').run P w = .ok (.slice (some b) 0 0) w:=by
      simp only [Instr.sliceAt,Instr.slice,Sem.run_bind,c4a hu,Result.andThen_ok,hr,run_sizeOf hsz,hl0,hh0,hm0]
      simp
     simp only at h
     by_cases hfree:m.isSome=true∧m.getD 0=l.getD 0
     ·rw [if_pos hfree] at h
      cases h
      exact .pure hs hrun (.q5a _)
     rw [if_neg hfree] at h
     simp only [hl0,if_true,Option.some.injEq] at h
     subst h
     exact .pure hs hrun (by rw [hh0,hm0];exact .e1b _ _ _ hhn)
    | q5a b=>
     have hl0:l.getD 0=0:=by omega
     have hh0:hh'.getD 0=0:=by omega
     have hm0:m.getD 0=0:=by omega
     have hr:=w9a (P:=P) (isSlice:=true) (len:=0) (cap:=0) hl hh hm rl rh rm hc b1 b2 b3 w
     have hrun:(Instr.sliceAt t (.slice (some b) 0 0) lo' hi' mx').run P w = .ok (.slice (some b) 0 0) w:=by
      simp only [Instr.sliceAt,Instr.slice,Sem.run_bind,c4a hu,Result.andThen_ok,hr,run_sizeOf hsz,hl0,hh0,hm0]
      simp
     simp only at h
     by_cases hfree:m.isSome=true∧m.getD 0=l.getD 0
     ·rw [if_pos hfree] at h
      cases h
      exact .pure hs hrun (.q5a _)
     rw [if_neg hfree] at h
     simp only [hl0,if_true,Option.some.injEq] at h
     subst h
     exact .pure hs hrun (by rw [hh0,hm0];exact .q5a _)
   ·cases h
 ·cases h
theorem i2c {P:Program} {base φ H w} (hs:Sim φ H w) {s:TypeId} {x x' v:Value} {f:Nat} (h:y3a P s x f=some v) (hx:h3a H.length φ x x'):Sound P base φ H w (Instr.fieldAt s x' f) v H:=by
 simp only [y3a,Option.bind_eq_bind] at h
 cases hu:P.underlying s with
 | none=>simp [hu] at h
 | some d=>
  cases d<;>try (simp [hu] at h;done)
  rename_i fields
  simp only [hu,Option.bind_some] at h
  cases hf:fields[f]? with
  | none=>simp [hf] at h
  | some fd=>
   simp only [hf,Option.bind_some] at h
   cases x<;>try (simp at h;done)
   rename_i p
   cases p with
   | none=>simp at h
   | some a=>
    simp only at h
    cases hsz:f3a P fd.type with
    | none=>simp [hsz] at h
    | some sz=>
     simp only [hsz,Option.bind_some] at h
     split at h
     ·cases h
     ·rename_i hc
      simp only [not_or] at hc
      simp only [Option.some.injEq] at h
      subst h
      obtain ⟨hn,ha,rfl⟩:=g9c hx (by simpa using hc.1)
      refine .pure hs (v':=.pointer (some ⟨(φ a.block).B,(φ a.block).base+(a.off+fd.offset),none⟩)) ?_ (.ptr _ _ hn)
      simp [Instr.fieldAt,c4a hu,hf,Instr.sureAddr,fieldPlace,run_sizeOf hsz,hc.2,s7a,Nat.add_assoc]
theorem w0c {P:Program} {base φ H w} (hs:Sim φ H w) {s:TypeId} {x x' v:Value} {f:Nat} (h:m0b P s x f=some v) (hx:h3a H.length φ x x'):Sound P base φ H w (Instr.field s x' f) v H:=by
 unfold m0b at h
 split at h
 ·rename_i fields cs hu
  split at h
  ·rename_i fd hf
   split at h
   ·rename_i n hg hn
    split at h
    ·rename_i hc
     cases h
     cases hx with
     | agg _ ys h1 h2=>
      refine .pure hs (v':=.agg (ys.extract fd.offset (fd.offset+n))) ?_ (.agg _ _ (by simp [h1]) fun i hi hi' => ?_)
      ·simp [Instr.field,c4a hu,hf,asAgg,part,y0b hg,run_sizeOf hn]
      ·simp only [Array.getElem_extract]
       exact h2 _ _ _
    ·cases h
   ·rename_i n hg hn
    cases hx with
    | agg _ ys h1 h2=>
     obtain ⟨hi,rfl⟩:=Array.getElem?_eq_some_iff.1 h
     have hi':fd.offset<ys.size:=h1▸hi
     refine .pure hs (v':=ys[fd.offset]) ?_ (h2 _ _ _)
     simp [Instr.field,c4a hu,hf,asAgg,part,y0b hg,hi']
   ·cases h
  ·cases h
 ·cases h
theorem i3c {P:Program} {base φ H w} (hs:Sim φ H w) {t:TypeId} {x x' i i' v:Value} (h:y4a P t x i=some v) (hx:h3a H.length φ x x') (hi:h3a H.length φ i i'):Sound P base φ H w (Instr.indexAt t x' i') v H:=by
 simp only [y4a,Option.bind_eq_bind] at h
 cases i<;>try (simp at h;done)
 rename_i k i
 cases hi
 simp only at h
 cases hu:P.underlying t with
 | none=>simp [hu] at h
 | some d=>
  simp only [hu,Option.bind_some] at h
  split at h
  ·rename_i e a len cap
   split at h
   ·rename_i hc
    obtain ⟨h0,h1,hsp⟩:=hc
    cases hsz:f3a P e with
    | none=>simp [hsz] at h
    | some sz=>
     simp only [hsz,Option.bind_some,Option.some.injEq] at h
     subst h
     cases hx with
     | sl hd o _ _ c hn hl hm hf=>
      refine .pure hs (v':=.pointer (some ⟨(φ hd).B,(φ hd).base+(o+i.toNat*sz),none⟩)) ?_ (.ptr _ _ hn)
      simp [Instr.indexAt,asIntOf,c4a hu,h0,h1,run_sizeOf hsz,s7a,Nat.add_assoc]
     | e1b=>omega
     | q5a=>simp [v0b] at hsp
   ·cases h
  ·cases h
theorem w1c {P:Program} {base φ H w} (hs:Sim φ H w) {t:TypeId} {s:ByteArray} {k:IntKind} {i:Int} {b:UInt8} (hu:P.underlying t=some .string) (h0:0≤i) (hb:s.data[i.toNat]?=some b) :
  Sound P base φ H w (Instr.index t (.string s) (.int k i)) (.int .u8 b.toNat) H:=by
 have hb':s[i.toNat]?=some b:=by
  obtain ⟨hlt,e⟩:=Array.getElem?_eq_some_iff.1 hb
  have:i.toNat<s.size:=hlt
  rw [getElem?_pos s i.toNat this]
  exact congrArg some e
 refine .pure hs (v':=.int .u8 b.toNat) ?_ (.int _ _)
 simp [Instr.index,asIntOf,c4a hu,h0,hb']
theorem h3a.t3d {n φ x' v} {vs:Array Value} {i:Nat} (h:h3a n φ (.tuple vs) x') (hv:vs[i]?=some v) : ∃ (vs':Array Value) (v':Value),x' = .tuple vs'∧vs'[i]?=some v'∧h3a n φ v v':=by
 cases h with
 | tuple xs ys h1 h2=>
  obtain ⟨hi,rfl⟩:=Array.getElem?_eq_some_iff.1 hv
  exact ⟨ys,ys[i]'(by omega),rfl,by simp [show i<ys.size by omega],h2 i hi (by omega)⟩
theorem y5b {P:Program} {base φ H w} (hs:Sim φ H w) {t:TypeId} {l c l' c' v:Value} {H':Heap} (h:w3a P t l c H=some (v,H')) (hl:h3a H.length φ l l') (hc:h3a H.length φ c c') :
  Sound P base φ H w (Instr.makeSlice t l' c') v H':=by
 simp only [w3a,Option.bind_eq_bind] at h
 cases hu:P.underlying t with
 | none=>simp [hu] at h
 | some d=>
  cases d<;>try (simp [hu] at h;done)
  rename_i e
  simp only [hu,Option.bind_some] at h
  cases hi:P.info? e with
  | none=>simp [hi] at h
  | some info=>
   simp only [hi,Option.bind_some] at h
   cases hz:info.zero with
   | none=>simp [hz] at h
   | some z=>
    simp only [hz,Option.bind_some] at h
    cases l<;>try (simp at h;done)
    rename_i k1 l
    cases k1<;>try (simp at h;done)
    cases c<;>try (simp at h;done)
    rename_i k2 c
    cases k2<;>try (simp at h;done)
    cases hl;cases hc
    simp only at h
    split at h
    ·rename_i hcond
     obtain ⟨h0,h1,h2,h3,h4,h5⟩:=hcond
     simp only [Option.some.injEq,Prod.mk.injEq] at h
     obtain ⟨rfl,rfl⟩:=h
     have hwl:IntKind.i64.wrap l=l:=by simp [IntKind.wrap,IntKind.bits,IntKind.signed];omega
     have hwc:IntKind.i64.wrap c=c:=by simp [IntKind.wrap,IntKind.bits,IntKind.signed];omega
     have hle:l.toNat*info.size≤c.toNat*info.size:=Nat.mul_le_mul_right _ (by omega)
     obtain ⟨φ',hst,hφ⟩:=f3d (P:=P) (base:=base) (sz:=info.size) hs (cells:=((Array.range (l.toNat*info.size)).map (z.cells[· % z.cells.size]!)).toList) (cs:=(Array.range (c.toNat*info.size)).map (z.cells[· % z.cells.size]!)) e (by simpa using hle) (fun i v hv=>by
      have hr:=w8b (n:=H.length) (φ:=φ) h4 (l.toNat*info.size)
      have hi:=(List.getElem?_eq_some_iff.1 hv).1
      have hi2:i<c.toNat*info.size:=by simp at hi;omega
      refine ⟨v,?_,hr.2 i v v hv hv⟩
      rw [← hv]
      simp at hi
      simp [hi,hi2]) (fun _=>by
      simp only [Array.size_map,Array.size_range]
      exact Nat.mul_le_mul_right _ (by omega))
     refine ⟨.slice (some ⟨w.heap.size,0,none⟩) l.toNat c.toNat,w.alloc (.cells ((Array.range (c.toNat*info.size)).map (z.cells[· % z.cells.size]!)) e),φ',?_,hst,?_⟩
     ·have g1 : ¬ (c<0):=by omega
      have g2 : ¬ ((281474976710656:Int)<(info.bytes:Int)*c):=by omega
      have g3 : ¬ (l<0):=by omega
      have g4 : ¬ (c<l):=by omega
      have hzz:i3a P e=some z:=by simp [i3a,hi,hz]
      by_cases hn:c.toNat*info.size=0
      ·have e1:((Array.range (c.toNat*info.size)).map (z.cells[· % z.cells.size]!)) = #[]:=by rw [hn];simp
       have e3:(Array.map (fun _=>(default:Value)) (Array.range 0)) = #[]:=by simp
       rw [e1]
       simp [Instr.makeSlice,c4a hu,o5c hi,asInt,asIntOf,hwl,hwc,g1,g2,g3,g4,sizeOf,hn,newRow,e3]
      ·simp [Instr.makeSlice,c4a hu,o5c hi,asInt,asIntOf,hwl,hwc,g1,g2,g3,g4,sizeOf,hn,newRow,x1a hzz]
     ·have hs0:=h3a.sl (n:=(s5a H ((Array.range (l.toNat*info.size)).map (z.cells[· % z.cells.size]!)).toList info.size).length) (φ:=φ') H.length 0 l.toNat l.toNat c.toNat (by simp [s5a,p8a]) (Nat.le_refl _) (by omega) (by rw [hφ];simp)
      rw [hφ] at hs0
      simpa [o0a] using hs0
    ·cases h
end Go.AM
namespace Go.AM
open Go
theorem Sim.heap {φ H} {w w1:World} (hs:Sim φ H w) (h:w1.heap=w.heap):Sim φ H w1:=
 ⟨fun i b hg=>by obtain ⟨c,e,fr,hB,r⟩:=hs.cov i b hg;exact ⟨c,e,fr,by rw [h];exact hB,r⟩,hs.apart,hs.par,hs.z2a⟩
theorem Step.draw {base φ H w} {w1:World} (hs:Sim φ H w) (h:w1.heap=w.heap) (ho:w1.os=w.os) (ht:w1.tape=w.tape) (hu:w1.output=w.output):Step base φ H w φ H w1:=
 ⟨Nat.le_refl _,fun _ _=>rfl,by rw [h];exact Nat.le_refl _,ho,ht,hu,fun _ _ _=>by rw [h],fun h b' _ hb=>⟨b',hb,id⟩,fun h b hb hg hr=>.inr ⟨h,b,hb,hg,hr,rfl⟩,t0a rfl,hs.heap h⟩
theorem x6b {P:Program} {φ H w} (hs:Sim φ H w) {sz n m:Nat} {x x':Value} {new:List Value} (h:s0a H sz n x=some new) (hx:h3a H.length φ x x') (hl:m7d x=some m) (hn:n≤m) :
  ∃ new',j5a H.length φ new new'∧(Builtin.firstCells sz n x').run P w = .ok new'.toArray w:=by
 cases hx<;>simp only [s0a] at h<;>try (cases h;done)
 case a8c=>cases h;exact ⟨[],.nil,rfl⟩
 case string s=>
  cases h
  refine ⟨_,.n8c (fun v hv => ?_),?_⟩
  ·simp only [List.mem_map] at hv
   obtain ⟨b,_,rfl⟩:=hv
   rfl
  ·simp only [Builtin.firstCells,Sem.run_pure]
   congr 1
   apply Array.ext'
   simp
 case sl hd o l mm c hh hl' hm hf=>
  split at h
  ·rename_i h0
   cases h
   exact ⟨[],.nil,by simp [Builtin.firstCells,loadCells,loadCellsFrom,h0]⟩
  obtain ⟨cs',hrel,_,_,hrun⟩:=run_read (P:=P) hs h
  exact ⟨cs',hrel,by simpa [Builtin.firstCells] using hrun⟩
 case e1b _ _ b hhn=>
  simp only [m7d,Option.some.injEq] at hl
  have:n=0:=by omega
  subst this
  simp at h
  subst h
  exact ⟨[],.nil,by simp [Builtin.firstCells,loadCells,loadCellsFrom]⟩
 case q5a b=>
  simp only [m7d,Option.some.injEq] at hl
  have:n=0:=by omega
  subst this
  simp at h
  subst h
  exact ⟨[],.nil,by simp [Builtin.firstCells,loadCells,loadCellsFrom]⟩
theorem o6c {P:Program} {n φ x x' m} (h:m7d x=some m) (hx:h3a n φ x x') (w:World):(Builtin.lenOf x').run P w = .ok m w:=by
 cases hx<;>simp only [m7d] at h<;>try (cases h;done)
 all_goals cases h;rfl
theorem s5d {base φ H w} (hs:Sim φ H w) {h:Nat} {b:Blk} (hg:hget H h=some b):Step base φ H w φ (hset H h (some { b with rw:=false })) w:=by
 have hlt:=e7a hg
 have back : ∀ i c,hget (hset H h (some { b with rw:=false })) i=some c → ∃ c0,hget H i=some c0∧(c.rw=true→c0.rw=true∧i≠h)∧c0.cells=c.cells∧c0.sz=c.sz∧c0.lo=c.lo∧c0.par=c.par∧(i≠h→c0=c)∧(c0.rw=false→c.rw=false):=by
  intro i c hi
  by_cases he:i=h
  ·subst he
   rw [g6a hlt] at hi
   cases hi
   exact ⟨b,hg,(fun h=>by cases h),rfl,rfl,rfl,rfl,(fun h=>absurd rfl h),fun _=>rfl⟩
  ·rw [f9a (Ne.symm he)] at hi
   exact ⟨c,hi,fun h=>⟨h,he⟩,rfl,rfl,rfl,rfl,fun _=>rfl,id⟩
 refine ⟨by simp [c7a],fun _ _=>rfl,Nat.le_refl _,rfl,rfl,rfl,fun _ _ _=>rfl,?_,?_,t0a c7a,?_,?_,?_,?_⟩
 ·intro i c _ hi
  obtain ⟨c0,k0,k1,_⟩:=back i c hi
  exact ⟨c0,k0,fun hr=>(k1 hr).1⟩
 ·intro i c hb hi hr
  obtain ⟨c0,k0,k1,_⟩:=back i c hi
  exact .inr ⟨i,c0,hb,k0,(k1 hr).1,rfl⟩
 ·intro i c hi
  obtain ⟨c0,k0,k1,k2,k3,k4,k5,k6,_⟩:=back i c hi
  obtain ⟨d,e,fr,hB,g1,g2,g3,g4,g5,g6⟩:=hs.cov i c0 k0
  rw [c7a]
  exact ⟨d,e,fr,hB,k2▸g1,g2,g3.trans k3,k2▸g4,fun hr=>g5 (k1 hr).1,by rw [← k4,← k2];exact g6⟩
 ·intro i j c d hne hi hj hr
  obtain ⟨c0,k0,k1,k2,k3,k4,k5,k6,_⟩:=back i c hi
  obtain ⟨d0,l0,l1,l2,l3,l4,l5,l6,l7⟩:=back j d hj
  have:=hs.apart i j c0 d0 hne k0 l0 (k1 hr).1
  obtain rfl:=k6 (k1 hr).2
  have hle:o3c (φ j) d≤o3c (φ j) d0:=by
   obtain ⟨_,_,_,_,q1,_⟩:=hs.cov j d0 l0
   unfold o3c
   rw [l2] at q1 ⊢
   cases hd:d.rw with
   | true=>rw [(l1 hd).1];exact Nat.le_refl _
   | false=>simp only [Bool.false_eq_true,if_false];split<;>omega
  omega
 ·intro i c p d hi hp hj
  obtain ⟨c0,k0,k1,k2,k3,k4,k5,k6,_⟩:=back i c hi
  obtain ⟨d0,l0,l1,l2,l3,l4,l5,l6,l7⟩:=back p d hj
  exact l7 (hs.par i c0 p d0 k0 (k5▸hp) l0)
 ·intro i c p hi hp
  obtain ⟨c0,k0,k1,k2,k3,k4,k5,k6,_⟩:=back i c hi
  rw [c7a]
  exact hs.z2a i c0 p k0 (k5▸hp)
theorem s3d {base φ H w} (hs:Sim φ H w) {h:Nat} {b:Blk} (hg:hget H h=some b) (hrw:b.rw=true) (hbase:base≤h) {o fin:Nat} (ho:o≤b.cells.length) (hf:fin≤(φ h).fin) (hf2:(φ h).base+b.cells.length≤fin) :
  Step base φ H w (u0b φ H.length ⟨(φ h).B,(φ h).base+o,fin,b.sz⟩) (p8a (hset H h (some { b with rw:=false })) ⟨b.cells.drop o,b.sz,true,b.cells.length - o,h::b.par⟩) w:=by
 have hlt:=e7a hg
 have st:=s5d (base:=base) hs hg
 have hl:(hset H h (some { b with rw:=false })).length=H.length:=c7a
 have hlen:(p8a (hset H h (some { b with rw:=false })) ⟨b.cells.drop o,b.sz,true,b.cells.length - o,h::b.par⟩).length=H.length+1:=by simp [p8a,c7a]
 have hk : ∀ i,i<H.length→u0b φ H.length ⟨(φ h).B,(φ h).base+o,fin,b.sz⟩ i=φ i:=fun i hi=>f1c hi
 have hold : ∀ i c,i<H.length→hget (p8a (hset H h (some { b with rw:=false })) ⟨b.cells.drop o,b.sz,true,b.cells.length - o,h::b.par⟩) i=some c→hget (hset H h (some { b with rw:=false })) i=some c:=fun i c hi hg'=>by
  rwa [p8a,g5a (by rw [hl];exact hi)] at hg'
 have hnew:hget (p8a (hset H h (some { b with rw:=false })) ⟨b.cells.drop o,b.sz,true,b.cells.length - o,h::b.par⟩) H.length=some ⟨b.cells.drop o,b.sz,true,b.cells.length - o,h::b.par⟩:=by
  have:=n1a (H:=hset H h (some { b with rw:=false })) (b:=some ⟨b.cells.drop o,b.sz,true,b.cells.length - o,h::b.par⟩)
  rw [hl] at this
  exact this
 have d6e:hget (hset H h (some { b with rw:=false })) h=some { b with rw:=false } := g6a hlt
 obtain ⟨c,e,fr,hB,g1,g2,g3,g4,g5,g6⟩:=hs.cov h b hg
 have s2:Step base φ (hset H h (some { b with rw:=false })) w (u0b φ H.length ⟨(φ h).B,(φ h).base+o,fin,b.sz⟩) (p8a (hset H h (some { b with rw:=false })) ⟨b.cells.drop o,b.sz,true,b.cells.length - o,h::b.par⟩) w→Step base φ H w (u0b φ H.length ⟨(φ h).B,(φ h).base+o,fin,b.sz⟩) (p8a (hset H h (some { b with rw:=false })) ⟨b.cells.drop o,b.sz,true,b.cells.length - o,h::b.par⟩) w:=fun s=>st.trans s
 refine ⟨by omega,hk,Nat.le_refl _,rfl,rfl,rfl,fun _ _ _=>rfl,?_,?_,fun i c hi hg'=>(by
  have hlt':=e7a hg'
  rw [hlen] at hlt'
  obtain rfl:i=H.length:=by omega
  rw [i2a]
  exact .inr ⟨h,b,hg,rfl⟩),?_,?_,?_,?_⟩
 ·intro i c hi hg'
  exact st.old i c hi (hold i c hi hg')
 ·intro i c hi hg' hr
  have hlt':=e7a hg'
  rw [hlen] at hlt'
  rcases Nat.lt_or_ge i H.length with h1 | h1
  ·rw [hk i h1];exact st.later i c hi (hold i c h1 hg') hr
  ·have:i=H.length:=by omega
   subst this
   rw [i2a]
   exact .inr ⟨h,b,hbase,hg,hrw,rfl⟩
 ·intro i d hg'
  have hlt':=e7a hg'
  rw [hlen] at hlt' ⊢
  rcases Nat.lt_or_ge i H.length with h1 | h1
  ·obtain ⟨c',e',fr',hB',k1,k2,k3,k4,k5⟩:=st.sim.cov i d (hold i d h1 hg')
   rw [hk i h1]
   exact ⟨c',e',fr',hB',k1,k2,k3,fun j v hv=>let ⟨v',hv',hr⟩:=k4 j v hv;⟨v',hv',hr.mono (by rw [hl];omega) (by rw [hl];exact hk)⟩,k5⟩
  ·have:i=H.length:=by omega
   subst this
   rw [hnew] at hg'
   cases hg'
   rw [i2a]
   refine ⟨c,e,fr,hB,by simp;omega,by simp;omega,rfl,fun j v hv => ?_,fun _=>⟨fun j h1 h2=>(g5 hrw).1 j (by simp at h1;omega) (h2.elim (fun h2=>.inl (by simp at h2;omega)) (fun h2=>.inr (by rw [g3];exact h2))),fun h=>by
    have:=(g5 hrw).2 (by rw [g3];exact h)
    rw [g3] at this
    dsimp only
    omega⟩,by simp⟩
   rw [List.getElem?_drop] at hv
   obtain ⟨v',hv',hr⟩:=g4 (o+j) v hv
   exact ⟨v',by simpa [Nat.add_assoc] using hv',hr.mono (by omega) hk⟩
 ·intro i j c d hne h1 h2 hr
  have l1:=e7a h1
  have l2:=e7a h2
  rw [hlen] at l1 l2
  rcases Nat.lt_or_ge i H.length with a1 | a1<;>rcases Nat.lt_or_ge j H.length with a2 | a2
  ·rw [hk i a1,hk j a2]
   exact st.sim.apart i j c d hne (hold i c a1 h1) (hold j d a2 h2) hr
  ·have:j=H.length:=by omega
   subst this
   have hi:=hold i c a1 h1
   rw [hnew] at h2
   cases h2
   rw [hk i a1,i2a]
   have hih:i≠h:=by
    intro he
    subst he
    rw [d6e] at hi
    cases hi
    cases hr
   have hi0:hget H i=some c:=by rwa [f9a (Ne.symm hih)] at hi
   have:=hs.apart i h c b hih hi0 hg hr
   have hnp:h∉c.par:=fun hm=>by
    have:=hs.par i c h b hi0 hm hg
    rw [hrw] at this
    cases this
   have n6f:H.length∉c.par:=fun hm=>absurd (hs.z2a i c _ hi0 hm) (Nat.lt_irrefl _)
   have w1:d5c (φ i) c h=(φ i).base:=by unfold d5c;simp [hnp]
   have w2:d5c (φ i) c H.length=(φ i).base:=by unfold d5c;simp [n6f]
   have r1:o3c (φ h) b=(φ h).fin:=by unfold o3c;simp [hrw]
   rw [w2]
   rw [w1,r1] at this
   simp only [o3c,if_true]
   omega
  ·have:i=H.length:=by omega
   subst this
   have hj:=hold j d a2 h2
   rw [hnew] at h1
   cases h1
   rw [hk j a2,i2a]
   by_cases hjh:j=h
   ·subst hjh
    rw [d6e] at hj
    cases hj
    right;right
    simp only [o3c,d5c,List.mem_cons,true_or,if_true,Bool.false_eq_true,if_false]
    omega
   ·have hj0:hget H j=some d:=by rwa [f9a (Ne.symm hjh)] at hj
    have:=hs.apart h j b d (Ne.symm hjh) hg hj0 hrw
    by_cases hjp:j∈b.par
    ·have w1:d5c (φ h) b j=(φ h).base+b.lo:=by unfold d5c;simp [hjp]
     rw [w1] at this
     simp only [d5c,List.mem_cons,hjp,or_true,if_true]
     omega
    ·have w1:d5c (φ h) b j=(φ h).base:=by unfold d5c;simp [hjp]
     rw [w1] at this
     simp only [d5c,List.mem_cons,hjp,hjh,or_self,if_false]
     omega
  ·omega
 ·intro i c p d hi hp hj
  have l1:=e7a hi
  rw [hlen] at l1
  rcases Nat.lt_or_ge i H.length with a1 | a1
  ·have hi':=hold i c a1 hi
   have hpl:=st.sim.z2a i c p hi' hp
   rw [hl] at hpl
   exact st.sim.par i c p d hi' hp (hold p d hpl hj)
  ·have:i=H.length:=by omega
   subst this
   rw [hnew] at hi
   cases hi
   rcases List.mem_cons.1 hp with rfl | hp
   ·have hj':=hold _ d hlt hj
    rw [d6e] at hj'
    cases hj'
    rfl
   ·have hpl:=hs.z2a h b p hg hp
    have hj':=hold p d hpl hj
    have hb':(({ b with rw:=false } : Blk)).par=b.par:=rfl
    exact st.sim.par h { b with rw:=false } p d d6e (by rw [hb'];exact hp) hj'
 ·intro i c p hi hp
  have l1:=e7a hi
  rw [hlen] at l1 ⊢
  rcases Nat.lt_or_ge i H.length with a1 | a1
  ·have:=st.sim.z2a i c p (hold i c a1 hi) hp
   rw [hl] at this
   omega
  ·have:i=H.length:=by omega
   subst this
   rw [hnew] at hi
   cases hi
   rcases List.mem_cons.1 hp with rfl | hp
   ·omega
   ·have:=hs.z2a h b p hg hp
    omega
theorem s4d {base φ H w} (hs:Sim φ H w) {h:Nat} {b:Blk} (hg:hget H h=some b) (hrw:b.rw=true) (hbase:base≤h) (ho:(φ h).base+b.cells.length<(φ h).fin) {v v':Value} (hv:h3a H.length φ v v') :
  (∃ u,w.cell? ⟨(φ h).B,(φ h).base+b.cells.length,none⟩=some u)∧w.frozen? ⟨(φ h).B,(φ h).base+b.cells.length,none⟩=false ∧
   Step base φ H w φ (hset H h (some { b with cells:=b.cells++[v] })) (w.setCell ⟨(φ h).B,(φ h).base+b.cells.length,none⟩ v'):=by
 obtain ⟨c,e,fr,hB,g1,g2,g3,g4,g5,g6⟩:=hs.cov h b hg
 have hlt:=e7a hg
 have hcs:(φ h).base+b.cells.length<c.size:=by omega
 have hnew:(w.setCell ⟨(φ h).B,(φ h).base+b.cells.length,none⟩ v').heap[(φ h).B]?=some (.cells (c.setIfInBounds ((φ h).base+b.cells.length) v') e fr):=by
  simp [World.setCell,Array.getElem?_modify,hB]
 have hoth : ∀ k,k≠(φ h).B→(w.setCell ⟨(φ h).B,(φ h).base+b.cells.length,none⟩ v').heap[k]?=w.heap[k]?:=fun k hk=>heap_setCell_other w _ k v' hk
 refine ⟨⟨_,by rw [cell_of_row w _ _ c e fr hB];exact Array.getElem?_eq_getElem hcs⟩,?_,?_⟩
 ·have:=(g5 hrw).1 ((φ h).base+b.cells.length) (by omega) (.inl (by omega))
  simp only [World.frozen?,hB]
  simp only [Bool.and_eq_false_imp,decide_eq_true_eq,decide_eq_false_iff_not]
  omega
 ·have back : ∀ h' b',hget (hset H h (some { b with cells:=b.cells++[v] })) h'=some b' → ∃ b0,hget H h'=some b0∧b0.rw=b'.rw∧b0.lo=b'.lo∧b0.par=b'.par∧o3c (φ h') b0=o3c (φ h') b':=by
   intro h' b' hg'
   by_cases he:h'=h
   ·subst he
    rw [g6a hlt] at hg'
    cases hg'
    exact ⟨b,hg,rfl,rfl,rfl,by unfold o3c;simp [hrw]⟩
   ·rw [f9a (Ne.symm he)] at hg'
    exact ⟨b',hg',rfl,rfl,rfl,rfl⟩
  refine ⟨by simp [c7a],fun _ _=>rfl,by simp [World.setCell],rfl,rfl,rfl,?_,?_,?_,t0a c7a,?_,?_,?_,?_⟩
  ·intro k hk hn
   exact hoth k fun e=>hn h b hbase hg hrw e.symm
  ·intro h' b' hh' hg'
   obtain ⟨b0,k0,k1,_⟩:=back h' b' hg'
   exact ⟨b0,k0,fun hr=>k1.trans hr⟩
  ·intro h' b' hb' hg' hr'
   obtain ⟨b0,k0,k1,_⟩:=back h' b' hg'
   exact .inr ⟨h',b0,hb',k0,k1.trans hr',rfl⟩
  ·intro h' b' hg'
   rw [c7a]
   by_cases he:h'=h
   ·subst he
    rw [g6a hlt] at hg'
    cases hg'
    refine ⟨_,e,fr,hnew,by simp;omega,by simpa using g2,g3,fun i u hu => ?_,g5,by simp;omega⟩
    rcases Nat.lt_trichotomy i b.cells.length with hi | hi | hi
    ·simp only [List.getElem?_append_left hi] at hu
     obtain ⟨u',hu',hrel⟩:=g4 i u hu
     exact ⟨u',by rw [Array.getElem?_setIfInBounds_ne (by omega)];exact hu',hrel⟩
    ·subst hi
     simp at hu
     subst hu
     exact ⟨v',by simp [hcs],hv⟩
    ·rw [List.getElem?_eq_none (by simp;omega)] at hu
     cases hu
   ·rw [f9a (Ne.symm he)] at hg'
    obtain ⟨c',e',fr',hB',k1,k2,k3,k4,k5,k6⟩:=hs.cov h' b' hg'
    by_cases hBB:(φ h').B=(φ h).B
    ·rw [hBB,hB] at hB'
     cases hB'
     refine ⟨_,e,fr,by rw [hBB];exact hnew,k1,by simpa using k2,k3,fun i u hu => ?_,k5,k6⟩
     obtain ⟨u',hu',hrel⟩:=k4 i u hu
     refine ⟨u',?_,hrel⟩
     have hi:=(List.getElem?_eq_some_iff.1 hu).1
     have:=hs.apart h h' b b' (Ne.symm he) hg hg' hrw
     have q1 := @t7d (φ h) b h'
     have q2:=m6d k1
     rw [Array.getElem?_setIfInBounds_ne (by omega)]
     exact hu'
    ·exact ⟨c',e',fr',by rw [hoth _ hBB];exact hB',k1,k2,k3,k4,k5,k6⟩
  ·intro h1 h2 b1 b2 hne k1 k2 kr
   obtain ⟨b1',k1',e1,e1l,e1p,_⟩:=back h1 b1 k1
   obtain ⟨b2',k2',e2,e2l,e2p,e2r⟩:=back h2 b2 k2
   have:=hs.apart h1 h2 b1' b2' hne k1' k2' (e1.trans kr)
   rw [e2r] at this
   unfold d5c at this ⊢
   rw [e1l,e1p] at this
   exact this
  ·intro h1 b1 p b' k1 hp k2
   obtain ⟨b1',k1',e1,e1l,e1p,_⟩:=back h1 b1 k1
   obtain ⟨b2',k2',e2,_⟩:=back p b' k2
   rw [← e2]
   exact hs.par h1 b1' p b2' k1' (e1p▸hp) k2'
  ·intro h1 b1 p k1 hp
   obtain ⟨b1',k1',e1,e1l,e1p,_⟩:=back h1 b1 k1
   rw [c7a]
   exact hs.z2a h1 b1' p k1' (e1p▸hp)
theorem k6d {H:Heap} {h:Nat} {b:Blk} (hg:hget H h=some b):hset H h (some b)=H:=by
 have hlt:=e7a hg
 apply List.ext_getElem?
 intro k
 simp only [hset,List.getElem?_set]
 split
 ·rename_i hk;subst hk
  simp only [hget] at hg
  rw [List.getElem?_eq_getElem hlt] at hg ⊢
  simp at hg
  simp [hlt,hg]
 ·rfl
theorem x7b {P:Program} {base φ} {h:Nat} {a:Addr} : ∀ (vs vs':List Value) (i:Nat) {H w} (_:Sim φ H w) {b:Blk} (_:hget H h=some b) (_:b.rw=true) (_:base≤h)
  (_:a=⟨(φ h).B,a.off,none⟩) (_:a.off+i=(φ h).base+b.cells.length) (_:(φ h).base+b.cells.length+vs.length≤(φ h).fin) (_:vs.all Value.oneCell'=true) (_:j5a H.length φ vs vs'),
  ∃ w',(storeCells a vs' i).run P w = .ok () w'∧Step base φ H w φ (hset H h (some { b with cells:=b.cells++vs })) w'
 | [],[],i,H,w,hs,b,hg,_,_,_,_,_,_,_=>by
  refine ⟨w,rfl,?_⟩
  have:hset H h (some { b with cells:=b.cells++[] })=H:=by simpa using k6d hg
  rw [this]
  exact .refl hs
 | [],_::_,_,_,_,_,_,_,_,_,_,_,_,_,h=>by simp [j5a] at h
 | _::_,[],_,_,_,_,_,_,_,_,_,_,_,_,h=>by simp [j5a] at h
 | v::vs,v'::vs',i,H,w,hs,b,hg,hrw,hb,ha,hi,hl,h1,hrel=>by
  simp only [List.length_cons] at hl
  simp only [List.all_cons,Bool.and_eq_true] at h1
  have hlt:=e7a hg
  obtain ⟨⟨u,hu⟩,hfz,st⟩:=s4d hs hg hrw hb (by omega) hrel.head
  have hg1:hget (hset H h (some { b with cells:=b.cells++[v] })) h=some { b with cells:=b.cells++[v] } := g6a hlt
  obtain ⟨w',hrun,st'⟩:=x7b (P:=P) (base:=base) (h:=h) (a:=a) vs vs' (i+1) st.sim hg1 hrw hb ha (by simp;omega) (by simp;omega) h1.2 (by rw [c7a];exact hrel.tail)
  refine ⟨w',?_,?_⟩
  ·rw [ha] at hrun ⊢
   simp only [storeCells,Sem.run_bind,s7a]
   rw [hi,run_store P w _ v' .plain (by rw [hrel.head.oneCell];exact h1.1),hu]
   simp only [hfz,Bool.false_eq_true,if_false,Result.andThen]
   exact hrun
  ·have:=st.trans st'
   rw [v1b] at this
   simpa using this
theorem run_append_room {P:Program} {at_:Array TypeId} {ty:TypeId} {x:Value} {st xt e:TypeId} {a:Option Addr} {len cap n:Nat} {info:TypeInfo} {d:TypeDesc} {w w':World} {new:List Value}
  (h0:at_[0]?=some st) (hu:P.underlying st=some (.slice e)) (h1:at_[1]?=some xt) (hx:P.underlying xt=some d) (hd:(∃ u,d = .slice u)∨d = .string)
  (hi:P.info? e=some info) (hn:(Builtin.lenOf x).run P w = .ok n w) (hle:len+n≤cap)
  (hf:(Builtin.firstCells info.size n x).run P w = .ok new.toArray w) (hst : ∀ b,a=some b→(storeCells (b.add (len*info.size)) new).run P w = .ok () w') (hnone:a=none→w'=w) :
  (Builtin.append_ at_ ty #[.slice a len cap,x]).run P w = .ok (.slice a (len+n) cap) w':=by
 cases a with
 | none=>
  obtain rfl:=hnone rfl
  rcases hd with ⟨u,rfl⟩ | rfl <;>
   simp [Builtin.append_,h0,h1,c4a hu,c4a hx,sizeOf,typeInfo,zeroValue,hi,hn,hle,hf]
 | some b=>
  have hst:=hst b rfl
  rcases hd with ⟨u,rfl⟩ | rfl <;>
   simp [Builtin.append_,h0,h1,c4a hu,c4a hx,sizeOf,typeInfo,zeroValue,hi,hn,hle,hf,hst]
theorem v8a {P:Program} {at_:Array TypeId} {ty:TypeId} {x:Value} {st xt e:TypeId} {a:Option Addr} {len cap n:Nat} {info:TypeInfo} {z:Value} {d:TypeDesc} {w:World} {new old:List Value}
  (h0:at_[0]?=some st) (hu:P.underlying st=some (.slice e)) (h1:at_[1]?=some xt) (hx:P.underlying xt=some d) (hd:(∃ u,d = .slice u)∨d = .string)
  (hi:P.info? e=some info) (hz:info.zero=some z) (hn:(Builtin.lenOf x).run P w = .ok n w) (hle:cap<len+n) (hb:(len+n)*info.bytes≤2 ^ 47) (hc:len+n<2 ^ 62)
  (hf:(Builtin.firstCells info.size n x).run P w.drew = .ok new.toArray w.drew) (ho:(Builtin.firstCells info.size len (.slice a len cap)).run P w.drew = .ok old.toArray w.drew) :
  (Builtin.append_ at_ ty #[.slice a len cap,x]).run P w = .ok (.slice (some ⟨w.heap.size,0,none⟩) (len+n) (grownCap w (len+n) cap e))
   (w.drew.alloc (.cells (old.toArray++new.toArray++Builtin.zeroCells z.cells (grownCap w (len+n) cap e - (len+n))) e)):=by
 have hle' : ¬ (len+n≤cap):=by omega
 have h63 : ¬ (9223372036854775807<((len:Int)+(n:Int))):=by omega
 have h48 : ¬ (281474976710656<Builtin.nextslicecap (len+n) cap*info.bytes):=by
  have:=nextslicecap_le hle
  have h2:=Nat.mul_le_mul_right info.bytes this
  have h3:2*(len+n)*info.bytes=2*((len+n)*info.bytes):=Nat.mul_assoc ..
  omega
 rcases hd with ⟨u,rfl⟩ | rfl <;>
  (
   simp [Builtin.append_,h0,h1,c4a hu,c4a hx,sizeOf,typeInfo,zeroValue,hi,hz,hn,hle',h63,h48,Question.forced,hf,ho,newRow,grownCap]
   congr 2
   apply Array.ext'
   simp [List.append_assoc])
theorem h4b {P:Program} {base φ H w} (hs:Sim φ H w) {old old' new new':List Value} {e:TypeId} {info:TypeInfo} {z:Value} {need cap lo:Nat} {par:List Nat} {s:Sem Value}
  (ho:j5a H.length φ old old') (hn:j5a H.length φ new new') (hz:z.cells.size=info.size) (n5f:need<2 ^ 62) (hl:old.length+new.length=need*info.size) (hlo:lo≤(old++new).length) (hpar : ∀ p∈par,p<H.length ∧ ∀ b',hget H p=some b'→b'.rw=false)
  (hr:s.run P w = .ok (.slice (some ⟨w.heap.size,0,none⟩) need (grownCap w need cap e)) (w.drew.alloc (.cells (old'.toArray++new'.toArray++Builtin.zeroCells z.cells (grownCap w need cap e - need)) e))) :
  Sound P base φ H w s (.slice (some (o0a H)) need need) (p8a H ⟨old++new,info.size,true,lo,par⟩):=by
 have hge:=grownCap_ge w need cap e
 have hsz:(old'.toArray++new'.toArray++Builtin.zeroCells z.cells (grownCap w need cap e - need)).size=grownCap w need cap e*info.size:=by
  have h1:=ho.1
  have h2:=hn.1
  simp only [Array.size_append,List.size_toArray,Builtin.zeroCells,Array.size_map,Array.size_range,hz]
  rw [← h1,← h2,hl,← Nat.add_mul]
  congr 1
  omega
 have hdr:Step base φ H w φ H w.drew:=.draw hs rfl rfl rfl rfl
 have hle:(old++new).length≤(old'.toArray++new'.toArray++Builtin.zeroCells z.cells (grownCap w need cap e - need)).size:=by
  rw [hsz,List.length_append,hl]
  exact Nat.mul_le_mul_right _ hge
 have st:=y7b (base:=base) (nb:=⟨old++new,info.size,true,lo,par⟩) (e:=e) (fr:=(0,0)) (w1:=w.drew.alloc (.cells (old'.toArray++new'.toArray++Builtin.zeroCells z.cells (grownCap w need cap e - need)) e))
  hdr.sim rfl rfl rfl rfl hle (Nat.le_refl _) (fun i _ h=>by simp at h) (fun _=>by
   rw [hsz]
   refine Nat.mul_le_mul_right _ ?_
   have:=grownCap_le_maxLen w need cap e (by unfold maxLen;omega)
   unfold maxLen at this
   omega) hlo hpar (fun i v hv=>by
   have hon:=ho.append hn
   have hi:=(List.getElem?_eq_some_iff.1 hv).1
   have hi':i<(old'++new').length:=by rw [← hon.1];exact hi
   refine ⟨(old'++new')[i],?_,hon.2 i v _ hv (List.getElem?_eq_getElem hi')⟩
   rw [Array.getElem?_append_left (by simpa using hi')]
   rw [List.append_toArray,List.getElem?_toArray,List.getElem?_eq_getElem hi'])
 refine ⟨_,_,_,hr,hdr.trans st,?_⟩
 have:=h3a.sl (n:=(p8a H ⟨old++new,info.size,true,lo,par⟩).length) (φ:=u0b φ H.length ⟨w.drew.heap.size,0,(old'.toArray++new'.toArray++Builtin.zeroCells z.cells (grownCap w need cap e - need)).size,info.size⟩) H.length 0 need need (grownCap w need cap e)
  (by simp [p8a]) (Nat.le_refl _) hge (by rw [i2a];simp only [hsz];omega)
 rw [i2a] at this
 simpa [o0a] using this
theorem p1c {P:Program} {base φ H w} (hs:Sim φ H w) {at_:Array TypeId} {ty:TypeId} {s x s' x' v:Value} {H':Heap} (h:q7a P base at_ s x H=some (v,H')) (hsr:h3a H.length φ s s') (hxr:h3a H.length φ x x') :
  Sound P base φ H w (Builtin.append_ at_ ty #[s',x']) v H':=by
 simp only [q7a,Option.bind_eq_bind] at h
 cases h0:at_[0]? with
 | none=>simp [h0] at h
 | some st=>
 cases hu:P.underlying st with
 | none=>simp [h0,hu] at h
 | some d0=>
 cases d0<;>try (simp [h0,hu] at h;done)
 rename_i e
 cases h1:at_[1]? with
 | none=>simp [h0,hu,h1] at h
 | some xt=>
 simp only [h0,hu,h1,Option.bind_some] at h
 split at h
 ·cases h
 rename_i hxt
 cases hx:P.underlying xt with
 | none=>simp [hx] at hxt
 | some d=>
 have hd:(∃ u,d = .slice u)∨d = .string:=by
  cases d<;>simp [hx] at hxt
  ·exact .inr rfl
  ·exact .inl ⟨_,rfl⟩
 cases hi:P.info? e with
 | none=>simp [hi,f3a] at h
 | some info=>
 have hszA:f3a P e=some info.size:=by simp [f3a,hi]
 simp only [hszA,hi,Option.bind_some] at h
 cases hz:info.zero with
 | none=>simp [hz] at h
 | some z=>
 simp only [hz,Option.bind_some] at h
 split at h
 ·cases h
 rename_i hzs
 have hzs:z.cells.size=info.size:=by simpa using hzs
 cases hn:m7d x with
 | none=>simp [hn] at h
 | some n=>
 cases hf:s0a H info.size n x with
 | none=>simp [hn,hf] at h
 | some new=>
 simp only [hn,hf,Option.bind_some] at h
 have hnr:=o6c (P:=P) hn hxr w
 obtain ⟨new',hnew,hfr⟩:=x6b (P:=P) hs hf hxr hn (Nat.le_refl _)
 have hdr:Sim φ H w.drew:=hs.heap rfl
 obtain ⟨new2,hnew2,hfr2⟩:=x6b (P:=P) hdr hf hxr hn (Nat.le_refl _)
 cases s<;>try (simp at h;done)
 rename_i a len cap
 simp only at h
 split at h
 ·cases h
 rename_i hnl
 have hnl:new.length=n*info.size:=by simpa using hnl
 split at h
 ·rename_i hle
  split at h
  ·rename_i h0n
   simp only [Option.some.injEq,Prod.mk.injEq] at h
   obtain ⟨rfl,rfl⟩:=h
   have hn0:new'=[]:=by
    have:=hnew.1
    rw [hnl,h0n] at this
    exact List.eq_nil_of_length_eq_zero this.symm
   subst hn0
   cases hsr with
   | a8c _ _=>exact .pure hs (run_append_room h0 hu h1 hx hd hi hnr hle hfr (fun b hb=>by cases hb) (fun _=>rfl)) (.a8c _ _)
   | sl hd' o _ _ c hh hl hm hff=>exact .pure hs (run_append_room (w':=w) h0 hu h1 hx hd hi hnr (by omega) hfr (fun b _=>rfl) (fun hb=>rfl)) (.sl hd' o _ _ c hh hle hm hff)
   | e1b _ _ b hhn=>
    have hn0:n=0:=by omega
    subst hn0
    exact .pure hs (run_append_room (w':=w) h0 hu h1 hx hd hi hnr (by omega) hfr (fun b _=>rfl) (fun hb=>rfl)) (.e1b _ _ _ hhn)
   | q5a b=>
    have hn0:n=0:=by omega
    subst hn0
    exact .pure hs (run_append_room (w':=w) h0 hu h1 hx hd hi hnr (by omega) hfr (fun b _=>rfl) (fun hb=>rfl)) (.q5a _)
  ·rename_i h0n
   cases a with
   | none=>simp at h
   | some a=>
    simp only at h
    split at h
    ·cases h
    ·rename_i hsp
     cases hw:x4a base ⟨a.block,a.off+len*info.size,none⟩ new H with
     | none=>simp [hw] at h
     | some H1=>
      simp only [hw,Option.bind_some,Option.some.injEq,Prod.mk.injEq] at h
      obtain ⟨rfl,rfl⟩:=h
      obtain ⟨w',hwr,hst⟩:=d3b (P:=P) hs hw hnew
      cases hsr with
      | sl hd' o _ _ c hh hl hm hff=>
       refine ⟨_,w',φ,run_append_room (w':=w') h0 hu h1 hx hd hi hnr (by omega) hfr (fun b hb => ?_) (fun hb=>by cases hb),hst,hst.p1f (.sl hd' o _ _ c hh hle hm hff)⟩
       cases hb
       rw [s7a,Nat.add_assoc]
       exact hwr
      | e1b _ _ b hhn=>exact absurd (by rw [show n=0 by omega,Nat.zero_mul]) h0n
      | q5a b=>exact absurd (by rw [show n=0 by omega,Nat.zero_mul]) h0n
 ·rename_i hle
  split at h
  ·cases h
  ·rename_i hb
   simp only [not_or,Decidable.not_not,Bool.not_eq_false] at hb
   obtain ⟨⟨hb1,hb2,hb3⟩,hb4⟩:=hb
   cases a with
   | none=>
    simp only at h
    split at h
    ·rename_i hlc
     obtain ⟨rfl,rfl⟩:=hlc
     simp only [Option.some.injEq,Prod.mk.injEq] at h
     obtain ⟨rfl,rfl⟩:=h
     cases hsr with
     | a8c _ _=>
      have:=v8a (w:=w) (a:=none) (len:=0) (cap:=0) (old:=[]) h0 hu h1 hx hd hi hz hnr (by omega) (by simpa using hb1) (by simpa using hb2) hfr2 rfl (ty:=ty)
      have hg:=h4b (P:=P) (base:=base) (old:=[]) (old':=[]) (new:=new) (new':=new2) (need:=0+n) (cap:=0) (info:=info) (z:=z) (e:=e) (lo:=0) (par:=[]) hs .nil hnew2 hzs (by simpa using hb2) (by simpa using hnl) (Nat.zero_le _) (fun p hp=>by cases hp) this
      simpa [s5a] using hg
    ·cases h
   | some a=>
    simp only at h
    split at h
    ·rename_i hsp
     split at h
     ·rename_i hlc
      obtain ⟨rfl,rfl⟩:=hlc
      simp only [Option.some.injEq,Prod.mk.injEq] at h
      obtain ⟨rfl,rfl⟩:=h
      cases hsr with
      | q5a b=>
       have hfo:(Builtin.firstCells info.size 0 (.slice (some b) 0 0)).run P w.drew = .ok #[] w.drew:=by simp [Builtin.firstCells,loadCells,loadCellsFrom]
       have:=v8a (w:=w) (a:=some b) (len:=0) (cap:=0) (old:=[]) h0 hu h1 hx hd hi hz hnr (by omega) (by simpa using hb1) (by simpa using hb2) hfr2 hfo (ty:=ty)
       have hg:=h4b (P:=P) (base:=base) (old:=[]) (old':=[]) (new:=new) (new':=new2) (need:=0+n) (cap:=0) (info:=info) (z:=z) (e:=e) (lo:=0) (par:=[]) hs .nil hnew2 hzs (by simpa using hb2) (by simpa using hnl) (Nat.zero_le _) (fun p hp=>by cases hp) this
       simpa [s5a] using hg
      | e1b=>simp at hsp
      | sl=>simp at hsp
     ·cases h
    ·rename_i hsp
     have hsp:a.spot.isSome=false:=by simpa using hsp
     cases hg:hget H a.block with
     | none=>simp [hg] at h
     | some b=>
      simp only [hg,Option.bind_some] at h
      split at h
      ·rename_i hc
       obtain ⟨hrw,hbase,e8f,htail⟩:=hc
       simp only [Option.some.injEq,Prod.mk.injEq] at h
       obtain ⟨rfl,rfl⟩:=h
       have hlt:=e7a hg
       have hrd:readA H a (len*info.size)=some (b.cells.drop a.off):=by
        simp only [readA,hsp,Bool.false_eq_true,if_false,hg]
        rw [if_pos (by omega)]
        congr 1
        exact List.take_of_length_le (by simp;omega)
       obtain ⟨old',hold,hol,_,hro⟩:=run_read (P:=P) hdr hrd
       have hk:=s5d (base:=base) hs hg
       have hlen:(hset H a.block (some { b with rw:=false })).length=H.length:=c7a
       have hbl:(b.cells.drop a.off).length=len*info.size:=by simp;omega
       have hpar : ∀ p∈a.block::b.par,p<(hset H a.block (some { b with rw:=false })).length ∧ ∀ b',hget (hset H a.block (some { b with rw:=false })) p=some b'→b'.rw=false:=by
        intro p hp
        have d6e:hget (hset H a.block (some { b with rw:=false })) a.block=some { b with rw:=false } := g6a hlt
        rcases List.mem_cons.1 hp with rfl | hp
        ·exact ⟨by omega,fun b' hb'=>by rw [d6e] at hb';cases hb';rfl⟩
        ·exact ⟨hk.sim.z2a a.block { b with rw:=false } p d6e hp,fun b' hb'=>hk.sim.par a.block { b with rw:=false } p b' d6e hp hb'⟩
       have q6d : ∀ (a':Addr) (c:Nat),c<len+n→(Builtin.firstCells info.size len (.slice (some a') len c)).run P w.drew = .ok old'.toArray w.drew →
         Sound P base φ H w (Builtin.append_ at_ ty #[.slice (some a') len c,x']) (.slice (some (o0a H)) (len+n) (len+n)) (p8a (hset H a.block (some { b with rw:=false })) ⟨b.cells.drop a.off++new,info.size,true,len*info.size,a.block::b.par⟩):=by
        intro a' c hcl hfo
        have hrun:=v8a (w:=w) (a:=some a') (len:=len) (cap:=c) h0 hu h1 hx hd hi hz hnr hcl hb1 hb2 hfr2 hfo (ty:=ty)
        have hgr:=h4b (P:=P) (base:=base) (old:=b.cells.drop a.off) (old':=old') (new:=new) (new':=new2) (need:=len+n) (cap:=c) (info:=info) (z:=z) (e:=e) (lo:=len*info.size) (par:=a.block::b.par) hk.sim
         (by rw [hlen];exact hold) (by rw [hlen];exact hnew2) hzs hb2 (by rw [hnl,Nat.add_mul];simp;omega) (by rw [List.length_append,hbl];omega) hpar hrun
        obtain ⟨v',w',φ',r1,r2,r3⟩:=hgr
        refine ⟨v',w',φ',r1,hk.trans r2,?_⟩
        simpa [o0a,hlen] using r3
       cases hsr with
       | q5a b'=>simp [v0b] at hsp
       | e1b _ _ b' hhn=>
        refine q6d b' 0 (by omega) ?_
        have ho0:old'=[]:=by
         have:=hold.1
         simp at this
         exact List.eq_nil_of_length_eq_zero (by simp at htail;omega)
        subst ho0
        simp [Builtin.firstCells,loadCells,loadCellsFrom]
       | sl hd' o _ _ c hh hl hm hff=>
        rcases Nat.lt_or_ge c (len+n) with hcl | hcl
        ·exact q6d _ c hcl (by simpa [Builtin.firstCells] using hro)
        ·obtain ⟨_,_,_,_,_,_,o2f,_⟩:=hs.cov hd' b hg
         have hpz:(φ hd').sz=info.size:=by rw [o2f,e8f]
         rw [hpz] at hff
         have hlc:len*info.size≤c*info.size:=Nat.mul_le_mul_right _ (by omega)
         simp only at htail hg hrw hbase
         have hmv:=s3d (base:=base) (o:=o) (fin:=(φ hd').base+o+c*info.size) hs hg hrw hbase (by omega) hff (by omega)
         have f4f:hget (p8a (hset H hd' (some { b with rw:=false })) ⟨b.cells.drop o,b.sz,true,b.cells.length - o,hd'::b.par⟩) H.length=some ⟨b.cells.drop o,b.sz,true,b.cells.length - o,hd'::b.par⟩:=by
          have:=n1a (H:=hset H hd' (some { b with rw:=false })) (b:=some ⟨b.cells.drop o,b.sz,true,b.cells.length - o,hd'::b.par⟩)
          rw [c7a] at this
          exact this
         have p2f:n*info.size+len*info.size≤c*info.size:=by rw [← Nat.add_mul];exact Nat.mul_le_mul_right _ (by omega)
         obtain ⟨w',hrun,hst⟩:=x7b (P:=P) (base:=base) (h:=H.length) (a:=⟨(φ hd').B,(φ hd').base+o+len*info.size,none⟩) new new' 0 hmv.sim f4f rfl (by omega) (by rw [i2a])
          (by rw [i2a];simp;omega) (by rw [i2a];simp;omega) hb4 (hmv.n3e hnew)
         have x8d:hset (p8a (hset H hd' (some { b with rw:=false })) ⟨b.cells.drop o,b.sz,true,b.cells.length - o,hd'::b.par⟩) H.length (some ⟨b.cells.drop o++new,b.sz,true,b.cells.length - o,hd'::b.par⟩)=p8a (hset H hd' (some { b with rw:=false })) ⟨b.cells.drop o++new,info.size,true,len*info.size,hd'::b.par⟩:=by
          rw [e8f,show b.cells.length - o=len*info.size by omega]
          have key : ∀ (K:Heap) (x y:Option Blk),K.length=H.length→(K++[x]).set H.length y=K++[y]:=by
           intro K x y h
           rw [← h,List.set_append_right _ _ (Nat.le_refl _)]
           simp
          exact key _ _ _ (by simp [hset])
         rw [x8d] at hst
         refine ⟨_,w',_,run_append_room (w':=w') h0 hu h1 hx hd hi hnr hcl hfr (fun b0 hb0 => ?_) (fun hb0=>by cases hb0),hmv.trans hst,?_⟩
         ·cases hb0
          rw [s7a]
          exact hrun
         ·have:=h3a.sl (n:=(p8a (hset H hd' (some { b with rw:=false })) ⟨b.cells.drop o++new,info.size,true,len*info.size,hd'::b.par⟩).length) (φ:=u0b φ H.length ⟨(φ hd').B,(φ hd').base+o,(φ hd').base+o+c*info.size,b.sz⟩) H.length 0 (len+n) (len+n) c
           (by simp [p8a,c7a]) (Nat.le_refl _) hcl (by rw [i2a];simp [e8f])
          rw [i2a] at this
          simpa [o0a] using this
      ·cases h
end Go.AM
