/- A machine over Go's operations in which slices are values: definitions. -/
import Derived.Test.YtcdijoaabbjioaaGreatDoorAmIx
import Derived.Recover
set_option linter.unusedSimpArgs false
set_option linter.unusedVariables false
namespace Go.DM
open Go Go.AM
inductive D where
 | bool (b:Bool)
 | int (k:IntKind) (n:Int)
 | str (s:ByteArray)
 | d9b
 | ptr (o off:Nat)
 | h5a (cells:List D) (off:Nat)
 | c5a
 | sl0
 | slx
 | sl (own:Option Nat) (sz len:Nat) (cells:List D)
 | msl (o sz len:Nat)
 | fn (f:Fn) (first captured:List D)
 | p1b
 | iface (t:TypeId) (v:D)
 | u9a
 | agg (xs:List D)
 | tup (xs:List D)
 | bot
inductive Ob where
 | obj (cells:List D)
 | own
 | dead
abbrev Mem:=List Ob
abbrev e1a:=Nat→D
def r6a (ρ:e1a) (t:Nat) (v:D):e1a:=fun i=>if i=t then v else ρ i
def m3a (ρ:e1a) (dst:Option Tmp) (v:D):e1a:=match dst with | some t=>r6a ρ t v | none=>ρ
def ofS:Value→D
 | .bool b=>.bool b
 | .int k n=>.int k n
 | .string s=>.str s
 | .pointer none=>.d9b
 | .slice none 0 0=>.c5a
 | .nilFunc=>.p1b
 | .nilIface=>.u9a
 | _=>.bot
def ofV:Value→D
 | .agg xs=>.agg (xs.toList.map ofS)
 | .tuple xs=>.tup (xs.toList.map ofS)
 | v=>ofS v
def toS:D→Option Value
 | .bool b=>some (.bool b)
 | .int k n=>some (.int k n)
 | .str s=>some (.string s)
 | .d9b=>some (.pointer none)
 | .c5a=>some (.slice none 0 0)
 | .p1b=>some .nilFunc
 | .u9a=>some .nilIface
 | _=>none
def n6e:List D→Option (List Value)
 | []=>some []
 | x::xs=>match toS x,n6e xs with | some v,some vs=>some (v::vs) | _,_=>none
def toV:D→Option Value
 | .agg xs=>(n6e xs).map fun vs=>.agg vs.toArray
 | .tup xs=>(n6e xs).map fun vs=>.tuple vs.toArray
 | d=>toS d
def j1a:D:=.tup []
def d1a (ρ:e1a):Operand→D
 | .tmp t=>ρ t
 | .const v=>ofV v
 | .global _=>.bot
 | .func f=>.fn (.func f) [] []
def D.one:D→Bool
 | .agg _ | .tup _ | .bot=>false
 | _=>true
def cellsD:D→Option (List D)
 | .agg xs=>some xs
 | .tup _ | .bot=>none
 | d=>some [d]
def e9a (ops:Array Oper) (ρ:e1a) (j:Nat):Option Bool:=
 match (ops[j]?).bind (·.dst) with
 | some t=>match ρ t with | .bool b=>some b | _=>none
 | none=>none
def m6a (ops:Array Oper) (ρ:e1a) (j:Nat):Option (Option Bool):=
 match (ops[j]?).bind (·.dst) with
 | some t=>match ρ t with | .bool b=>some (some b) | .tup []=>some none | _=>none
 | none=>none
def wr {α:Type} : List α→Nat→List α→List α
 | cs,_,[]=>cs
 | cs,o,v::vs=>wr (cs.set o v) (o+1) vs
def b6a (S:Mem) (o:Nat):Option (List D):=match S[o]? with | some (.obj cells)=>some cells | _=>none
def e5a (x:D) (S:Mem):Option (List D×Nat):=
 match x with
 | .ptr o off=>(b6a S o).map (·,off)
 | .h5a cells off=>some (cells,off)
 | _=>none
def l5a (P:Program) (t:TypeId) (x:D) (S:Mem):Option D:=
 match e5a x S,g8a P t,f3a P t with
 | some (cells,off),some true,some n=>if off+n≤cells.length then some (.agg ((cells.drop off).take n)) else none
 | some (cells,off),some false,_=>cells[off]?
 | _,_,_=>none
def j0a (P:Program) (t:TypeId) (x v:D) (S:Mem):Option Mem:=
 match x,cellsD v,f3a P t with
 | .ptr o off,some vs,some n=>
  match b6a S o with
  | some cells=>if vs.length=n∧off+vs.length≤cells.length∧vs.all D.one=true then some (S.set o (.obj (wr cells off vs))) else none
  | none=>none
 | _,_,_=>none
def n4c:D→Option Nat
 | .int _ i=>if 0≤i then some i.toNat else none
 | _=>none
def d8a:Option D→Option (Option Nat)
 | none=>some none
 | some v=>(n4c v).map some
def l0a (P:Program) (t:TypeId) (x:D) (lo hi mx:Option D):Option D:=
 match d8a lo,d8a hi,d8a mx,P.underlying t,x with
 | some lo,some hi,some mx,some .string,.str s=>
  if mx.isSome then none else
  let l:=lo.getD 0;let h:=hi.getD s.size
  if l≤h∧h≤s.size then some (.str (s.extract l h)) else none
 | some lo,some hi,some mx,some (.slice e),.sl own sz len cells=>
  if f3a P e=some sz ∧ ¬ (mx.isSome=true∧hi.isNone=true) then
   let m:=mx.getD len;let h:=hi.getD len;let l:=lo.getD 0
   if l≤h∧h≤m∧m≤len then
    if mx.isSome=true∧m=l then some .sl0 else
    some (.sl (if h=len then own else none) sz (h - l) ((cells.drop (l*sz)).take ((h - l)*sz)))
   else none
  else none
 | some lo,some hi,some mx,some (.slice e),.msl o sz len=>
  if f3a P e=some sz ∧ ¬ (mx.isSome=true∧hi.isNone=true)∧lo.getD 0=0∧hi.getD len=len∧mx.getD len=len then
   if mx.isSome=true∧len=0 then some .sl0 else some (.msl o sz len)
  else if f3a P e=some sz∧lo.getD 0=0∧hi=some 0∧mx=some 0 then some .sl0
  else none
 | some lo,some hi,some mx,some (.slice e),.c5a=>
  if lo.getD 0=0∧hi.getD 0=0∧mx.getD 0=0 ∧ ¬ (mx.isSome=true∧hi.isNone=true)∧(f3a P e).isSome=true then some .c5a else none
 | some lo,some hi,some mx,some (.slice e),.sl0=>
  if lo.getD 0=0∧hi.getD 0=0∧mx.getD 0=0 ∧ ¬ (mx.isSome=true∧hi.isNone=true)∧(f3a P e).isSome=true then some .sl0 else none
 | _,_,_,_,_=>none
def a9a (P:Program) (s:TypeId) (x:D) (f:Nat):Option D:=
 match P.underlying s with
 | some (.struct fields)=>
  match fields[f]? with
  | some fd=>
   match f3a P fd.type,x with
   | some (_+1),.ptr o off=>some (.ptr o (off+fd.offset))
   | some (_+1),.h5a cells off=>some (.h5a cells (off+fd.offset))
   | _,_=>none
  | none=>none
 | _=>none
def u2b (P:Program) (s:TypeId) (x:D) (f:Nat):Option D:=
 match P.underlying s,x with
 | some (.struct fields),.agg cs=>
  match fields[f]? with
  | some fd=>
   match g8a P fd.type,f3a P fd.type with
   | some true,some n=>if fd.offset+n≤cs.length then some (.agg ((cs.drop fd.offset).take n)) else none
   | some false,some _=>cs[fd.offset]?
   | _,_=>none
  | none=>none
 | _,_=>none
def m5a (P:Program) (t:TypeId) (x ix:D):Option D:=
 match P.underlying t,x,ix with
 | some (.slice e),.sl _ sz len cells,.int _ i=>if 0≤i∧i<len∧f3a P e=some sz then some (.h5a cells (i.toNat*sz)) else none
 | some (.slice e),.msl o sz len,.int _ i=>if 0≤i∧i<len∧f3a P e=some sz then some (.ptr o (i.toNat*sz)) else none
 | _,_,_=>none
def o4a (sz:Nat):D→Option (Nat×List D)
 | .c5a | .sl0 | .slx=>some (0,[])
 | .sl _ sz' len cells=>if sz'=sz then some (len,cells) else none
 | .str s=>if sz=1 then some (s.size,s.data.toList.map fun b=>.int .u8 b.toNat) else none
 | _=>none
def u5d (S:Mem) (n:Nat):D→D
 | .msl o sz len=>match b6a S o with | some cells=>if sz=n∧cells.length=len*n then .sl none n len cells else .bot | none=>.bot
 | x=>x
def b4a (P:Program) (argTypes:Array TypeId) (s x:D) (S:Mem):Option (D×Mem):=do
 let st ← argTypes[0]?
 let .slice e ← P.underlying st | none
 let xt ← argTypes[1]?
 if ((P.underlying xt).map fun | .slice _=>true | .string=>true | _=>false)≠some true then none else
 let info ← P.info? e
 let z ← info.zero
 if z.cells.size≠info.size then none else
 let (n,new) ← o4a info.size (u5d S info.size x)
 match s with
 | .c5a=>
  if n=0 then some (.c5a,S) else
  if n*info.bytes≤2 ^ 47∧n<2 ^ 62∧0<info.bytes∧new.all D.one=true then some (.sl (some S.length) info.size n new,S++[.own]) else none
 | .sl0=>
  if n=0 then some (.sl0,S) else
  if n*info.bytes≤2 ^ 47∧n<2 ^ 62∧0<info.bytes∧new.all D.one=true then some (.sl (some S.length) info.size n new,S++[.own]) else none
 | .sl own sz len cells=>
  if sz≠info.size then none else
  if n=0 then some (.sl own sz len cells,S) else
  if (len+n)*info.bytes≤2 ^ 47∧len+n<2 ^ 62∧0<info.bytes∧new.all D.one=true then
   match own with
   | some id=>
    match S[id]? with
    | some .own=>some (.sl (some S.length) sz (len+n) (cells++new),S.set id .dead++[.own])
    | _=>none
   | none=>none
  else none
 | .msl o sz len=>
  if sz≠info.size then none else
  if n=0 then some (.msl o sz len,S) else
  if (len+n)*info.bytes≤2 ^ 47∧len+n<2 ^ 62∧0<info.bytes∧new.all D.one=true then
   match b6a S o with
   | some cells=>if cells.length=len*sz then some (.msl S.length sz (len+n),S.set o .dead++[.obj (cells++new)]) else none
   | none=>none
  else none
 | _=>none
def l8a (place:Nat→Option (Nat×Nat)) (cells:List D):List (Nat×D)→Option (List D)
 | []=>some cells
 | (i,v)::rest=>
  match place i,cellsD v with
  | some (off,size),some cs=>if cs.length=size∧off+size≤cells.length then l8a place (wr cells off cs) rest else none
  | _,_=>none
def r8a (P:Program) (t:TypeId) (parts:List (Nat×D)):Option D:=
 match P.info? t,P.underlying t with
 | some it,some (.array _ e)=>
  match it.zero,P.info? e with
  | some z,some ie=>if z.cells.all b3a then (l8a (fun i=>some (i*ie.size,ie.size)) (z.cells.toList.map ofS) parts).map .agg else none
  | _,_=>none
 | some it,some (.struct fields)=>
  match it.zero,fields.toList.mapM (fun f=>(P.info? f.type).map fun i=>(f.offset,i.size)) with
  | some z,some places=>if z.cells.all b3a then (l8a (places.toArray[·]?) (z.cells.toList.map ofS) parts).map .agg else none
  | _,_=>none
 | _,_=>none
def k4b {α:Type} (xs:List α):Nat→List α
 | 0=>[]
 | n+1=>xs++k4b xs n
def f2a (P:Program) (t:TypeId) (len:Nat) (parts:List (Nat×D)) (S:Mem):Option (D×Mem):=do
 let .slice e ← P.underlying t | none
 let size ← f3a P e
 let z ← i3a P e
 if len*size>2 ^ 24∨z.cells.all b3a=false∨z.cells.size≠size then none else
 let cells ← l8a (fun i=>some (i*size,size)) (k4b (z.cells.toList.map ofS) len) parts
 if cells.all D.one=true then some (.sl (some S.length) size len cells,S++[.own]) else none
def m6b (P:Program) (t:TypeId) (l c:D) (S:Mem):Option (D×Mem):=do
 let .slice e ← P.underlying t | none
 let info ← P.info? e
 let z ← info.zero
 let .int .i64 l:=l | none
 let .int .i64 c:=c | none
 if 0≤l∧l≤c∧info.bytes*c≤2 ^ 48∧c<2 ^ 62∧z.cells.all b3a=true∧z.cells.size=info.size then
  some (.sl (some S.length) info.size l.toNat (k4b (z.cells.toList.map ofS) l.toNat),S++[.own])
 else none
def x4e:List D→Option (List Int)
 | []=>some []
 | .int .u8 n::r=>(x4e r).map (n :: ·)
 | _=>none
def k2a (P:Program) (src dst:TypeId) (x:D) (S:Mem):Option (D×Mem):=
 match P.underlying src,P.underlying dst,x with
 | some (.int _),some (.int k),.int _ n=>some (.int k (k.wrap n),S)
 | some .string,some .string,.str a=>some (.str a,S)
 | some .string,some (.slice e),.str a=>
  match P.underlying e with
  | some (.int .u8)=>some (.sl (some S.length) 1 a.size (a.data.toList.map fun b=>.int .u8 b.toNat),S++[.own])
  | _=>none
 | some (.slice e),some .string,.sl _ sz n cells=>
  match P.underlying e with
  | some (.int .u8)=>if sz=1 then (x4e cells).map fun ns=>(.str (strOfNums ns),S) else none
  | _=>none
 | some (.slice e),some .string,.c5a=>
  match P.underlying e with
  | some (.int .u8)=>some (.str .empty,S)
  | _=>none
 | some (.slice e),some .string,.sl0=>
  match P.underlying e with
  | some (.int .u8)=>some (.str .empty,S)
  | _=>none
 | _,_,_=>none
def c1c (P:Program) (t:TypeId) (x y:D):Option Bool:=
 match P.underlying t,x,y with
 | some (.pointer _),.d9b,.ptr _ _=>some false
 | some (.pointer _),.d9b,.h5a _ _=>some false
 | some (.pointer _),.ptr _ _,.d9b=>some false
 | some (.pointer _),.h5a _ _,.d9b=>some false
 | some (.slice _),.c5a,.sl _ _ (_+1) _=>some false
 | some (.slice _),.c5a,.slx=>some false
 | some (.slice _),.c5a,.msl _ _ _=>some false
 | some (.slice _),.msl _ _ _,.c5a=>some false
 | some (.slice _),.slx,.c5a=>some false
 | some (.slice _),.sl _ _ (_+1) _,.c5a=>some false
 | some (.func _ _ _),.p1b,.fn _ _ _=>some false
 | some (.func _ _ _),.fn _ _ _,.p1b=>some false
 | some (.interface _),.u9a,.iface _ _=>some false
 | some (.interface _),.iface _ _,.u9a=>some false
 | _,_,_=>none
def r0c (P:Program) (op:BinOp) (t:TypeId) (x y:Operand) (a b:Value):Option Value:=
 match j9c P op t a b with
 | some v=>some v
 | none=>
  match op,q2b P t a b with
  | .eql,some b=>some (.bool b)
  | .neq,some b=>some (.bool !b)
  | _,_=>(eqA P op t x y a b).bind fun v=>if f8a v then some v else none
def i6a (P:Program) (op:BinOp) (t:TypeId) (x y:Operand) (a b:D):Option D:=
 match toV a,toV b with
 | some u,some v=>(r0c P op t x y u v).map ofV
 | _,_=>
  match op,c1c P t a b with
  | .eql,some b=>some (.bool b)
  | .neq,some b=>some (.bool !b)
  | _,_=>none
def b8a (P:Program) (b:Builtin) (at_:Array TypeId) (args:List D) (S:Mem):Option (D×Mem):=
 match b,args with
 | .len,[x]=>
  match (at_[0]?).bind P.underlying,x with
  | some .string,.str s=>some (.int .i64 s.size,S)
  | some (.slice _),.sl _ _ n _=>some (.int .i64 n,S)
  | some (.slice _),.msl _ _ n=>some (.int .i64 n,S)
  | some (.slice _),.c5a=>some (.int .i64 0,S)
  | some (.slice _),.sl0=>some (.int .i64 0,S)
  | some (.slice _),.slx=>some (.int .i64 0,S)
  | _,_=>none
 | .append,[s,x]=>b4a P at_ s x S
 | .max,[.int k a,.int _ b]=>some (.int k (if b>a then b else a),S)
 | .min,[.int k a,.int _ b]=>some (.int k (if b<a then b else a),S)
 | _,_=>none
def h7d (P:Program) (as:TypeId) (v:D):Option D:=
 match P.underlying as with
 | some (.interface _)=>none
 | some _=>
  match v with
  | .iface t u=>if t=as then some (.tup [u,.bool true]) else match i3a P as with | some z=>(match f8a z with | true=>some (.tup [ofV z,.bool false]) | false=>none) | none=>none
  | _=>none
 | none=>none
def opD (P:Program) (ρ:e1a) (op:Op) (S:Mem):Option (D×Mem):=
 match op with
 | .move x | .assign x=>some (d1a ρ x,S)
 | .pick c a b=>match d1a ρ c with | .bool t=>some (if t then d1a ρ a else d1a ρ b,S) | _=>none
 | .alloc t=>
  match i3a P t with
  | some z=>if z.cells.all b3a then some (.ptr S.length 0,S++[.obj (z.cells.toList.map ofS)]) else none
  | none=>none
 | .box _ x=>(cellsD (d1a ρ x)).map fun cs=>(.ptr S.length 0,S++[.obj cs])
 | .build t parts=>(r8a P t (parts.toList.map fun (i,x)=>(i,d1a ρ x))).map (·,S)
 | .buildSlice t n parts=>f2a P t n (parts.toList.map fun (i,x)=>(i,d1a ρ x)) S
 | .load t a=>(l5a P t (d1a ρ a) S).map (·,S)
 | .store t a x=>(j0a P t (d1a ρ a) (d1a ρ x) S).map (j1a,·)
 | .nilCheck x=>match d1a ρ x with | .ptr o off=>some (.ptr o off,S) | .h5a c off=>some (.h5a c off,S) | .fn (.func f) a b=>some (.fn (.func f) a b,S) | _=>none
 | .binOp op t x y _=>(i6a P op t x y (d1a ρ x) (d1a ρ y)).map (·,S)
 | .unOp op _ x=>
  match op,d1a ρ x with
  | .not,.bool b=>some (.bool !b,S)
  | .neg,.int k n=>some (.int k (k.wrap (0 - n)),S)
  | .xor,.int k n=>(k3a P (Op.intBits .xor k (if k.signed then -1 else k.max) n)).bind fun v=>if f8a v then some (ofV v,S) else none
  | _,_=>none
 | .convert s d x=>k2a P s d (d1a ρ x) S
 | .makeInterface t x=>match P.underlying t with | some (.interface _)=>none | some _=>some (.iface t (d1a ρ x),S) | none=>none
 | .makeFunc fn a b=>some (.fn fn (a.toList.map (d1a ρ)) (b.toList.map (d1a ρ)),S)
 | .makeSlice t l c=>m6b P t (d1a ρ l) (d1a ρ c) S
 | .slice t x lo hi mx=>(l0a P t (d1a ρ x) (lo.map (d1a ρ)) (hi.map (d1a ρ)) (mx.map (d1a ρ))).map (·,S)
 | .fieldAddr s x f=>(a9a P s (d1a ρ x) f).map (·,S)
 | .field s x f=>(u2b P s (d1a ρ x) f).map (·,S)
 | .indexAddr t x i=>(m5a P t (d1a ρ x) (d1a ρ i)).map (·,S)
 | .index t x i=>
  match P.underlying t,d1a ρ x,d1a ρ i with
  | some .string,.str s,.int _ i=>if 0≤i then (s.data[i.toNat]?).map fun b=>(.int .u8 b.toNat,S) else none
  | _,_,_=>none
 | .extract x i=>match d1a ρ x with | .tup vs=>(vs[i]?).map (·,S) | _=>none
 | .call { callee:=.builtin b,args,argTypes } => b8a P b argTypes (args.toList.map (d1a ρ)) S
 | .typeAssert x _ as co=>match co with | true=>(h7d P as (d1a ρ x)).map (·,S) | false=>none
 | _=>none
def resultD (P:Program) (ρ:e1a) (S:Mem):ResultVar→Option D
 | .tmp t=>some (ρ t)
 | .cell a t=>l5a P t (ρ a) S
def t3a (P:Program) (ρ:e1a) (S:Mem):List ResultVar→Option (List D)
 | []=>some []
 | r::rs=>match resultD P ρ S r,t3a P ρ S rs with | some d,some ds=>some (d::ds) | _,_=>none
def g9a (P:Program) (fn:Func) (ρ:e1a) (S:Mem):Option D:=
 match fn.results.toList with
 | [r]=>resultD P ρ S r
 | rs=>(t3a P ρ S rs).map .tup
def r1a (args:List D):e1a:=fun i=>args.getD i j1a
def h0a (ρ:e1a) (op:Op):Option (FuncId×List D):=
 match op with
 | .call { callee:=.value f,args,.. } =>
  match d1a ρ f with
  | .fn (.func g) first captured=>some (g,first++args.toList.map (d1a ρ)++captured)
  | _=>none
 | _=>none
end Go.DM
namespace Go.DM
open Go Go.AM
structure Rl where
 n:Nat
 ψ:Nat→Nat
 k:Nat→Bool
 H:Heap
def n9e (v:Value):Prop:=v = .slice none 0 0∨v = .slice (some v0b) 0 0
inductive h2a (r:Rl):D→Value→Prop
 | bool (b):h2a r (.bool b) (.bool b)
 | int (k n):h2a r (.int k n) (.int k n)
 | str (s):h2a r (.str s) (.string s)
 | d9b:h2a r .d9b (.pointer none)
 | ptr (o off) (ho:o<r.n):h2a r (.ptr o off) (.pointer (some ⟨r.ψ o,off,none⟩))
 | h5a (cells:List D) (off:Nat) (vs:List Value) (h o:Nat) (hk:r.k h=true) (hr:readA r.H ⟨h,o,none⟩ vs.length=some vs) (hl:cells.length=vs.length)
   (hc : ∀ i (h1:i<cells.length) (h2:i<vs.length),h2a r cells[i] vs[i]):h2a r (.h5a cells off) (.pointer (some ⟨h,o+off,none⟩))
 | c5a:h2a r .c5a (.slice none 0 0)
 | sl0 (v) (h:n9e v):h2a r .sl0 v
 | slx (a m):h2a r .slx (.slice (some a) 0 m)
 | slE (sz v) (h:n9e v):h2a r (.sl none sz 0 []) v
 | sl (own:Option Nat) (sz len:Nat) (cells:List D) (vs:List Value) (h o m:Nat) (b:Blk) (hk:r.k h=true) (hg:hget r.H h=some b) (hz:b.sz=sz) (hr:readA r.H ⟨h,o,none⟩ vs.length=some vs)
   (hm:len≤m) (hl:cells.length=vs.length) (hs:cells.length=len*sz) (ho : ∀ id,own=some id→id<r.n∧r.ψ id=h∧m=len∧o+len*sz=b.cells.length)
   (hc : ∀ i (h1:i<cells.length) (h2:i<vs.length),h2a r cells[i] vs[i]):h2a r (.sl own sz len cells) (.slice (some ⟨h,o,none⟩) len m)
 | msl (o sz len:Nat) (ho:o<r.n) (hlt:r.ψ o<r.H.length) (hz : ∀ b,hget r.H (r.ψ o)=some b→b.sz=sz):h2a r (.msl o sz len) (.slice (some ⟨r.ψ o,0,none⟩) len len)
 | fn (f:Fn) (xs cs:List D) (ys ds:Array Value) (h1:xs.length=ys.size) (h2 : ∀ i (h:i<xs.length) (h':i<ys.size),h2a r xs[i] ys[i])
   (h3:cs.length=ds.size) (h4 : ∀ i (h:i<cs.length) (h':i<ds.size),h2a r cs[i] ds[i]):h2a r (.fn f xs cs) (.func f ys ds)
 | p1b:h2a r .p1b .nilFunc
 | iface (t d v) (h:h2a r d v):h2a r (.iface t d) (.iface t v)
 | u9a:h2a r .u9a .nilIface
 | agg (xs:List D) (ys:Array Value) (h1:xs.length=ys.size) (h2 : ∀ i (h:i<xs.length) (h':i<ys.size),h2a r xs[i] ys[i]):h2a r (.agg xs) (.agg ys)
 | tup (xs:List D) (ys:Array Value) (h1:xs.length=ys.size) (h2 : ∀ i (h:i<xs.length) (h':i<ys.size),h2a r xs[i] ys[i]):h2a r (.tup xs) (.tuple ys)
 | bot (v):h2a r .bot v
structure Rl.Le (r r':Rl):Prop where
 n:r.n≤r'.n
 ψ : ∀ i,i<r.n→r'.ψ i=r.ψ i
 len:r.H.length≤r'.H.length
 k : ∀ h b,r.k h=true→hget r.H h=some b→r'.k h=true ∧ ∃ b',hget r'.H h=some b'∧b'.cells=b.cells∧b'.sz=b.sz
 sz : ∀ h b',h<r.H.length→hget r'.H h=some b' → ∃ b,hget r.H h=some b∧b'.sz=b.sz
theorem Rl.Le.refl (r:Rl):r.Le r:=⟨Nat.le_refl _,fun _ _=>rfl,Nat.le_refl _,fun _ b h g=>⟨h,b,g,rfl,rfl⟩,fun _ b _ g=>⟨b,g,rfl⟩⟩
theorem Rl.Le.trans {a b c:Rl} (x:a.Le b) (y:b.Le c):a.Le c:=
 ⟨Nat.le_trans x.n y.n,fun i h=>(y.ψ i (Nat.lt_of_lt_of_le h x.n)).trans (x.ψ i h),Nat.le_trans x.len y.len,fun h q hk hg=>by
  obtain ⟨k1,b1,g1,e1,z1⟩:=x.k h q hk hg
  obtain ⟨k2,b2,g2,e2,z2⟩:=y.k h b1 k1 g1
  exact ⟨k2,b2,g2,e2.trans e1,z2.trans z1⟩,fun h q hh hg=>by
  obtain ⟨b1,g1,z1⟩:=y.sz h q (Nat.lt_of_lt_of_le hh x.len) hg
  obtain ⟨b2,g2,z2⟩:=x.sz h b1 hh g1
  exact ⟨b2,g2,z1.trans z2⟩⟩
theorem w6a {H:Heap} {h o n:Nat} {vs:List Value} (hr:readA H ⟨h,o,none⟩ n=some vs) : ∃ b,hget H h=some b∧o+n≤b.cells.length∧vs=(b.cells.drop o).take n:=by
 simp only [readA,Option.isSome_none,Bool.false_eq_true,if_false] at hr
 cases hg:hget H h with
 | none=>simp [hg] at hr
 | some b=>
  simp only [hg] at hr
  split at hr
  ·cases hr;exact ⟨b,rfl,by assumption,rfl⟩
  ·cases hr
theorem t1a {H:Heap} {h o n:Nat} {b:Blk} (hg:hget H h=some b) (hl:o+n≤b.cells.length):readA H ⟨h,o,none⟩ n=some ((b.cells.drop o).take n):=by
 simp [readA,hg,hl]
theorem Rl.Le.read {r r':Rl} (l:r.Le r') {h o n:Nat} {vs:List Value} (hk:r.k h=true) (hr:readA r.H ⟨h,o,none⟩ n=some vs):r'.k h=true∧readA r'.H ⟨h,o,none⟩ n=some vs:=by
 obtain ⟨b,hg,hl,rfl⟩:=w6a hr
 obtain ⟨k1,b1,g1,e1,z1⟩:=l.k h b hk hg
 exact ⟨k1,by rw [← e1];exact t1a g1 (by rw [e1];exact hl)⟩
theorem h2a.mono {r r':Rl} (l:r.Le r') {d:D} {v:Value} (h:h2a r d v):h2a r' d v:=by
 induction h with
 | bool b=>exact .bool b
 | int k n=>exact .int k n
 | str s=>exact .str s
 | d9b=>exact .d9b
 | ptr o off ho=>rw [← l.ψ o ho];exact .ptr o off (Nat.lt_of_lt_of_le ho l.n)
 | h5a cells off vs h o hk hr hl _ ih=>exact .h5a cells off vs h o (l.read hk hr).1 (l.read hk hr).2 hl ih
 | c5a=>exact .c5a
 | sl0 v h=>exact .sl0 v h
 | slx a m=>exact .slx a m
 | slE sz v h=>exact .slE sz v h
 | sl own sz len cells vs h o m b hk hg hz hr hm hl hs ho _ ih=>
  obtain ⟨k1,b1,g1,e1,z1⟩:=l.k h b hk hg
  exact .sl own sz len cells vs h o m b1 k1 g1 (z1.trans hz) (l.read hk hr).2 hm hl hs (fun id e=>by
   obtain ⟨a1,a2,a3,a4⟩:=ho id e
   exact ⟨Nat.lt_of_lt_of_le a1 l.n,(l.ψ id a1).trans a2,a3,by rw [e1];exact a4⟩) ih
 | msl o sz len ho hlt hz=>
  rw [← l.ψ o ho]
  refine .msl o sz len (Nat.lt_of_lt_of_le ho l.n) (by rw [l.ψ o ho];exact Nat.lt_of_lt_of_le hlt l.len) fun b' hb => ?_
  rw [l.ψ o ho] at hb
  obtain ⟨b,g,e⟩:=l.sz _ b' hlt hb
  exact e.trans (hz b g)
 | fn f xs cs ys ds h1 _ h3 _ i2 i4=>exact .fn f xs cs ys ds h1 i2 h3 i4
 | p1b=>exact .p1b
 | iface t d v _ ih=>exact .iface t d v ih
 | u9a=>exact .u9a
 | agg xs ys h1 _ ih=>exact .agg xs ys h1 ih
 | tup xs ys h1 _ ih=>exact .tup xs ys h1 ih
 | bot v=>exact .bot v
inductive p2a (n:Nat):D→Prop
 | bool (b):p2a n (.bool b)
 | int (k x):p2a n (.int k x)
 | str (s):p2a n (.str s)
 | d9b:p2a n .d9b
 | ptr (o off) (h:o<n):p2a n (.ptr o off)
 | h5a (cells:List D) (off:Nat) (h : ∀ i (h:i<cells.length),p2a n cells[i]):p2a n (.h5a cells off)
 | c5a:p2a n .c5a
 | sl0:p2a n .sl0
 | slx:p2a n .slx
 | sl (own:Option Nat) (sz len:Nat) (cells:List D) (ho : ∀ id,own=some id→id<n) (h : ∀ i (h:i<cells.length),p2a n cells[i]):p2a n (.sl own sz len cells)
 | msl (o sz len) (h:o<n):p2a n (.msl o sz len)
 | fn (f:Fn) (xs cs:List D) (h1 : ∀ i (h:i<xs.length),p2a n xs[i]) (h2 : ∀ i (h:i<cs.length),p2a n cs[i]):p2a n (.fn f xs cs)
 | p1b:p2a n .p1b
 | iface (t d) (h:p2a n d):p2a n (.iface t d)
 | u9a:p2a n .u9a
 | agg (xs:List D) (h : ∀ i (h:i<xs.length),p2a n xs[i]):p2a n (.agg xs)
 | tup (xs:List D) (h : ∀ i (h:i<xs.length),p2a n xs[i]):p2a n (.tup xs)
 | bot:p2a n .bot
theorem h2a.low {r:Rl} {d:D} {v:Value} (h:h2a r d v):p2a r.n d:=by
 induction h with
 | bool b=>exact .bool b
 | int k n=>exact .int k n
 | str s=>exact .str s
 | d9b=>exact .d9b
 | ptr o off ho=>exact .ptr o off ho
 | h5a cells off vs h o hk hr hl _ ih=>exact .h5a cells off fun i h=>ih i h (hl▸h)
 | c5a=>exact .c5a
 | sl0 v h=>exact .sl0
 | slx a m=>exact .slx
 | slE sz v h=>exact .sl none sz 0 [] (fun id e=>by cases e) fun i h=>by simp at h
 | sl own sz len cells vs h o m b hk hg hz hr hm hl hs ho _ ih=>exact .sl own sz len cells (fun id e=>(ho id e).1) fun i h=>ih i h (hl▸h)
 | msl o sz len ho hlt hz=>exact .msl o sz len ho
 | fn f xs cs ys ds h1 _ h3 _ i2 i4=>exact .fn f xs cs (fun i h=>i2 i h (h1▸h)) fun i h=>i4 i h (h3▸h)
 | p1b=>exact .p1b
 | iface t d v _ ih=>exact .iface t d ih
 | u9a=>exact .u9a
 | agg xs ys h1 _ ih=>exact .agg xs fun i h=>ih i h (h1▸h)
 | tup xs ys h1 _ ih=>exact .tup xs fun i h=>ih i h (h1▸h)
 | bot v=>exact .bot
theorem p2a.lower {n:Nat} {d:D} (h:p2a n d) : ∀ {r:Rl} {v:Value},h2a r d v→h2a ⟨n,r.ψ,r.k,r.H⟩ d v:=by
 induction h with
 | bool b=>intro r v h;cases h;exact .bool b
 | int k x=>intro r v h;cases h;exact .int k x
 | str s=>intro r v h;cases h;exact .str s
 | d9b=>intro r v h;cases h;exact .d9b
 | ptr o off ho=>intro r v h;cases h;exact .ptr (r:=⟨n,r.ψ,r.k,r.H⟩) o off ho
 | h5a cells off _ ih=>intro r v h;cases h with | h5a _ _ vs h o hk hr hl hc=>exact .h5a (r:=⟨n,r.ψ,r.k,r.H⟩) cells off vs h o hk hr hl fun i h1 h2=>ih i h1 (hc i h1 h2)
 | c5a=>intro r v h;cases h;exact .c5a
 | sl0=>intro r v h;cases h with | sl0 _ h=>exact .sl0 _ h
 | slx=>intro r v h;cases h with | slx a m=>exact .slx a m
 | sl own sz len cells ho _ ih=>
  intro r v h
  cases h with
  | sl _ _ _ _ vs h o m b hk hg hz hr hm hl hs ho' hc=>
   exact .sl (r:=⟨n,r.ψ,r.k,r.H⟩) own sz len cells vs h o m b hk hg hz hr hm hl hs (fun id e=>⟨ho id e,(ho' id e).2⟩) fun i h1 h2=>ih i h1 (hc i h1 h2)
  | slE _ _ h=>exact .slE _ _ h
 | msl o sz len ho=>intro r v h;cases h with | msl _ _ _ ho' hlt hz=>exact .msl (r:=⟨n,r.ψ,r.k,r.H⟩) o sz len ho hlt hz
 | fn f xs cs _ _ i1 i2=>intro r v h;cases h with | fn _ _ _ ys ds h1 h2 h3 h4=>exact .fn f xs cs ys ds h1 (fun i a b=>i1 i a (h2 i a b)) h3 fun i a b=>i2 i a (h4 i a b)
 | p1b=>intro r v h;cases h;exact .p1b
 | iface t d _ ih=>intro r v h;cases h with | iface _ _ v h=>exact .iface t d v (ih h)
 | u9a=>intro r v h;cases h;exact .u9a
 | agg xs _ ih=>intro r v h;cases h with | agg _ ys h1 h2=>exact .agg xs ys h1 fun i a b=>ih i a (h2 i a b)
 | tup xs _ ih=>intro r v h;cases h with | tup _ ys h1 h2=>exact .tup xs ys h1 fun i a b=>ih i a (h2 i a b)
 | bot=>intro r v h;exact .bot v
theorem p2a.mono {n n':Nat} (hn:n≤n') {d:D} (h:p2a n d):p2a n' d:=by
 induction h with
 | bool b=>exact .bool b
 | int k x=>exact .int k x
 | str s=>exact .str s
 | d9b=>exact .d9b
 | ptr o off ho=>exact .ptr o off (Nat.lt_of_lt_of_le ho hn)
 | h5a cells off _ ih=>exact .h5a cells off ih
 | c5a=>exact .c5a
 | sl0=>exact .sl0
 | slx=>exact .slx
 | sl own sz len cells ho _ ih=>exact .sl own sz len cells (fun id e=>Nat.lt_of_lt_of_le (ho id e) hn) ih
 | msl o sz len ho=>exact .msl o sz len (Nat.lt_of_lt_of_le ho hn)
 | fn f xs cs _ _ i1 i2=>exact .fn f xs cs i1 i2
 | p1b=>exact .p1b
 | iface t d _ ih=>exact .iface t d ih
 | u9a=>exact .u9a
 | agg xs _ ih=>exact .agg xs ih
 | tup xs _ ih=>exact .tup xs ih
 | bot=>exact .bot
theorem h2a.ofS {r:Rl} (v:Value):h2a r (ofS v) v:=by
 cases v with
 | bool b=>exact .bool b
 | int k n=>exact .int k n
 | string s=>exact .str s
 | pointer a=>cases a with | none=>exact .d9b | some a=>exact .bot _
 | slice a l c=>
  cases a with
  | none=>match l,c with | 0,0=>exact .c5a | 0,_+1=>exact .bot _ | _+1,_=>exact .bot _
  | some a=>exact .bot _
 | nilFunc=>exact .p1b
 | nilIface=>exact .u9a
 | _=>exact .bot _
theorem h2a.ofV {r:Rl} (v:Value):h2a r (ofV v) v:=by
 have key:DM.ofV v=DM.ofS v→h2a r (DM.ofV v) v:=fun e=>by rw [e];exact .ofS v
 cases v with
 | agg xs=>exact .agg _ _ (by simp) fun i h h'=>by simp only [List.getElem_map,Array.getElem_toList];exact .ofS _
 | tuple xs=>exact .tup _ _ (by simp) fun i h h'=>by simp only [List.getElem_map,Array.getElem_toList];exact .ofS _
 | _=>exact key rfl
theorem h2a.undef {r:Rl} : h2a r j1a undef:=.tup _ _ rfl fun i h=>by simp at h
theorem x0e {r:Rl} {d:D} {v u:Value} (h:h2a r d v) (e:toS d=some u):v=u:=by
 cases h<;>simp [toS] at e<;>first | exact e | exact e.symm
theorem w6c {r:Rl} : ∀ {xs:List D} {us:List Value} (ys:List Value),xs.length=ys.length→(∀ i (h:i<xs.length) (h':i<ys.length),h2a r xs[i] ys[i])→n6e xs=some us→ys=us
 | [],us,ys,hl,_,e=>by
  simp [n6e] at e
  subst e
  exact List.eq_nil_of_length_eq_zero (by simpa using hl.symm)
 | x::xs,us,[],hl,_,_=>by simp at hl
 | x::xs,us,y::ys,hl,hr,e=>by
  simp only [n6e] at e
  split at e
  ·rename_i v vs hv hvs
   cases e
   have h0:h2a r x y:=hr 0 (by simp) (by simp)
   rw [x0e h0 hv]
   rw [w6c ys (by simpa using hl) (fun i h h'=>hr (i+1) (by simpa using h) (by simpa using h')) hvs]
  ·cases e
theorem p6c {r:Rl} {d:D} {v u:Value} (h:h2a r d v) (e:toV d=some u):v=u:=by
 cases h with
 | agg xs ys h1 h2=>
  simp only [toV,Option.map_eq_some_iff] at e
  obtain ⟨us,e,rfl⟩:=e
  have:=w6c ys.toList (by simpa using h1) (fun i h h'=>by simpa using h2 i h (by simpa using h')) e
  simp [← this]
 | tup xs ys h1 h2=>
  simp only [toV,Option.map_eq_some_iff] at e
  obtain ⟨us,e,rfl⟩:=e
  have:=w6c ys.toList (by simpa using h1) (fun i h h'=>by simpa using h2 i h (by simpa using h')) e
  simp [← this]
 | bot v=>simp [toV,toS] at e
 | _=>simp [toV,toS] at e<;>first | exact e | exact e.symm
def DL (r:Rl) (xs:List D) (vs:List Value):Prop:=xs.length=vs.length ∧ ∀ i (h:i<xs.length) (h':i<vs.length),h2a r xs[i] vs[i]
theorem DL.nil {r} : DL r [] []:=⟨rfl,fun i h=>by simp at h⟩
theorem DL.cons {r x xs v vs} (h:h2a r x v) (hs:DL r xs vs):DL r (x::xs) (v::vs):=
 ⟨by simp [hs.1],fun i h1 h2=>by cases i with | zero=>exact h | succ i=>simpa using hs.2 i (by simpa using h1) (by simpa using h2)⟩
theorem DL.head {r x xs v vs} (h:DL r (x::xs) (v::vs)):h2a r x v:=h.2 0 (by simp) (by simp)
theorem DL.tail {r x xs v vs} (h:DL r (x::xs) (v::vs)):DL r xs vs:=
 ⟨by simpa using h.1,fun i h1 h2=>h.2 (i+1) (by simpa using h1) (by simpa using h2)⟩
theorem DL.mono {r r':Rl} (l:r.Le r') {xs vs} (h:DL r xs vs):DL r' xs vs:=⟨h.1,fun i h1 h2=>(h.2 i h1 h2).mono l⟩
theorem DL.append {r xs vs ys ws} (h:DL r xs vs) (k:DL r ys ws):DL r (xs++ys) (vs++ws):=by
 refine ⟨by simp [h.1,k.1],fun i h1 h2 => ?_⟩
 rcases Nat.lt_or_ge i xs.length with hi | hi
 ·rw [List.getElem_append_left hi,List.getElem_append_left (h.1▸hi)];exact h.2 i hi _
 ·rw [List.getElem_append_right hi,List.getElem_append_right (h.1▸hi)]
  have e:=h.1
  simp only [← e]
  exact k.2 _ (by simp at h1;omega) _
theorem DL.drop {r xs vs} (h:DL r xs vs) (n:Nat):DL r (xs.drop n) (vs.drop n):=
 ⟨by simp [h.1],fun i h1 h2=>by simp only [List.getElem_drop];exact h.2 _ _ _⟩
theorem DL.take {r xs vs} (h:DL r xs vs) (n:Nat):DL r (xs.take n) (vs.take n):=
 ⟨by simp [h.1],fun i h1 h2=>by simp only [List.getElem_take];exact h.2 _ _ _⟩
theorem DL.get {r xs vs} (h:DL r xs vs) {i:Nat} {d:D} (e:xs[i]?=some d) : ∃ v,vs[i]?=some v∧h2a r d v:=by
 obtain ⟨hi,rfl⟩:=List.getElem?_eq_some_iff.1 e
 exact ⟨vs[i]'(h.1▸hi),by simp,h.2 i hi _⟩
theorem DL.set {r xs vs} (h:DL r xs vs) {i:Nat} {d:D} {v:Value} (hd:h2a r d v):DL r (xs.set i d) (vs.set i v):=by
 refine ⟨by simp [h.1],fun j h1 h2 => ?_⟩
 simp only [List.getElem_set]
 split
 ·exact hd
 ·exact h.2 j _ _
theorem DL.g1c {r:Rl} (vs:List Value):DL r (vs.map DM.ofS) vs:=⟨by simp,fun i h1 h2=>by simp only [List.getElem_map];exact .ofS _⟩
theorem q6c : ∀ (vs:List Value) (cs:List Value) (o:Nat),l0b cs o vs=wr cs o vs
 | [],_,_=>rfl
 | v::vs,cs,o=>by simp only [l0b,wr];exact q6c vs _ _
theorem q4c {α:Type} : ∀ (vs:List α) (cs:List α) (o:Nat),(wr cs o vs).length=cs.length
 | [],_,_=>rfl
 | v::vs,cs,o=>by simp only [wr];rw [q4c vs];simp
theorem DL.wr {r:Rl} : ∀ {ds:List D} {vs:List Value} {xs:List D} {ws:List Value} {o:Nat},DL r xs ws→DL r ds vs→DL r (DM.wr xs o ds) (DM.wr ws o vs)
 | [],[],_,_,_,h,_=>h
 | [],_::_,_,_,_,_,k=>by simp [DL] at k
 | _::_,[],_,_,_,_,k=>by simp [DL] at k
 | d::ds,v::vs,xs,ws,o,h,k=>by
  simp only [DM.wr]
  exact DL.wr (h.set k.head) k.tail
theorem v5e {r:Rl} {d:D} {v:Value} (h:h2a r d v) (e:d.one=true):v.oneCell'=true:=by
 cases h<;>first | rfl | (simp [D.one] at e;done) | (rename_i h;rcases h with rfl | rfl<;>rfl)
theorem s2b {r:Rl} {xs:List D} {vs:List Value} (h:DL r xs vs) (e:xs.all D.one=true):vs.all Value.oneCell'=true:=by
 simp only [List.all_eq_true] at e ⊢
 intro v hv
 obtain ⟨i,hi,rfl⟩:=List.mem_iff_getElem.1 hv
 exact v5e (h.2 i (h.1▸hi) hi) (e _ (List.getElem_mem _))
theorem l4b {r:Rl} {d:D} {v:Value} (h:h2a r d v) {xs:List D} (e:cellsD d=some xs):DL r xs v.cells.toList:=by
 cases h with
 | agg xs ys h1 h2=>
  simp only [cellsD,Option.some.injEq] at e
  subst e
  exact ⟨by simpa [Value.cells] using h1,fun i h h'=>by simp only [Value.cells,Array.getElem_toList];exact h2 i h _⟩
 | tup=>simp [cellsD] at e
 | bot=>simp [cellsD] at e
 | slx a m=>
  simp only [cellsD,Option.some.injEq] at e
  subst e
  exact .cons (.slx _ _) .nil
 | msl o sz len ho hlt hz=>
  simp only [cellsD,Option.some.injEq] at e
  subst e
  exact .cons (.msl _ _ _ ho hlt hz) .nil
 | sl0 v hv=>
  simp only [cellsD,Option.some.injEq] at e
  subst e
  rcases hv with rfl | rfl<;>exact .cons (.sl0 _ (by simp [n9e])) .nil
 | slE sz v hv=>
  simp only [cellsD,Option.some.injEq] at e
  subst e
  rcases hv with rfl | rfl<;>exact .cons (.slE _ _ (by simp [n9e])) .nil
 | _=>
  simp only [cellsD,Option.some.injEq] at e
  subst e
  refine .cons ?_ .nil
  constructor<;>assumption
structure p6a (r:Rl) (S:Mem):Prop where
 n:r.n=S.length
 obj : ∀ o cells,b6a S o=some cells → ∃ b,hget r.H (r.ψ o)=some b∧b.rw=true∧(b.lo=0∧b.par=[])∧r.k (r.ψ o)=false∧DL r cells b.cells
 own : ∀ id:Nat,S[id]?=some Ob.own → ∃ b,hget r.H (r.ψ id)=some b∧b.rw=true∧r.k (r.ψ id)=true
 inj : ∀ i j,i≠j→(∃ x,S[i]?=some x∧x ≠ .dead)→(∃ x,S[j]?=some x∧x ≠ .dead)→r.ψ i≠r.ψ j
end Go.DM
namespace Go.DM
open Go Go.AM
def Rl.push (r:Rl) (kb:Bool) (H':Heap):Rl:=⟨r.n+1,fun i=>if i=r.n then r.H.length else r.ψ i,fun h=>if h=r.H.length then kb else r.k h,H'⟩
theorem o5a {H:Heap} {h:Nat} {b:Blk} (hg:hget H h=some b):h≠H.length:=Nat.ne_of_lt (e7a hg)
theorem Rl.v3b {r:Rl} {kb:Bool} {H':Heap} (hlen:r.H.length≤H'.length) (hold : ∀ h b,r.k h=true→hget r.H h=some b → ∃ b',hget H' h=some b'∧b'.cells=b.cells∧b'.sz=b.sz) (hsz : ∀ h b',h<r.H.length→hget H' h=some b' → ∃ b,hget r.H h=some b∧b'.sz=b.sz):r.Le (r.push kb H'):=
 ⟨Nat.le_succ _,fun i hi=>by simp [Rl.push,Nat.ne_of_lt hi],hlen,fun h b hk hg=>⟨by simp [Rl.push,o5a hg,hk],hold h b hk hg⟩,hsz⟩
theorem p6a.push {r:Rl} {S S1:Mem} {kb:Bool} {H':Heap} {nb:Blk} {x:Ob} (hS:p6a r S) (hlen:S1.length=S.length) (h1 : ∀ (i:Nat) (y:Ob),S1[i]?=some y→y ≠ .dead→S[i]?=some y)
  (t6c:r.H.length≤H'.length) (hold : ∀ h b,r.k h=true→hget r.H h=some b → ∃ b',hget H' h=some b'∧b'.cells=b.cells∧b'.sz=b.sz) (hsz : ∀ h b',h<r.H.length→hget H' h=some b' → ∃ b,hget r.H h=some b∧b'.sz=b.sz)
  (hlive : ∀ (i:Nat) (y:Ob),S1[i]?=some y→y ≠ .dead→hget H' (r.ψ i)=hget r.H (r.ψ i)) (hnb:hget H' r.H.length=some nb) (hrw:nb.rw=true)
  (hx:(∃ cells,x = .obj cells∧(nb.lo=0∧nb.par=[])∧kb=false∧DL (r.push kb H') cells nb.cells)∨(x = .own∧kb=true)):p6a (r.push kb H') (S1++[x]):=by
 have le:=Rl.v3b (kb:=kb) t6c hold hsz
 have hn:=hS.n
 have old : ∀ {i y},(S1++[x])[i]?=some y→i<r.n→S1[i]?=some y:=by
  intro i y h hi
  rwa [List.getElem?_append_left (by omega)] at h
 have new : ∀ {i y},(S1++[x])[i]?=some y → ¬ i<r.n→i=r.n∧y=x:=by
  intro i y h hi
  rw [List.getElem?_append_right (by omega)] at h
  have:i - S1.length=0:=by
   rcases Nat.eq_zero_or_pos (i - S1.length) with h0 | h0
   ·exact h0
   ·rw [List.getElem?_eq_none (by simp;omega)] at h;cases h
  rw [this] at h
  simp at h
  exact ⟨by omega,h.symm⟩
 have psi : ∀ {i},i<r.n→(r.push kb H').ψ i=r.ψ i:=fun hi=>le.ψ _ hi
 have z2e:(r.push kb H').ψ r.n=r.H.length:=by simp [Rl.push]
 have blk : ∀ {i y},S1[i]?=some y→y ≠ .dead → ∃ b,hget r.H (r.ψ i)=some b∧b.rw=true:=by
  intro i y h hy
  have:=h1 i y h hy
  cases y with
  | obj cells=>
   obtain ⟨b,g,w,_⟩:=hS.obj i cells (by simp [b6a,this])
   exact ⟨b,g,w⟩
  | own=>obtain ⟨b,g,w,_⟩:=hS.own i this;exact ⟨b,g,w⟩
  | dead=>exact absurd rfl hy
 refine ⟨by simp [Rl.push,hlen,hn],?_,?_,?_⟩
 ·intro o cells ho
  have ho':(S1++[x])[o]?=some (.obj cells):=by
   unfold b6a at ho
   split at ho
   ·cases ho;assumption
   ·cases ho
  by_cases hi:o<r.n
  ·have h0:=h1 o _ (old ho' hi) (by simp)
   obtain ⟨b,g,w,l,kk,dl⟩:=hS.obj o cells (by simp [b6a,h0])
   rw [psi hi]
   have hl:=hlive o _ (old ho' hi) (by simp)
   refine ⟨b,hl.trans g,w,l,?_,dl.mono le⟩
   simp [Rl.push,o5a g,kk]
  ·obtain ⟨rfl,e⟩:=new ho' hi
   rw [z2e]
   rcases hx with ⟨cells',e',l,kk,dl⟩ | ⟨e',_⟩
   ·rw [e'] at e
    cases e
    exact ⟨nb,hnb,hrw,l,by simp [Rl.push,kk],dl⟩
   ·rw [e'] at e;cases e
 ·intro id ho
  by_cases hi:id<r.n
  ·have h0:=h1 id _ (old ho hi) (by simp)
   obtain ⟨b,g,w,kk⟩:=hS.own id h0
   rw [psi hi]
   refine ⟨b,(hlive id _ (old ho hi) (by simp)).trans g,w,?_⟩
   simp [Rl.push,o5a g,kk]
  ·obtain ⟨rfl,e⟩:=new ho hi
   rw [z2e]
   rcases hx with ⟨cells',e',_⟩ | ⟨e',kk⟩
   ·rw [e'] at e;cases e
   ·exact ⟨nb,hnb,hrw,by simp [Rl.push,kk]⟩
 ·intro i j hij ⟨y,hy,hyd⟩ ⟨z,hz,hzd⟩
  by_cases hi:i<r.n<;>by_cases hj:j<r.n
  ·rw [psi hi,psi hj]
   exact hS.inj i j hij ⟨y,h1 i y (old hy hi) hyd,hyd⟩ ⟨z,h1 j z (old hz hj) hzd,hzd⟩
  ·obtain ⟨rfl,_⟩:=new hz hj
   rw [psi hi,z2e]
   obtain ⟨b,g,_⟩:=blk (old hy hi) hyd
   exact o5a g
  ·obtain ⟨rfl,_⟩:=new hy hi
   rw [psi hj,z2e]
   obtain ⟨b,g,_⟩:=blk (old hz hj) hzd
   exact (o5a g).symm
  ·exact absurd ((new hy hi).1.trans (new hz hj).1.symm) hij
theorem p0a {H:Heap} {b:Blk} : (p8a H b).length=H.length+1:=by simp [p8a]
theorem u1a {H:Heap} {b:Blk} : hget (p8a H b) H.length=some b:=n1a
theorem k8a {H:Heap} {b:Blk} {h:Nat} (hh:h<H.length):hget (p8a H b) h=hget H h:=g5a hh
theorem j6b {H:Heap} (b:Blk) (h:Nat) (c:Blk) (hg:hget H h=some c) : ∃ b',hget (p8a H b) h=some b'∧b'.cells=c.cells∧b'.sz=c.sz:=
 ⟨c,by rw [k8a (e7a hg)];exact hg,rfl,rfl⟩
theorem i7c {H:Heap} (b:Blk) (h:Nat) (c:Blk) (hh:h<H.length) (hg:hget (p8a H b) h=some c) : ∃ b',hget H h=some b'∧c.sz=b'.sz:=
 ⟨c,by rwa [k8a hh] at hg,rfl⟩
theorem r6b {r:Rl} {S:Mem} (hS:p6a r S) {i:Nat} {y:Ob} (h:S[i]?=some y) (hy:y ≠ .dead) : ∃ b,hget r.H (r.ψ i)=some b∧b.rw=true:=by
 cases y with
 | obj cells=>
  obtain ⟨b,g,w,_⟩:=hS.obj i cells (by simp [b6a,h])
  exact ⟨b,g,w⟩
 | own=>obtain ⟨b,g,w,_⟩:=hS.own i h;exact ⟨b,g,w⟩
 | dead=>exact absurd rfl hy
theorem g4c {r:Rl} {S:Mem} {cells:List D} {vs:List Value} {sz:Nat} (hS:p6a r S) (hc:DL r cells vs) :
  let r':=r.push false (s5a r.H vs sz)
  r.Le r'∧p6a r' (S++[.obj cells])∧h2a r' (.ptr S.length 0) (.pointer (some (o0a r.H))):=by
 have le:=Rl.v3b (r:=r) (kb:=false) (H':=s5a r.H vs sz) (by simp [s5a,p0a]) (fun h b _ hg=>j6b _ h b hg) (fun h b hh hg=>i7c _ h b hh hg)
 refine ⟨le,p6a.push (nb:=⟨vs,sz,true,0,[]⟩) hS rfl (fun _ _ h _=>h) (by simp [s5a,p0a]) (fun h b _ hg=>j6b _ h b hg) (fun h b hh hg=>i7c _ h b hh hg) (fun i y h hy => ?_) u1a rfl (.inl ⟨cells,rfl,⟨rfl,rfl⟩,rfl,hc.mono le⟩),?_⟩
 ·obtain ⟨b,g,_⟩:=r6b hS h hy
  exact k8a (e7a g)
 ·have:=h2a.ptr (r:=r.push false (s5a r.H vs sz)) S.length 0 (by simp [Rl.push,hS.n])
  simpa [Rl.push,hS.n,o0a] using this
theorem l2e {r:Rl} {S:Mem} {cells:List D} {vs:List Value} {sz len:Nat} (hS:p6a r S) (hc:DL r cells vs) (hl:cells.length=len*sz) :
  let r':=r.push true (s5a r.H vs sz)
  r.Le r'∧p6a r' (S++[.own])∧h2a r' (.sl (some S.length) sz len cells) (.slice (some (o0a r.H)) len len):=by
 have le:=Rl.v3b (r:=r) (kb:=true) (H':=s5a r.H vs sz) (by simp [s5a,p0a]) (fun h b _ hg=>j6b _ h b hg) (fun h b hh hg=>i7c _ h b hh hg)
 refine ⟨le,p6a.push (nb:=⟨vs,sz,true,0,[]⟩) hS rfl (fun _ _ h _=>h) (by simp [s5a,p0a]) (fun h b _ hg=>j6b _ h b hg) (fun h b hh hg=>i7c _ h b hh hg) (fun i y h hy => ?_) u1a rfl (.inr ⟨rfl,rfl⟩),?_⟩
 ·obtain ⟨b,g,_⟩:=r6b hS h hy
  exact k8a (e7a g)
 ·refine .sl (some S.length) sz len cells vs r.H.length 0 len ⟨vs,sz,true,0,[]⟩ (by simp [Rl.push]) u1a rfl ?_ (Nat.le_refl _) hc.1 hl ?_ (hc.mono le).2
  ·have:=t1a (H:=s5a r.H vs sz) (h:=r.H.length) (o:=0) (n:=vs.length) u1a (by simp)
   rw [List.drop_zero,List.take_length] at this
   exact this
  ·intro id e
   cases e
   have h1:len*sz=vs.length:=by rw [← hl];exact hc.1
   exact ⟨by simp [Rl.push,hS.n],by simp [Rl.push,hS.n],rfl,by simpa using h1⟩
theorem x5d {r:Rl} {S:Mem} {cells f1b:List D} {vs new:List Value} {sz len n id h o:Nat} {b:Blk} (hS:p6a r S) (hid:S[id]?=some Ob.own) (hψ:r.ψ id=h) (hg:hget r.H h=some b)
  (hr:(b.cells.drop o)=vs) (hc:DL r cells vs) (hl:cells.length=len*sz) (hn:DL r f1b new) (hnl:f1b.length=n*sz) :
  let H':=p8a (hset r.H h (some { b with rw:=false })) ⟨b.cells.drop o++new,sz,true,len*sz,h::b.par⟩
  let r':=r.push true H'
  r.Le r'∧p6a r' (S.set id .dead++[.own])∧h2a r' (.sl (some S.length) sz (len+n) (cells++f1b)) (.slice (some (o0a r.H)) (len+n) (len+n)):=by
 intro H' r'
 have hlt:=e7a hg
 have hkeep : ∀ i c,r.k i=true→hget r.H i=some c → ∃ b',hget H' i=some b'∧b'.cells=c.cells∧b'.sz=c.sz:=by
  intro i c _ hi
  by_cases e:i=h
  ·subst e
   rw [hg] at hi
   cases hi
   exact ⟨{ b with rw:=false },by rw [k8a (by rw [c7a];exact hlt),g6a hlt],rfl,rfl⟩
  ·exact ⟨c,by rw [k8a (by rw [c7a];exact e7a hi),f9a (Ne.symm e)];exact hi,rfl,rfl⟩
 have t6c:r.H.length≤H'.length:=by simp [H',p0a,c7a]
 have t8e : ∀ i c,i<r.H.length→hget H' i=some c → ∃ b',hget r.H i=some b'∧c.sz=b'.sz:=by
  intro i c hi hgi
  rw [k8a (by rw [c7a];exact hi)] at hgi
  by_cases e:i=h
  ·subst e
   rw [g6a hlt] at hgi
   cases hgi
   exact ⟨b,hg,rfl⟩
  ·rw [f9a (Ne.symm e)] at hgi
   exact ⟨c,hgi,rfl⟩
 have le:r.Le r':=Rl.v3b t6c hkeep t8e
 have hnew:hget H' r.H.length=some ⟨b.cells.drop o++new,sz,true,len*sz,h::b.par⟩:=by
  have:=u1a (H:=hset r.H h (some { b with rw:=false })) (b:=⟨b.cells.drop o++new,sz,true,len*sz,h::b.par⟩)
  rwa [c7a] at this
 refine ⟨le,p6a.push (S1:=S.set id .dead) hS (by simp) (fun i y hi hy => ?_) t6c hkeep t8e (fun i y hi hy => ?_) hnew rfl (.inr ⟨rfl,rfl⟩),?_⟩
 ·simp only [List.getElem?_set] at hi
  split at hi
  ·split at hi
   ·cases hi;exact absurd rfl hy
   ·cases hi
  ·exact hi
 ·have hne:i≠id:=by
   rintro rfl
   simp only [List.getElem?_set_self'] at hi
   rw [hid] at hi
   simp at hi
   exact hy hi.symm
  have hi':S[i]?=some y:=by rwa [List.getElem?_set_ne (Ne.symm hne)] at hi
  obtain ⟨c,g,_⟩:=r6b hS hi' hy
  have hψne:r.ψ i≠h:=by
   rw [← hψ]
   exact hS.inj i id hne ⟨y,hi',hy⟩ ⟨_,hid,by simp⟩
  rw [k8a (by rw [c7a];exact e7a g),f9a (Ne.symm hψne)]
 ·have hcc:DL r' (cells++f1b) (b.cells.drop o++new):=by
   rw [hr]
   exact (hc.mono le).append (hn.mono le)
  have hlen:(cells++f1b).length=(len+n)*sz:=by simp [hl,hnl,Nat.add_mul]
  refine .sl (some S.length) sz (len+n) (cells++f1b) (b.cells.drop o++new) r.H.length 0 (len+n) _ (by simp [r',Rl.push]) hnew rfl ?_ (Nat.le_refl _) hcc.1 hlen ?_ hcc.2
  ·have:=t1a (H:=H') (h:=r.H.length) (o:=0) (n:=(b.cells.drop o++new).length) hnew (by simp)
   rw [List.drop_zero,List.take_length] at this
   exact this
  ·intro id' e
   cases e
   refine ⟨by simp [r',Rl.push,hS.n],by simp [r',Rl.push,hS.n],rfl,?_⟩
   simp only [Nat.zero_add]
   rw [← hlen]
   exact hcc.1
theorem l1e {r:Rl} {S:Mem} {cells:List D} {vs:List Value} {sz len:Nat} (hS:p6a r S) (hc:DL r cells vs) :
  let r':=r.push false (s5a r.H vs sz)
  r.Le r'∧p6a r' (S++[.obj cells])∧h2a r' (.msl S.length sz len) (.slice (some (o0a r.H)) len len):=by
 obtain ⟨le,sr,_⟩:=g4c (sz:=sz) hS hc
 refine ⟨le,sr,?_⟩
 have:=h2a.msl (r:=r.push false (s5a r.H vs sz)) S.length sz len (by simp [Rl.push,hS.n]) (by simp [Rl.push,hS.n,s5a,p0a]) (fun b hb=>by
  simp only [Rl.push,hS.n,if_true] at hb
  rw [s5a,u1a] at hb
  cases hb
  rfl)
 simpa [Rl.push,hS.n,o0a] using this
theorem f7a {S:Mem} {o:Nat} {cells:List D} (h:b6a S o=some cells):S[o]?=some (.obj cells):=by
 unfold b6a at h
 split at h
 ·cases h;assumption
 ·cases h
def d6c (H H':Heap):Prop:=H'=H ∨ ∃ h b,hget H h=some b∧h∉b.par∧H'=hset (s4a H b.par) h (some { b with lo:=0,par:=[] })
theorem x4d {r:Rl} {S:Mem} {cells f1b:List D} {new:List Value} {sz len n o:Nat} {b:Blk} (hS:p6a r S) (ho:b6a S o=some cells) (hg:hget r.H (r.ψ o)=some b)
  (hn:DL r f1b new) :
  let H1:=p8a (hset r.H (r.ψ o) (some { b with rw:=false })) ⟨b.cells.drop 0++new,sz,true,len*sz,r.ψ o::b.par⟩
  let H':=hset (s4a H1 (r.ψ o::b.par)) r.H.length (some ⟨b.cells.drop 0++new,sz,true,0,[]⟩)
  let r':=r.push false H'
  d6c H1 H'∧r.Le r'∧p6a r' (S.set o .dead++[.obj (cells++f1b)])∧h2a r' (.msl S.length sz (len+n)) (.slice (some (o0a r.H)) (len+n) (len+n)):=by
 intro H1 H' r'
 obtain ⟨b',g',w,l,kk,dl⟩:=hS.obj o cells ho
 rw [hg] at g'
 cases g'
 have hlt:=e7a hg
 have hl1:H1.length=r.H.length+1:=by simp [H1,p0a,c7a]
 have hlH:H'.length=r.H.length+1:=by simp [H',c7a,m2a,hl1]
 have hnew1:hget H1 r.H.length=some ⟨b.cells.drop 0++new,sz,true,len*sz,r.ψ o::b.par⟩:=by
  have:=u1a (H:=hset r.H (r.ψ o) (some { b with rw:=false })) (b:=⟨b.cells.drop 0++new,sz,true,len*sz,r.ψ o::b.par⟩)
  rwa [c7a] at this
 have hnew:hget H' r.H.length=some ⟨b.cells.drop 0++new,sz,true,0,[]⟩:=g6a (by rw [m2a,hl1];omega)
 have hat : ∀ i,i<r.H.length→hget H' i=if i=r.ψ o then none else hget r.H i:=by
  intro i hi
  rw [f9a (by omega),o9b,l.2]
  simp only [List.mem_singleton]
  split
  ·rfl
  ·rename_i e
   rw [k8a (by rw [c7a];exact hi),f9a (Ne.symm e)]
 have hkeep : ∀ i c,r.k i=true→hget r.H i=some c → ∃ b',hget H' i=some b'∧b'.cells=c.cells∧b'.sz=c.sz:=by
  intro i c hk hi
  have hne:i≠r.ψ o:=by rintro rfl;rw [kk] at hk;cases hk
  exact ⟨c,by rw [hat i (e7a hi),if_neg hne];exact hi,rfl,rfl⟩
 have t8e : ∀ i c,i<r.H.length→hget H' i=some c → ∃ b',hget r.H i=some b'∧c.sz=b'.sz:=by
  intro i c hi hgi
  rw [hat i hi] at hgi
  split at hgi
  ·cases hgi
  ·exact ⟨c,hgi,rfl⟩
 have t6c:r.H.length≤H'.length:=by omega
 have le:r.Le r':=Rl.v3b t6c hkeep t8e
 have hcc:DL r' (cells++f1b) (b.cells.drop 0++new):=by
  rw [List.drop_zero]
  exact (dl.mono le).append (hn.mono le)
 refine ⟨.inr ⟨r.H.length,_,hnew1,?_,rfl⟩,le,p6a.push (S1:=S.set o .dead) hS (by simp) (fun i y hi hy => ?_) t6c hkeep t8e (fun i y hi hy => ?_) hnew rfl (.inl ⟨_,rfl,⟨rfl,rfl⟩,rfl,hcc⟩),?_⟩
 ·rw [l.2]
  simp only [List.mem_singleton]
  omega
 ·simp only [List.getElem?_set] at hi
  split at hi
  ·split at hi
   ·cases hi;exact absurd rfl hy
   ·cases hi
  ·exact hi
 ·have ho':=f7a ho
  have hne:i≠o:=by
   rintro rfl
   simp only [List.getElem?_set_self'] at hi
   rw [ho'] at hi
   simp at hi
   exact hy hi.symm
  have hi':S[i]?=some y:=by rwa [List.getElem?_set_ne (Ne.symm hne)] at hi
  obtain ⟨c,g,_⟩:=r6b hS hi' hy
  have hψne:r.ψ i≠r.ψ o:=hS.inj i o hne ⟨y,hi',hy⟩ ⟨_,ho',by simp⟩
  rw [hat _ (e7a g),if_neg hψne]
 ·have:=h2a.msl (r:=r') S.length sz (len+n) (by simp [r',Rl.push,hS.n]) (by simp only [r',Rl.push,hS.n,if_true];omega) (fun c hc=>by
   simp only [r',Rl.push,hS.n,if_true] at hc
   rw [hnew] at hc
   cases hc
   rfl)
  simpa [r',Rl.push,hS.n,o0a] using this
end Go.DM
namespace Go.DM
open Go Go.AM
theorem r8c {r:Rl} {S:Mem} (hS:p6a r S) {x:D} {x':Value} (hx:h2a r x x') {cells:List D} {off:Nat} (h:e5a x S=some (cells,off)) :
  ∃ (a:Addr) (b:Blk) (o:Nat) (vs:List Value),x' = .pointer (some a)∧a.spot=none∧a.off=o+off∧hget r.H a.block=some b∧o+vs.length≤b.cells.length∧vs=(b.cells.drop o).take vs.length∧DL r cells vs:=by
 cases hx with
 | ptr o off' ho=>
  simp only [e5a,Option.map_eq_some_iff,Prod.mk.injEq] at h
  obtain ⟨c,hc,rfl,rfl⟩:=h
  obtain ⟨b,g,w,l,kk,dl⟩:=hS.obj o c hc
  exact ⟨_,b,0,b.cells,rfl,rfl,by simp,g,by simp,by simp,dl⟩
 | h5a cs off' vs h0 o hk hr hl hc=>
  simp only [e5a,Option.some.injEq,Prod.mk.injEq] at h
  obtain ⟨rfl,rfl⟩:=h
  obtain ⟨b,g,hlen,e⟩:=w6a hr
  exact ⟨_,b,o,vs,rfl,rfl,rfl,g,hlen,e,hl,hc⟩
 | _=>simp [e5a] at h
theorem a0d {P:Program} {r:Rl} {S:Mem} (hS:p6a r S) {t:TypeId} {x:D} {x':Value} (hx:h2a r x x') {d:D} (h:l5a P t x S=some d) : ∃ v,v7b P t x' r.H=some v∧h2a r d v:=by
 unfold l5a at h
 cases hc:e5a x S with
 | none=>rw [hc] at h;simp at h
 | some p=>
  obtain ⟨cells,off⟩:=p
  obtain ⟨a,b,o,vs,rfl,hsp,hoff,hg,hlen,hvs,dl⟩:=r8c hS hx hc
  obtain ⟨B,off',sp⟩:=a
  simp only at hsp hoff hg
  subst hsp hoff
  rw [hc] at h
  cases ha:g8a P t with
  | none=>rw [ha] at h;simp at h
  | some ag=>
   rw [ha] at h
   cases ag with
   | true=>
    cases hs:f3a P t with
    | none=>rw [hs] at h;simp at h
    | some n=>
     rw [hs] at h
     simp only at h
     split at h
     ·rename_i hle
      cases h
      have hle':off+n≤vs.length:=dl.1▸hle
      refine ⟨.agg ((b.cells.drop (o+off)).take n).toArray,?_,?_⟩
      ·simp only [v7b,ha,hs,Option.bind_eq_bind,Option.bind_some,if_true]
       rw [t1a hg (by omega)]
       rfl
      ·have e:(b.cells.drop (o+off)).take n=(vs.drop off).take n:=by
        have e0:vs.drop off=((b.cells.drop o).take vs.length).drop off:=by rw [← hvs]
        rw [e0,List.drop_take,List.drop_drop,List.take_take,Nat.min_eq_left (by omega)]
       rw [e]
       have:=(dl.drop off).take n
       exact .agg _ _ (by simpa using this.1) fun i h1 h2=>by simp only [List.getElem_toArray];exact this.2 i h1 (by simpa using h2)
     ·cases h
   | false=>
    simp only at h
    obtain ⟨v,hv,hd⟩:=dl.get h
    refine ⟨v,?_,hd⟩
    simp only [v7b,ha,Option.bind_eq_bind,Option.bind_some,Bool.false_eq_true,if_false,Option.isSome_none,hg]
    rw [hvs] at hv
    rw [List.getElem?_take,List.getElem?_drop] at hv
    split at hv
    ·exact hv
    ·cases hv
theorem s7d {P:Program} {r:Rl} {S S':Mem} (hS:p6a r S) {t:TypeId} {x d:D} {x' v:Value} (hx:h2a r x x') (hd:h2a r d v) (h:j0a P t x d S=some S') :
  ∃ H',k6b P 0 t x' v r.H=some H'∧r.Le ⟨r.n,r.ψ,r.k,H'⟩∧p6a ⟨r.n,r.ψ,r.k,H'⟩ S':=by
 unfold j0a at h
 cases hx with
 | ptr o off ho=>
  cases hc:cellsD d with
  | none=>rw [hc] at h;simp at h
  | some ds=>
   rw [hc] at h
   cases hs:f3a P t with
   | none=>rw [hs] at h;simp at h
   | some n=>
    rw [hs] at h
    simp only at h
    cases hoa:b6a S o with
    | none=>rw [hoa] at h;simp at h
    | some cells=>
     rw [hoa] at h
     simp only at h
     split at h
     ·rename_i hcond
      obtain ⟨hn,hle,hone⟩:=hcond
      cases h
      have dv:=l4b hd hc
      obtain ⟨b,g,w,l,kk,dl⟩:=hS.obj o cells hoa
      have hlt:=e7a g
      have hvl:v.cells.size=n:=by have:=dv.1;simp at this;omega
      have hH:k6b P 0 t (.pointer (some ⟨r.ψ o,off,none⟩)) v r.H=some (hset r.H (r.ψ o) (some { b with cells:=wr b.cells off v.cells.toList })):=by
       simp only [k6b,hs,Option.bind_eq_bind,Option.bind_some,hvl,ne_eq,not_true_eq_false,if_false,x4a,Option.isSome_none,Bool.false_eq_true,g]
       have hc1:off+v.cells.toList.length≤b.cells.length:=by rw [← dv.1,← dl.1];exact hle
       rw [if_pos ⟨w,Nat.zero_le _,hc1,s2b dv hone⟩,if_pos (by omega),q6c]
      have le:r.Le ⟨r.n,r.ψ,r.k,hset r.H (r.ψ o) (some { b with cells:=wr b.cells off v.cells.toList })⟩:=by
       refine ⟨Nat.le_refl _,fun _ _=>rfl,by simp [c7a],fun h c hk hg=>⟨hk,?_⟩,fun h c _ hg => ?_⟩
       ·have hne:r.ψ o≠h:=by rintro rfl;rw [kk] at hk;cases hk
        exact ⟨c,by rw [f9a hne];exact hg,rfl,rfl⟩
       ·by_cases e:r.ψ o=h
        ·subst e
         rw [g6a hlt] at hg
         cases hg
         exact ⟨b,g,rfl⟩
        ·rw [f9a e] at hg
         exact ⟨c,hg,rfl⟩
      refine ⟨_,hH,le,by simpa using hS.n,?_,?_,?_⟩
      ·intro o' cells' ho'
       by_cases e:o'=o
       ·subst e
        have hlo:o'<S.length:=(List.getElem?_eq_some_iff.1 (f7a hoa)).1
        have:b6a (S.set o' (.obj (wr cells off ds))) o'=some (wr cells off ds):=by simp [b6a,hlo]
        rw [this] at ho'
        cases ho'
        exact ⟨_,g6a hlt,w,l,kk,(dl.mono le).wr (dv.mono le)⟩
       ·have hq:b6a S o'=some cells':=by
         unfold b6a at ho' ⊢
         rwa [List.getElem?_set_ne (Ne.symm e)] at ho'
        obtain ⟨b',g',w',l',kk',dl'⟩:=hS.obj o' cells' hq
        have hne:=hS.inj o o' (Ne.symm e) ⟨_,f7a hoa,by simp⟩ ⟨_,f7a hq,by simp⟩
        exact ⟨b',by rw [f9a hne];exact g',w',l',kk',dl'.mono le⟩
      ·intro id hid
       have hne:id≠o:=by
        rintro rfl
        have hlo:id<S.length:=(List.getElem?_eq_some_iff.1 (f7a hoa)).1
        simp [hlo] at hid
       rw [List.getElem?_set_ne (Ne.symm hne)] at hid
       obtain ⟨b',g',w',kk'⟩:=hS.own id hid
       have hne':r.ψ o≠r.ψ id:=by intro e;rw [← e] at kk';rw [kk] at kk';cases kk'
       exact ⟨b',by rw [f9a hne'];exact g',w',kk'⟩
      ·intro i j hij ⟨y,hy,hyd⟩ ⟨z,hz,hzd⟩
       have key : ∀ {i:Nat} {y:Ob},(S.set o (.obj (wr cells off ds)))[i]?=some y→y ≠ .dead → ∃ x,S[i]?=some x∧x ≠ .dead:=by
        intro i y hi hy
        by_cases e:i=o
        ·subst e;exact ⟨_,f7a hoa,by simp⟩
        ·rw [List.getElem?_set_ne (Ne.symm e)] at hi;exact ⟨y,hi,hy⟩
       exact hS.inj i j hij (key hy hyd) (key hz hzd)
     ·cases h
 | _=>simp at h
theorem j8d {P:Program} {r:Rl} {s:TypeId} {x d:D} {x':Value} {f:Nat} (hx:h2a r x x') (h:a9a P s x f=some d) : ∃ v,y3a P s x' f=some v∧h2a r d v:=by
 unfold a9a at h
 split at h
 ·rename_i fields hu
  split at h
  ·rename_i fd hf
   split at h
   ·rename_i q o off hs
    cases h
    cases hx with
    | ptr _ _ ho=>
     refine ⟨.pointer (some ⟨r.ψ o,off+fd.offset,none⟩),?_,.ptr _ _ ho⟩
     simp [y3a,hu,hf,hs]
   ·rename_i q cells off hs
    cases h
    cases hx with
    | h5a _ _ vs h o hk hr hl hc=>
     refine ⟨.pointer (some ⟨h,o+off+fd.offset,none⟩),?_,?_⟩
     ·simp [y3a,hu,hf,hs]
     ·rw [Nat.add_assoc];exact .h5a _ _ vs h o hk hr hl hc
   ·cases h
  ·cases h
 ·cases h
theorem d4d {P:Program} {r:Rl} {s:TypeId} {x d:D} {x':Value} {f:Nat} (hx:h2a r x x') (h:u2b P s x f=some d) : ∃ v,m0b P s x' f=some v∧h2a r d v:=by
 unfold u2b at h
 split at h
 ·rename_i fields cs hu
  split at h
  ·rename_i fd hf
   split at h
   ·rename_i n hg hn
    split at h
    ·rename_i hc
     cases h
     cases hx with
     | agg _ ys h1 h2=>
      refine ⟨.agg (ys.extract fd.offset (fd.offset+n)),by simp [m0b,hu,hf,hg,hn,← h1,hc],.agg _ _ (by simp;omega) fun i hi hi' => ?_⟩
      simp only [List.getElem_take,List.getElem_drop,Array.getElem_extract]
      exact h2 _ _ _
    ·cases h
   ·rename_i n hg hn
    cases hx with
    | agg _ ys h1 h2=>
     obtain ⟨hi,rfl⟩:=List.getElem?_eq_some_iff.1 h
     have hi':fd.offset<ys.size:=h1▸hi
     exact ⟨ys[fd.offset],by simp [m0b,hu,hf,hg,hn,hi'],h2 _ hi hi'⟩
   ·cases h
  ·cases h
 ·cases h
theorem l0d {P:Program} {r:Rl} {t:TypeId} {x ix d:D} {x' ix':Value} (hx:h2a r x x') (hi:h2a r ix ix') (h:m5a P t x ix=some d) : ∃ v,y4a P t x' ix'=some v∧h2a r d v:=by
 unfold m5a at h
 split at h
 ·rename_i e own sz len cells k i hu
  split at h
  ·rename_i hcond
   obtain ⟨h1,h2,h3⟩:=hcond
   cases h
   cases hi
   cases hx with
   | sl _ _ _ _ vs h o m b hk hg hz hr hm hl hs ho hc=>
    refine ⟨.pointer (some ⟨h,o+i.toNat*sz,none⟩),?_,.h5a _ _ vs h o hk hr hl hc⟩
    simp [y4a,hu,h1,h2,h3]
   | slE=>omega
  ·cases h
 ·rename_i e o sz len k i hu
  split at h
  ·rename_i hcond
   obtain ⟨h1,h2,h3⟩:=hcond
   cases h
   cases hi
   cases hx with
   | msl _ _ _ ho hlt hz=>
    refine ⟨.pointer (some ⟨r.ψ o,i.toNat*sz,none⟩),?_,.ptr _ _ ho⟩
    simp [y4a,hu,h1,h2,h3]
  ·cases h
 ·cases h
theorem k8e {r:Rl} {d:D} {v:Value} (h:h2a r d v) {n:Nat} (e:n4c d=some n):e5e v=some n:=by
 cases h<;>simp [n4c] at e<;>simp [e5e,e]
theorem e3d {r:Rl} {d:Option D} {v:Option Value} (h:match d,v with | some d,some v=>h2a r d v | none,none=>True | _,_=>False) {n:Option Nat} (e:d8a d=some n):q4a v=some n:=by
 cases d<;>cases v<;>simp at h
 ·simpa [d8a,q4a] using e
 ·simp only [d8a,Option.map_eq_some_iff] at e
  obtain ⟨m,hm,rfl⟩:=e
  simp [q4a,k8e h hm]
end Go.DM
namespace Go.DM
open Go Go.AM
def q9c (r:Rl):Option D→Option Value→Prop
 | some d,some v=>h2a r d v
 | none,none=>True
 | _,_=>False
theorem g0a {r:Rl} {d:Option D} {v:Option Value} (h:q9c r d v) {n:Option Nat} (e:d8a d=some n):q4a v=some n:=e3d (by cases d<;>cases v<;>exact h) e
theorem r9d {P:Program} {r:Rl} {t:TypeId} {x d:D} {x':Value} {lo hi mx:Option D} {lo' hi' mx':Option Value} (hx:h2a r x x') (h1:q9c r lo lo') (h2:q9c r hi hi') (h3:q9c r mx mx')
  (h:l0a P t x lo hi mx=some d) : ∃ v,a1b P t x' lo' hi' mx' r.H=some v∧h2a r d v:=by
 unfold l0a at h
 split at h
 ·rename_i l hh m s e1 e2 e3 hu
  cases hx
  simp only [a1b,g0a h1 e1,g0a h2 e2,g0a h3 e3,Option.bind_eq_bind,Option.bind_some,hu]
  simp only at h
  split at h
  ·cases h
  ·rename_i hm
   split at h
   ·rename_i hc
    cases h
    simp only [hm,hc,and_self,if_true,if_false]
    exact ⟨_,rfl,.str _⟩
   ·cases h
 ·rename_i l hh m e own sz len cells e1 e2 e3 hu
  cases hx with
  | sl _ _ _ _ vs hd o M b hk hg hz hr hm hl hs ho hc=>
   simp only [a1b,g0a h1 e1,g0a h2 e2,g0a h3 e3,Option.bind_eq_bind,Option.bind_some,hu]
   split at h
   ·rename_i hsz
    obtain ⟨hsz,hmx⟩:=hsz
    simp only at h
    split at h
    ·rename_i hb
     obtain ⟨b1,b2,b3⟩:=hb
     simp only [hsz,Option.bind_some]
     have g2d:(m.isSome&&hh.isNone)=false:=by
      cases hq:(m.isSome&&hh.isNone) with
      | false=>rfl
      | true=>exact absurd (by simpa using hq) hmx
     simp only [g2d,Bool.false_eq_true,if_false]
     obtain ⟨bb,gg,hlen,hvs⟩:=w6a hr
     rw [hg] at gg
     cases gg
     have hM1:hh.getD len≤m.getD M:=by cases m<;>simp at b2 b3 ⊢ <;> omega
     have hM2:m.getD M≤M:=by cases m<;>simp at b2 b3 ⊢;omega
     have hvl:vs.length=len*sz:=by rw [← hl];exact hs
     have hmul:l.getD 0*sz+(hh.getD len - l.getD 0)*sz=hh.getD len*sz:=by rw [← Nat.add_mul];congr 1;omega
     have n4f:hh.getD len*sz≤len*sz:=Nat.mul_le_mul_right _ (by omega)
     have fin : ∀ o',o'=o+l.getD 0*sz→h2a r (.sl (if hh.getD len=len then own else none) sz (hh.getD len - l.getD 0) ((cells.drop (l.getD 0*sz)).take ((hh.getD len - l.getD 0)*sz)))
       (.slice (some ⟨hd,o',none⟩) (hh.getD len - l.getD 0) (m.getD M - l.getD 0)):=by
      intro o' ho'
      subst ho'
      have dl:DL r ((cells.drop (l.getD 0*sz)).take ((hh.getD len - l.getD 0)*sz)) ((vs.drop (l.getD 0*sz)).take ((hh.getD len - l.getD 0)*sz)):=(DL.drop ⟨hl,hc⟩ _).take _
      have hlen2:((vs.drop (l.getD 0*sz)).take ((hh.getD len - l.getD 0)*sz)).length=(hh.getD len - l.getD 0)*sz:=by simp;omega
      refine .sl _ sz _ _ _ hd (o+l.getD 0*sz) _ b hk hg hz ?_ (by omega) dl.1 (dl.1.trans hlen2) ?_ dl.2
      ·rw [hlen2,t1a hg (by omega)]
       congr 1
       have e0:vs.drop (l.getD 0*sz)=((b.cells.drop o).take vs.length).drop (l.getD 0*sz):=by rw [← hvs]
       rw [e0,List.drop_take,List.drop_drop,List.take_take,Nat.min_eq_left (by omega)]
      ·intro id hid
       split at hid
       ·rename_i heq
        obtain ⟨a1,a2,a3,a4⟩:=ho id hid
        refine ⟨a1,a2,?_,?_⟩
        ·have:m.getD M=M:=by cases m<;>simp at b2 b3 hM1 hM2 ⊢;omega
         omega
        ·rw [Nat.add_assoc,hmul,heq];exact a4
       ·cases hid
     have hcond:l.getD 0≤hh.getD len∧hh.getD len≤m.getD M∧m.getD M≤M:=⟨b1,hM1,hM2⟩
     simp only [hcond,and_self,if_true]
     by_cases hfree:m.isSome=true∧m.getD len=l.getD 0
     ·have hfree':m.isSome=true∧m.getD M=l.getD 0:=by
       cases m with
       | none=>simp at hfree
       | some m=>simpa using hfree
      rw [if_pos hfree] at h
      rw [if_pos hfree']
      cases h
      exact ⟨_,rfl,.sl0 _ (.inr rfl)⟩
     have hfree' : ¬ (m.isSome=true∧m.getD M=l.getD 0):=by
      cases m with
      | none=>simp
      | some m=>simpa using hfree
     rw [if_neg hfree] at h
     rw [if_neg hfree']
     cases h
     by_cases hl0:l.getD 0=0
     ·simp only [hl0,if_true]
      refine ⟨_,rfl,?_⟩
      have:=fin o (by simp [hl0])
      simpa [hl0] using this
     ·simp only [hl0,if_false,Option.isSome_none,Bool.false_eq_true,hg,hz,if_true]
      exact ⟨_,rfl,fin _ rfl⟩
    ·cases h
   ·cases h
  | slE _ v hv=>
   simp only [a1b,g0a h1 e1,g0a h2 e2,g0a h3 e3,Option.bind_eq_bind,Option.bind_some,hu]
   split at h
   ·rename_i hsz
    obtain ⟨hsz,hmx⟩:=hsz
    simp only at h
    split at h
    ·rename_i hb
     obtain ⟨b1,b2,b3⟩:=hb
     have g2d:(m.isSome&&hh.isNone)=false:=by
      cases hq:(m.isSome&&hh.isNone) with
      | false=>rfl
      | true=>exact absurd (by simpa using hq) hmx
     have c1:l.getD 0=0:=by omega
     have c2:hh.getD 0=0:=by omega
     have c3:m.getD 0=0:=by omega
     simp only [hsz,Option.bind_some,g2d,Bool.false_eq_true,if_false]
     have hd : ∀ u,n9e u→h2a r d u:=by
      intro u hu'
      split at h
      ·cases h;exact .sl0 _ hu'
      ·cases h;simp only [c1,c2,Nat.sub_self,ite_self];simp;exact .slE _ _ hu'
     rcases hv with rfl | rfl
     ·simp only [c1,c2,c3,Nat.le_refl,and_self,if_true,Nat.sub_self]
      exact ⟨.slice none 0 0,by simp [hsz],hd _ (.inl rfl)⟩
     ·simp only [c1,c2,c3,Nat.le_refl,and_self,if_true,Nat.sub_self]
      refine ⟨.slice (some v0b) 0 0,?_,hd _ (.inr rfl)⟩
      split<;>simp [hsz]
    ·cases h
   ·cases h
 ·rename_i l hh m e o sz len e1 e2 e3 hu
  cases hx with
  | msl _ _ _ ho hlt hz=>
   simp only [a1b,g0a h1 e1,g0a h2 e2,g0a h3 e3,Option.bind_eq_bind,Option.bind_some,hu]
   split at h
   ·rename_i hsz
    obtain ⟨hsz,hmx,c1,c2,c3⟩:=hsz
    have g2d:(m.isSome&&hh.isNone)=false:=by
     cases hq:(m.isSome&&hh.isNone) with
     | false=>rfl
     | true=>exact absurd (by simpa using hq) hmx
    simp only [hsz,Option.bind_some,g2d,Bool.false_eq_true,if_false,c1,c2,c3,Nat.zero_le,Nat.le_refl,and_self,if_true,Nat.sub_zero]
    split at h
    ·rename_i hf
     rw [if_pos hf]
     cases h
     exact ⟨_,rfl,.sl0 _ (.inr rfl)⟩
    ·rename_i hf
     rw [if_neg hf]
     cases h
     exact ⟨_,rfl,.msl _ _ _ ho hlt hz⟩
   ·split at h
    ·rename_i hc
     obtain ⟨hsz,c1,c2,c3⟩:=hc
     cases h
     subst c2 c3
     simp only [hsz,Option.bind_some,Option.isSome_some,Option.isNone_some,Bool.and_false,Bool.false_eq_true,if_false,c1,Option.getD_some,Nat.zero_le,Nat.le_refl,and_self,if_true,Nat.sub_zero]
     exact ⟨_,rfl,.sl0 _ (.inr rfl)⟩
    ·cases h
 ·rename_i l hh m e e1 e2 e3 hu
  cases hx
  split at h
  ·rename_i hc
   obtain ⟨c1,c2,c3,c4,c5⟩:=hc
   cases h
   have g2d:(m.isSome&&hh.isNone)=false:=by
    cases hq:(m.isSome&&hh.isNone) with
    | false=>rfl
    | true=>exact absurd (by simpa using hq) c4
   simp only [a1b,g0a h1 e1,g0a h2 e2,g0a h3 e3,Option.bind_eq_bind,Option.bind_some,hu]
   cases hs:f3a P e with
   | none=>rw [hs] at c5;cases c5
   | some sz=>
    simp only [Option.bind_some,g2d,Bool.false_eq_true,if_false,c1,c2,c3,Nat.le_refl,and_self,if_true,Nat.sub_self]
    exact ⟨_,rfl,.c5a⟩
  ·cases h
 ·rename_i l hh m e e1 e2 e3 hu
  cases hx with | sl0 v hv=>
  split at h
  ·rename_i hc
   obtain ⟨c1,c2,c3,c4,c5⟩:=hc
   cases h
   have g2d:(m.isSome&&hh.isNone)=false:=by
    cases hq:(m.isSome&&hh.isNone) with
    | false=>rfl
    | true=>exact absurd (by simpa using hq) c4
   simp only [a1b,g0a h1 e1,g0a h2 e2,g0a h3 e3,Option.bind_eq_bind,Option.bind_some,hu]
   cases hs:f3a P e with
   | none=>rw [hs] at c5;cases c5
   | some sz=>
    rcases hv with rfl | rfl
    ·simp only [Option.bind_some,g2d,Bool.false_eq_true,if_false,c1,c2,c3,Nat.le_refl,and_self,if_true,Nat.sub_self]
     exact ⟨.slice none 0 0,by simp [hs],.sl0 _ (.inl rfl)⟩
    ·simp only [Option.bind_some,g2d,Bool.false_eq_true,if_false,c1,c2,c3,Nat.le_refl,and_self,if_true,Nat.sub_self]
     refine ⟨.slice (some v0b) 0 0,?_,.sl0 _ (.inr rfl)⟩
     split<;>simp [hs]
  ·cases h
 ·cases h
theorem j2d {r:Rl} {sz:Nat} {x:D} {x':Value} (hx:h2a r x x') {n:Nat} {new:List D} (h:o4a sz x=some (n,new)) :
  ∃ vs,m7d x'=some n∧s0a r.H sz n x'=some vs∧DL r new vs∧vs.length=n*sz:=by
 cases hx with
 | c5a=>simp [o4a] at h;obtain ⟨rfl,rfl⟩:=h;exact ⟨[],rfl,rfl,.nil,by simp⟩
 | sl0 v hv=>simp [o4a] at h;obtain ⟨rfl,rfl⟩:=h;rcases hv with rfl | rfl<;>exact ⟨[],rfl,by simp [s0a],.nil,by simp⟩
 | slx a m=>simp [o4a] at h;obtain ⟨rfl,rfl⟩:=h;exact ⟨[],rfl,by simp [s0a],.nil,by simp⟩
 | slE sz' v hv=>simp [o4a] at h;obtain ⟨_,rfl,rfl⟩:=h;rcases hv with rfl | rfl<;>exact ⟨[],rfl,by simp [s0a],.nil,by simp⟩
 | sl own sz' len cells vs hd o m b hk hg hz hr hm hl hs ho hc=>
  simp only [o4a] at h
  split at h
  ·rename_i e
   subst e
   simp only [Option.some.injEq,Prod.mk.injEq] at h
   obtain ⟨rfl,rfl⟩:=h
   have hvl:vs.length=len*sz':=by rw [← hl];exact hs
   refine ⟨vs,rfl,?_,⟨hl,hc⟩,hvl⟩
   simp only [s0a]
   split
   ·rename_i h0
    rw [h0] at hvl
    rw [List.eq_nil_of_length_eq_zero hvl]
   ·rw [← hvl];exact hr
  ·cases h
 | str s=>
  simp only [o4a] at h
  split at h
  ·rename_i e
   subst e
   simp only [Option.some.injEq,Prod.mk.injEq] at h
   obtain ⟨rfl,rfl⟩:=h
   have e:s.extract 0 s.size=s:=by simp
   refine ⟨s.data.toList.map fun b=>.int .u8 b.toNat,rfl,by simp only [s0a,e],⟨by simp,fun i h1 h2 => ?_⟩,by simp⟩
   simp only [List.getElem_map]
   exact .int _ _
  ·cases h
 | _=>simp [o4a] at h
theorem j3d {r:Rl} {S:Mem} (hS:p6a r S) {sz:Nat} {x:D} {x':Value} (hx:h2a r x x') {n:Nat} {new:List D} (h:o4a sz (u5d S sz x)=some (n,new)) :
  ∃ vs,m7d x'=some n∧s0a r.H sz n x'=some vs∧DL r new vs∧vs.length=n*sz:=by
 cases hx with
 | msl o sz' len ho hlt hz=>
  simp only [u5d] at h
  cases hob:b6a S o with
  | none=>rw [hob] at h;simp [o4a] at h
  | some cells=>
   rw [hob] at h
   simp only at h
   split at h
   ·rename_i hc
    obtain ⟨rfl,hcl⟩:=hc
    simp only [o4a,if_true,Option.some.injEq,Prod.mk.injEq] at h
    obtain ⟨rfl,rfl⟩:=h
    obtain ⟨b,g,w,l,kk,dl⟩:=hS.obj o cells hob
    have hvl:b.cells.length=len*sz':=by rw [← dl.1];exact hcl
    refine ⟨b.cells,rfl,?_,dl,hvl⟩
    simp only [s0a]
    split
    ·rename_i h0
     rw [h0] at hvl
     rw [List.eq_nil_of_length_eq_zero hvl]
    ·have:=t1a (H:=r.H) (h:=r.ψ o) (o:=0) (n:=b.cells.length) g (by simp)
     rw [List.drop_zero,List.take_length] at this
     rw [← hvl]
     exact this
   ·simp [o4a] at h
 | _=>exact j2d (by first | assumption | constructor<;>assumption) h
def Comes (r:Rl) (S S':Mem) (d:D) (x:Option (Value×Heap)):Prop:=
 ∃ v H',x=some (v,H')∧(∃ r',d6c H' r'.H∧r.Le r'∧p6a r' S'∧h2a r' d v) ∧
  ∀ sz len cells,d = .sl (some S.length) sz len cells→S'=S++[.own] → ∃ r',d6c H' r'.H∧r.Le r'∧p6a r' (S++[.obj cells])∧h2a r' (.msl S.length sz len) v
theorem Comes.pure {r:Rl} {S:Mem} {d:D} {v:Value} {x:Option (Value×Heap)} (hS:p6a r S) (hx:x=some (v,r.H)) (hd:h2a r d v):Comes r S S d x:=
 ⟨v,r.H,hx,⟨r,.inl rfl,.refl r,hS,hd⟩,fun _ _ _ _ h=>by have:=congrArg List.length h;simp at this⟩
theorem Comes.own {r:Rl} {S:Mem} {cells:List D} {vs:List Value} {sz len:Nat} {x:Option (Value×Heap)} (hS:p6a r S) (hc:DL r cells vs) (hl:cells.length=len*sz) (hx:x=some (.slice (some (o0a r.H)) len len,s5a r.H vs sz)) :
  Comes r S (S++[.own]) (.sl (some S.length) sz len cells) x:=by
 obtain ⟨le,sr,dr⟩:=l2e (sz:=sz) (len:=len) hS hc hl
 refine ⟨_,_,hx,⟨_,.inl rfl,le,sr,dr⟩,fun sz' len' cells' h _ => ?_⟩
 cases h
 obtain ⟨le,sr,dr⟩:=l1e (sz:=sz) (len:=len) hS hc
 exact ⟨_,.inl rfl,le,sr,dr⟩
theorem Comes.other {r r':Rl} {S S':Mem} {d:D} {v:Value} {H':Heap} {x:Option (Value×Heap)} (hx:x=some (v,H')) (hf:d6c H' r'.H) (le:r.Le r') (sr:p6a r' S') (dr:h2a r' d v) (hn : ∀ sz len cells,d = .sl (some S.length) sz len cells→S'≠S++[.own]):Comes r S S' d x:=
 ⟨v,H',hx,⟨r',hf,le,sr,dr⟩,fun sz len cells h1 h2=>absurd h2 (hn sz len cells h1)⟩
theorem c1d {P:Program} {r:Rl} {S S':Mem} (hS:p6a r S) {at_:Array TypeId} {s x d:D} {s' x':Value} (hs:h2a r s s') (hx:h2a r x x') (h:b4a P at_ s x S=some (d,S')) :
  Comes r S S' d (q7a P 0 at_ s' x' r.H):=by
 simp only [b4a,Option.bind_eq_bind] at h
 cases h0:at_[0]? with
 | none=>rw [h0] at h;cases h
 | some st=>
 rw [h0] at h
 simp only [Option.bind_some] at h
 cases hu:P.underlying st with
 | none=>rw [hu] at h;cases h
 | some q=>
 cases q<;>(try (simp [hu] at h;done))
 case slice e=>
 simp only [hu,Option.bind_some] at h
 cases h1:at_[1]? with
 | none=>rw [h1] at h;cases h
 | some xt=>
 simp only [h1,Option.bind_some] at h
 split at h
 ·cases h
 rename_i hxt
 cases hi:P.info? e with
 | none=>rw [hi] at h;cases h
 | some info=>
 simp only [hi,Option.bind_some] at h
 cases hz:info.zero with
 | none=>rw [hz] at h;cases h
 | some z=>
 simp only [hz,Option.bind_some] at h
 split at h
 ·cases h
 rename_i hzs
 have hsz:f3a P e=some info.size:=by simp [f3a,hi]
 cases he:o4a info.size (u5d S info.size x) with
 | none=>rw [he] at h;cases h
 | some p=>
 obtain ⟨n,new⟩:=p
 simp only [he,Option.bind_some] at h
 obtain ⟨nv,hn,hf,dl,hnl⟩:=j3d hS hx he
 have hnn : ¬ nv.length≠n*info.size:=by simp [hnl]
 have hzs':(z.cells.size≠info.size)=False:=by simpa using hzs
 cases hs with
 | c5a=>
  simp only at h
  split at h
  ·rename_i hn0
   cases h
   refine .pure hS ?_ .c5a
   subst hn0
   simp only [q7a,Option.bind_eq_bind,h0,hu,h1,hsz,hi,hz,hn,hf,Option.bind_some]
   refine Eq.trans (if_neg hxt) ?_
   simp only [hzs',if_false]
   simp [hnl]
  ·rename_i hn0
   split at h
   ·rename_i hb
    obtain ⟨b1,b2,b3,b4⟩:=hb
    cases h
    refine .own (sz:=info.size) (len:=n) hS dl (by rw [dl.1,hnl]) ?_
    have hcc:(nv.all Value.oneCell'=false)=False:=by rw [s2b dl b4];simp
    have hle : ¬ n≤0:=by omega
    have hn' : ¬ info.bytes=0:=by omega
    simp only [q7a,Option.bind_eq_bind,h0,hu,h1,hsz,hi,hz,hn,hf,Option.bind_some]
    refine Eq.trans (if_neg hxt) ?_
    simp only [hzs',if_false]
    simp only [hnn,if_false,Nat.zero_add,hle,b1,b2,b3,and_self,not_true_eq_false,hcc,or_self,if_true]
   ·cases h
 | sl0 v hv=>
  simp only at h
  split at h
  ·rename_i hn0
   cases h
   refine .pure hS ?_ (.sl0 _ hv)
   subst hn0
   simp only [q7a,Option.bind_eq_bind,h0,hu,h1,hsz,hi,hz,hn,hf,Option.bind_some]
   refine Eq.trans (if_neg hxt) ?_
   simp only [hzs',if_false]
   rcases hv with rfl | rfl<;>simp [hnl]
  ·rename_i hn0
   split at h
   ·rename_i hb
    obtain ⟨b1,b2,b3,b4⟩:=hb
    cases h
    refine .own (sz:=info.size) (len:=n) hS dl (by rw [dl.1,hnl]) ?_
    have hcc:(nv.all Value.oneCell'=false)=False:=by rw [s2b dl b4];simp
    have hle : ¬ n≤0:=by omega
    have hn' : ¬ info.bytes=0:=by omega
    simp only [q7a,Option.bind_eq_bind,h0,hu,h1,hsz,hi,hz,hn,hf,Option.bind_some]
    refine Eq.trans (if_neg hxt) ?_
    simp only [hzs',if_false]
    rcases hv with rfl | rfl
    ·simp only [hnn,if_false,Nat.zero_add,hle,b1,b2,b3,and_self,not_true_eq_false,hcc,or_self,if_true]
    ·simp only [hnn,if_false,Nat.zero_add,hle,b1,b2,b3,and_self,not_true_eq_false,hcc,or_self,if_true,v0b,Option.isSome_some]
   ·cases h
 | slE sz v hv=>
  simp only at h
  split at h
  ·cases h
  split at h
  ·rename_i hn0
   cases h
   refine .pure hS ?_ (.slE _ _ hv)
   subst hn0
   simp only [q7a,Option.bind_eq_bind,h0,hu,h1,hsz,hi,hz,hn,hf,Option.bind_some]
   refine Eq.trans (if_neg hxt) ?_
   simp only [hzs',if_false]
   rcases hv with rfl | rfl<;>simp [hnl]
  ·split at h<;>cases h
 | sl own sz len cells vs hd o m b hk hg hbz hr hm hl hcl ho hc=>
  simp only at h
  split at h
  ·cases h
  rename_i hszz
  have hszz:sz=info.size:=by simpa using hszz
  subst hszz
  split at h
  ·rename_i hn0
   cases h
   refine .pure (v:=.slice (some ⟨hd,o,none⟩) len m) hS ?_ (.sl own info.size len cells vs hd o m b hk hg hbz hr hm hl hcl ho hc)
   subst hn0
   simp only [q7a,Option.bind_eq_bind,h0,hu,h1,hsz,hi,hz,hn,hf,Option.bind_some]
   refine Eq.trans (if_neg hxt) ?_
   simp only [hzs',if_false]
   simp [hnl,hm]
  ·rename_i hn0
   split at h
   ·rename_i hb
    obtain ⟨b1,b2,b3,b4⟩:=hb
    cases own with
    | none=>simp at h
    | some id=>
     simp only at h
     split at h
     ·rename_i hid
      cases h
      obtain ⟨a1,a2,a3,a4⟩:=ho id rfl
      subst a3
      obtain ⟨bb,gg,w,kk⟩:=hS.own id hid
      rw [a2,hg] at gg
      cases gg
      obtain ⟨bb,gg,hlen,hvs⟩:=w6a hr
      rw [hg] at gg
      cases gg
      have hvl:vs.length=m*info.size:=by rw [← hl];exact hcl
      have hdrop:b.cells.drop o=vs:=by
       rw [hvs,List.take_of_length_le]
       simp;omega
      obtain ⟨le,sr,dr⟩:=x5d (sz:=info.size) (len:=m) (n:=n) hS hid a2 hg hdrop ⟨hl,hc⟩ hcl dl (by rw [dl.1,hnl])
      have o1f:S.set id .dead++[.own]≠S++[.own]:=fun e=>by
       have h1:=congrArg (fun l=>l[id]?) e
       have hlt:id<S.length:=(List.getElem?_eq_some_iff.1 hid).1
       rw [List.getElem?_append_left (by simpa using hlt),List.getElem?_append_left hlt,hid,List.getElem?_set_self hlt] at h1
       cases h1
      refine .other ?_ (.inl rfl) le sr dr fun _ _ _ _=>o1f
      have hcc:(nv.all Value.oneCell'=false)=False:=by rw [s2b dl b4];simp
      have hle : ¬ m+n≤m:=by omega
      simp only [q7a,Option.bind_eq_bind,h0,hu,h1,hsz,hi,hz,hn,hf,Option.bind_some]
      refine Eq.trans (if_neg hxt) ?_
      simp only [hzs',if_false]
      simp only [hnn,if_false,hle,b1,b2,b3,and_self,not_true_eq_false,hcc,or_self,Option.isSome_none,Bool.false_eq_true,hg,Option.bind_eq_bind,Option.bind_some,w,hbz,a4,Nat.zero_le,if_true]
      rfl
     ·cases h
   ·cases h
 | msl o sz len ho hlt hz=>
  simp only at h
  split at h
  ·cases h
  rename_i hszz
  have hszz:sz=info.size:=by simpa using hszz
  subst hszz
  split at h
  ·rename_i hn0
   cases h
   refine .pure (v:=.slice (some ⟨r.ψ o,0,none⟩) len len) hS ?_ (.msl o info.size len ho hlt hz)
   subst hn0
   have hzz:info.zero=some z:=by assumption
   simp only [q7a,Option.bind_eq_bind,h0,hu,h1,hsz,hi,hzz,hn,hf,Option.bind_some]
   refine Eq.trans (if_neg hxt) ?_
   simp only [hzs',if_false]
   simp [hnl]
  ·rename_i hn0
   split at h
   ·rename_i hb
    obtain ⟨b1,b2,b3,b4⟩:=hb
    split at h
    ·rename_i cells hob
     split at h
     ·rename_i hcl
      cases h
      obtain ⟨b,g,w,l,kk,dlc⟩:=hS.obj o cells hob
      have hbz:=hz b g
      have a4:0+len*info.size=b.cells.length:=by have:=dlc.1;omega
      obtain ⟨fr,le,sr,dr⟩:=x4d (sz:=info.size) (len:=len) (n:=n) hS hob g dl
      refine .other ?_ fr le sr dr fun _ _ _ e=>by cases e
      have hcc:(nv.all Value.oneCell'=false)=False:=by rw [s2b dl b4];simp
      have hle : ¬ len+n≤len:=by omega
      have hzz:info.zero=some z:=by assumption
      simp only [q7a,Option.bind_eq_bind,h0,hu,h1,hsz,hi,hzz,hn,hf,Option.bind_some]
      refine Eq.trans (if_neg hxt) ?_
      simp only [hzs',if_false]
      simp only [hnn,if_false,hle,b1,b2,b3,and_self,not_true_eq_false,hcc,or_self,Option.isSome_none,Bool.false_eq_true,g,Option.bind_eq_bind,Option.bind_some,w,hbz,a4,Nat.zero_le,if_true]
     ·cases h
    ·cases h
   ·cases h
 | _=>simp at h
end Go.DM
namespace Go.DM
open Go Go.AM
def PDL (r:Rl) (ps:List (Nat×D)) (qs:List (Nat×Value)):Prop:=ps.length=qs.length ∧ ∀ i (h:i<ps.length) (h':i<qs.length),ps[i].1=qs[i].1∧h2a r ps[i].2 qs[i].2
theorem PDL.head {r p ps q qs} (h:PDL r (p::ps) (q::qs)):p.1=q.1∧h2a r p.2 q.2:=h.2 0 (by simp) (by simp)
theorem PDL.tail {r p ps q qs} (h:PDL r (p::ps) (q::qs)):PDL r ps qs:=⟨by simpa using h.1,fun i h1 h2=>h.2 (i+1) (by simpa using h1) (by simpa using h2)⟩
theorem k0d {off:Nat} : ∀ (vs:List Value) (k:Nat) (cs:Array Value),((vs.zipIdx k).foldl (fun cs (c,j)=>cs.setIfInBounds (off+j) c) cs).toList=wr cs.toList (off+k) vs
 | [],_,_=>rfl
 | v::vs,k,cs=>by
  simp only [List.zipIdx_cons,List.foldl_cons,wr]
  rw [k0d vs (k+1)]
  simp [Nat.add_assoc]
theorem i9b {r:Rl} {place:Nat→Option (Nat×Nat)} : ∀ (ps:List (Nat×D)) (qs:List (Nat×Value)) (ds:List D) (cs:Array Value) {out:List D},PDL r ps qs→DL r ds cs.toList→l8a place ds ps=some out →
  ∃ cs',Instr.fill place cs qs=some cs'∧DL r out cs'.toList
 | [],[],ds,cs,out,_,hc,h=>by simp [l8a] at h;subst h;exact ⟨cs,rfl,hc⟩
 | [],_::_,_,_,_,h,_,_=>by simp [PDL] at h
 | _::_,[],_,_,_,h,_,_=>by simp [PDL] at h
 | (i,d)::ps,(i',v)::qs,ds,cs,out,hp,hc,h=>by
  obtain ⟨e,hv⟩:=hp.head
  simp only at e hv
  subst e
  simp only [l8a] at h
  cases hpl:place i with
  | none=>simp [hpl] at h
  | some os=>
   obtain ⟨off,size⟩:=os
   cases hcd:cellsD d with
   | none=>simp [hpl,hcd] at h
   | some xs=>
    simp only [hpl,hcd] at h
    split at h
    ·rename_i hcond
     have dv:=l4b hv hcd
     have hl1:v.cells.size=xs.length:=by have:=dv.1;simp at this;omega
     have hl2:cs.size=ds.length:=by have:=hc.1;simp at this;omega
     have hcl:DL r (wr ds off xs) ((v.cells.zipIdx.foldl (fun cs (c,j)=>cs.setIfInBounds (off+j) c) cs)).toList:=by
      rw [← Array.foldl_toList]
      have:=k0d (off:=off) v.cells.toList 0 cs
      simp only [Array.toList_zipIdx]
      rw [this]
      exact DL.wr hc dv
     obtain ⟨cs',h1,h2⟩:=i9b ps qs _ _ hp.tail hcl h
     refine ⟨cs',?_,h2⟩
     simp only [Instr.fill,hpl]
     have hc2:(v.cells.size≠size || off+v.cells.size>cs.size)=false:=by
      simp only [Bool.or_eq_false_iff,decide_eq_false_iff_not,ne_eq,Decidable.not_not,Nat.not_lt,gt_iff_lt]
      omega
     simp only [hc2,Bool.false_eq_true,if_false]
     exact h1
    ·cases h
theorem h8d {P:Program} {r:Rl} {t:TypeId} {ps:List (Nat×D)} {qs:List (Nat×Value)} (hp:PDL r ps qs) {d:D} (h:r8a P t ps=some d) : ∃ v,b4c P t qs=some v∧h2a r d v:=by
 unfold r8a at h
 unfold b4c i3a Program.built
 split at h
 ·rename_i it n e hi hu
  split at h
  ·rename_i z ie hz hie
   split at h
   ·rename_i hsc
    simp only [Option.map_eq_some_iff] at h
    obtain ⟨out,hf,rfl⟩:=h
    obtain ⟨cs',h1,h2⟩:=i9b ps qs _ z.cells hp (.g1c _) hf
    refine ⟨.agg cs',?_,.agg _ _ (by simpa using h2.1) fun i a b=>by have:=h2.2 i a (by simpa using b);rwa [Array.getElem_toList] at this⟩
    simp [hi,hz,hsc,hu,hie,h1]
   ·cases h
  ·cases h
 ·rename_i it fields hi hu
  split at h
  ·rename_i z places hz hpl
   split at h
   ·rename_i hsc
    simp only [Option.map_eq_some_iff] at h
    obtain ⟨out,hf,rfl⟩:=h
    obtain ⟨cs',h1,h2⟩:=i9b ps qs _ z.cells hp (.g1c _) hf
    refine ⟨.agg cs',?_,.agg _ _ (by simpa using h2.1) fun i a b=>by have:=h2.2 i a (by simpa using b);rwa [Array.getElem_toList] at this⟩
    have h1':Instr.fill (fun x=>places[x]?) z.cells qs=some cs':=by rw [← h1];congr 1;funext x;simp
    simp [hi,hz,hsc,hu,hpl,h1']
   ·cases h
  ·cases h
 ·cases h
theorem b2d {α:Type} {xs:List α} : ∀ (n i:Nat),i<n*xs.length→(k4b xs n)[i]?=xs[i%xs.length]?
 | 0,i,h=>by simp at h
 | n+1,i,h=>by
  simp only [k4b]
  rcases Nat.lt_or_ge i xs.length with hi | hi
  ·rw [List.getElem?_append_left hi,Nat.mod_eq_of_lt hi]
  ·rw [List.getElem?_append_right hi,b2d n (i - xs.length) (by rw [Nat.add_mul] at h;omega)]
   conv=>rhs;rw [Nat.mod_eq_sub_mod hi]
theorem z4a {α:Type} {xs:List α} : ∀ n,(k4b xs n).length=n*xs.length
 | 0=>by simp [k4b]
 | n+1=>by simp [k4b,z4a n,Nat.add_mul];omega
theorem r2d {r:Rl} {z:Value} {size n:Nat} (hs:z.cells.size=size):DL r (k4b (z.cells.toList.map ofS) n) ((Array.range (n*size)).map (z.cells[· % z.cells.size]!)).toList:=by
 have hl:(k4b (z.cells.toList.map ofS) n).length=n*size:=by rw [z4a];simp [hs]
 refine ⟨by rw [hl];simp,fun i h1 h2 => ?_⟩
 have hi:i<n*size:=by rw [← hl];exact h1
 have hp:0<size:=Nat.pos_of_ne_zero fun h=>by subst h;simp at hi
 have e:(k4b (z.cells.toList.map ofS) n)[i]?=(z.cells.toList.map ofS)[i%size]?:=by
  have:=b2d (xs:=z.cells.toList.map ofS) n i (by simpa [hs] using hi)
  simpa [hs] using this
 have hm:i%size<z.cells.size:=by rw [hs];exact Nat.mod_lt _ hp
 have e2:(k4b (z.cells.toList.map ofS) n)[i]=ofS z.cells[i%size]:=by
  have h3:=List.getElem?_eq_getElem h1
  rw [e] at h3
  simp only [List.getElem?_map,Array.getElem?_toList] at h3
  simp [hm] at h3
  exact h3.symm
 rw [e2]
 simp only [Array.toList_map,List.getElem_map,Array.toList_range,List.getElem_range,hs]
 rw [getElem!_pos z.cells _ hm]
 exact .ofS _
theorem o7b {place:Nat→Option (Nat×Nat)} : ∀ (ps:List (Nat×D)) (ds:List D) {out:List D},l8a place ds ps=some out→out.length=ds.length
 | [],ds,out,h=>by simp [l8a] at h;subst h;rfl
 | (i,d)::ps,ds,out,h=>by
  simp only [l8a] at h
  split at h
  ·split at h
   ·rw [o7b ps _ h,q4c]
   ·cases h
  ·cases h
theorem a1c {P:Program} {r:Rl} {S S':Mem} (hS:p6a r S) {t:TypeId} {len:Nat} {ps:List (Nat×D)} {qs:List (Nat×Value)} (hp:PDL r ps qs) {d:D} (h:f2a P t len ps S=some (d,S')) :
  Comes r S S' d (q8a P t len qs r.H):=by
 simp only [f2a,Option.bind_eq_bind] at h
 cases hu:P.underlying t with
 | none=>simp [hu] at h
 | some q=>
 cases q<;>(try (simp [hu] at h;done))
 case slice e=>
 simp only [hu,Option.bind_some] at h
 cases hsz:f3a P e with
 | none=>simp [hsz] at h
 | some size=>
 simp only [hsz,Option.bind_some] at h
 cases hz:i3a P e with
 | none=>simp [hz] at h
 | some z=>
 simp only [hz,Option.bind_some] at h
 split at h
 ·cases h
 rename_i hcond
 have hc:=hcond
 simp only [not_or,Nat.not_lt,ne_eq,Decidable.not_not,Bool.not_eq_false] at hc
 obtain ⟨c1,c2,c3⟩:=hc
 cases hf:l8a (fun i=>some (i*size,size)) (k4b (z.cells.toList.map ofS) len) ps with
 | none=>simp [hf] at h
 | some cells=>
 simp only [hf,Option.bind_some] at h
 split at h
 ·cases h
  obtain ⟨cs',h1,h2⟩:=i9b ps qs _ ((Array.range (len*size)).map (z.cells[· % z.cells.size]!)) hp (r2d c3) hf
  have hcl:cells.length=len*size:=by rw [o7b _ _ hf,z4a];simp [c3]
  refine .own (sz:=size) (len:=len) hS h2 hcl ?_
  simp only [q8a,Option.bind_eq_bind,hu,hsz,hz,Option.bind_some,if_neg hcond,h1]
 ·cases h
theorem g0c {P:Program} {r:Rl} {S S':Mem} (hS:p6a r S) {t:TypeId} {l c d:D} {l' c':Value} (hl:h2a r l l') (hc:h2a r c c') (h:m6b P t l c S=some (d,S')) :
  Comes r S S' d (w3a P t l' c' r.H):=by
 simp only [m6b,Option.bind_eq_bind] at h
 cases hu:P.underlying t with
 | none=>simp [hu] at h
 | some q=>
 cases q<;>(try (simp [hu] at h;done))
 case slice e=>
 simp only [hu,Option.bind_some] at h
 cases hi:P.info? e with
 | none=>simp [hi] at h
 | some info=>
 simp only [hi,Option.bind_some] at h
 cases hz:info.zero with
 | none=>simp [hz] at h
 | some z=>
 simp only [hz,Option.bind_some] at h
 cases hl<;>(try (simp at h;done))
 rename_i k1 l
 cases k1<;>(try (simp at h;done))
 cases hc<;>(try (simp at h;done))
 rename_i k2 c
 cases k2<;>(try (simp at h;done))
 simp only at h
 split at h
 ·rename_i hcond
  cases h
  have c3:=hcond.2.2.2.2.2
  have dl:=r2d (r:=r) (n:=l.toNat) c3
  refine .own (sz:=info.size) (len:=l.toNat) hS dl (by rw [z4a];simp [c3]) ?_
  simp only [w3a,Option.bind_eq_bind,hu,hi,hz,Option.bind_some,if_pos hcond]
 ·cases h
end Go.DM
namespace Go.DM
open Go Go.AM
theorem z6d {P:Program} {base:Nat} {ρ:Env} {H:Heap} {op:BinOp} {t u:TypeId} {x y:Operand} : opA P base ρ (.binOp op t x y u) H=(r0c P op t x y (d0a ρ x) (d0a ρ y)).map (·,H):=by
 simp only [opA,r0c]
 cases j9c P op t (d0a ρ x) (d0a ρ y) with
 | some v=>rfl
 | none=>
  simp only
  generalize q2b P t (d0a ρ x) (d0a ρ y)=q
  generalize eqA P op t x y (d0a ρ x) (d0a ρ y)=z
  have hz:(z.bind fun v=>if f8a v then some (v,H) else none)=(z.bind fun v=>if f8a v then some v else none).map (·,H):=by
   cases z with
   | none=>rfl
   | some v=>simp only [Option.bind_some];split<;>rfl
  cases op<;>cases q<;>first | rfl | exact hz
theorem o3d {P:Program} {r:Rl} {t:TypeId} {a b:D} {u v:Value} (ha:h2a r a u) (hb:h2a r b v) {q:Bool} (h:c1c P t a b=some q):(∀ op,j9c P op t u v=none)∧q2b P t u v=some q:=by
 unfold c1c at h
 split at h<;>(try (cases h;done))
 all_goals
  rename_i hu
  cases h
  cases ha
  cases hb
  exact ⟨fun op=>by cases op<;>rfl,by simp [q2b,hu]⟩
theorem g6e {P:Program} {r:Rl} {op:BinOp} {t:TypeId} {x y:Operand} {a b d:D} {u v:Value} (ha:h2a r a u) (hb:h2a r b v) (h:i6a P op t x y a b=some d) : ∃ w,r0c P op t x y u v=some w∧h2a r d w:=by
 unfold i6a at h
 split at h
 ·rename_i u' v' hu hv
  rw [p6c ha hu,p6c hb hv]
  simp only [Option.map_eq_some_iff] at h
  obtain ⟨w,hw,rfl⟩:=h
  exact ⟨w,hw,.ofV w⟩
 ·split at h
  ·rename_i q hq
   cases h
   obtain ⟨h1,h2⟩:=o3d ha hb hq
   exact ⟨.bool q,by simp [r0c,h1,h2],.bool q⟩
  ·rename_i q hq
   cases h
   obtain ⟨h1,h2⟩:=o3d ha hb hq
   exact ⟨.bool !q,by simp [r0c,h1,h2],.bool _⟩
  ·cases h
theorem t5d {r:Rl} : ∀ {cells:List D} {vs:List Value} {ns:List Int},DL r cells vs→x4e cells=some ns→u8s vs=some ns
 | [],[],ns,_,h=>h
 | [],_::_,_,h,_=>by simp [DL] at h
 | _::_,[],_,h,_=>by simp [DL] at h
 | c::cells,v::vs,ns,h,e=>by
  unfold x4e at e
  split at e
  ·rename_i heq;cases heq
  ·rename_i n rest heq
   cases heq
   simp only [Option.map_eq_some_iff] at e
   obtain ⟨ms,hm,rfl⟩:=e
   have h0:=h.head
   cases h0
   simp [u8s,t5d h.tail hm]
  ·cases e
theorem w0d {P:Program} {r:Rl} {S S':Mem} (hS:p6a r S) {s t:TypeId} {x d:D} {x':Value} (hx:h2a r x x') (h:k2a P s t x S=some (d,S')):Comes r S S' d (p9b P s t x' r.H):=by
 unfold k2a at h
 split at h
 ·rename_i k1 k k2 n hs ht
  cases h;cases hx
  exact .pure hS (by simp [p9b,hs,ht]) (.int _ _)
 ·rename_i a hs ht
  cases h;cases hx
  exact .pure hS (by simp [p9b,hs,ht]) (.str _)
 ·rename_i e a hs ht
  split at h
  ·rename_i he
   cases h;cases hx
   have dl:DL r (a.data.toList.map fun b=>D.int .u8 b.toNat) (a.data.toList.map fun b=>Value.int .u8 b.toNat):=⟨by simp,fun i h1 h2=>by simp only [List.getElem_map];exact .int _ _⟩
   exact .own (sz:=1) (len:=a.size) hS dl (by simp) (by simp [p9b,hs,ht,he])
  ·cases h
 ·rename_i e own sz n cells hs ht
  split at h
  ·rename_i he
   split at h
   ·rename_i h1
    subst h1
    simp only [Option.map_eq_some_iff,Prod.mk.injEq] at h
    obtain ⟨ns,hn,rfl,rfl⟩:=h
    cases hx with
    | sl _ _ _ _ vs hd o m b hk hg hz hr hm hl hcl ho hc=>
     have hvl:vs.length=n:=by rw [← hl,hcl];simp
     have hu:=t5d ⟨hl,hc⟩ hn
     rw [hvl] at hr
     refine .pure hS ?_ (.str _)
     simp only [p9b,hs,ht,he,Option.bind_eq_bind,Option.bind_some]
     split
     ·rename_i h0
      subst h0
      rw [List.eq_nil_of_length_eq_zero hvl] at hu
      simp [u8s] at hu
      subst hu
      rfl
     ·simp [hr,hu]
    | slE _ v hv=>
     simp [x4e] at hn
     subst hn
     refine .pure hS ?_ (.str _)
     rcases hv with rfl | rfl<;>simp [p9b,hs,ht,he]<;>rfl
   ·cases h
  ·cases h
 ·rename_i e hs ht
  split at h
  ·rename_i he
   cases h;cases hx
   exact .pure hS (by simp [p9b,hs,ht,he]) (.str _)
  ·cases h
 ·rename_i e hs ht
  split at h
  ·rename_i he
   cases h
   cases hx with
   | sl0 v hv=>
    refine .pure hS ?_ (.str _)
    rcases hv with rfl | rfl<;>simp [p9b,hs,ht,he]
  ·cases h
 ·cases h
theorem r4c {P:Program} {r:Rl} {S S':Mem} (hS:p6a r S) {b:Builtin} {at_:Array TypeId} {xs:List D} {vs:List Value} (hx:DL r xs vs) {d:D} (h:b8a P b at_ xs S=some (d,S')):Comes r S S' d (g1a P 0 b at_ vs r.H):=by
 unfold b8a at h
 split at h
 ·rename_i x
  obtain ⟨v,rfl⟩ : ∃ v,vs=[v]:=by have:=hx.1;match vs,this with | [v],_=>exact ⟨v,rfl⟩
  have h0:=hx.head
  split at h
  ·rename_i s hu;cases h;cases h0;exact .pure hS (by simp only [g1a,hu]) (.int _ _)
  ·rename_i e own sz n cells hu
   cases h
   cases h0 with
   | sl=>exact .pure hS (by simp only [g1a,hu]) (.int _ _)
   | slE _ v hv=>rcases hv with rfl | rfl<;>exact .pure hS (by simp only [g1a,hu]) (.int _ _)
  ·rename_i e o sz n hu;cases h;cases h0;exact .pure hS (by simp only [g1a,hu]) (.int _ _)
  ·rename_i e hu;cases h;cases h0;exact .pure hS (by simp only [g1a,hu];rfl) (.int _ _)
  ·rename_i e hu
   cases h
   cases h0 with
   | sl0 v hv=>rcases hv with rfl | rfl<;>exact .pure hS (by simp only [g1a,hu];rfl) (.int _ _)
  ·rename_i e hu;cases h;cases h0;exact .pure hS (by simp only [g1a,hu];rfl) (.int _ _)
  ·cases h
 ·rename_i s x
  obtain ⟨u,v,rfl⟩ : ∃ u v,vs=[u,v]:=by have:=hx.1;match vs,this with | [u,v],_=>exact ⟨u,v,rfl⟩
  exact c1d hS hx.head hx.tail.head h
 ·rename_i k a k' b
  obtain ⟨u,v,rfl⟩ : ∃ u v,vs=[u,v]:=by have:=hx.1;match vs,this with | [u,v],_=>exact ⟨u,v,rfl⟩
  have h0:=hx.head
  have h1:=hx.tail.head
  cases h;cases h0;cases h1
  exact .pure hS rfl (.int _ _)
 ·rename_i k a k' b
  obtain ⟨u,v,rfl⟩ : ∃ u v,vs=[u,v]:=by have:=hx.1;match vs,this with | [u,v],_=>exact ⟨u,v,rfl⟩
  have h0:=hx.head
  have h1:=hx.tail.head
  cases h;cases h0;cases h1
  exact .pure hS rfl (.int _ _)
 ·cases h
theorem v2a {r:Rl} {ρ:e1a} {ρA:Env} (h : ∀ t,h2a r (ρ t) (ρA t)) (x:Operand):h2a r (d1a ρ x) (d0a ρA x):=by
 cases x with
 | tmp t=>exact h t
 | const v=>exact .ofV v
 | global g=>exact .bot _
 | func f=>exact .fn _ _ _ _ _ rfl (fun i h=>by simp at h) rfl (fun i h=>by simp at h)
theorem l5c {r:Rl} {ρ:e1a} {ρA:Env} (h : ∀ t,h2a r (ρ t) (ρA t)) (xs:List Operand):DL r (xs.map (d1a ρ)) (xs.map (d0a ρA)):=
 ⟨by simp,fun i h1 h2=>by simp only [List.getElem_map];exact v2a h _⟩
theorem o1c {r:Rl} {ρ:e1a} {ρA:Env} (h : ∀ t,h2a r (ρ t) (ρA t)) (xs:List (Nat×Operand)):PDL r (xs.map fun (i,x)=>(i,d1a ρ x)) (xs.map fun (i,x)=>(i,d0a ρA x)):=
 ⟨by simp,fun i h1 h2=>by simp only [List.getElem_map];exact ⟨trivial,v2a h _⟩⟩
theorem w3b {r:Rl} {ρ:e1a} {ρA:Env} (h : ∀ t,h2a r (ρ t) (ρA t)) (x:Option Operand):q9c r (x.map (d1a ρ)) (x.map (d0a ρA)):=by
 cases x with
 | none=>trivial
 | some x=>exact v2a h x
theorem p5d {P:Program} {r:Rl} {S S':Mem} (hS:p6a r S) {ρ:e1a} {ρA:Env} (hρ : ∀ t,h2a r (ρ t) (ρA t)) {op:Op} {d:D} (h:opD P ρ op S=some (d,S')):Comes r S S' d (opA P 0 ρA op r.H):=by
 have ev:=v2a hρ
 unfold opD at h
 split at h
 ·rename_i x;cases h;exact .pure hS rfl (ev x)
 ·rename_i x;cases h;exact .pure hS rfl (ev x)
 ·rename_i c a b
  have hc:=ev c
  split at h
  ·rename_i t ht
   cases h
   rw [ht] at hc
   generalize hv:d0a ρA c=v at hc
   cases hc
   exact .pure hS (v:=if t then d0a ρA a else d0a ρA b) (by simp only [opA,hv]) (by cases t<;>exact ev _)
  ·cases h
 ·rename_i t
  split at h
  ·rename_i z hz
   split at h
   ·rename_i hsc
    cases h
    obtain ⟨le,sr,dr⟩:=g4c (sz:=1) hS (DL.g1c (r:=r) z.cells.toList)
    exact .other (by simp only [opA,hz,Option.bind_eq_bind,Option.bind_some,if_pos hsc];rfl) (.inl rfl) le sr dr fun _ _ _ e=>by cases e
   ·cases h
  ·cases h
 ·rename_i t x
  simp only [Option.map_eq_some_iff,Prod.mk.injEq] at h
  obtain ⟨cs,hcs,rfl,rfl⟩:=h
  obtain ⟨le,sr,dr⟩:=g4c (sz:=1) hS (l4b (ev x) hcs)
  exact .other rfl (.inl rfl) le sr dr fun _ _ _ e=>by cases e
 ·rename_i t ps
  simp only [Option.map_eq_some_iff,Prod.mk.injEq] at h
  obtain ⟨d',hd,rfl,rfl⟩:=h
  obtain ⟨v,hv,hr⟩:=h8d (o1c hρ ps.toList) hd
  exact .pure hS (by simp only [opA,hv,Option.map_some]) hr
 ·rename_i t n ps
  exact a1c hS (o1c hρ ps.toList) h
 ·rename_i t a
  simp only [Option.map_eq_some_iff,Prod.mk.injEq] at h
  obtain ⟨d',hd,rfl,rfl⟩:=h
  obtain ⟨v,hv,hr⟩:=a0d hS (ev a) hd
  exact .pure hS (by simp only [opA,hv,Option.map_some]) hr
 ·rename_i t a x
  simp only [Option.map_eq_some_iff,Prod.mk.injEq] at h
  obtain ⟨S1,hd,rfl,rfl⟩:=h
  obtain ⟨H',hv,le,sr⟩:=s7d hS (ev a) (ev x) hd
  exact .other (by simp only [opA,hv,Option.map_some]) (.inl rfl) le sr .undef fun _ _ _ e=>by cases e
 ·rename_i x
  have hx:=ev x
  split at h
  ·rename_i o off e;cases h;rw [e] at hx;generalize hv:d0a ρA x=v at hx;cases hx with | ptr _ _ ho=>exact .pure hS (by simp only [opA,hv]) (.ptr _ _ ho)
  ·rename_i c off e;cases h;rw [e] at hx;generalize hv:d0a ρA x=v at hx;cases hx with | h5a _ _ vs hh o hk hr hl hc=>exact .pure hS (by simp only [opA,hv]) (.h5a _ _ vs hh o hk hr hl hc)
  ·rename_i f a b e;cases h;rw [e] at hx;generalize hv:d0a ρA x=v at hx;cases hx with | fn _ _ _ ys ds h1 h2 h3 h4=>exact .pure hS (by simp only [opA,hv]) (.fn _ _ _ ys ds h1 h2 h3 h4)
  ·cases h
 ·rename_i op t x y u
  simp only [Option.map_eq_some_iff,Prod.mk.injEq] at h
  obtain ⟨d',hd,rfl,rfl⟩:=h
  obtain ⟨w,hw,hr⟩:=g6e (ev x) (ev y) hd
  exact .pure hS (by rw [z6d,hw];rfl) hr
 ·rename_i op t x
  have hx:=ev x
  split at h
  ·rename_i b e;cases h;rw [e] at hx;generalize hv:d0a ρA x=v at hx;cases hx;exact .pure hS (by simp only [opA,hv]) (.bool _)
  ·rename_i k n e;cases h;rw [e] at hx;generalize hv:d0a ρA x=v at hx;cases hx;exact .pure hS (by simp only [opA,hv]) (.int _ _)
  ·rename_i k n e
   rw [e] at hx
   generalize hv:d0a ρA x=v at hx
   cases hx
   obtain ⟨w,hw,h⟩:=Option.bind_eq_some_iff.1 h
   split at h
   ·rename_i hcl
    cases h
    exact .pure hS (by simp only [opA,hv,hw,Option.bind_some,if_pos hcl]) (.ofV w)
   ·cases h
  ·cases h
 ·rename_i s t x;exact w0d hS (ev x) h
 ·rename_i t x
  cases hu:P.underlying t with
  | none=>simp [hu] at h
  | some u=>
   simp only [hu] at h
   cases u<;>first | (cases h;done) | (cases h;exact .pure hS (v:=.iface t (d0a ρA x)) (by simp only [opA,hu]) (.iface _ _ _ (ev x)))
 ·rename_i f a b
  cases h
  refine .pure hS rfl (.fn _ _ _ _ _ (by simp) (fun i h1 h2 => ?_) (by simp) (fun i h1 h2 => ?_))
  ·simp only [List.getElem_map,Array.getElem_map,Array.getElem_toList];exact ev _
  ·simp only [List.getElem_map,Array.getElem_map,Array.getElem_toList];exact ev _
 ·rename_i t l c;exact g0c hS (ev l) (ev c) h
 ·rename_i t x lo hi mx
  simp only [Option.map_eq_some_iff,Prod.mk.injEq] at h
  obtain ⟨d',hd,rfl,rfl⟩:=h
  obtain ⟨v,hv,hr⟩:=r9d (ev x) (w3b hρ lo) (w3b hρ hi) (w3b hρ mx) hd
  exact .pure hS (by simp only [opA,hv,Option.map_some]) hr
 ·rename_i s x f
  simp only [Option.map_eq_some_iff,Prod.mk.injEq] at h
  obtain ⟨d',hd,rfl,rfl⟩:=h
  obtain ⟨v,hv,hr⟩:=j8d (ev x) hd
  exact .pure hS (by simp only [opA,hv,Option.map_some]) hr
 ·rename_i s x f
  simp only [Option.map_eq_some_iff,Prod.mk.injEq] at h
  obtain ⟨d',hd,rfl,rfl⟩:=h
  obtain ⟨v,hv,hr⟩:=d4d (ev x) hd
  exact .pure hS (by simp only [opA,hv,Option.map_some]) hr
 ·rename_i t x i
  simp only [Option.map_eq_some_iff,Prod.mk.injEq] at h
  obtain ⟨d',hd,rfl,rfl⟩:=h
  obtain ⟨v,hv,hr⟩:=l0d (ev x) (ev i) hd
  exact .pure hS (by simp only [opA,hv,Option.map_some]) hr
 ·rename_i t x i
  have hx:=ev x
  have hi:=ev i
  split at h
  ·rename_i s k n hu e1 e2
   rw [e1] at hx
   rw [e2] at hi
   generalize hv:d0a ρA x=v at hx
   generalize hw:d0a ρA i=w at hi
   cases hx;cases hi
   split at h
   ·rename_i h0
    simp only [Option.map_eq_some_iff,Prod.mk.injEq] at h
    obtain ⟨b,hb,rfl,rfl⟩:=h
    exact .pure hS (by simp only [opA,hu,hv,hw,if_pos h0,hb,Option.map_some]) (.int _ _)
   ·cases h
  ·cases h
 ·rename_i x i
  have hx:=ev x
  split at h
  ·rename_i vs e
   rw [e] at hx
   generalize hv:d0a ρA x=v at hx
   simp only [Option.map_eq_some_iff,Prod.mk.injEq] at h
   obtain ⟨d',hd,rfl,rfl⟩:=h
   cases hx with
   | tup _ ys h1 h2=>
    obtain ⟨hi,rfl⟩:=List.getElem?_eq_some_iff.1 hd
    exact .pure hS (v:=ys[i]'(h1▸hi)) (by simp only [opA,hv];simp [h1▸hi]) (h2 i hi _)
  ·cases h
 ·rename_i b args at_
  exact r4c hS (l5c hρ args.toList) h
 ·rename_i x st as co
  have hx:=ev x
  cases co with
  | false=>cases h
  | true=>
   simp only [Option.map_eq_some_iff,Prod.mk.injEq] at h
   obtain ⟨d',hd,rfl,rfl⟩:=h
   unfold h7d at hd
   split at hd
   ·cases hd
   ·rename_i ty hty hne
    split at hd
    ·rename_i t u e
     rw [e] at hx
     generalize hv:d0a ρA x=v at hx
     cases hx with
     | iface _ _ y hy=>
      split at hd
      ·rename_i ht
       cases hd
       refine .pure hS (v:=.tuple #[y,.bool true]) ?_ (.tup _ _ rfl fun i h h' => ?_)
       ·simp only [opA,e4c,hv]
        cases ty<;>first | (exact absurd rfl (hty _)) | simp [hne,ht]
       ·match i,h with
        | 0,_=>exact hy
        | 1,_=>exact .bool _
      ·rename_i ht
       split at hd
       ·rename_i z hz
        split at hd
        ·rename_i hcl
         cases hd
         refine .pure hS (v:=.tuple #[z,.bool false]) ?_ (.tup _ _ rfl fun i h h' => ?_)
         ·simp only [opA,e4c,hv]
          cases ty<;>first | (exact absurd rfl (hty _)) | simp [hne,ht,hz,hcl]
         ·match i,h with
          | 0,_=>exact .ofV z
          | 1,_=>exact .bool _
        ·cases hd
       ·cases hd
    ·cases hd
   ·cases hd
 ·cases h
def opM (P:Program) (ρ:e1a) (op:Op) (S:Mem) (v:D) (S':Mem):Prop:=
 opD P ρ op S=some (v,S')∨(∃ sz len cells,opD P ρ op S=some (.sl (some S.length) sz len cells,S++[.own])∧v = .msl S.length sz len∧S'=S++[.obj cells]) ∨
 ∃ sz len cells,opD P ρ op S=some (.sl (some S.length) sz len cells,S++[.own])∧(∀ i (h:i<cells.length),p2a 0 cells[i])∧v = .sl none sz len cells∧S'=S
theorem c8d {r r':Rl} {S:Mem} (hS:p6a r S) (le:r.Le r') (sr:p6a r' (S++[.own])) {own:Option Nat} {sz len:Nat} {cells:List D} {v:Value} (hl : ∀ i (h:i<cells.length),p2a 0 cells[i]) (dr:h2a r' (.sl own sz len cells) v) :
  r.Le ⟨S.length,r'.ψ,r'.k,r'.H⟩∧p6a ⟨S.length,r'.ψ,r'.k,r'.H⟩ S∧h2a ⟨S.length,r'.ψ,r'.k,r'.H⟩ (.sl none sz len cells) v:=by
 have old : ∀ {i:Nat} {x:Ob},S[i]?=some x→(S++[Ob.own])[i]?=some x:=fun h=>by
  rw [List.getElem?_append_left (List.getElem?_eq_some_iff.1 h).1];exact h
 refine ⟨⟨by rw [hS.n];exact Nat.le_refl _,le.ψ,le.len,le.k,le.sz⟩,⟨rfl,?_,?_,?_⟩,?_⟩
 ·intro o cs ho
  obtain ⟨b0,_,_,_,_,dl0⟩:=hS.obj o cs ho
  obtain ⟨b,g,w,l,kk,dl⟩:=sr.obj o cs (by
   have:=old (f7a ho)
   simp [b6a,this])
  refine ⟨b,g,w,l,kk,dl.1,fun i h1 h2 => ?_⟩
  have hlow:=(dl0.2 i h1 (dl0.1▸h1)).low
  rw [hS.n] at hlow
  exact hlow.lower (dl.2 i h1 h2)
 ·intro id hid
  exact sr.own id (old hid)
 ·intro i j hij ⟨x,hx,hxd⟩ ⟨y,hy,hyd⟩
  exact sr.inj i j hij ⟨x,old hx,hxd⟩ ⟨y,old hy,hyd⟩
 ·cases dr with
  | sl _ _ _ _ vs h o m b hk hg hz hr hm hl' hs ho hc=>
   exact .sl (r:=⟨S.length,r'.ψ,r'.k,r'.H⟩) none sz len cells vs h o m b hk hg hz hr hm hl' hs (fun id e=>by cases e) fun i h1 h2=>((hl i h1).mono (Nat.zero_le _)).lower (hc i h1 h2)
  | slE _ _ h=>exact .slE _ _ h
theorem g8c {P:Program} {r:Rl} {S S':Mem} (hS:p6a r S) {ρ:e1a} {ρA:Env} (hρ : ∀ t,h2a r (ρ t) (ρA t)) {op:Op} {d:D} (h:opM P ρ op S d S') :
  ∃ v H',opA P 0 ρA op r.H=some (v,H') ∧ ∃ r',d6c H' r'.H∧r.Le r'∧p6a r' S'∧h2a r' d v:=by
 rcases h with h | ⟨sz,len,cells,h,rfl,rfl⟩ | ⟨sz,len,cells,h,hl,rfl,rfl⟩
 ·obtain ⟨v,H',hx,k,_⟩:=p5d hS hρ h
  exact ⟨v,H',hx,k⟩
 ·obtain ⟨v,H',hx,_,k⟩:=p5d hS hρ h
  exact ⟨v,H',hx,k sz len cells rfl rfl⟩
 ·obtain ⟨v,H',hx,⟨r',hf,le,sr,dr⟩,_⟩:=p5d hS hρ h
  obtain ⟨a,b,c⟩:=c8d hS le sr hl dr
  exact ⟨v,H',hx,⟨S'.length,r'.ψ,r'.k,r'.H⟩,hf,a,b,c⟩
theorem d6c.step {φ:Nat→AM.Place} {H H':Heap} {w:World} (h:d6c H H') (hs:Sim φ H w):Step 0 φ H w φ H' w:=by
 rcases h with rfl | ⟨h,b,hg,hp,rfl⟩
 ·exact .refl hs
 ·exact p3c hs hg hp
theorem d6c.len {H H':Heap} (h:d6c H H'):H'.length=H.length:=by
 rcases h with rfl | ⟨h,b,hg,hp,rfl⟩
 ·rfl
 ·rw [c7a,m2a]
end Go.DM
namespace Go.DM
open Go Go.AM
inductive x9e where
 | ops (sz:Nat) (ops:Array Oper) (l:List Nat) (ρ:e1a)
 | code (sz:Nat) (c:Code) (ρ:e1a)
 | call (f:FuncId) (args:List D)
 | late (sz:Nat) (ops:Array Oper) (l:List Nat) (ρ:e1a) (p:Option (Tmp×Value))
 | o6b (sz:Nat) (c:Code) (ρ:e1a)
inductive n8e where
 | env (ρ:e1a)
 | exit (e:h6a) (ρ:e1a)
 | val (d:D)
 | pan (d:D) (ρ:e1a)
 | t7b (e:h6a) (ρ:e1a) (g:FuncId) (vs:List D)
def PAN:Nat:=1000000000
def a9b:Nat:=1000000000
def e8b (e:h6a) (v:Value):Exit:=
 match e with
 | .normal=>.normal
 | .ret=>.ret
 | .exit id=>if id=PAN then .panic [{ v,recovered:=false }] else .exit id
def Wk (n:Nat) (d d':D):Prop := ∀ (r:Rl) (v:Value),n≤r.n→h2a r d v→h2a ⟨n,r.ψ,r.k,r.H⟩ d' v
def Wf (d d':D):Prop := ∀ (r:Rl) (v:Value),h2a r d v→h2a r d' v
theorem p2a.rename {m n:Nat} {d:D} (h:p2a m d) (hmn:m≤n) : ∀ {r:Rl} {v:Value} {ψ':Nat→Nat} {k':Nat→Bool},(∀ i,i<m→ψ' i=r.ψ i)→(∀ h,r.k h=true→k' h=true)→h2a r d v→h2a ⟨n,ψ',k',r.H⟩ d v:=by
 induction h with
 | bool b=>intro r v ψ' k' _ _ h;cases h;exact .bool b
 | int k x=>intro r v ψ' k' _ _ h;cases h;exact .int k x
 | str s=>intro r v ψ' k' _ _ h;cases h;exact .str s
 | d9b=>intro r v ψ' k' _ _ h;cases h;exact .d9b
 | ptr o off ho=>
  intro r v ψ' k' hp _ h
  cases h
  have:=h2a.ptr (r:=⟨n,ψ',k',r.H⟩) o off (Nat.lt_of_lt_of_le ho hmn)
  rw [show (Rl.mk n ψ' k' r.H).ψ o=r.ψ o from hp o ho] at this
  exact this
 | h5a cells off _ ih=>
  intro r v ψ' k' hp hk' h
  cases h with | h5a _ _ vs h o hk hr hl hc=>exact .h5a (r:=⟨n,ψ',k',r.H⟩) cells off vs h o (hk' _ hk) hr hl fun i h1 h2=>ih i h1 hp hk' (hc i h1 h2)
 | c5a=>intro r v ψ' k' _ _ h;cases h;exact .c5a
 | sl0=>intro r v ψ' k' _ _ h;cases h with | sl0 _ h=>exact .sl0 _ h
 | slx=>intro r v ψ' k' _ _ h;cases h with | slx a m=>exact .slx a m
 | sl own sz len cells ho _ ih=>
  intro r v ψ' k' hp hk' h
  cases h with
  | sl _ _ _ _ vs h o m b hk hg hz hr hm hl hs ho' hc=>
   exact .sl (r:=⟨n,ψ',k',r.H⟩) own sz len cells vs h o m b (hk' _ hk) hg hz hr hm hl hs (fun id e=>⟨Nat.lt_of_lt_of_le (ho id e) hmn,(hp id (ho id e)).trans (ho' id e).2.1,(ho' id e).2.2⟩) fun i h1 h2=>ih i h1 hp hk' (hc i h1 h2)
  | slE _ _ h=>exact .slE _ _ h
 | msl o sz len ho=>
  intro r v ψ' k' hp _ h
  cases h with
  | msl _ _ _ ho' hlt hz=>
   have e:(Rl.mk n ψ' k' r.H).ψ o=r.ψ o:=hp o ho
   have:=h2a.msl (r:=⟨n,ψ',k',r.H⟩) o sz len (Nat.lt_of_lt_of_le ho hmn) (by rw [e];exact hlt) (by rw [e];exact hz)
   rw [e] at this
   exact this
 | fn f xs cs _ _ i1 i2=>intro r v ψ' k' hp hk' h;cases h with | fn _ _ _ ys ds h1 h2 h3 h4=>exact .fn f xs cs ys ds h1 (fun i a b=>i1 i a hp hk' (h2 i a b)) h3 fun i a b=>i2 i a hp hk' (h4 i a b)
 | p1b=>intro r v ψ' k' _ _ h;cases h;exact .p1b
 | iface t d _ ih=>intro r v ψ' k' hp hk' h;cases h with | iface _ _ v h=>exact .iface t d v (ih hp hk' h)
 | u9a=>intro r v ψ' k' _ _ h;cases h;exact .u9a
 | agg xs _ ih=>intro r v ψ' k' hp hk' h;cases h with | agg _ ys h1 h2=>exact .agg xs ys h1 fun i a b=>ih i a hp hk' (h2 i a b)
 | tup xs _ ih=>intro r v ψ' k' hp hk' h;cases h with | tup _ ys h1 h2=>exact .tup xs ys h1 fun i a b=>ih i a hp hk' (h2 i a b)
 | bot=>intro r v ψ' k' _ _ h;exact .bot v
def o0d (n:Nat) (S:Mem):Prop := ∀ o cells,o<n→b6a S o=some cells → ∀ c∈cells,Wk n c c
abbrev c3a:=FuncId→List D→Mem→D→Mem→Prop
def Wz (S:Mem) (F:List Nat) (ι:Nat→Nat) (n:Nat) (d d':D):Prop := ∀ (r:Rl) (v:Value),p6a r S→h2a r d v→h2a ⟨n,fun i=>r.ψ (ι i),fun h=>r.k h || F.any (fun o=>r.ψ o==h),r.H⟩ d' v
inductive i8a (P:Program) (orc:c3a):Nat→x9e→Mem→n8e→Mem→Prop
 | w4b {m sz ops ρ S} : i8a P orc m (.ops sz ops [] ρ) S (.env ρ) S
 | z0a {m sz ops i l ρ S out S' o g b} (ho:ops[i]?=some o) (hg:o.guard=some g) (hy:m6a ops ρ g.1=some b) (hw:(b==some g.2)=false) (hd:i9a sz o.dst)
   (h:i8a P orc m (.ops sz ops l (m3a ρ o.dst j1a)) S out S'):i8a P orc m (.ops sz ops (i::l) ρ) S out S'
 | w5b {m sz ops i l ρ S S1 v out S' o} (ho:ops[i]?=some o) (hw:Region.wanted o (e9a ops ρ)=true) (hd:i9a sz o.dst)
   (hc:o.op.operands.toList.all b5a=true) (hop:opM P ρ o.op S v S1)
   (h:i8a P orc m (.ops sz ops l (m3a ρ o.dst v)) S1 out S'):i8a P orc m (.ops sz ops (i::l) ρ) S out S'
 | y9a {m sz ops i l ρ S S1 v out S' o f args fn} (ho:ops[i]?=some o) (hw:Region.wanted o (e9a ops ρ)=true) (hd:i9a sz o.dst)
   (hc : o.op.operands.toList.all b5a = true) (ht : h0a ρ o.op = some (f, args)) (hf : P.funcs[f]? = some fn) (hn : fn.name ≠ "runtime.NumGoroutine") (hb : fn.body.isNone = false)
   (hcall:i8a P orc 0 (.call f args) S (.val v) S1) (h:i8a P orc m (.ops sz ops l (m3a ρ o.dst v)) S1 out S'):i8a P orc m (.ops sz ops (i::l) ρ) S out S'
 | m3d {m sz ops ρ S} : i8a P orc m (.late sz ops [] ρ none) S (.env ρ) S
 | z4c {m sz ops i l ρ p S out S' o g b} (ho:ops[i]?=some o) (hp : ∀ t z,p=some (t,z)→o.dst≠some t) (hg:o.guard=some g) (hy:m6a ops ρ g.1=some b) (hw:(b==some g.2)=false) (hd:i9a sz o.dst)
   (h:i8a P orc m (.late sz ops l (m3a ρ o.dst j1a) p) S out S'):i8a P orc m (.late sz ops (i::l) ρ p) S out S'
 | e2e {m sz ops i l ρ p S S1 v out S' o} (ho:ops[i]?=some o) (hp : ∀ t z,p=some (t,z)→o.dst≠some t) (hw:Region.wanted o (e9a ops ρ)=true) (hd:i9a sz o.dst)
   (hc:o.op.operands.toList.all b5a=true) (hop:opM P ρ o.op S v S1)
   (h:i8a P orc m (.late sz ops l (m3a ρ o.dst v) p) S1 out S'):i8a P orc m (.late sz ops (i::l) ρ p) S out S'
 | z2c {m sz ops i l ρ p S S1 v out S' o f args fn} (ho:ops[i]?=some o) (hp : ∀ t z,p=some (t,z)→o.dst≠some t) (hw:Region.wanted o (e9a ops ρ)=true) (hd:i9a sz o.dst)
   (hc : o.op.operands.toList.all b5a = true) (ht : h0a ρ o.op = some (f, args)) (hf : P.funcs[f]? = some fn) (hn : fn.name ≠ "runtime.NumGoroutine") (hb : fn.body.isNone = false)
   (hcall:i8a P orc 0 (.call f args) S (.val v) S1) (h:i8a P orc m (.late sz ops l (m3a ρ o.dst v) p) S1 out S'):i8a P orc m (.late sz ops (i::l) ρ p) S out S'
 | m6c {m sz ops i l ρ S out S' o ty t z} (ho:ops[i]?=some o) (hop:o.op = .alloc ty) (hdst:o.dst=some t) (hg:o.guard=none) (hd:i9a sz o.dst) (hz:i3a P ty=some z) (hs:z.cells.all b3a=true)
   (h:i8a P orc m (.late sz ops l (r6a ρ t .bot) (some (t,z))) S out S'):i8a P orc m (.late sz ops (i::l) ρ none) S out S'
 | z3c {m sz ops l ρ S out S' t z} (h:i8a P orc m (.late sz ops l (r6a ρ t (.ptr S.length 0)) none) (S++[.obj (z.cells.toList.map ofS)]) out S'):i8a P orc m (.late sz ops l ρ (some (t,z))) S out S'
 | regionF {m sz id ops ρ ρ1 S S1} (hm:P.follows .mixedOrders=true) (h : ∀ t,i8a P orc m (.late sz ops (Region.linearise .any ops t) ρ none) S (.env ρ1) S1):i8a P orc m (.code sz (.region id ops true) ρ) S (.exit .normal ρ1) S1
 | a7d {m sz ops i l ρ ρ' S o x} (ho:ops[i]?=some o) (hw:Region.wanted o (e9a ops ρ)=true) (hop:o.op = .panic x) (hk:b5a x=true) (hx : ∃ t v,d1a ρ x = .iface t v) (hρ : ∀ t,Wf (ρ t) (ρ' t)) :
   i8a P orc m (.ops sz ops (i::l) ρ) S (.pan (d1a ρ x) ρ') S
 | m9b {m sz ops i l ρ ρ' ρ1 S S1 d o f args fn} (ho:ops[i]?=some o) (hw:Region.wanted o (e9a ops ρ)=true)
   (hc : o.op.operands.toList.all b5a = true) (ht : h0a ρ o.op = some (f, args)) (hf : P.funcs[f]? = some fn) (hn : fn.name ≠ "runtime.NumGoroutine") (hb : fn.body.isNone = false)
   (hcall:i8a P orc 0 (.call f args) S (.pan d ρ1) S1) (hρ : ∀ t,Wf (ρ t) (ρ' t)):i8a P orc m (.ops sz ops (i::l) ρ) S (.pan d ρ') S1
 | q9d {m sz id ops ρ ρ1 d S S1} (h:i8a P orc m (.ops sz ops (List.range ops.size) ρ) S (.pan d ρ1) S1):i8a P orc m (.code sz (.region id ops false) ρ) S (.exit (.exit PAN) (r6a ρ1 a9b d)) S1
 | b1d {m sz id ops ρ ρ1 d S S1} (hm:P.follows .mixedOrders=true) (h : ∀ t,i8a P orc m (.ops sz ops (Region.linearise .any ops t) ρ) S (.pan d ρ1) S1):i8a P orc m (.code sz (.region id ops true) ρ) S (.exit (.exit PAN) (r6a ρ1 a9b d)) S1
 | p6e {m f args fn c ρ S S'} (hf:P.funcs[f]?=some fn) (hb:fn.body=some c) (ha:args.length≤fn.ntmps)
   (h:i8a P orc S.length (.code fn.ntmps c (r1a args)) S (.exit (.exit PAN) ρ) S'):i8a P orc m (.call f args) S (.pan (ρ a9b) fun _=>.bot) S'
 | q8e {m sz id o1 o2 c x ρ v S S1 g first captured} (hg1:o1.guard=none) (hd1:i9a sz o1.dst) (hc1:o1.op.operands.toList.all b5a=true) (hop1:opM P ρ o1.op S v S1)
   (hop:o2.op = .defer c) (hc:c.callee = .value x) (hca:c.args = #[]) (hk:b5a x=true) (hg:o2.guard=none) (hd:o2.dst=none) (hx:d1a (m3a ρ o1.dst v) x = .fn (.func g) first captured) :
   i8a P orc m (.o6b sz (.region id #[o1,o2] false) ρ) S (.t7b .normal (m3a ρ o1.dst v) g (first++captured)) S1
 | i5d {m sz c d ρ ρ1 ρ2 S S1 S2 e g vs} (h1:i8a P orc m (.o6b sz c ρ) S (.t7b .normal ρ1 g vs) S1) (h2:i8a P orc S1.length (.code sz d ρ1) S1 (.exit e ρ2) S2):i8a P orc m (.o6b sz (.seq c d) ρ) S (.t7b e ρ2 g vs) S2
 | s4c {m sz c d ρ ρ1 S S1 e g vs} (h1:i8a P orc m (.o6b sz c ρ) S (.t7b e ρ1 g vs) S1) (he:e ≠ .normal):i8a P orc m (.o6b sz (.seq c d) ρ) S (.t7b e ρ1 g vs) S1
 | i6d {m sz c d ρ ρ1 ρ2 S S1 S2 e g vs} (h1:i8a P orc m (.code sz c ρ) S (.exit .normal ρ1) S1) (h2:i8a P orc m (.o6b sz d ρ1) S1 (.t7b e ρ2 g vs) S2):i8a P orc m (.o6b sz (.seq c d) ρ) S (.t7b e ρ2 g vs) S2
 | p7e {m f args fn c e ρ S S1 g vs gn id t0 ty pos after C e2 ρ2 S2 v} (hf:P.funcs[f]?=some fn) (hb:fn.body=some c) (ha:args.length≤fn.ntmps)
   (h:i8a P orc S.length (.o6b fn.ntmps c (r1a args)) S (.t7b e ρ g vs) S1) (he:e = .normal∨e = .ret∨e = .exit PAN)
   (hgf : P.funcs[g]? = some gn) (hgb : gn.body = some (.seq (.region id #[⟨some t0, .call ⟨.builtin .recover, #[], #[]⟩, ty, pos, after, none⟩] false) C)) (hgn : gn.name ≠ "runtime.NumGoroutine") (hga : vs.length ≤ gn.ntmps) (ht0 : t0 < gn.ntmps)
   (hC:i8a P orc S1.length (.code gn.ntmps C (r6a (r1a vs) t0 (match e with | .exit _=>ρ a9b | _=>.u9a))) S1 (.exit e2 ρ2) S2) (he2:e2 = .normal∨e2 = .ret) (hgr:gn.results = #[])
   (hv:g9a P fn (r6a ρ a9b .bot) S2=some v):i8a P orc m (.call f args) S (.val v) S2
 | skip {m sz ρ S} : i8a P orc m (.code sz .skip ρ) S (.exit .normal ρ) S
 | label {m sz ρ S l} : i8a P orc m (.code sz (.label l) ρ) S (.exit .normal ρ) S
 | exit {m sz ρ S id} (hi:id≠PAN):i8a P orc m (.code sz (.exit id) ρ) S (.exit (.exit id) ρ) S
 | ret {m sz ρ S} : i8a P orc m (.code sz .ret ρ) S (.exit .ret ρ) S
 | z3e {m sz c d ρ ρ1 S S1 out S'} (h1:i8a P orc m (.code sz c ρ) S (.exit .normal ρ1) S1) (h2:i8a P orc m (.code sz d ρ1) S1 out S'):i8a P orc m (.code sz (.seq c d) ρ) S out S'
 | n5e {m sz c d ρ ρ1 S S1 e} (h1:i8a P orc m (.code sz c ρ) S (.exit e ρ1) S1) (he:e ≠ .normal):i8a P orc m (.code sz (.seq c d) ρ) S (.exit e ρ1) S1
 | cond {m sz c x y ρ S out S' t} (hk:b5a c=true) (hc:d1a ρ c = .bool t) (h:i8a P orc m (.code sz (if t then x else y) ρ) S out S'):i8a P orc m (.code sz (.cond c x y) ρ) S out S'
 | x6c {m sz id c ρ ρ1 S S1} (h:i8a P orc m (.code sz c ρ) S (.exit .normal ρ1) S1):i8a P orc m (.code sz (.block id c) ρ) S (.exit .normal ρ1) S1
 | x7c {m sz id c ρ ρ1 S S1} (hi:id≠PAN) (h:i8a P orc m (.code sz c ρ) S (.exit (.exit id) ρ1) S1):i8a P orc m (.code sz (.block id c) ρ) S (.exit .normal ρ1) S1
 | b3c {m sz id c ρ ρ1 S S1 e} (h:i8a P orc m (.code sz c ρ) S (.exit e ρ1) S1) (h1:e ≠ .normal) (h2:e ≠ .exit id):i8a P orc m (.code sz (.block id c) ρ) S (.exit e ρ1) S1
 | z0d {m sz c ρ ρ1 S S1 out S'} (h1:i8a P orc m (.code sz c ρ) S (.exit .normal ρ1) S1) (h2:i8a P orc m (.code sz (.loop c) ρ1) S1 out S'):i8a P orc m (.code sz (.loop c) ρ) S out S'
 | d9d {m sz c ρ ρ1 S S1 e} (h1:i8a P orc m (.code sz c ρ) S (.exit e ρ1) S1) (he:e ≠ .normal):i8a P orc m (.code sz (.loop c) ρ) S (.exit e ρ1) S1
 | region {m sz id ops ρ ρ1 S S1} (h:i8a P orc m (.ops sz ops (List.range ops.size) ρ) S (.env ρ1) S1):i8a P orc m (.code sz (.region id ops false) ρ) S (.exit .normal ρ1) S1
 | n2b {m sz id ops ρ ρ1 S S1} (hm:P.follows .mixedOrders=true) (h : ∀ t,i8a P orc m (.ops sz ops (Region.linearise .any ops t) ρ) S (.env ρ1) S1):i8a P orc m (.code sz (.region id ops true) ρ) S (.exit .normal ρ1) S1
 | trim {m sz c ρ ρ' S n out S'} (hm:m≤n) (hn:n≤S.length) (hw : ∀ t,Wk n (ρ t) (ρ' t)) (hl:o0d n S) (h:i8a P orc m (.code sz c ρ') (S.take n) out S'):i8a P orc m (.code sz c ρ) S out S'
 | gc {m sz c ρ ρ' S S2 out S'} (F:List Nat) (ι:Nat→Nat) (hl:m≤S2.length) (hι : ∀ i,i<m→ι i=i)
   (hinj : ∀ i j,i<S2.length→j<S2.length→ι i=ι j→i=j) (hF : ∀ o∈F,∃ cells,b6a S o=some cells) (hdis : ∀ i cells,b6a S2 i=some cells→ι i∉F)
   (j1e : ∀ i cells,b6a S2 i=some cells → ∃ c,b6a S (ι i)=some c∧c.length=cells.length ∧ ∀ j (h:j<c.length) (h':j<cells.length),Wz S F ι S2.length c[j] cells[j])
   (hown : ∀ i:Nat,S2[i]?=some .own→S[ι i]?=some .own) (hw : ∀ t,Wz S F ι S2.length (ρ t) (ρ' t)) (h:i8a P orc m (.code sz c ρ') S2 out S'):i8a P orc m (.code sz c ρ) S out S'
 | forget {m sz c ρ ρ' S out S'} (hw : ∀ t,Wf (ρ t) (ρ' t)) (h:i8a P orc m (.code sz c ρ') S out S'):i8a P orc m (.code sz c ρ) S out S'
 | call {m f args fn c e ρ S S' v} (hf:P.funcs[f]?=some fn) (hb:fn.body=some c) (ha:args.length≤fn.ntmps)
   (h:i8a P orc S.length (.code fn.ntmps c (r1a args)) S (.exit e ρ) S') (he:e = .normal∨e = .ret) (hv:g9a P fn ρ S'=some v):i8a P orc m (.call f args) S (.val v) S'
 | weak {m f args args' S S1 v} (h:i8a P orc m (.call f args') S (.val v) S1) (hl:args.length=args'.length) (hw : ∀ i (h:i<args.length) (h':i<args'.length),Wf args[i] args'[i]):i8a P orc m (.call f args) S (.val v) S1
 | either {m f args args1 args2 S S1 v} (h1:i8a P orc m (.call f args1) S (.val v) S1) (h2:i8a P orc m (.call f args2) S (.val v) S1) (hc : ∀ r vs,DL r args vs→DL r args1 vs∨DL r args2 vs):i8a P orc m (.call f args) S (.val v) S1
 | orc {m f args S v S'} (h:orc f args S v S'):i8a P orc m (.call f args) S (.val v) S'
 | frame {m f S S1 args us d v} (h1 : ∀ r vs,DL r args vs→vs=us) (h2 : ∀ r,DL r args us) (h3 : ∀ u∈us,f8a u=true) (h4 : ∀ r u,h2a r d u→u=v) (h5 : ∀ r,h2a r d v) (h6:f8a v=true)
   (h:i8a P orc 0 (.call f args) [] (.val d) S1):i8a P orc m (.call f args) S (.val d) S
 | drop {m f args S S1 d d'} (h:i8a P orc 0 (.call f args) S (.val d) S1) (hl:S.length≤S1.length) (hw:Wk S.length d d') (ho : ∀ o cells,o<S.length→b6a S1 o=some cells→b6a S o=some cells ∨ ∀ c∈cells,p2a S.length c):i8a P orc m (.call f args) S (.val d') (S1.take S.length)
 | keep {m f args S S1 S2 d d'} (F:List Nat) (ι:Nat→Nat) (h:i8a P orc 0 (.call f args) S (.val d) S1) (hl:S.length≤S2.length) (hι : ∀ i,i<S.length→ι i=i)
   (hinj : ∀ i j,i<S2.length→j<S2.length→ι i=ι j→i=j) (hF : ∀ o∈F,∃ cells,b6a S1 o=some cells) (hdis : ∀ i,i<S2.length→ι i∉F)
   (j1e : ∀ i cells,b6a S2 i=some cells→(i<S.length∧b6a S i=some cells∧b6a S1 i=some cells) ∨ ∃ c,b6a S1 (ι i)=some c∧c.length=cells.length ∧ ∀ j (h:j<c.length) (h':j<cells.length),Wz S1 F ι S2.length c[j] cells[j])
   (hown : ∀ i:Nat,S2[i]?=some .own→S1[ι i]?=some .own) (hv:Wz S1 F ι S2.length d d'):i8a P orc m (.call f args) S (.val d') S2
def l2a (r:Rl) (ρ:e1a) (ρA:Env):Prop := ∀ t,h2a r (ρ t) (ρA t)
theorem l2a.put {r ρ ρA} (h:l2a r ρ ρA) {d:D} {v:Value} (hv:h2a r d v) (dst:Option Tmp):l2a r (m3a ρ dst d) (put ρA dst v):=by
 intro t
 cases dst with
 | none=>exact h t
 | some u=>
  simp only [m3a,r6a,AM.put,AM.upd]
  split
  ·exact hv
  ·exact h t
theorem l2a.mono {r r':Rl} (l:r.Le r') {ρ ρA} (h:l2a r ρ ρA):l2a r' ρ ρA:=fun t=>(h t).mono l
def t9b (e:h6a) (r:Rl) (ρ:e1a) (ρA:Env):Prop := ∀ t,(e = .exit PAN→t≠a9b)→h2a r (ρ t) (ρA t)
theorem l2a.any {r ρ ρA} (h:l2a r ρ ρA) (e:h6a):t9b e r ρ ρA:=fun t _=>h t
theorem t9b.get {e r ρ ρA} (h:t9b e r ρ ρA) (he:e ≠ .exit PAN):l2a r ρ ρA:=fun t=>h t fun h=>absurd h he
structure m7a (n:Nat) (φ:Nat→AM.Place) (sz:Nat) (ρ:Env) (ds:List Deferred) (a:Act):Prop where
 e:q8c n φ sz ρ ⟨a.tmps,[]⟩
 ds:a.defers=ds
theorem m7a.eval {n φ sz ρ ds a} (h:m7a n φ sz ρ ds a) {x:Operand} (hx:b5a x=true):h3a n φ (d0a ρ x) (a.eval x):=by
 cases x with
 | tmp t=>exact h.e.vals t
 | const v=>exact .closed hx
 | global g=>exact .glob g
 | func f=>exact .func _ _ _ _ _ rfl (fun i h=>by simp at h) rfl (fun i h=>by simp at h)
theorem h9b (a:Act):(⟨a.tmps,[]⟩:Act).eval=a.eval:=by
 funext x
 cases x<;>rfl
theorem m7a.put {n φ sz ρ ds a} (h:m7a n φ sz ρ ds a) {d:Option Tmp} (hd:i9a sz d) {v v'} (hv:h3a n φ v v'):m7a n φ sz (put ρ d v) ds (a.put d v'):=by
 have:=h.e.put hd hv
 cases d with
 | none=>exact ⟨this,h.ds⟩
 | some t=>exact ⟨this,h.ds⟩
theorem m7a.mono {n n' φ φ' sz ρ ds a} (h:m7a n φ sz ρ ds a) (hn:n≤n') (hk : ∀ i,i<n→φ' i=φ i):m7a n' φ' sz ρ ds a:=⟨h.e.mono hn hk,h.ds⟩
theorem m7a.wanted {n φ sz ρ ds a} (he:m7a n φ sz ρ ds a) (ops:Array Oper) (o:Oper):Region.wanted o (yielded ops a.tmps)=Region.wanted o (f5a ops ρ):=t8d he.e ops o
theorem m7a.args {n φ sz ρ ds a} (he:m7a n φ sz ρ ds a) {args:Array Operand} (hc:args.toList.all b5a=true):j5a n φ (args.toList.map (d0a ρ)) (args.map a.eval).toList:=by
 have:=x4c he.e hc
 rwa [h9b] at this
structure LeF (m:Nat) (r r':Rl):Prop where
 n:m≤r'.n
 ψ : ∀ i,i<m→r'.ψ i=r.ψ i
 len:r.H.length≤r'.H.length
 k : ∀ h b,r.k h=true→hget r.H h=some b→r'.k h=true ∧ ∃ b',hget r'.H h=some b'∧b'.cells=b.cells∧b'.sz=b.sz
 sz : ∀ h b',h<r.H.length→hget r'.H h=some b' → ∃ b,hget r.H h=some b∧b'.sz=b.sz
theorem LeF.refl {m:Nat} {r:Rl} (h:m≤r.n):LeF m r r:=⟨h,fun _ _=>rfl,Nat.le_refl _,fun _ b h g=>⟨h,b,g,rfl,rfl⟩,fun _ b _ g=>⟨b,g,rfl⟩⟩
theorem LeF.trans {m:Nat} {a b c:Rl} (x:LeF m a b) (y:LeF m b c):LeF m a c:=
 ⟨y.n,fun i h=>(y.ψ i h).trans (x.ψ i h),Nat.le_trans x.len y.len,fun h q hk hg=>by
  obtain ⟨k1,b1,g1,e1,z1⟩:=x.k h q hk hg
  obtain ⟨k2,b2,g2,e2,z2⟩:=y.k h b1 k1 g1
  exact ⟨k2,b2,g2,e2.trans e1,z2.trans z1⟩,fun h q hh hg=>by
  obtain ⟨b1,g1,z1⟩:=y.sz h q (Nat.lt_of_lt_of_le hh x.len) hg
  obtain ⟨b2,g2,z2⟩:=x.sz h b1 hh g1
  exact ⟨b2,g2,z1.trans z2⟩⟩
theorem LeF.of {m:Nat} {r r':Rl} (l:r.Le r') (h:m≤r.n):LeF m r r':=⟨Nat.le_trans h l.n,fun i hi=>l.ψ i (Nat.lt_of_lt_of_le hi h),l.len,l.k,l.sz⟩
theorem LeF.le {r r':Rl} (l:LeF r.n r r'):r.Le r':=⟨l.n,l.ψ,l.len,l.k,l.sz⟩
abbrev Beside:=(Nat→AM.Place)→Heap→World→Prop
def Kept (A:Beside):Prop:=(∀ φ H w φ' H' w',A φ H w→Step 0 φ H w φ' H' w'→A φ' H' w') ∧ ∀ φ H w,A φ H w→A φ [] w
def o4e (A:Beside) (φ:Nat→AM.Place) (H:Heap) (w:World):Prop:=Sim φ H w∧A φ H w
def a8b (P:Program) (A:Beside) (orc:c3a):Prop:=
 ∀ f args S v S',orc f args S v S' → ∀ r φ w,p6a r S→o4e A φ r.H w → ∀ vs args',DL r args vs→j5a r.H.length φ vs args'.toList →
  Calls P f args' w fun e w' => ∃ r' u v' φ',e = .returned v'∧r.Le r'∧p6a r' S'∧Step 0 φ r.H w φ' r'.H w'∧h2a r' v u∧h3a r'.H.length φ' u v'
abbrev t7a:=FuncId→List D→D→Prop
def v9e (o:t7a):c3a:=fun f args S v S'=>S'=S∧o f args v
def t8a (P:Program) (A:Beside) (orc:t7a):Prop:=
 ∀ f args v,orc f args v → ∀ r φ w,o4e A φ r.H w → ∀ vs args',DL r args vs→j5a r.H.length φ vs args'.toList →
  Calls P f args' w fun e w' => ∃ r' u v' φ',e = .returned v'∧r.Le r'∧(∀ S,p6a r S→p6a r' S)∧Step 0 φ r.H w φ' r'.H w'∧h2a r' v u∧h3a r'.H.length φ' u v'
theorem v4c {P:Program} {A:Beside} {o:t7a} (h:t8a P A o):a8b P A (v9e o):=by
 rintro f args S v S' ⟨rfl,hv⟩ r φ w hS hs vs args' dl ll
 exact (h f args v hv r φ w hs vs args' dl ll).mono fun e w' ⟨r',u,v',φ',h1,h2,h3,h4⟩=>⟨r',u,v',φ',h1,h2,h3 _ hS,h4⟩
def m8e (φ:Nat→AM.Place) (H:Heap) (w:World) (B:Nat) (z:Value):Prop:=(∀ h b,hget H h=some b→(φ h).B≠B) ∧ ∃ e,w.heap[B]?=some (.cells z.cells e (0,0))
theorem m8e.step {φ H w φ' H' w' B z} (hp:m8e φ H w B z) (s:Step 0 φ H w φ' H' w'):m8e φ' H' w' B z:=by
 obtain ⟨h1,e,h2⟩:=hp
 have hB:B<w.heap.size:=(Array.getElem?_eq_some_iff.1 h2).1
 refine ⟨fun h b hg => ?_,e,by rw [s.frame B hB fun h b _ hg _=>h1 h b hg];exact h2⟩
 rcases Nat.lt_or_ge h H.length with hlt | hge
 ·obtain ⟨b0,hg0,_⟩:=s.old h b hlt hg
  rw [s.keep h hlt]
  exact h1 h b0 hg0
 ·rcases s.fresh h b hge hg with hl | ⟨h0,b0,hg0,e0⟩
  ·omega
  ·rw [← e0]
   exact h1 h0 b0 hg0
def Waits (φ:Nat→AM.Place) (H:Heap) (w:World) (w0:World) (ρA:Env) (p:Option (Tmp×Value)):Prop:=
 ∀ t z,p=some (t,z)→z.cells.all b3a=true ∧ ∃ B,w0.heap.size≤B∧m8e φ H w B z∧ρA t = .map (some B)
def f5e (P:Program) (A:Beside) (m:Nat) (j:x9e) (S:Mem) (out:n8e) (S':Mem):Prop:=
 ∀ r φ w,p6a r S→o4e A φ r.H w →
  match j,out with
  | .ops sz ops l ρ,.env ρ'=>m≤r.n → ∀ ρA a ds,l2a r ρ ρA→m7a r.H.length φ sz ρA ds a → ∀ Q:Exit→Act→World→Prop,
    (∀ r' φ' ρA' a' w',LeF m r r'→p6a r' S'→Step 0 φ r.H w φ' r'.H w'→l2a r' ρ' ρA'→m7a r'.H.length φ' sz ρA' ds a'→Q .normal a' w')→wpOps P ops Q l a w
  | .late sz ops l ρ p,.env ρ'=>m≤r.n → ∀ φ0 H0 w0,o4e A φ0 H0 w0→Step 0 φ0 H0 w0 φ r.H w → ∀ ρA a ds,Waits φ r.H w w0 ρA p→l2a r ρ ρA→m7a r.H.length φ sz ρA ds a → ∀ Q:Exit→Act→World→Prop,
    (∀ r' φ' ρA' a' w',LeF m r r'→p6a r' S'→Step 0 φ0 H0 w0 φ' r'.H w'→l2a r' ρ' ρA'→m7a r'.H.length φ' sz ρA' ds a'→Q .normal a' w')→wpOps P ops Q l a w
  | .code sz c ρ,.exit e ρ'=>m≤r.n → ∀ ρA a ds,l2a r ρ ρA→m7a r.H.length φ sz ρA ds a → ∀ Q:Exit→Act→World→Prop,
    (∀ r' φ' ρA' a' w' x,LeF m r r'→p6a r' S'→Step 0 φ r.H w φ' r'.H w'→t9b e r' ρ' ρA'→m7a r'.H.length φ' sz ρA' ds a'→(e = .exit PAN → ∃ u,h2a r' (ρ' a9b) u∧h3a r'.H.length φ' u x)→Q (e8b e x) a' w')→wpL P c Q a w
  | .ops sz ops l ρ,.pan d ρ'=>m≤r.n → ∀ ρA a ds,l2a r ρ ρA→m7a r.H.length φ sz ρA ds a → ∀ Q:Exit→Act→World→Prop,
    (∀ r' φ' a' w' u x,LeF m r r'→p6a r' S'→Step 0 φ r.H w φ' r'.H w'→(∃ ρA',l2a r' ρ' ρA'∧m7a r'.H.length φ' sz ρA' ds a')→h2a r' d u→h3a r'.H.length φ' u x→Q (.panic [{ v:=x,recovered:=false }]) a' w')→wpOps P ops Q l a w
  | .o6b sz c ρ,.t7b e ρ' g vs=>m≤r.n → ∀ ρA a,l2a r ρ ρA→m7a r.H.length φ sz ρA [] a → ∀ Q:Exit→Act→World→Prop,
    (∀ r' φ' ρA' a' w' x args cap us,LeF m r r'→p6a r' S'→Step 0 φ r.H w φ' r'.H w'→t9b e r' ρ' ρA'→m7a r'.H.length φ' sz ρA' [⟨.fn (.func g) cap,args⟩] a'→DL r' vs us→j5a r'.H.length φ' us (args++cap).toList →
     (e = .exit PAN → ∃ u,h2a r' (ρ' a9b) u∧h3a r'.H.length φ' u x)→Q (e8b e x) a' w')→wpL P c Q a w
  | .call f args,.val d => ∀ vs args',DL r args vs→j5a r.H.length φ vs args'.toList → ∀ R:Ending→World→Prop,
    (∀ r' u v' φ' w',r.Le r'→p6a r' S'→Step 0 φ r.H w φ' r'.H w'→h2a r' d u→h3a r'.H.length φ' u v'→R (.returned v') w')→Calls P f args' w R
  | .call f args,.pan d _ => ∀ vs args',DL r args vs→j5a r.H.length φ vs args'.toList → ∀ R:Ending→World→Prop,
    (∀ r' u v' φ' w',r.Le r'→p6a r' S'→Step 0 φ r.H w φ' r'.H w'→h2a r' d u→h3a r'.H.length φ' u v'→R (.panicked [{ v:=v',recovered:=false }]) w')→Calls P f args' w R
  | _,_=>True
theorem w9c {r ρ ρA} (he:l2a r ρ ρA) (ops:Array Oper) (j:Nat) {b:Bool} (h:e9a ops ρ j=some b):f5a ops ρA j=some b:=by
 unfold e9a at h
 unfold f5a
 split at h
 ·rename_i t ht
  have:=he t
  split at h
  ·rename_i c hc
   cases h
   rw [hc] at this
   generalize hv:ρA t=v at this
   cases this
   simp only [ht,hv]
  ·cases h
 ·cases h
theorem p5a {r ρ ρA} (he:l2a r ρ ρA) {ops:Array Oper} {o:Oper} (h:Region.wanted o (e9a ops ρ)=true):Region.wanted o (f5a ops ρA)=true:=by
 unfold Region.wanted at h ⊢
 split at h
 ·rename_i hg;simp
 ·rename_i g want hg
  have:e9a ops ρ g=some want:=by simpa using h
  rw [w9c he ops g this]
  simp
theorem f8d {r ρ ρA} (he:l2a r ρ ρA) (ops:Array Oper) (j:Nat) {b:Option Bool} (h:m6a ops ρ j=some b):f5a ops ρA j=b:=by
 unfold m6a at h
 unfold f5a
 split at h
 ·rename_i t ht
  have:=he t
  split at h
  ·rename_i c hc
   cases h
   rw [hc] at this
   generalize hv:ρA t=v at this
   cases this
   simp only [ht,hv]
  ·rename_i hc
   cases h
   rw [hc] at this
   generalize hv:ρA t=v at this
   cases this
   simp only [ht,hv]
  ·cases h
 ·cases h
theorem c2b {r ρ ρA} (he:l2a r ρ ρA) {ops:Array Oper} {o:Oper} {g:Nat×Bool} {b:Option Bool} (hg:o.guard=some g) (hy:m6a ops ρ g.1=some b) (hb:(b==some g.2)=false):Region.wanted o (f5a ops ρA)=false:=by
 obtain ⟨g,want⟩:=g
 unfold Region.wanted
 rw [hg]
 simp only
 rw [f8d he ops g hy]
 exact hb
theorem d6b {r ρ ρA} (he:l2a r ρ ρA) {op:Op} {f:FuncId} {args:List D} (h:h0a ρ op=some (f,args)) : ∃ vs,l4a ρA op=some (f,vs)∧DL r args vs:=by
 unfold h0a at h
 split at h
 ·rename_i fo p8b ato
  have hf:=v2a he fo
  split at h
  ·rename_i g first captured hg
   cases h
   rw [hg] at hf
   generalize hv:d0a ρA fo=v at hf
   cases hf with
   | fn _ _ _ ys ds h1 h2 h3 h4=>
    refine ⟨_,by simp only [l4a,hv];rfl,?_⟩
    have a1:DL r first ys.toList:=⟨by simpa using h1,fun i a b=>by have:=h2 i a (by simpa using b);rwa [← Array.getElem_toList] at this⟩
    have a2:DL r captured ds.toList:=⟨by simpa using h3,fun i a b=>by have:=h4 i a (by simpa using b);rwa [← Array.getElem_toList] at this⟩
    exact (a1.append (l5c he p8b.toList)).append a2
  ·cases h
 ·cases h
theorem p6a.take {r:Rl} {S:Mem} (hS:p6a r S) {n:Nat} (hn:n≤S.length) (hl:o0d n S):p6a ⟨n,r.ψ,r.k,r.H⟩ (S.take n):=by
 have hget : ∀ {i:Nat} {x:Ob},(S.take n)[i]?=some x→i<n∧S[i]?=some x:=by
  intro i x h
  rw [List.getElem?_take] at h
  split at h
  ·exact ⟨by assumption,h⟩
  ·cases h
 refine ⟨by simp [Nat.min_eq_left hn],?_,?_,?_⟩
 ·intro o cells ho
  obtain ⟨h1,h2⟩:=hget (f7a ho)
  have h3:b6a S o=some cells:=by simp [b6a,h2]
  obtain ⟨b,g,w,l,kk,dl⟩:=hS.obj o cells h3
  refine ⟨b,g,w,l,kk,dl.1,fun i a c => ?_⟩
  exact hl o cells h1 h3 _ (List.getElem_mem _) r _ (by rw [hS.n];exact hn) (dl.2 i a c)
 ·intro id hid
  obtain ⟨h1,h2⟩:=hget hid
  exact hS.own id h2
 ·intro i j hij ⟨x,hx,hxd⟩ ⟨y,hy,hyd⟩
  exact hS.inj i j hij ⟨x,(hget hx).2,hxd⟩ ⟨y,(hget hy).2,hyd⟩
end Go.DM
namespace Go.DM
open Go Go.AM
theorem c7c {P:Program} {r:Rl} {S:Mem} (hS:p6a r S) {ρ ρA} (he:l2a r ρ ρA) {x:ResultVar} {d:D} (h:resultD P ρ S x=some d) : ∃ v,b6b P ρA r.H x=some v∧h2a r d v:=by
 cases x with
 | tmp t=>simp only [resultD,Option.some.injEq] at h;subst h;exact ⟨_,rfl,he t⟩
 | cell a t=>exact a0d hS (he a) h
theorem x0b {P:Program} {r:Rl} {S:Mem} (hS:p6a r S) {ρ ρA} (he:l2a r ρ ρA) : ∀ {xs:List ResultVar} {ds:List D},t3a P ρ S xs=some ds → ∃ vs,xs.mapM (b6b P ρA r.H)=some vs∧DL r ds vs
 | [],ds,h=>by simp [t3a] at h;subst h;exact ⟨[],by simp,.nil⟩
 | x::xs,ds,h=>by
  simp only [t3a] at h
  split at h
  ·rename_i d ds' hd hds
   cases h
   obtain ⟨v,hv,dv⟩:=c7c hS he hd
   obtain ⟨vs,hvs,dvs⟩:=x0b hS he hds
   exact ⟨v::vs,by simp [List.mapM_cons,hv,hvs],.cons dv dvs⟩
  ·cases h
theorem x1b {P:Program} {r:Rl} {S:Mem} (hS:p6a r S) {ρ ρA} (he:l2a r ρ ρA) {fn:Func} {d:D} (h:g9a P fn ρ S=some d) : ∃ v,d2b P fn ρA r.H=some v∧h2a r d v:=by
 unfold g9a at h
 unfold d2b
 split at h
 ·rename_i x hx
  obtain ⟨v,hv,dv⟩:=c7c hS he h
  exact ⟨v,by rw [hx];exact hv,dv⟩
 ·rename_i rs hne
  simp only [Option.map_eq_some_iff] at h
  obtain ⟨ds,hds,rfl⟩:=h
  obtain ⟨vs,hvs,dvs⟩:=x0b hS he hds
  refine ⟨.tuple vs.toArray,?_,.tup _ _ (by simpa using dvs.1) fun i a b=>by simp only [List.getElem_toArray];exact dvs.2 i a (by simpa using b)⟩
  split
  ·rename_i x hx;exact absurd hx (hne x)
  ·simp [hvs]
theorem y5a {r:Rl} {args:List D} {vs:List Value} (h:DL r args vs):l2a r (r1a args) (o2a vs):=by
 intro t
 simp only [r1a,o2a,List.getD_eq_getElem?_getD]
 rcases Nat.lt_or_ge t args.length with ht | ht
 ·have ht':t<vs.length:=h.1▸ht
  simp only [List.getElem?_eq_getElem ht,List.getElem?_eq_getElem ht',Option.getD_some]
  exact h.2 t ht ht'
 ·rw [List.getElem?_eq_none ht,List.getElem?_eq_none (h.1▸ht)]
  exact .undef
theorem Waits.step {φ H w φ' H' w' w0 ρA p} (hq:Waits φ H w w0 ρA p) (s:Step 0 φ H w φ' H' w') {dst:Option Tmp} {u:Value} (hp : ∀ t z,p=some (t,z)→dst≠some t):Waits φ' H' w' w0 (put ρA dst u) p:=fun t z e=>by
 obtain ⟨h1,B,h2,h3,h4⟩:=hq t z e
 refine ⟨h1,B,h2,h3.step s,?_⟩
 have:=hp t z e
 cases dst with
 | none=>exact h4
 | some d=>
  have hne:t≠d:=fun q=>this (q▸rfl)
  simp only [AM.put,AM.upd,hne,if_false]
  exact h4
theorem Waits.put {φ H w w0 ρA p} (hq:Waits φ H w w0 ρA p) {dst:Option Tmp} {u:Value} (hp : ∀ t z,p=some (t,z)→dst≠some t):Waits φ H w w0 (put ρA dst u) p:=fun t z e=>by
 obtain ⟨h1,B,h2,h3,h4⟩:=hq t z e
 refine ⟨h1,B,h2,h3,?_⟩
 have:=hp t z e
 cases dst with
 | none=>exact h4
 | some d=>
  have hne:t≠d:=fun q=>this (q▸rfl)
  simp only [AM.put,AM.upd,hne,if_false]
  exact h4
theorem m7a.swap {n φ sz ρ ds a t v} (h:m7a n φ sz ρ ds a) (hv : ∀ x,h3a n φ (ρ t) x→h3a n φ v x):m7a n φ sz (upd ρ t v) ds a:=by
 refine ⟨⟨h.e.size,fun u => ?_,rfl⟩,h.ds⟩
 simp only [upd]
 split
 ·rename_i e
  subst e
  exact hv _ (h.e.vals _)
 ·exact h.e.vals u
theorem s6d {φ H w} (hs:Sim φ H w) {cs:Array Value} {e:TypeId} : Step 0 φ H w φ H (w.alloc (.cells cs e)):=by
 have hold : ∀ b,b<w.heap.size→(w.alloc (.cells cs e)).heap[b]?=w.heap[b]?:=fun b hb=>by
  show (w.heap.push _)[b]?=_
  rw [Array.getElem?_push_lt hb];simp [hb]
 refine ⟨Nat.le_refl _,fun _ _=>rfl,by show w.heap.size≤(w.heap.push _).size;simp,rfl,rfl,rfl,fun b hb _=>hold b hb,fun h b' _ hg=>⟨b',hg,id⟩,fun h b hb hg hr=>.inr ⟨h,b,hb,hg,hr,rfl⟩,t0a rfl,?_,hs.apart,hs.par,hs.z2a⟩
 intro h b hg
 obtain ⟨c,e,fr,hB,g⟩:=hs.cov h b hg
 exact ⟨c,e,fr,by rw [hold _ (Array.getElem?_eq_some_iff.1 hB).1];exact hB,g⟩
theorem f5d {φ0 H0 w0 φ H w B} {z:Value} (s:Step 0 φ0 H0 w0 φ H w) (hB:w0.heap.size≤B) (hp:m8e φ H w B z) (hz:z.cells.all b3a=true) :
  Step 0 φ0 H0 w0 (u0b φ H.length ⟨B,0,z.cells.size,1⟩) (s5a H z.cells.toList 1) w:=by
 obtain ⟨hne,e,hw⟩:=hp
 have hs:=s.sim
 have hk : ∀ h,h<H.length→u0b φ H.length ⟨B,0,z.cells.size,1⟩ h=φ h:=fun h hh=>f1c hh
 have hlen:(s5a H z.cells.toList 1).length=H.length+1:=by simp [s5a,p8a]
 have split : ∀ h b',hget (s5a H z.cells.toList 1) h=some b'→(h<H.length∧hget H h=some b')∨(h=H.length∧b'=⟨z.cells.toList,1,true,0,[]⟩):=by
  intro h b' hg
  have hlt:=e7a hg
  rw [hlen] at hlt
  rcases Nat.lt_or_ge h H.length with h1 | h1
  ·rw [s5a,p8a,g5a h1] at hg
   exact .inl ⟨h1,hg⟩
  ·obtain rfl:h=H.length:=by omega
   rw [s5a,p8a,n1a] at hg
   cases hg
   exact .inr ⟨rfl,rfl⟩
 refine ⟨by rw [hlen];exact Nat.le_succ_of_le s.len,fun h hh=>(hk h (Nat.lt_of_lt_of_le hh s.len)).trans (s.keep h hh),s.size,s.os,s.tape,s.output,s.frame,?_,?_,?_,?_,?_,?_,?_⟩
 ·intro h b' hh hg
  rcases split h b' hg with ⟨_,hg⟩ | ⟨rfl,_⟩
  ·exact s.old h b' hh hg
  ·exact absurd s.len (by omega)
 ·intro h b' hb hg hr
  rcases split h b' hg with ⟨h1,hg⟩ | ⟨rfl,_⟩
  ·rw [hk h h1];exact s.later h b' hb hg hr
  ·rw [i2a];exact .inl hB
 ·intro h b' hh hg
  rcases split h b' hg with ⟨h1,hg⟩ | ⟨rfl,_⟩
  ·rw [hk h h1];exact s.fresh h b' hh hg
  ·rw [i2a];exact .inl hB
 ·intro h b hg
  rw [hlen]
  rcases split h b hg with ⟨h1,hg⟩ | ⟨rfl,rfl⟩
  ·obtain ⟨c,e',fr',hB',k1,k2,k3,k4,k5,k6⟩:=hs.cov h b hg
   rw [hk h h1]
   refine ⟨c,e',fr',hB',k1,k2,k3,fun i v hv => ?_,k5,k6⟩
   obtain ⟨v',hv',hr⟩:=k4 i v hv
   exact ⟨v',hv',hr.mono (by omega) hk⟩
  ·rw [i2a]
   refine ⟨z.cells,e,(0,0),hw,by simp,Nat.le_refl _,rfl,fun i v hv => ?_,fun _=>⟨fun i _ _ hi=>(by simp at hi),fun h=>absurd rfl h⟩,Nat.zero_le _⟩
   have hv2:z.cells[i]?=some v:=by simpa using hv
   refine ⟨v,by simpa using hv2,.scalar ?_⟩
   obtain ⟨hi,rfl⟩:=Array.getElem?_eq_some_iff.1 hv2
   rw [Array.all_eq_true] at hz
   exact hz i hi
 ·intro h h' b b' hn hg hg' hr
  rcases split h b hg with ⟨h1,hg⟩ | ⟨rfl,rfl⟩
  ·rw [hk h h1]
   rcases split h' b' hg' with ⟨h2,hg'⟩ | ⟨rfl,rfl⟩
   ·rw [hk h' h2]
    exact hs.apart h h' b b' hn hg hg' hr
   ·rw [i2a]
    exact .inl (hne h b hg)
  ·rcases split h' b' hg' with ⟨h2,hg'⟩ | ⟨rfl,rfl⟩
   ·rw [hk h' h2,i2a]
    exact .inl (Ne.symm (hne h' b' hg'))
   ·exact absurd rfl hn
 ·intro h b p b' hg hp hg'
  rcases split h b hg with ⟨h1,hg⟩ | ⟨rfl,rfl⟩
  ·have hp1:=hs.z2a h b p hg hp
   rcases split p b' hg' with ⟨h2,hg'⟩ | ⟨rfl,rfl⟩
   ·exact hs.par h b p b' hg hp hg'
   ·omega
  ·cases hp
 ·intro h b p hg hp
  rw [hlen]
  rcases split h b hg with ⟨h1,hg⟩ | ⟨rfl,rfl⟩
  ·have:=hs.z2a h b p hg hp
   omega
  ·cases hp
theorem g0b {e:h6a} {x:Value} {n:Act→World→Prop} {Q:Exit→Act→World→Prop} {a:Act} {w:World} (h:e ≠ .normal) (q:Q (e8b e x) a w):Exit.then n Q (e8b e x) a w:=by
 cases e with
 | normal=>exact absurd rfl h
 | ret=>exact q
 | exit id=>
  unfold e8b at q ⊢
  dsimp only at q ⊢
  split
  ·rename_i h1;rw [if_pos h1] at q;exact q
  ·rename_i h1;rw [if_neg h1] at q;exact q
theorem l6c {e:h6a} {x:Value} {id:Nat} {Q:Exit→Act→World→Prop} {a:Act} {w:World} (h:e ≠ .exit id) (q:Q (e8b e x) a w):Exit.inBlock id Q (e8b e x) a w:=by
 cases e with
 | normal=>exact q
 | ret=>exact q
 | exit id' =>
  have hne:id'≠id:=fun he=>h (by rw [he])
  unfold e8b at q ⊢
  dsimp only at q ⊢
  split
  ·rename_i h1;rw [if_pos h1] at q;exact q
  ·rename_i h1;rw [if_neg h1] at q;simp only [Exit.inBlock,hne,if_false];exact q
theorem i8a.sound {P:Program} {A:Beside} (hA:Kept A) {orc:c3a} (n8f:a8b P A orc) {m:Nat} {j:x9e} {S:Mem} {out:n8e} {S':Mem} (h:i8a P orc m j S out S'):f5e P A m j S out S':=by
 induction h with
 | w4b=>intro r φ w hS hs hm ρA a ds hr he Q hq;exact hq r φ ρA a w (.refl hm) hS (.refl hs.1) hr he
 | @z0a m sz ops i l ρ S out S' o g b ho hg hy hw hd h ih=>
  intro r φ w hS hs
  cases out with
  | env ρ' =>
   intro hm ρA a ds hr he Q hq
   simp only [wpOps,ho]
   rw [he.wanted,c2b hr hg hy hw]
   simp only [Bool.false_eq_true,if_false]
   exact ih r φ w hS hs hm _ _ _ (hr.put .undef o.dst) (he.put hd .undef) Q hq
  | pan d ρ' =>
   intro hm ρA a ds hr he Q hq
   simp only [wpOps,ho]
   rw [he.wanted,c2b hr hg hy hw]
   simp only [Bool.false_eq_true,if_false]
   exact ih r φ w hS hs hm _ _ _ (hr.put .undef o.dst) (he.put hd .undef) Q hq
  | _=>trivial
 | @w5b m sz ops i l ρ S S1 v out S' o ho hw hd hc hop h ih=>
  intro r φ w hS hs
  cases out with
  | env ρ' =>
   intro hm ρA a ds hr he Q hq
   simp only [wpOps,ho]
   rw [he.wanted,p5a hr hw]
   simp only [if_true]
   left
   obtain ⟨u,H1,j2e,r1,hfr,le,sr,dr⟩:=g8c hS hr hop
   obtain ⟨v',w1,φ1,rr,hrun,hrr,hst,hv⟩:=j9b hs.1 he.e hc j2e
   rw [h9b] at hrun
   have hst:=hst.trans (hfr.step hst.sim)
   rw [← hfr.len] at hv
   have he1:m7a r1.H.length φ1 sz (put ρA o.dst u) ds (a.put o.dst v'):=(he.mono hst.len hst.keep).put hd hv
   have hih:=ih r1 φ1 w1 sr ⟨hst.sim,hA.1 _ _ _ _ _ _ hs.2 hst⟩ (Nat.le_trans hm le.n) _ _ _ ((hr.mono le).put dr o.dst) he1 Q (fun r' φ' ρA' a' w' lf sr' hst' hr' he'=>hq r' φ' ρA' a' w' ((LeF.of le hm).trans lf) sr' (hst.trans hst') hr' he')
   unfold Oper.wp
   rw [hrun]
   rcases hrr with rfl | ⟨rfl,rfl⟩
   ·exact hih
   ·exact hih
  | pan d ρ' =>
   intro hm ρA a ds hr he Q hq
   simp only [wpOps,ho]
   rw [he.wanted,p5a hr hw]
   simp only [if_true]
   left
   obtain ⟨u,H1,j2e,r1,hfr,le,sr,dr⟩:=g8c hS hr hop
   obtain ⟨v',w1,φ1,rr,hrun,hrr,hst,hv⟩:=j9b hs.1 he.e hc j2e
   rw [h9b] at hrun
   have hst:=hst.trans (hfr.step hst.sim)
   rw [← hfr.len] at hv
   have he1:m7a r1.H.length φ1 sz (put ρA o.dst u) ds (a.put o.dst v'):=(he.mono hst.len hst.keep).put hd hv
   have hih:=ih r1 φ1 w1 sr ⟨hst.sim,hA.1 _ _ _ _ _ _ hs.2 hst⟩ (Nat.le_trans hm le.n) _ _ _ ((hr.mono le).put dr o.dst) he1 Q (fun r' φ' a' w' u' x lf sr' hst' he' hd' hv'=>hq r' φ' a' w' u' x ((LeF.of le hm).trans lf) sr' (hst.trans hst') he' hd' hv')
   unfold Oper.wp
   rw [hrun]
   rcases hrr with rfl | ⟨rfl,rfl⟩
   ·exact hih
   ·exact hih
  | _=>trivial
 | @y9a m sz ops i l ρ S S1 v out S' o f args fn ho hw hd hc ht hf hn hb hcall h ihc ih=>
  intro r φ w hS hs
  cases out with
  | env ρ' =>
   intro hm ρA a ds hr he Q hq
   simp only [wpOps,ho]
   rw [he.wanted,p5a hr hw]
   simp only [if_true]
   left
   obtain ⟨vs,htA,dvs⟩:=d6b hr ht
   unfold l4a at htA
   unfold Oper.wp execOp
   split at htA
   ·rename_i fo p8b ato hop
    rw [hop] at hc
    simp only [hop]
    have hall:=List.all_eq_true.1 hc
    have hfo:=he.eval (hall fo (by simp [Op.operands,Call.operands]))
    split at htA
    ·rename_i g first captured hg
     simp only [Option.some.injEq,Prod.mk.injEq] at htA
     obtain ⟨rfl,rfl⟩:=htA
     rw [hg] at hfo
     generalize hfe:a.eval fo=f' at hfo
     cases hfo with
     | func _ xs ys cs ds h1 h2 h3 h4=>
      have hargs:=he.args (args:=p8b) (List.all_eq_true.2 fun y hy=>hall y (by simp [Op.operands,Call.operands];simp at hy;exact .inr hy))
      have hrun:(do let d ← resolve a.eval { callee:=.value fo,args:=p8b,argTypes:=ato } o.type;invoke d.target d.args:Sem Next).run P w = .ok (.enter g (ys++p8b.map a.eval++ds)) w:=by
       have hb':fn.body≠none:=by intro h;simp [h] at hb
       simp [resolve,hfe,Deferred.ofValue,invoke,callFunc,hf,hn,hb']
      rw [hrun]
      have hl:j5a r.H.length φ (first.toList++p8b.toList.map (d0a ρA)++captured.toList) (ys++p8b.map a.eval++ds).toList:=by
       simp only [Array.toList_append]
       exact ((j5a.o6a h1 h2).append hargs).append (j5a.o6a h3 h4)
      refine ihc r φ w hS hs _ _ dvs hl _ (fun r1 u v' φ1 w1 le sr hst dr hv => ?_)
      exact ih r1 φ1 w1 sr ⟨hst.sim,hA.1 _ _ _ _ _ _ hs.2 hst⟩ (Nat.le_trans hm le.n) _ _ _ ((hr.mono le).put dr o.dst) ((he.mono hst.len hst.keep).put hd hv) Q (fun r' φ' ρA' a' w' lf sr' hst' hr' he'=>hq r' φ' ρA' a' w' ((LeF.of le hm).trans lf) sr' (hst.trans hst') hr' he')
    ·cases htA
   ·cases htA
  | pan d ρ' =>
   intro hm ρA a ds hr he Q hq
   simp only [wpOps,ho]
   rw [he.wanted,p5a hr hw]
   simp only [if_true]
   left
   obtain ⟨vs,htA,dvs⟩:=d6b hr ht
   unfold l4a at htA
   unfold Oper.wp execOp
   split at htA
   ·rename_i fo p8b ato hop
    rw [hop] at hc
    simp only [hop]
    have hall:=List.all_eq_true.1 hc
    have hfo:=he.eval (hall fo (by simp [Op.operands,Call.operands]))
    split at htA
    ·rename_i g first captured hg
     simp only [Option.some.injEq,Prod.mk.injEq] at htA
     obtain ⟨rfl,rfl⟩:=htA
     rw [hg] at hfo
     generalize hfe:a.eval fo=f' at hfo
     cases hfo with
     | func _ xs ys cs ds h1 h2 h3 h4=>
      have hargs:=he.args (args:=p8b) (List.all_eq_true.2 fun y hy=>hall y (by simp [Op.operands,Call.operands];simp at hy;exact .inr hy))
      have hrun:(do let d ← resolve a.eval { callee:=.value fo,args:=p8b,argTypes:=ato } o.type;invoke d.target d.args:Sem Next).run P w = .ok (.enter g (ys++p8b.map a.eval++ds)) w:=by
       have hb':fn.body≠none:=by intro h;simp [h] at hb
       simp [resolve,hfe,Deferred.ofValue,invoke,callFunc,hf,hn,hb']
      rw [hrun]
      have hl:j5a r.H.length φ (first.toList++p8b.toList.map (d0a ρA)++captured.toList) (ys++p8b.map a.eval++ds).toList:=by
       simp only [Array.toList_append]
       exact ((j5a.o6a h1 h2).append hargs).append (j5a.o6a h3 h4)
      refine ihc r φ w hS hs _ _ dvs hl _ (fun r1 u v' φ1 w1 le sr hst dr hv => ?_)
      exact ih r1 φ1 w1 sr ⟨hst.sim,hA.1 _ _ _ _ _ _ hs.2 hst⟩ (Nat.le_trans hm le.n) _ _ _ ((hr.mono le).put dr o.dst) ((he.mono hst.len hst.keep).put hd hv) Q (fun r' φ' a' w' u' x lf sr' hst' he' hd' hv'=>hq r' φ' a' w' u' x ((LeF.of le hm).trans lf) sr' (hst.trans hst') he' hd' hv')
    ·cases htA
   ·cases htA
  | _=>trivial
 | @a7d m sz ops i l ρ ρ' S o x ho hw hop hk hx hρ=>
  intro r φ w hS hs hm ρA a ds hr he Q hq
  simp only [wpOps,ho]
  rw [he.wanted,p5a hr hw]
  simp only [if_true]
  left
  obtain ⟨t,d,hxd⟩:=hx
  have hxr:=v2a hr x
  have hxv:=he.eval hk
  have k0f:=hxr
  have f9f:=hxv
  rw [hxd] at hxr
  generalize hu:d0a ρA x=u at hxr k0f hxv f9f
  cases hxr with
  | iface _ _ u1 h1=>
   generalize hy:a.eval x=y at hxv f9f
   cases hxv with
   | iface _ _ y1 h2=>
    unfold Oper.wp
    have hrun : ∀ ev:Operand→Value,ev x = .iface t y1→(execOp ev o).run P w = .halt (.panic (.iface t y1)) w:=by
     intro ev hev
     unfold execOp
     rw [hop]
     simp [Instr.panic,hev,goPanic,go_sem]
    rw [hrun a.eval hy]
    exact hq r φ a w _ _ (.refl hm) hS (.refl hs.1) ⟨ρA,fun t=>hρ t r _ (hr t),he⟩ k0f f9f
 | @m9b m sz ops i l ρ ρ' ρ1 S S1 d o f args fn ho hw hc ht hf hn hb hcall hρ ihc=>
  intro r φ w hS hs hm ρA a ds hr he Q hq
  simp only [wpOps,ho]
  rw [he.wanted,p5a hr hw]
  simp only [if_true]
  left
  obtain ⟨vs,htA,dvs⟩:=d6b hr ht
  unfold l4a at htA
  unfold Oper.wp execOp
  split at htA
  ·rename_i fo p8b ato hop
   rw [hop] at hc
   simp only [hop]
   have hall:=List.all_eq_true.1 hc
   have hfo:=he.eval (hall fo (by simp [Op.operands,Call.operands]))
   split at htA
   ·rename_i g first captured hg
    simp only [Option.some.injEq,Prod.mk.injEq] at htA
    obtain ⟨rfl,rfl⟩:=htA
    rw [hg] at hfo
    generalize hfe:a.eval fo=f' at hfo
    cases hfo with
    | func _ xs ys cs ds h1 h2 h3 h4=>
     have hargs:=he.args (args:=p8b) (List.all_eq_true.2 fun y hy=>hall y (by simp [Op.operands,Call.operands];simp at hy;exact .inr hy))
     have hrun:(do let d ← resolve a.eval { callee:=.value fo,args:=p8b,argTypes:=ato } o.type;invoke d.target d.args:Sem Next).run P w = .ok (.enter g (ys++p8b.map a.eval++ds)) w:=by
      have hb':fn.body≠none:=by intro h;simp [h] at hb
      simp [resolve,hfe,Deferred.ofValue,invoke,callFunc,hf,hn,hb']
     rw [hrun]
     have hl:j5a r.H.length φ (first.toList++p8b.toList.map (d0a ρA)++captured.toList) (ys++p8b.map a.eval++ds).toList:=by
      simp only [Array.toList_append]
      exact ((j5a.o6a h1 h2).append hargs).append (j5a.o6a h3 h4)
     refine ihc r φ w hS hs _ _ dvs hl _ (fun r1 u v' φ1 w1 le sr hst dr hv => ?_)
     exact hq r1 φ1 a w1 u v' (LeF.of le hm) sr hst ⟨ρA,fun t=>hρ t r1 _ ((hr t).mono le),he.mono hst.len hst.keep⟩ dr hv
   ·cases htA
  ·cases htA
 | @q9d m sz id ops ρ ρ1 d S S1 h ih=>
  intro r φ w hS hs hm ρA a ds hr he Q hq
  exact wp_region (ih r φ w hS hs hm ρA a ds hr he Q (fun r' φ' a' w' u x lf sr hst he' hd hv=>by
   obtain ⟨ρA',hr',he'⟩:=he'
   exact hq r' φ' ρA' a' w' x lf sr hst (fun t ht=>by simpa [r6a,ht rfl] using hr' t) he' (fun _=>⟨u,by simpa [r6a] using hd,hv⟩)))
 | @b1d m sz id ops ρ ρ1 d S S1 hmx h ih=>
  intro r φ w hS hs hm ρA a ds hr he Q hq
  have hd:Step 0 φ r.H w φ r.H { w with drawn:=w.drawn+1 } := .draw hs.1 rfl rfl rfl rfl
  refine wp_region_draw fun t => ?_
  simp only [Region.schedule,hmx,Bool.true_or,if_true]
  exact ih t r φ { w with drawn:=w.drawn+1 } hS ⟨hd.sim,hA.1 _ _ _ _ _ _ hs.2 hd⟩ hm ρA a ds hr he Q fun r' φ' a' w' u x lf sr hst he' hdr hv=>by
   obtain ⟨ρA',hr',he'⟩:=he'
   exact hq r' φ' ρA' a' w' x lf sr (hd.trans hst) (fun t ht=>by simpa [r6a,ht rfl] using hr' t) he' (fun _=>⟨u,by simpa [r6a] using hdr,hv⟩)
 | @p6e m f args fn c ρ S S' hf hb ha h ih=>
  intro r φ w hS hs vs args' dvs hargs R hR
  have hie:m7a _ _ _ _ [] ⟨_,[]⟩:=⟨r1b hargs (by rw [← dvs.1];exact ha),rfl⟩
  refine calls_of_wp hf hb (wpL.wp (ih r φ w hS hs (by rw [hS.n];exact Nat.le_refl _) _ _ _ (y5a dvs) hie _ fun r1 φ1 ρA1 a1 w1 x1 lf sr hst hr1 he1 hp1 => ?_))
  obtain ⟨u,hu,hv⟩:=hp1 rfl
  have le:r.Le r1:=by rw [← hS.n] at lf;exact lf.le
  exact ⟨he1.ds,hR r1 u x1 φ1 w1 le sr hst hu hv⟩
 | m3d=>intro r φ w hS hs hm φ0 H0 w0 hs0 st ρA a ds hq0 hr he Q hq;exact hq r φ ρA a w (.refl hm) hS st hr he
 | @z4c m sz ops i l ρ p S out S' o g b ho hp hg hy hw hd h ih=>
  intro r φ w hS hs
  cases out with
  | env ρ' =>
   intro hm φ0 H0 w0 hs0 st ρA a ds hq0 hr he Q hq
   simp only [wpOps,ho]
   rw [he.wanted,c2b hr hg hy hw]
   simp only [Bool.false_eq_true,if_false]
   exact ih r φ w hS hs hm φ0 H0 w0 hs0 st _ _ _ (hq0.put hp) (hr.put .undef o.dst) (he.put hd .undef) Q hq
  | _=>trivial
 | @e2e m sz ops i l ρ p S S1 v out S' o ho hp hw hd hc hop h ih=>
  intro r φ w hS hs
  cases out with
  | env ρ' =>
   intro hm φ0 H0 w0 hs0 st ρA a ds hq0 hr he Q hq
   simp only [wpOps,ho]
   rw [he.wanted,p5a hr hw]
   simp only [if_true]
   left
   obtain ⟨u,H1,j2e,r1,hfr,le,sr,dr⟩:=g8c hS hr hop
   obtain ⟨v',w1,φ1,rr,hrun,hrr,hst,hv⟩:=j9b hs.1 he.e hc j2e
   rw [h9b] at hrun
   have hst:=hst.trans (hfr.step hst.sim)
   rw [← hfr.len] at hv
   have he1:m7a r1.H.length φ1 sz (put ρA o.dst u) ds (a.put o.dst v'):=(he.mono hst.len hst.keep).put hd hv
   have hih:=ih r1 φ1 w1 sr ⟨hst.sim,hA.1 _ _ _ _ _ _ hs.2 hst⟩ (Nat.le_trans hm le.n) φ0 H0 w0 hs0 (st.trans hst) _ _ _ (hq0.step hst hp) ((hr.mono le).put dr o.dst) he1 Q (fun r' φ' ρA' a' w' lf sr' hst' hr' he'=>hq r' φ' ρA' a' w' ((LeF.of le hm).trans lf) sr' hst' hr' he')
   unfold Oper.wp
   rw [hrun]
   rcases hrr with rfl | ⟨rfl,rfl⟩
   ·exact hih
   ·exact hih
  | _=>trivial
 | @z2c m sz ops i l ρ p S S1 v out S' o f args fn ho hp hw hd hc ht hf hn hb hcall h ihc ih=>
  intro r φ w hS hs
  cases out with
  | env ρ' =>
   intro hm φ0 H0 w0 hs0 st ρA a ds hq0 hr he Q hq
   simp only [wpOps,ho]
   rw [he.wanted,p5a hr hw]
   simp only [if_true]
   left
   obtain ⟨vs,htA,dvs⟩:=d6b hr ht
   unfold l4a at htA
   unfold Oper.wp execOp
   split at htA
   ·rename_i fo p8b ato hop
    rw [hop] at hc
    simp only [hop]
    have hall:=List.all_eq_true.1 hc
    have hfo:=he.eval (hall fo (by simp [Op.operands,Call.operands]))
    split at htA
    ·rename_i g first captured hg
     simp only [Option.some.injEq,Prod.mk.injEq] at htA
     obtain ⟨rfl,rfl⟩:=htA
     rw [hg] at hfo
     generalize hfe:a.eval fo=f' at hfo
     cases hfo with
     | func _ xs ys cs ds h1 h2 h3 h4=>
      have hargs:=he.args (args:=p8b) (List.all_eq_true.2 fun y hy=>hall y (by simp [Op.operands,Call.operands];simp at hy;exact .inr hy))
      have hrun:(do let d ← resolve a.eval { callee:=.value fo,args:=p8b,argTypes:=ato } o.type;invoke d.target d.args:Sem Next).run P w = .ok (.enter g (ys++p8b.map a.eval++ds)) w:=by
       have hb':fn.body≠none:=by intro h;simp [h] at hb
       simp [resolve,hfe,Deferred.ofValue,invoke,callFunc,hf,hn,hb']
      rw [hrun]
      have hl:j5a r.H.length φ (first.toList++p8b.toList.map (d0a ρA)++captured.toList) (ys++p8b.map a.eval++ds).toList:=by
       simp only [Array.toList_append]
       exact ((j5a.o6a h1 h2).append hargs).append (j5a.o6a h3 h4)
      refine ihc r φ w hS hs _ _ dvs hl _ (fun r1 u v' φ1 w1 le sr hst dr hv => ?_)
      exact ih r1 φ1 w1 sr ⟨hst.sim,hA.1 _ _ _ _ _ _ hs.2 hst⟩ (Nat.le_trans hm le.n) φ0 H0 w0 hs0 (st.trans hst) _ _ _ (hq0.step hst hp) ((hr.mono le).put dr o.dst) ((he.mono hst.len hst.keep).put hd hv) Q (fun r' φ' ρA' a' w' lf sr' hst' hr' he'=>hq r' φ' ρA' a' w' ((LeF.of le hm).trans lf) sr' hst' hr' he')
    ·cases htA
   ·cases htA
  | _=>trivial
 | @m6c m sz ops i l ρ S out S' o ty t z ho hop hdst hg hd hz hsc h ih=>
  intro r φ w hS hs
  cases out with
  | env ρ' =>
   intro hm φ0 H0 w0 hs0 st ρA a ds hq0 hr he Q hq
   simp only [wpOps,ho]
   have hwt:Region.wanted o (yielded ops a.tmps)=true:=by simp [Region.wanted,hg]
   rw [hwt]
   simp only [if_true]
   left
   have hst:Step 0 φ r.H w φ r.H (w.alloc (.cells z.cells ty)):=s6d hs.1
   have hrun:(execOp a.eval o).run P w = .ok (.value (.pointer (some ⟨w.heap.size,0,none⟩))) (w.alloc (.cells z.cells ty)):=by
    unfold execOp
    rw [hop]
    simp [Instr.alloc,x1a hz,newVar,newRow]
   unfold Oper.wp
   rw [hrun]
   have j3e:m8e φ r.H (w.alloc (.cells z.cells ty)) w.heap.size z:=by
    refine ⟨fun h b hg => ?_,ty,by show (w.heap.push _)[w.heap.size]?=_;simp⟩
    obtain ⟨c,e,fr,hB,_⟩:=hs.1.cov h b hg
    have:=(Array.getElem?_eq_some_iff.1 hB).1
    omega
   refine ih r φ _ hS ⟨hst.sim,hA.1 _ _ _ _ _ _ hs.2 hst⟩ hm φ0 H0 w0 hs0 (st.trans hst) (put ρA o.dst (.map (some w.heap.size))) _ _ (fun t' z' e => ?_) ?_ ((he.mono hst.len hst.keep).put hd (.glob _)) Q hq
   ·cases e
    exact ⟨hsc,w.heap.size,st.size,j3e,by rw [hdst];simp [AM.put,AM.upd]⟩
   ·have:=hr.put (.bot (.map (some w.heap.size))) o.dst
    rw [hdst] at this ⊢
    exact this
  | _=>trivial
 | @z3c m sz ops l ρ S out S' t z h ih=>
  intro r φ w hS hs
  cases out with
  | env ρ' =>
   intro hm φ0 H0 w0 hs0 st ρA a ds hq0 hr he Q hq
   obtain ⟨hsc,B,hB,j3e,ht⟩:=hq0 t z rfl
   have hst:=f5d st hB j3e hsc
   obtain ⟨le,sr,dr⟩:=g4c (sz:=1) hS (DL.g1c (r:=r) z.cells.toList)
   have hk : ∀ h,h<r.H.length→u0b φ r.H.length ⟨B,0,z.cells.size,1⟩ h=φ h:=fun h hh=>f1c hh
   have hlen:(s5a r.H z.cells.toList 1).length=r.H.length+1:=by simp [s5a,p8a]
   have he2:m7a (s5a r.H z.cells.toList 1).length (u0b φ r.H.length ⟨B,0,z.cells.size,1⟩) sz (upd ρA t (.pointer (some (o0a r.H)))) ds a:=by
    have he1:=he.mono (n':=(s5a r.H z.cells.toList 1).length) (by omega) hk
    refine m7a.swap he1 fun v hv => ?_
    rw [ht] at hv
    cases hv
    have:=h3a.ptr (n:=(s5a r.H z.cells.toList 1).length) (φ:=u0b φ r.H.length ⟨B,0,z.cells.size,1⟩) r.H.length 0 (by omega)
    rw [i2a] at this
    exact this
   refine ih _ _ w sr ⟨hst.sim,hA.1 _ _ _ _ _ _ hs0.2 hst⟩ (Nat.le_trans hm le.n) φ0 H0 w0 hs0 hst (upd ρA t (.pointer (some (o0a r.H)))) a ds (fun t' z' e=>by cases e) (fun u => ?_) he2 Q (fun r' φ' ρA' a' w' lf sr' hst' hr' he'=>hq r' φ' ρA' a' w' ((LeF.of le hm).trans lf) sr' hst' hr' he')
   simp only [r6a,upd]
   split
   ·exact dr
   ·exact (hr u).mono le
  | _=>trivial
 | @regionF m sz id ops ρ ρ1 S S1 hmx h ih=>
  intro r φ w hS hs hm ρA a ds hr he Q hq
  have hd:Step 0 φ r.H w φ r.H { w with drawn:=w.drawn+1 } := .draw hs.1 rfl rfl rfl rfl
  refine wp_region_draw fun t => ?_
  simp only [Region.schedule,hmx,Bool.true_or,if_true]
  exact ih t r φ { w with drawn:=w.drawn+1 } hS ⟨hd.sim,hA.1 _ _ _ _ _ _ hs.2 hd⟩ hm φ r.H w hs hd ρA a ds (fun t' z' e=>by cases e) hr he Q (fun r' φ' ρA' a' w' lf sr hst hr' he'=>hq r' φ' ρA' a' w' undef lf sr hst (hr'.any _) he' (fun h=>by cases h))
 | @q8e m sz id o1 o2 c x ρ v S S1 g first captured hg1 hd1 hc1 hop1 hop hc hca hk hg hd hx=>
  intro r φ w hS hs hm ρA a hr he Q hq
  refine wp_region ?_
  show wpOps P #[o1,o2] Q [0,1] a w
  have hw1 : ∀ y,Region.wanted o1 y=true:=fun y=>by simp [Region.wanted,hg1]
  have hw2 : ∀ y,Region.wanted o2 y=true:=fun y=>by simp [Region.wanted,hg]
  simp only [wpOps,List.getElem?_toArray,List.getElem?_cons_zero,List.getElem?_cons_succ,hw1,hw2,if_true]
  left
  obtain ⟨u,H1,j2e,r1,hfr,le,sr,dr⟩:=g8c hS hr hop1
  obtain ⟨v',w1,φ1,rr,hrun,hrr,hst,hv⟩:=j9b hs.1 he.e hc1 j2e
  rw [h9b] at hrun
  have hst:=hst.trans (hfr.step hst.sim)
  rw [← hfr.len] at hv
  have he1:m7a r1.H.length φ1 sz (put ρA o1.dst u) [] (a.put o1.dst v'):=(he.mono hst.len hst.keep).put hd1 hv
  have hr1:=(hr.mono le).put dr o1.dst
  have key:o2.wp P (a.put o1.dst v') w1 (wpOps P #[o1,o2] Q []) Q∨(o2.asks P (a.put o1.dst v') w1∧LetsOut Q):=by
   left
   have hxr:=v2a hr1 x
   have hxv:=he1.eval hk
   rw [hx] at hxr
   generalize hu:d0a (put ρA o1.dst u) x=u1 at hxr hxv
   cases hxr with
   | fn _ _ _ ys ds h1 h2 h3 h4=>
    generalize hy:(a.put o1.dst v').eval x=y at hxv
    cases hxv with
    | func _ xs ys' cs ds' k1 k2 k3 k4=>
     unfold Oper.wp
     have hrun2 : ∀ ev:Operand→Value,ev x = .func (.func g) ys' ds'→(execOp ev o2).run P w1 = .ok (.defer ⟨.fn (.func g) ds',ys'⟩) w1:=by
      intro ev hev
      unfold execOp
      rw [hop]
      simp [resolve,hc,hca,hev,Deferred.ofValue,go_sem]
     rw [hrun2 _ hy]
     have a1:DL r1 first ys.toList:=⟨by simpa using h1,fun i a b=>by have:=h2 i a (by simpa using b);rwa [← Array.getElem_toList] at this⟩
     have a2:DL r1 captured ds.toList:=⟨by simpa using h3,fun i a b=>by have:=h4 i a (by simpa using b);rwa [← Array.getElem_toList] at this⟩
     have hl:j5a r1.H.length φ1 (ys.toList++ds.toList) (ys'++ds').toList:=by
      simp only [Array.toList_append]
      exact (j5a.o6a k1 k2).append (j5a.o6a k3 k4)
     refine hq r1 φ1 (put ρA o1.dst u) _ w1 undef ys' ds' _ (LeF.of le hm) sr hst (hr1.any _) ?_ (a1.append a2) hl (fun h=>by cases h)
     rw [hd]
     exact ⟨he1.e,by show _::(a.put o1.dst v').defers=_;rw [he1.ds]⟩
  unfold Oper.wp
  rw [hrun]
  rcases hrr with rfl | ⟨rfl,rfl⟩
  ·exact key
  ·exact key
 | @i5d m sz c d ρ ρ1 ρ2 S S1 S2 e g vs h1 h2 ih1 ih2=>
  intro r φ w hS hs hm ρA a hr he Q hq
  refine wp_seq (wpL.wp (ih1 r φ w hS hs hm ρA a hr he _ fun r1 φ1 ρA1 a1 w1 x1 args cap us lf sr hst hr1 he1 dl ll hp1 => ?_))
  exact wpL.wp (ih2 r1 φ1 w1 sr ⟨hst.sim,hA.1 _ _ _ _ _ _ hs.2 hst⟩ (by rw [sr.n];exact Nat.le_refl _) ρA1 a1 _ (hr1.get (by simp)) he1 Q fun r' φ' ρA' a' w' x lf' sr' hst' hr' he' hp=>by
   have le:r1.Le r':=by rw [← sr.n] at lf';exact lf'.le
   exact hq r' φ' ρA' a' w' x args cap us (lf.trans (LeF.of le lf.n)) sr' (hst.trans hst') hr' he' (dl.mono le) (ll.mono hst'.len hst'.keep) hp)
 | @s4c m sz c d ρ ρ1 S S1 e g vs h1 he0 ih1=>
  intro r φ w hS hs hm ρA a hr he Q hq
  exact wp_seq (wpL.wp (ih1 r φ w hS hs hm ρA a hr he _ fun r1 φ1 ρA1 a1 w1 x1 args cap us lf sr hst hr1 he1 dl ll hp1=>g0b he0 (hq r1 φ1 ρA1 a1 w1 x1 args cap us lf sr hst hr1 he1 dl ll hp1)))
 | @i6d m sz c d ρ ρ1 ρ2 S S1 S2 e g vs h1 h2 ih1 ih2=>
  intro r φ w hS hs hm ρA a hr he Q hq
  refine wp_seq (wpL.wp (ih1 r φ w hS hs hm ρA a [] hr he _ fun r1 φ1 ρA1 a1 w1 x1 lf sr hst hr1 he1 hp1 => ?_))
  exact wpL.wp (ih2 r1 φ1 w1 sr ⟨hst.sim,hA.1 _ _ _ _ _ _ hs.2 hst⟩ lf.n ρA1 a1 (hr1.get (by simp)) he1 Q fun r' φ' ρA' a' w' x args cap us lf' sr' hst' hr' he' dl ll hp=>hq r' φ' ρA' a' w' x args cap us (lf.trans lf') sr' (hst.trans hst') hr' he' dl ll hp)
 | @p7e m f args fn c e ρ S S1 g vs gn id t0 ty pos after C e2 ρ2 S2 v hf hb ha h he0 hgf hgb hgn hga ht0 hC he2 hgr hv ih ihC=>
  intro r φ w hS hs vs0 args' dvs hargs R hR
  have hie:m7a _ _ _ _ [] ⟨_,[]⟩:=⟨r1b hargs (by rw [← dvs.1];exact ha),rfl⟩
  refine calls_of_wp_defers hf hb (wpL.wp (ih r φ w hS hs (by rw [hS.n];exact Nat.le_refl _) _ _ (y5a dvs) hie _ fun r1 φ1 ρA1 a1 w1 x1 dargs cap us lf sr hst hr1 he1 dl ll hp1 => ?_))
  have le1:r.Le r1:=by rw [← hS.n] at lf;exact lf.le
  have key : ∀ (u u':FrameMode) (y:Value),u ≠ .run→settle u' = .returning→(∀ (c0:Frame) (cs:List Frame),c0.mode=u→(recoverD (c0::cs)=some (y,{ c0 with mode:=u' } :: cs))∨(recoverD (c0::cs)=none∧y = .nilIface∧u'=u)) →
    (∃ uy,h2a r1 (match e with | .exit _=>ρ a9b | _=>.u9a) uy∧h3a r1.H.length φ1 uy y)→Leaves P fn a1.tmps R [⟨.fn (.func g) cap,dargs⟩] u w1:=by
   intro u u' y hu hset hrec hy
   obtain ⟨uy,hyd,hyv⟩:=hy
   refine leaves_cons (f:=g) (args:=dargs++cap) hu (by simp [invoke,callFunc,hgf,hgn,hgb]) ?_
   refine callsD_of_wpS hgf hgb fun c0 cs hc0 => ?_
   refine wpS_seq (wpS_region ?_)
   have ll':j5a r1.H.length φ1 us (dargs++cap).toList:=ll
   have hiC:m7a r1.H.length φ1 gn.ntmps (o2a us) [] ⟨(dargs++cap)++Array.replicate (gn.ntmps - (dargs++cap).size) undef,[]⟩:=⟨r1b ll' (by rw [← dl.1];exact hga),rfl⟩
   have m7f:=hiC.put (d:=some t0) ht0 hyv
   have hr2':=(y5a dl).put hyd (some t0)
   have fin : ∀ cs',cs' = { c0 with mode:=u' } :: cs→Code.wpS P C (bodyPostS P gn c0 cs fun
     | .returned _,u',w'=>Leaves P fn a1.tmps R [] (settle u') w'
     | .panicked chain,u',w'=>Leaves P fn a1.tmps R [] (raised u' chain) w'
     | .outgrown,_,w'=>R .outgrown w') ((⟨(dargs++cap)++Array.replicate (gn.ntmps - (dargs++cap).size) undef,[]⟩:Act).put (some t0) y) cs' w1:=by
    intro cs' hcs
    refine wpS_of_wp (wpL.wp (ihC r1 φ1 w1 sr ⟨hst.sim,hA.1 _ _ _ _ _ _ hs.2 hst⟩ (by rw [sr.n];exact Nat.le_refl _) _ _ [] hr2' m7f _ fun r2 φ2 ρA2 a2 w2 x2 lf2 sr2 hst2 hr2 t5e hp2 => ?_))
    have le2:r1.Le r2:=by rw [← sr.n] at lf2;exact lf2.le
    have hrr:l2a r2 (r6a ρ a9b .bot) ρA1:=fun t=>by
     simp only [r6a]
     split
     ·exact .bot _
     ·rename_i ht
      exact (hr1 t fun _=>ht).mono le2
    obtain ⟨uv,huv,duv⟩:=x1b sr2 hrr hv
    obtain ⟨v',hrun,hvr⟩:=y1b hst2.sim (he1.mono hst2.len hst2.keep).e huv
    have hl:Leaves P fn a1.tmps R [] (settle u') w2:=by
     rw [hset]
     exact ⟨v',hrun,hR r2 uv v' φ2 w2 (le1.trans le2) sr2 (hst.trans hst2) duv hvr⟩
    have hres:(results gn a2.tmps).run P w2 = .ok (.tuple #[]) w2:=by
     rw [c8c,hgr]
     simp
    rcases he2 with rfl | rfl
    ·exact ⟨t5e.ds,u',hcs,_,hres,hl⟩
    ·exact ⟨t5e.ds,u',hcs,_,hres,hl⟩
   show wpOpsS P #[_] _ [0] _ _ _
   have f8f : ∀ ev:Operand→Value,(execOp ev ⟨some t0,.call ⟨.builtin .recover,#[],#[]⟩,ty,pos,after,none⟩).run P w1 = .ok .recover w1:=by
    intro ev
    simp [execOp,resolve,invoke,builtin,go_sem]
   simp only [wpOpsS,List.getElem?_toArray,List.getElem?_cons_zero,Region.wanted,if_true,f8f]
   rcases hrec c0 cs hc0 with h1 | ⟨h1,h2,h3⟩
   ·rw [h1]
    exact fin _ rfl
   ·rw [h1]
    subst h2
    subst h3
    exact fin _ (by rw [← hc0])
  have hds:=he1.ds
  rcases he0 with rfl | rfl | rfl
  ·show Leaves P fn a1.tmps R a1.defers .returning w1
   rw [hds]
   exact key .returning .returning .nilIface (by simp) rfl (fun c0 cs hc=>.inr ⟨by simp [recoverD,hc],rfl,rfl⟩) ⟨_,.u9a,.closed rfl⟩
  ·show Leaves P fn a1.tmps R a1.defers .returning w1
   rw [hds]
   exact key .returning .returning .nilIface (by simp) rfl (fun c0 cs hc=>.inr ⟨by simp [recoverD,hc],rfl,rfl⟩) ⟨_,.u9a,.closed rfl⟩
  ·show Leaves P fn a1.tmps R a1.defers (.panicking [{ v:=x1,recovered:=false }]) w1
   rw [hds]
   exact key _ (.panicking [{ v:=x1,recovered:=true }]) x1 (by simp) rfl (fun c0 cs hc=>.inl (by simp [recoverD,hc])) (hp1 rfl)
 | skip=>intro r φ w hS hs hm ρA a ds hr he Q hq;exact wp_skip (hq r φ ρA a w undef (.refl hm) hS (.refl hs.1) (hr.any _) he (fun h=>by cases h))
 | label=>intro r φ w hS hs hm ρA a ds hr he Q hq;exact wp_label (hq r φ ρA a w undef (.refl hm) hS (.refl hs.1) (hr.any _) he (fun h=>by cases h))
 | exit hi=>intro r φ w hS hs hm ρA a ds hr he Q hq;exact wp_exit (by have:=hq r φ ρA a w undef (.refl hm) hS (.refl hs.1) (hr.any _) he (fun h=>by cases h;exact absurd rfl hi);simpa only [e8b,hi,if_false] using this)
 | ret=>intro r φ w hS hs hm ρA a ds hr he Q hq;exact wp_ret (hq r φ ρA a w undef (.refl hm) hS (.refl hs.1) (hr.any _) he (fun h=>by cases h))
 | @z3e m sz c d ρ ρ1 S S1 out S' h1 h2 ih1 ih2=>
  intro r φ w hS hs
  cases out with
  | exit e ρ' =>
   intro hm ρA a ds hr he Q hq
   refine wp_seq (wpL.wp (ih1 r φ w hS hs hm ρA a ds hr he _ fun r1 φ1 ρA1 a1 w1 x1 lf sr hst hr1 he1 hp1 => ?_))
   exact wpL.wp (ih2 r1 φ1 w1 sr ⟨hst.sim,hA.1 _ _ _ _ _ _ hs.2 hst⟩ lf.n ρA1 a1 ds (hr1.get (by simp)) he1 Q fun r' φ' ρA' a' w' x lf' sr' hst' hr' he' hp=>hq r' φ' ρA' a' w' x (lf.trans lf') sr' (hst.trans hst') hr' he' hp)
  | _=>trivial
 | @n5e m sz c d ρ ρ1 S S1 e h1 he1 ih1=>
  intro r φ w hS hs hm ρA a ds hr he Q hq
  exact wp_seq (wpL.wp (ih1 r φ w hS hs hm ρA a ds hr he _ fun r1 φ1 ρA1 a1 w1 x lf sr hst hr1 he2 hp=>g0b he1 (hq r1 φ1 ρA1 a1 w1 x lf sr hst hr1 he2 hp)))
 | @cond m sz c x y ρ S out S' t hk hc h ih=>
  intro r φ w hS hs
  cases out with
  | exit e ρ' =>
   intro hm ρA a ds hr he Q hq
   have hcr:=he.eval hk
   have hcd:=v2a hr c
   rw [hc] at hcd
   generalize hca:d0a ρA c=ca at hcd hcr
   cases hcd
   generalize hce:a.eval c=c' at hcr
   cases hcr
   exact wp_cond hce (wpL.wp (ih r φ w hS hs hm ρA a ds hr he Q hq))
  | _=>trivial
 | x6c h ih=>
  intro r φ w hS hs hm ρA a ds hr he Q hq
  exact wp_block (wpL.wp (ih r φ w hS hs hm ρA a ds hr he _ fun r1 φ1 ρA1 a1 w1 x lf sr hst hr1 he1 hp=>hq r1 φ1 ρA1 a1 w1 x lf sr hst hr1 he1 (fun h=>by cases h)))
 | x7c hi h ih=>
  intro r φ w hS hs hm ρA a ds hr he Q hq
  exact wp_block (wpL.wp (ih r φ w hS hs hm ρA a ds hr he _ fun r1 φ1 ρA1 a1 w1 x lf sr hst hr1 he1 hp=>by simp only [e8b,hi,if_false,Exit.inBlock,if_true];exact hq r1 φ1 ρA1 a1 w1 x lf sr hst ((hr1.get (fun h=>by cases h;exact hi rfl)).any _) he1 (fun h=>by cases h)))
 | @b3c m sz id c ρ ρ1 S S1 e h h1 h2 ih=>
  intro r φ w hS hs hm ρA a ds hr he Q hq
  exact wp_block (wpL.wp (ih r φ w hS hs hm ρA a ds hr he _ fun r1 φ1 ρA1 a1 w1 x lf sr hst hr1 he1 hp=>l6c h2 (hq r1 φ1 ρA1 a1 w1 x lf sr hst hr1 he1 hp)))
 | @z0d m sz c ρ ρ1 S S1 out S' h1 h2 ih1 ih2=>
  intro r φ w hS hs
  cases out with
  | exit e ρ' =>
   intro hm ρA a ds hr he Q hq
   refine b1c.of (wpL.wp (ih1 r φ w hS hs hm ρA a ds hr he _ fun r1 φ1 ρA1 a1 w1 x1 lf sr hst hr1 he1 hp1 => ?_))
   exact ih2 r1 φ1 w1 sr ⟨hst.sim,hA.1 _ _ _ _ _ _ hs.2 hst⟩ lf.n ρA1 a1 ds (hr1.get (by simp)) he1 Q fun r' φ' ρA' a' w' x lf' sr' hst' hr' he' hp=>hq r' φ' ρA' a' w' x (lf.trans lf') sr' (hst.trans hst') hr' he' hp
  | _=>trivial
 | @d9d m sz c ρ ρ1 S S1 e h1 he1 ih1=>
  intro r φ w hS hs hm ρA a ds hr he Q hq
  exact b1c.of (wpL.wp (ih1 r φ w hS hs hm ρA a ds hr he _ fun r1 φ1 ρA1 a1 w1 x lf sr hst hr1 he2 hp=>g0b he1 (hq r1 φ1 ρA1 a1 w1 x lf sr hst hr1 he2 hp)))
 | region h ih=>
  intro r φ w hS hs hm ρA a ds hr he Q hq
  exact wp_region (ih r φ w hS hs hm ρA a ds hr he Q (fun r' φ' ρA' a' w' lf sr hst hr' he'=>hq r' φ' ρA' a' w' undef lf sr hst (hr'.any _) he' (fun h=>by cases h)))
 | @n2b m sz id ops ρ ρ1 S S1 hmx h ih=>
  intro r φ w hS hs hm ρA a ds hr he Q hq
  have hd:Step 0 φ r.H w φ r.H { w with drawn:=w.drawn+1 } := .draw hs.1 rfl rfl rfl rfl
  refine wp_region_draw fun t => ?_
  simp only [Region.schedule,hmx,Bool.true_or,if_true]
  exact ih t r φ { w with drawn:=w.drawn+1 } hS ⟨hd.sim,hA.1 _ _ _ _ _ _ hs.2 hd⟩ hm ρA a ds hr he Q fun r' φ' ρA' a' w' lf sr hst hr' he'=>hq r' φ' ρA' a' w' undef lf sr (hd.trans hst) (hr'.any _) he' (fun h=>by cases h)
 | @trim m sz c ρ ρ' S n out S' hmn hn hw hl h ih=>
  intro r φ w hS hs
  cases out with
  | exit e ρ1=>
   intro hm ρA a ds hr he Q hq
   have hnr:n≤r.n:=by rw [hS.n];exact hn
   exact ih ⟨n,r.ψ,r.k,r.H⟩ φ w (hS.take hn hl) hs hmn ρA a ds (fun t=>hw t r _ hnr (hr t)) he Q fun r' φ' ρA' a' w' x lf sr hst hr' he' hp=>hq r' φ' ρA' a' w' x ⟨lf.n,lf.ψ,lf.len,lf.k,lf.sz⟩ sr hst hr' he' hp
  | _=>trivial
 | @gc m sz c ρ ρ' S S2 out S' F ι hl hι hinj hF hdis j1e hown hw h ih=>
  intro r φ w hS hs
  cases out with
  | exit e ρ1=>
   intro hm ρA a ds hr he Q hq
   refine ih ⟨S2.length,fun i=>r.ψ (ι i),fun h=>r.k h || F.any (fun o=>r.ψ o==h),r.H⟩ φ w ⟨rfl,fun o cells ho => ?_,fun id hid => ?_,fun i j hij ⟨x,hx,hxd⟩ ⟨y,hy,hyd⟩ => ?_⟩ hs hl ρA a ds (fun t=>hw t r _ hS (hr t)) he Q fun r' φ' ρA' a' w' x lf sr hst hr' he' hp=>hq r' φ' ρA' a' w' x ⟨lf.n,fun i hi=>(lf.ψ i hi).trans (by show r.ψ (ι i)=_;rw [hι i hi]),lf.len,fun h b hk hg=>lf.k h b (by simp [hk]) hg,lf.sz⟩ sr hst hr' he' hp
   ·obtain ⟨c,hc,hcl,hcw⟩:=j1e o cells ho
    obtain ⟨b,g,w',l,kk,dl⟩:=hS.obj _ _ hc
    refine ⟨b,g,w',l,?_,hcl.symm.trans dl.1,fun i h1 h2=>hcw i (by omega) h1 r _ hS (dl.2 i (by omega) h2)⟩
    simp only [kk,Bool.false_or,List.any_eq_false,beq_iff_eq]
    intro p hp e
    obtain ⟨pc,hpc⟩:=hF p hp
    have hne:p≠ι o:=fun e=>hdis o cells ho (e▸hp)
    exact hS.inj p (ι o) hne ⟨_,f7a hpc,by simp⟩ ⟨_,f7a hc,by simp⟩ e
   ·obtain ⟨b,g,w',kk⟩:=hS.own _ (hown id hid)
    exact ⟨b,g,w',by simp [kk]⟩
   ·have live : ∀ {i:Nat} {x:Ob},S2[i]?=some x→x ≠ .dead → ∃ x,S[ι i]?=some x∧x ≠ .dead:=by
     intro i x hx hxd
     cases x with
     | obj cells=>
      obtain ⟨c,hc,_⟩:=j1e i cells (by simp [b6a,hx])
      exact ⟨_,f7a hc,by simp⟩
     | own=>exact ⟨_,hown i hx,by simp⟩
     | dead=>exact absurd rfl hxd
    refine hS.inj (ι i) (ι j) (fun e=>hij ?_) (live hx hxd) (live hy hyd)
    exact hinj i j (List.getElem?_eq_some_iff.1 hx).1 (List.getElem?_eq_some_iff.1 hy).1 e
  | _=>trivial
 | @forget m sz c ρ ρ' S out S' hw h ih=>
  intro r φ w hS hs
  cases out with
  | exit e ρ1=>
   intro hm ρA a ds hr he Q hq
   exact ih r φ w hS hs hm ρA a ds (fun t=>hw t r _ (hr t)) he Q hq
  | _=>trivial
 | @call m f args fn c e ρ S S' v hf hb ha h he hv ih=>
  intro r φ w hS hs vs args' dvs hargs R hR
  have hie:m7a _ _ _ _ [] ⟨_,[]⟩:=⟨r1b hargs (by rw [← dvs.1];exact ha),rfl⟩
  refine calls_of_wp hf hb (wpL.wp (ih r φ w hS hs (by rw [hS.n];exact Nat.le_refl _) _ _ _ (y5a dvs) hie _ fun r1 φ1 ρA1 a1 w1 x1 lf sr hst hr1 he1 hp1 => ?_))
  have hr1:=hr1.get (by rcases he with rfl | rfl<;>simp)
  obtain ⟨u,hu,du⟩:=x1b sr hr1 hv
  obtain ⟨v',hrun,hvr⟩:=y1b hst.sim he1.e hu
  have le:r.Le r1:=by rw [← hS.n] at lf;exact lf.le
  have:a1.defers=[] ∧ ∃ v,(results fn a1.tmps).run P w1 = .ok v w1∧R (.returned v) w1:=⟨he1.ds,v',hrun,hR r1 u v' φ1 w1 le sr hst du hvr⟩
  rcases he with rfl | rfl
  ·exact this
  ·exact this
 | @weak m f args args2 S S1 v h hl hw ih=>
  intro r φ w hS hs vs args' dvs hargs R hR
  refine ih r φ w hS hs vs args' ⟨by rw [← hl];exact dvs.1,fun i a b => ?_⟩ hargs R hR
  exact hw i (by omega) a r _ (dvs.2 i (by omega) b)
 | @either m f args args1 args2 S S1 v h1 h2 hc ih1 ih2=>
  intro r φ w hS hs vs args' dvs hargs R hR
  rcases hc r vs dvs with h | h
  ·exact ih1 r φ w hS hs vs args' h hargs R hR
  ·exact ih2 r φ w hS hs vs args' h hargs R hR
 | @orc m f args S v S' h=>
  intro r φ w hS hs vs args' dvs hargs R hR
  refine (n8f f args S v S' h r φ w hS hs vs args' dvs hargs).mono fun e w' he => ?_
  obtain ⟨r',u,v',φ',rfl,le,hsr,hst,du,hv⟩:=he
  exact hR r' u v' φ' w' le hsr hst du hv
 | @frame m f S S1 args us d v h1 h2 h3 h4 h5 h6 h ih=>
  intro r φ w hS hs vs args' dvs hargs R hR
  obtain rfl:=h1 r vs dvs
  have e:=j5a.of_closed h3 hargs
  refine ih ⟨0,fun _=>0,fun _=>false,[]⟩ φ w ⟨rfl,fun o cells h=>by simp [b6a] at h,fun id h=>by simp at h,fun i j _ ⟨x,h,_⟩=>by simp at h⟩ ⟨r8d,hA.2 _ _ _ hs.2⟩ vs args' (h2 _) ⟨by rw [e],fun i x y hx hy => ?_⟩ R fun r' u v' φ' w' le sr hst du hv => ?_
  ·rw [e,hx] at hy
   cases hy
   exact .closed (h3 _ (List.mem_of_getElem? hx))
  ·obtain rfl:=h4 _ _ du
   obtain rfl:=hv.w2a h6
   exact hR r _ _ φ w' (.refl r) hS (hst.beside hs.1) (h5 r) (.closed h6)
 | @keep m f args S S1 S2 d d' F ι h hl hι hinj hF hdis j1e hown hv0 ih=>
  intro r φ w hS hs vs args' dvs hargs R hR
  refine ih r φ w hS hs vs args' dvs hargs R fun r1 u v' φ1 w1 le sr hst du hv => ?_
  refine hR ⟨S2.length,fun i=>r1.ψ (ι i),fun h=>r1.k h || F.any (fun o=>r1.ψ o==h),r1.H⟩ u v' φ1 w1 ⟨by rw [hS.n];exact hl,fun i hi => ?_,le.len,fun h b hk hg => ?_,le.sz⟩ ⟨rfl,?_,?_,?_⟩ hst (hv0 r1 u sr du) hv
  ·rw [hS.n] at hi
   show r1.ψ (ι i)=_
   rw [hι i hi]
   exact le.ψ i (by rw [hS.n];exact hi)
  ·obtain ⟨k1,k2⟩:=le.k h b hk hg
   exact ⟨by simp [k1],k2⟩
  ·intro o cells ho
   have hex : ∃ c,b6a S1 (ι o)=some c∧c.length=cells.length ∧ ∀ j (h:j<c.length) (h':j<cells.length) (v:Value),h2a r1 c[j] v→h2a ⟨S2.length,fun i=>r1.ψ (ι i),fun h=>r1.k h || F.any (fun o=>r1.ψ o==h),r1.H⟩ cells[j] v:=by
    rcases j1e o cells ho with ⟨h1,h2,h3⟩ | ⟨c,h1,h2,h3⟩
    ·refine ⟨cells,by rw [hι o h1];exact h3,rfl,fun j hj _ v hv => ?_⟩
     obtain ⟨b,_,_,_,_,dl⟩:=hS.obj o cells h2
     have hlow:=(dl.2 j hj (dl.1▸hj)).low
     rw [hS.n] at hlow
     exact hlow.rename hl (fun i hi=>by show r1.ψ (ι i)=_;rw [hι i hi]) (fun h hk=>by simp [hk]) hv
    ·exact ⟨c,h1,h2,fun j a b v hv=>h3 j a b r1 v sr hv⟩
   obtain ⟨c,hc,hcl,hcw⟩:=hex
   obtain ⟨b,g,w',l,kk,dl⟩:=sr.obj _ _ hc
   have ho2:o<S2.length:=(List.getElem?_eq_some_iff.1 (f7a ho)).1
   refine ⟨b,g,w',l,?_,?_⟩
   ·simp only [kk,Bool.false_or,List.any_eq_false,beq_iff_eq]
    intro p hp e
    obtain ⟨pc,hpc⟩:=hF p hp
    have hne:p≠ι o:=fun e=>hdis o ho2 (e▸hp)
    exact sr.inj p (ι o) hne ⟨_,f7a hpc,by simp⟩ ⟨_,f7a hc,by simp⟩ e
   ·refine ⟨hcl.symm.trans dl.1,fun i h1 h2 => ?_⟩
    have h3:i<c.length:=by omega
    exact hcw i h3 h1 _ (dl.2 i h3 h2)
  ·intro id hid
   obtain ⟨b,g,w',kk⟩:=sr.own _ (hown id hid)
   exact ⟨b,g,w',by simp [kk]⟩
  ·intro i j hij ⟨x,hx,hxd⟩ ⟨y,hy,hyd⟩
   have live : ∀ {i:Nat} {x:Ob},S2[i]?=some x→x ≠ .dead → ∃ x,S1[ι i]?=some x∧x ≠ .dead:=by
    intro i x hx hxd
    cases x with
    | obj cells=>
     rcases j1e i cells (by simp [b6a,hx]) with ⟨h1,h2,h3⟩ | ⟨c,hc,_⟩
     ·exact ⟨_,f7a (by rw [hι i h1];exact h3),by simp⟩
     ·exact ⟨_,f7a hc,by simp⟩
    | own=>exact ⟨_,hown i hx,by simp⟩
    | dead=>exact absurd rfl hxd
   refine sr.inj (ι i) (ι j) (fun e=>hij ?_) (live hx hxd) (live hy hyd)
   exact hinj i j (List.getElem?_eq_some_iff.1 hx).1 (List.getElem?_eq_some_iff.1 hy).1 e
 | @drop m f args S S1 d d' h hl hw ho ih=>
  intro r φ w hS hs vs args' dvs hargs R hR
  refine ih r φ w hS hs vs args' dvs hargs R fun r1 u v' φ1 w1 le sr hst du hv => ?_
  have hn:S.length≤r1.n:=by rw [← hS.n];exact le.n
  have ho:o0d S.length S1:=fun o cells h1 h2 c hc r' v' _ hr'=>by
   rcases ho o cells h1 h2 with h3 | h3
   ·obtain ⟨b,_,_,_,_,dl⟩:=hS.obj o cells h3
    obtain ⟨i,hi,rfl⟩:=List.mem_iff_getElem.1 hc
    have:=(dl.2 i hi (dl.1▸hi)).low
    rw [hS.n] at this
    exact this.lower hr'
   ·exact (h3 c hc).lower hr'
  refine hR ⟨S.length,r1.ψ,r1.k,r1.H⟩ u v' φ1 w1 ⟨by rw [hS.n];exact Nat.le_refl _,le.ψ,le.len,le.k,le.sz⟩ (sr.take hl ho) hst (hw r1 u hn du) hv
end Go.DM
namespace Go.DM
open Go Go.AM
def k9a (P:Program) (orc:c3a) (fl sz:Nat) (ops:Array Oper) (i:Nat) (ρ:e1a) (H:Mem) (v:D) (H':Mem):Prop:=
 ∃ o,ops[i]?=some o∧i9a sz o.dst ∧
  (
   (∃ g b,o.guard=some g∧m6a ops ρ g.1=some b∧(b==some g.2)=false∧v=j1a∧H'=H) ∨
   (
   Region.wanted o (e9a ops ρ)=true∧o.op.operands.toList.all b5a=true ∧
   (
    opM P ρ o.op H v H' ∨
    ∃ f args fn, h0a ρ o.op = some (f, args) ∧ P.funcs[f]? = some fn ∧ fn.name ≠ "runtime.NumGoroutine" ∧ fn.body.isNone = false ∧ i8a P orc 0 (.call f args) H (.val v) H')))
theorem k9a.cons {P orc fl sz ops i ρ H v H1 l out H'} (h:k9a P orc fl sz ops i ρ H v H1) (k:i8a P orc fl (.ops sz ops l (m3a ρ (e6a ops i) v)) H1 out H') :
  i8a P orc fl (.ops sz ops (i::l) ρ) H out H':=by
 obtain ⟨o,ho,hd,h⟩:=h
 have e:e6a ops i=o.dst:=by simp [e6a,ho]
 rw [e] at k
 rcases h with ⟨g,b,hg,hy,hb,rfl,rfl⟩ | ⟨hw,hc,h | ⟨f,args,fn,ht,hf,hn,hb,hcall⟩⟩
 ·exact .z0a ho hg hy hb hd k
 ·exact .w5b ho hw hd hc h k
 ·exact .y9a ho hw hd hc ht hf hn hb hcall k
theorem s9c {ρ ρ':e1a} {x:Operand} (h : ∀ t,x = .tmp t→ρ t=ρ' t):d1a ρ x=d1a ρ' x:=by
 cases x with
 | tmp t=>exact h t rfl
 | _=>rfl
theorem p1d {P:Program} {ρ ρ':e1a} {o:Oper} {H:Mem} (h : ∀ x∈o.op.operands,d1a ρ x=d1a ρ' x):opD P ρ o.op H=opD P ρ' o.op H:=by
 obtain ⟨dst,op,type,pos,after,guard⟩:=o
 have pairs : ∀ ps:List (Nat×Operand),(∀ p∈ps,d1a ρ p.2=d1a ρ' p.2)→(ps.map fun (i,x)=>(i,d1a ρ x))=(ps.map fun (i,x)=>(i,d1a ρ' x)):=fun ps hp=>
  List.map_congr_left fun p hm=>by obtain ⟨i,x⟩:=p;simp only [hp (i,x) hm]
 cases op<;>simp only [Op.operands] at h<;>simp only [opD]
 case build t ps=>rw [pairs ps.toList fun p hp=>h p.2 (by simp;exact ⟨p.1,by simpa using hp⟩)]
 case buildSlice t n ps=>rw [pairs ps.toList fun p hp=>h p.2 (by simp;exact ⟨p.1,by simpa using hp⟩)]
 case makeFunc fn first captured=>
  rw [List.map_congr_left (l:=first.toList) fun x hx=>h x (by simp at hx;simp [hx]),List.map_congr_left (l:=captured.toList) fun x hx=>h x (by simp at hx;simp [hx])]
 case call c=>
  obtain ⟨callee,args,at_⟩:=c
  cases callee with
  | builtin b=>
   simp only
   rw [List.map_congr_left (l:=args.toList) fun x hx=>h x (by simp [Call.operands];simpa using hx)]
  | _=>rfl
 case slice t x lo hi mx=>cases lo<;>cases hi<;>cases mx<;>simp_all
 all_goals (first | rfl | (simp_all;done))
theorem p3d {P:Program} {ρ ρ':e1a} {o:Oper} {H H':Mem} {v:D} (h : ∀ x∈o.op.operands,d1a ρ x=d1a ρ' x):opM P ρ o.op H v H'=opM P ρ' o.op H v H':=by
 unfold opM
 rw [p1d h]
theorem j0c {ρ ρ':e1a} {o:Oper} (h : ∀ x∈o.op.operands,d1a ρ x=d1a ρ' x):h0a ρ o.op=h0a ρ' o.op:=by
 obtain ⟨dst,op,type,pos,after,guard⟩:=o
 cases op<;>simp only [h0a]
 rename_i c
 obtain ⟨callee,args,at_⟩:=c
 cases callee with
 | value f=>
  simp only [Op.operands,Call.operands] at h
  simp only
  rw [h f (by simp),List.map_congr_left (l:=args.toList) fun x hx=>h x (by simp;exact .inr (by simpa using hx))]
 | _=>rfl
theorem j4c {ops:Array Oper} {ρ ρ':e1a} {o:Oper} (h : ∀ t∈o.looksAt ops,ρ t=ρ' t) {g:Nat×Bool} (hg:o.guard=some g):e9a ops ρ g.1=e9a ops ρ' g.1:=by
 unfold e9a
 cases ht:(ops[g.1]?).bind (·.dst) with
 | none=>rfl
 | some t=>simp only;rw [h t (by simp [Oper.looksAt,hg,ht])]
theorem q7c {ops:Array Oper} {ρ ρ':e1a} {o:Oper} (h : ∀ t∈o.looksAt ops,ρ t=ρ' t) {g:Nat×Bool} (hg:o.guard=some g):m6a ops ρ g.1=m6a ops ρ' g.1:=by
 unfold m6a
 cases ht:(ops[g.1]?).bind (·.dst) with
 | none=>rfl
 | some t=>simp only;rw [h t (by simp [Oper.looksAt,hg,ht])]
theorem c3b {ops:Array Oper} {ρ ρ':e1a} {o:Oper} (h : ∀ t∈o.looksAt ops,ρ t=ρ' t):Region.wanted o (e9a ops ρ)=Region.wanted o (e9a ops ρ'):=by
 unfold Region.wanted
 cases hg:o.guard with
 | none=>rfl
 | some gw=>simp only [j4c h hg]
theorem k9a.congr {P orc fl sz ops i ρ ρ' H v H'} (h:k9a P orc fl sz ops i ρ H v H') (ha : ∀ o,ops[i]?=some o → ∀ t∈o.looksAt ops,ρ t=ρ' t):k9a P orc fl sz ops i ρ' H v H':=by
 obtain ⟨o,ho,hd,h⟩:=h
 have hl:=ha o ho
 have he : ∀ x∈o.op.operands,d1a ρ x=d1a ρ' x:=fun x hx=>s9c fun t hxt=>hl t (by
  subst hxt
  exact List.mem_append_left _ (List.mem_filterMap.2 ⟨.tmp t,by simpa using hx,rfl⟩))
 refine ⟨o,ho,hd,?_⟩
 rw [← c3b hl,← p3d he,← j0c he]
 rcases h with ⟨g,b,hg,hy,h⟩ | h
 ·exact .inl ⟨g,b,hg,by rw [← q7c hl hg];exact hy,h⟩
 ·exact .inr h
def l7a (ops:Array Oper) (v:Nat→D) (ρ:e1a) (L:Nat→Bool):Nat→e1a
 | 0=>ρ
 | n+1=>if L n then m3a (l7a ops v ρ L n) (e6a ops n) (v n) else l7a ops v ρ L n
theorem v7a {ρ:e1a} {d:Option Tmp} {v:D} {t:Tmp} : m3a ρ d v t=if d=some t then v else ρ t:=by
 cases d with
 | none=>simp [m3a]
 | some e=>
  simp only [m3a,r6a,Option.some.injEq]
  by_cases h:t=e
  ·simp [h]
  ·have:e≠t:=fun q=>h q.symm
   simp [h,this]
structure x1c (P:Program) (orc:c3a) (fl sz:Nat) (ops:Array Oper) (mk:List Nat) (ρ:e1a) (v:Nat→D) (Hs:Nat→Mem):Prop where
 step : ∀ i,i<ops.size→k9a P orc fl sz ops i (l7a ops v ρ (fun _=>true) i) (Hs i) (v i) (Hs (i+1))
 still : ∀ i,i<ops.size→i∉mk→Hs (i+1)=Hs i
 robust : ∀ i,i<ops.size→i∉mk → ∀ q,q≤ops.size→(∀ m∈mk,ordered ops ops.size m i=true→m<q)→(∀ m∈mk,ordered ops ops.size i m=true→q≤m) →
  k9a P orc fl sz ops i (l7a ops v ρ (fun _=>true) i) (Hs q) (v i) (Hs q)
section
variable {P:Program} {orc:c3a} {fl sz:Nat} {ops:Array Oper} {mk:List Nat} {ρ:e1a} {v:Nat→D} {Hs:Nat→Mem}
theorem g1b (T:x1c P orc fl sz ops mk ρ v Hs) {a:Nat} : ∀ b,a≤b→b≤ops.size→(∀ m,a≤m→m<b→m∉mk)→Hs b=Hs a:=by
 intro b
 induction b with
 | zero=>
      intro hab _ _;have:a=0:=by omega
      rw [this]
 | succ b ih=>
  intro hab hb hn
  rcases Nat.lt_or_ge b a with h | h
  ·have:a=b+1:=by omega
   rw [this]
  ·rw [T.still b (by omega) (hn b h (by omega)),ih h (by omega) fun m h1 h2=>hn m h1 (by omega)]
inductive Run (P:Program) (orc:c3a) (fl sz:Nat) (ops:Array Oper):List Nat→e1a→Mem→e1a→Mem→Prop
 | nil {ρ S} : Run P orc fl sz ops [] ρ S ρ S
 | cons {i l ρ S v S1 ρ' S'} (h:k9a P orc fl sz ops i ρ S v S1) (t:Run P orc fl sz ops l (m3a ρ (e6a ops i) v) S1 ρ' S'):Run P orc fl sz ops (i::l) ρ S ρ' S'
theorem Run.big {l:List Nat} {ρ ρ':e1a} {S S':Mem} (h:Run P orc fl sz ops l ρ S ρ' S'):i8a P orc fl (.ops sz ops l ρ) S (.env ρ') S':=by
 induction h with
 | nil=>exact .w4b
 | cons h _ ih=>exact h.cons ih
inductive d7c (ops:Array Oper):Array Bool→List Nat→Prop
 | nil {listed} (h : ∀ i,i<ops.size→lst listed i=true):d7c ops listed []
 | cons {listed j l} (hj:j<ops.size) (hl:lst listed j=false) (hd : ∀ e∈direct ops j,lst listed e=true) (t:d7c ops (listed.setIfInBounds j true) l):d7c ops listed (j::l)
theorem d0d (hok:q0a ops mk=true) (T:x1c P orc fl sz ops mk ρ v Hs) {listed:Array Bool} {l:List Nat} (ht:d7c ops listed l) : ∀ (q:Nat),listed.size=ops.size →
  (∀ j,lst listed j=true → ∀ e∈direct ops j,lst listed e=true)→q≤ops.size→(∀ m∈mk,m<ops.size→(lst listed m=true↔m<q)) →
  Run P orc fl sz ops l (l7a ops v ρ (lst listed) ops.size) (Hs q) (l7a ops v ρ (fun _=>true) ops.size) (Hs ops.size):=by
 simp only [q0a,Bool.and_eq_true,List.all_eq_true,List.mem_range,Bool.or_eq_true,Bool.not_eq_true',decide_eq_true_eq,decide_eq_false_iff_not] at hok
 obtain ⟨⟨ok1,ok2⟩,ok3⟩:=hok
 have final : ∀ (listed:Array Bool) (q:Nat),q≤ops.size→(∀ m∈mk,m<ops.size→(lst listed m=true↔m<q))→(∀ i,i<ops.size→lst listed i=true) →
   Run P orc fl sz ops [] (l7a ops v ρ (lst listed) ops.size) (Hs q) (l7a ops v ρ (fun _=>true) ops.size) (Hs ops.size):=by
  intro listed q hq hcut hall
  have e1:l7a ops v ρ (lst listed) ops.size=l7a ops v ρ (fun _=>true) ops.size:=by
   have : ∀ n,n≤ops.size→l7a ops v ρ (lst listed) n=l7a ops v ρ (fun _=>true) n:=by
    intro n
    induction n with
    | zero=>intro _;rfl
    | succ n ih=>intro hn;simp only [l7a,hall n (by omega),ih (by omega)]
   exact this _ (Nat.le_refl _)
  have e2:Hs ops.size=Hs q:=g1b T _ hq (Nat.le_refl _) fun m h1 h2 hm=>by
   have:=(hcut m hm h2).1 (hall m h2)
   omega
  rw [e1,e2]
  exact .nil
 induction ht with
 | nil hall=>intro q _ _ hq hcut;exact final _ q hq hcut hall
 | @cons listed j l hj hlj hdj _ ih=>
  intro q hsz hcl hq hcut
  have hset : ∀ i,lst (listed.setIfInBounds j true) i=(lst listed i || decide (i=j)):=by
   intro i
   unfold lst
   by_cases hij:i=j
   ·subst hij
    simp [Array.getD,hsz,hj]
   ·simp [Array.getD_eq_getD_getElem?,Array.getElem?_setIfInBounds_ne (Ne.symm hij),hij]
  have o8a : ∀ i,ordered ops ops.size i j=true→lst listed i=true:=fun i h=>j8a (L:=fun i=>lst listed i=true) hcl ops.size i j h hdj
  have x6a : ∀ i,ordered ops ops.size j i=true→lst listed i=false:=fun i h=>by
   rcases hli:lst listed i with _ | _
   ·rfl
   ·have:=j8a (L:=fun i=>lst listed i=true) hcl ops.size j i h (hcl i hli)
    rw [hlj] at this
    cases this
  have henv : ∀ n,n≤ops.size → ∀ t,l7a ops v ρ (lst (listed.setIfInBounds j true)) n t=if j<n∧e6a ops j=some t then v j else l7a ops v ρ (lst listed) n t:=by
   intro n
   induction n with
   | zero=>intro _ t;simp [l7a]
   | succ n ihn=>
    intro hn t
    simp only [l7a,hset]
    by_cases hnj:n=j
    ·subst hnj
     simp only [decide_true,Bool.or_true,if_true,hlj,Bool.false_eq_true,if_false,v7a,Nat.lt_succ_self,true_and]
     split
     ·rfl
     ·rw [ihn (by omega) t];simp
    ·simp only [hnj,decide_false,Bool.or_false]
     cases hln:lst listed n with
     | false=>
      simp only [Bool.false_eq_true,if_false]
      rw [ihn (by omega) t]
      have:j<n+1↔j<n:=by omega
      simp only [this]
     | true=>
      simp only [if_true,v7a]
      by_cases hdn:e6a ops n=some t
      ·simp only [hdn,if_true]
       have : ¬ (j<n+1∧e6a ops j=some t):=by
        rintro ⟨h1,h2⟩
        have hjn:j<n:=by omega
        have hcl':clash ops j n=true:=by
         unfold clash
         unfold e6a at hdn h2
         cases hoj:ops[j]? with
         | none=>simp [hoj] at h2
         | some a=>
          cases hon:ops[n]? with
          | none=>simp [hon] at hdn
          | some b=>
           simp [hoj] at h2
           simp [hon] at hdn
           simp [h2,hdn]
        rcases ok2 n (by omega) j hjn with h | h
        ·rw [hcl'] at h;cases h
        ·rw [x6a n h] at hln;cases hln
       simp only [this,if_false]
      ·simp only [hdn,if_false]
       rw [ihn (by omega) t]
       have:j<n+1↔j<n:=by omega
       simp only [this]
  have k5d:l7a ops v ρ (lst (listed.setIfInBounds j true)) ops.size=m3a (l7a ops v ρ (lst listed) ops.size) (e6a ops j) (v j):=by
   funext t
   rw [henv _ (Nat.le_refl _) t,v7a]
   simp [hj]
  have l9c : ∀ o,ops[j]?=some o → ∀ t∈o.looksAt ops,l7a ops v ρ (fun _=>true) j t=l7a ops v ρ (lst listed) ops.size t:=by
   intro o ho t ht
   have key : ∀ i,i<ops.size→e6a ops i=some t→(i<j→lst listed i=true)∧(j≤i→lst listed i=false):=by
    intro i hi' hd
    unfold e6a at hd
    cases hoi:ops[i]? with
    | none=>simp [hoi] at hd
    | some a=>
     simp [hoi] at hd
     refine ⟨fun hij => ?_,fun hij => ?_⟩
     ·have hcl':clash ops i j=true:=by simp only [clash,hoi,ho,hd];simp [ht]
      rcases ok2 j hj i hij with h | h
      ·rw [hcl'] at h;cases h
      ·exact o8a i h
     ·rcases Nat.lt_or_ge j i with h1 | h1
      ·have hcl':clash ops j i=true:=by simp only [clash,hoi,ho,hd];simp [ht]
       rcases ok2 i hi' j h1 with h | h
       ·rw [hcl'] at h;cases h
       ·exact x6a i h
      ·have:i=j:=by omega
       rw [this];exact hlj
   have : ∀ n,n≤ops.size→l7a ops v ρ (lst listed) n t=l7a ops v ρ (fun _=>true) (min n j) t:=by
    intro n
    induction n with
    | zero=>intro _;simp [l7a]
    | succ n ihn=>
     intro hn
     simp only [l7a]
     by_cases hd:e6a ops n=some t
     ·have hk:=key n (by omega) hd
      rcases Nat.lt_or_ge n j with h1 | h1
      ·have:min (n+1) j=n+1:=by omega
       rw [this]
       simp only [l7a,hk.1 h1,if_true,v7a,hd]
      ·have:min (n+1) j=min n j:=by omega
       rw [this,← ihn (by omega)]
       simp [hk.2 h1]
     ·have e1:(if lst listed n=true then m3a (l7a ops v ρ (lst listed) n) (e6a ops n) (v n) else l7a ops v ρ (lst listed) n) t=l7a ops v ρ (lst listed) n t:=by
       split
       ·simp [v7a,hd]
       ·rfl
      rw [e1,ihn (by omega)]
      rcases Nat.lt_or_ge n j with h1 | h1
      ·have a1:min (n+1) j=n+1:=by omega
       have a2:min n j=n:=by omega
       rw [a1,a2]
       simp [l7a,v7a,hd]
      ·have:min (n+1) j=min n j:=by omega
       rw [this]
   rw [this _ (Nat.le_refl _),Nat.min_eq_right (by omega)]
  have hcl' : ∀ i,lst (listed.setIfInBounds j true) i=true → ∀ e∈direct ops i,lst (listed.setIfInBounds j true) e=true:=by
   intro i hli e he
   rw [hset] at hli ⊢
   simp only [Bool.or_eq_true,decide_eq_true_eq] at hli ⊢
   rcases hli with h | rfl
   ·exact .inl (hcl i h e he)
   ·exact .inl (hdj e he)
  by_cases hmj:j∈mk
  ·have t5c : ∀ m∈mk,m<ops.size→(lst listed m=true↔m<j):=by
    intro m hm hms
    rcases Nat.lt_trichotomy m j with h | h | h
    ·refine ⟨fun _=>h,fun _ => ?_⟩
     rcases ok3 j hmj m hm with h' | h'
     ·omega
     ·exact o8a m h'
    ·subst h
     simp [hlj]
    ·refine ⟨fun hl => ?_,fun _=>by omega⟩
     rcases ok3 m hm j hmj with h' | h'
     ·omega
     ·rw [x6a m h'] at hl;cases hl
   have hH:Hs q=Hs j:=by
    rcases Nat.le_total q j with h | h
    ·exact (g1b T j h (by omega) fun m h1 h2 hm=>by
      have a1:=(hcut m hm (by omega))
      have a2:=(t5c m hm (by omega))
      have:=a2.2 h2
      have:=a1.1 this
      omega).symm
    ·exact g1b T q h hq fun m h1 h2 hm=>by
      have a1:=(hcut m hm (by omega))
      have a2:=(t5c m hm (by omega))
      have:=a1.2 h2
      have:=a2.1 this
      omega
   rw [hH]
   refine .cons ((T.step j hj).congr l9c) ?_
   rw [← k5d]
   refine ih (j+1) (by simp [hsz]) hcl' (by omega) (fun m hm hms => ?_)
   rw [hset]
   have:=t5c m hm hms
   simp only [Bool.or_eq_true,decide_eq_true_eq,this]
   omega
  ·have f7f:=T.robust j hj hmj q hq (fun m hm ho=>by
     rcases Nat.lt_or_ge m ops.size with hms | hms
     ·exact (hcut m hm hms).1 (o8a m ho)
     ·have:=o8a m ho
      simp [lst,Array.getD,hsz,Nat.not_lt.2 hms] at this)
    (fun m hm ho=>by
     rcases Nat.lt_or_ge m ops.size with hms | hms
     ·have:=(hcut m hm hms)
      have h2:=x6a m ho
      rw [h2] at this
      simp at this
      exact this
     ·omega)
   refine .cons (f7f.congr l9c) ?_
   rw [← k5d]
   refine ih q (by simp [hsz]) hcl' hq (fun m hm hms => ?_)
   rw [hset]
   have hne:m≠j:=fun e=>hmj (e▸hm)
   simp only [hne,decide_false,Bool.or_false]
   exact hcut m hm hms
theorem v6a (ok1 : ∀ j,j<ops.size → ∀ e∈direct ops j,e<j) : ∀ (fuel t:Nat) (listed:Array Bool),listed.size=ops.size →
  (List.range ops.size).countP (fun i => !lst listed i)≤fuel→d7c ops listed (Region.linearise.go .any ops fuel t listed []):=by
 have ready_nil : ∀ (listed:Array Bool),listed.size=ops.size→Region.ready .any ops listed=[] → ∀ i,i<ops.size→lst listed i=true:=by
  intro listed hsz hr i
  induction i using Nat.strongRecOn with
  | _ i ih=>
   intro hi
   rcases hli:lst listed i with _ | _
   ·have:i∈Region.ready .any ops listed:=(AM.mem_ready hsz).2 ⟨hi,hli,fun e he=>by
     have he':=ok1 i hi e he
     exact ih e he' (by omega)⟩
    rw [hr] at this
    cases this
   ·rfl
 intro fuel
 induction fuel with
 | zero=>
  intro t listed hsz hcount
  simp only [Region.linearise.go]
  refine .nil fun i hi => ?_
  have:(List.range ops.size).countP (fun i => !lst listed i)=0:=by omega
  rw [List.countP_eq_zero] at this
  simpa using this i (List.mem_range.2 hi)
 | succ fuel ih=>
  intro t listed hsz hcount
  simp only [Region.linearise.go]
  change d7c ops listed (match (Region.ready .any ops listed)[t%(Region.ready .any ops listed).length]? with
   | some i=>Region.linearise.go .any ops fuel (t/(Region.ready .any ops listed).length) (listed.setIfInBounds i true) [i]
   | none=>[].reverse)
  cases hi:(Region.ready .any ops listed)[t%(Region.ready .any ops listed).length]? with
  | none=>
   have hnil:Region.ready .any ops listed=[]:=by
    cases hr:Region.ready .any ops listed with
    | nil=>rfl
    | cons x xs=>
     rw [hr] at hi
     have hlt:t%(x::xs).length<(x::xs).length:=Nat.mod_lt _ (by simp)
     simp at hi
     simp at hlt
     omega
   exact .nil (ready_nil listed hsz hnil)
  | some j=>
   simp only []
   rw [linearise_go_acc,List.reverse_singleton,List.singleton_append]
   obtain ⟨hj,hlj,hdj⟩:=(AM.mem_ready hsz).1 (List.mem_of_getElem? hi)
   have hset : ∀ i,lst (listed.setIfInBounds j true) i=(lst listed i || decide (i=j)):=by
    intro i
    unfold lst
    by_cases hij:i=j
    ·subst hij
     simp [Array.getD,hsz,hj]
    ·simp [Array.getD_eq_getD_getElem?,Array.getElem?_setIfInBounds_ne (Ne.symm hij),hij]
   have hcnt:(List.range ops.size).countP (fun i => !lst (listed.setIfInBounds j true) i)≤fuel:=by
    have h1:(List.range ops.size).countP (fun i => !lst listed i)=(List.range ops.size).countP (fun i => !lst (listed.setIfInBounds j true) i)+(List.range ops.size).countP (fun i=>decide (i=j)):=by
     have : ∀ l:List Nat,l.countP (fun i => !lst listed i)=l.countP (fun i => !lst (listed.setIfInBounds j true) i)+l.countP (fun i=>decide (i=j)):=by
      intro l
      induction l with
      | nil=>rfl
      | cons x l ihl=>
       simp only [List.countP_cons,hset]
       rw [ihl]
       simp only [hset]
       by_cases hx:x=j
       ·subst hx;simp [hlj];omega
       ·simp [hx];omega
     exact this _
    have h2:0<(List.range ops.size).countP (fun i=>decide (i=j)):=by
     rw [List.countP_pos_iff]
     exact ⟨j,List.mem_range.2 hj,by simp⟩
    omega
   exact .cons hj hlj hdj (ih _ _ (by simp [hsz]) hcnt)
theorem y7a {n:Nat} : ∀ i,lst (Array.replicate n false) i=false:=by
 intro i
 simp only [lst,Array.getD_eq_getD_getElem?,Array.getElem?_replicate]
 split<;>rfl
theorem f8c (hok:q0a ops mk=true) (t:Nat):d7c ops (Array.replicate ops.size false) (Region.linearise .any ops t):=by
 simp only [q0a,Bool.and_eq_true,List.all_eq_true,List.mem_range,decide_eq_true_eq] at hok
 refine v6a hok.1.1 ops.size t (Array.replicate ops.size false) (by simp) ?_
 have:=List.countP_le_length (p:=fun i => !lst (Array.replicate ops.size false) i) (l:=List.range ops.size)
 simpa using this
theorem c9d (hok:q0a ops mk=true) (T:x1c P orc fl sz ops mk ρ v Hs) {l:List Nat} (ht:d7c ops (Array.replicate ops.size false) l) :
  Run P orc fl sz ops l ρ (Hs 0) (l7a ops v ρ (fun _=>true) ops.size) (Hs ops.size):=by
 have h0:=y7a (n:=ops.size)
 have:=d0d hok T ht 0 (by simp) (fun j hj=>by rw [h0] at hj;cases hj) (Nat.zero_le _) (fun m _ _=>by simp [h0])
 have he:l7a ops v ρ (lst (Array.replicate ops.size false)) ops.size=ρ:=by
  have : ∀ n,l7a ops v ρ (lst (Array.replicate ops.size false)) n=ρ:=by
   intro n
   induction n with
   | zero=>rfl
   | succ n ih=>simp [l7a,h0,ih]
  exact this _
 rw [he] at this
 exact this
end
end Go.DM
