/- Texts in the order of their bytes. -/
import Derived.Test.YtcdijoaabbjioaaGreatDoorDmLx
import Derived.Sort.Grow
import Derived.Laws.IdiomCopy
set_option linter.unusedSimpArgs false
set_option linter.unusedVariables false
namespace Go.DM
open Go Go.AM
end Go.DM
namespace Go.DM
open Go Go.AM Go.RowKit
end Go.DM
namespace Go.DM
open Go Go.AM
def w7e:List K→h6a→Option (List K×h6a)
 | .code (.seq c d)::k,.normal=>some (.code c :: .code d::k,.normal)
 | .code .skip::k,.normal=>some (k,.normal)
 | .code (.block id c)::k,.normal=>if id=PAN then none else some (.code c :: .blk id::k,.normal)
 | .code (.exit id)::k,.normal=>if id=PAN then none else some (k,.exit id)
 | .blk _::k,.normal=>some (k,.normal)
 | .blk id::k,.exit id'=>if id'=id then some (k,.normal) else some (k,.exit id')
 | .code _::k,.exit id=>some (k,.exit id)
 | .lp _::k,.exit id=>some (k,.exit id)
 | _,_=>none
def q0e (v:D) (x y:Code):Option Code:=match v with | .bool true=>some x | .bool false=>some y | _=>none
def a6c (sz:Nat) (dst:Option Tmp) (op:Op):Bool:=j8b sz dst&&op.operands.toList.all b5a
def u8c (loose:List Nat) (i sz:Nat) (dst:Option Tmp) (op:Op):Bool:=j8b sz dst&&op.operands.toList.all b5a && !loose.contains i
def v9a (ops:Array Oper) (ρ:e1a):Option (Nat×Bool)→Bool
 | none=>true
 | some g=>e9a ops ρ g.1==some g.2
def j9a (P : Program) (f : FuncId) : Prop := ∃ fn, P.funcs[f]? = some fn ∧ (fn.name == "runtime.NumGoroutine") = false ∧ fn.body.isNone = false
section
variable {P:Program} {orc:c3a} {fl sz:Nat} {k:List K} {ρ:e1a} {H:Mem} {Q:h6a→e1a→Mem→Prop} {ops:Array Oper} {loose:List Nat} {Inv:Mem→Prop} {F i:Nat}
 {os:List Oper} {dst:Option Tmp} {op:Op} {cl:Call} {ty:TypeId} {pos:String} {after:Array Edge} {g:Option (Nat×Bool)} {f:FuncId} {args:List D}
theorem Go.a {ks:List K} {e e':h6a} (h:w7e ks e=some (k,e')) (q:Go P orc fl sz k e' ρ H Q):Go P orc fl sz ks e ρ H Q:=by
 unfold w7e at h
 split at h
 ·cases h;exact Go.seq q
 ·cases h;exact Go.skip q
 ·split at h
  ·cases h
  ·rename_i hi;cases h;exact Go.block q hi
 ·split at h
  ·cases h
  ·rename_i hi;cases h;exact Go.exit q hi
 ·cases h;exact q
 ·split at h
  ·rename_i he
   cases h;cases he;exact Go.z8e q
  ·rename_i he
   cases h;exact Go.p1e he q
 ·cases h;exact q
 ·cases h;exact q
 ·cases h
theorem Go.b {t:Tmp} {x y z:Code} (h:q0e (ρ t) x y=some z) (q:Go P orc fl sz (.code z::k) .normal ρ H Q):Go P orc fl sz (.code (.cond (.tmp t) x y)::k) .normal ρ H Q:=by
 unfold q0e at h
 split at h
 ·rename_i hv;cases h;exact Go.k8c hv q
 ·rename_i hv;cases h;exact Go.k7c hv q
 ·cases h
theorem r2a (h:a6c sz dst op=true):i9a sz dst∧op.operands.toList.all b5a=true:=by
 unfold a6c at h
 rw [Bool.and_eq_true] at h
 exact ⟨n9c h.1,h.2⟩
theorem g7c (h:u8c loose i sz dst op=true):i9a sz dst∧op.operands.toList.all b5a=true∧loose.contains i=false:=by
 unfold u8c at h
 rw [Bool.and_eq_true,Bool.and_eq_true] at h
 exact ⟨n9c h.1.1,h.1.2,by simpa using h.2⟩
theorem GoR.o (h1:a6c sz dst op=true) (h2:v9a ops ρ g=true) (h:p4a (opD P ρ op H) fun v H1=>GoR P orc fl sz ops os k (m3a ρ dst v) H1 Q):GoR P orc fl sz ops (⟨dst,op,ty,pos,after,g⟩::os) k ρ H Q:=by
 obtain ⟨a,b⟩:=r2a h1
 cases g with
 | none=>exact GoR.op a b h
 | some g=>exact GoR.opG a b h2 h
theorem GoR.c (hf:j9a P f) (h1:a6c sz dst (.call cl)=true) (h2:v9a ops ρ g=true) (ht:h0a ρ (.call cl)=some (f,args)) (h:a3a P orc f args H fun v H1=>GoR P orc fl sz ops os k (m3a ρ dst v) H1 Q) :
  GoR P orc fl sz ops (⟨dst,.call cl,ty,pos,after,g⟩::os) k ρ H Q:=by
 obtain ⟨a,b⟩:=r2a h1
 obtain ⟨fn,e1,e2,e3⟩:=hf
 cases g with
 | none=>exact GoR.call a b ht e1 e2 e3 h
 | some g=>exact GoR.c4d a b h2 ht e1 e2 e3 h
theorem GoR.s {x:Nat×Bool} {b:Option Bool} (h1:a6c sz dst op=true) (hy:m6a ops ρ x.1=some b) (hw:(b==some x.2)=false) (h:GoR P orc fl sz ops os k (m3a ρ dst j1a) H Q):GoR P orc fl sz ops (⟨dst,op,ty,pos,after,some x⟩::os) k ρ H Q:=
 GoR.a7e (r2a h1).1 hy hw h
theorem GoW.o (h1:u8c loose i sz dst op=true) (h2:v9a ops ρ g=true) (h:p4a (opD P ρ op H) fun v H1=>(i<F→Inv H1)∧GoW P orc fl sz ops loose Inv F (i+1) os k (m3a ρ dst v) H1 Q):GoW P orc fl sz ops loose Inv F i (⟨dst,op,ty,pos,after,g⟩::os) k ρ H Q:=by
 obtain ⟨a,b,d⟩:=g7c h1
 cases g with
 | none=>exact GoW.op a b d h
 | some g=>exact GoW.opG a b d h2 h
theorem GoW.rd (h1:a6c sz dst op=true) (h2:v9a ops ρ g=true) (h:p4a (opD P ρ op H) fun v H1=>H1=H∧Inv H∧(∀ H',Inv H'→opD P ρ op H'=some (v,H'))∧GoW P orc fl sz ops loose Inv F (i+1) os k (m3a ρ dst v) H Q) :
  GoW P orc fl sz ops loose Inv F i (⟨dst,op,ty,pos,after,g⟩::os) k ρ H Q:=by
 obtain ⟨a,b⟩:=r2a h1
 cases g with
 | none=>exact GoW.h4f a b h
 | some g=>exact GoW.w0e a b h2 h
theorem GoW.c (hf:j9a P f) (h1:u8c loose i sz dst (.call cl)=true) (h2:v9a ops ρ g=true) (ht:h0a ρ (.call cl)=some (f,args))
  (h:a3a P orc f args H fun v H1=>(i<F→Inv H1)∧GoW P orc fl sz ops loose Inv F (i+1) os k (m3a ρ dst v) H1 Q):GoW P orc fl sz ops loose Inv F i (⟨dst,.call cl,ty,pos,after,g⟩::os) k ρ H Q:=by
 obtain ⟨a,b,d⟩:=g7c h1
 obtain ⟨fn,e1,e2,e3⟩:=hf
 cases g with
 | none=>exact GoW.call a b ht e1 e2 e3 d h
 | some g=>exact GoW.c4d a b h2 ht e1 e2 e3 d h
theorem GoW.s {x:Nat×Bool} {b:Option Bool} (h1:a6c sz dst op=true) (hy:m6a ops ρ x.1=some b) (hw:(b==some x.2)=false) (hi:i<F→Inv H) (h:GoW P orc fl sz ops loose Inv F (i+1) os k (m3a ρ dst j1a) H Q) :
  GoW P orc fl sz ops loose Inv F i (⟨dst,op,ty,pos,after,some x⟩::os) k ρ H Q:=GoW.a7e (r2a h1).1 hy hw hi h
theorem a3a.eb {fn:Func} {b:Code} {n:Nat} {R:D→Mem→Prop} (hf:P.funcs[f]?=some fn) (hb:fn.body=some b) (hn:fn.ntmps=n) (ha:decide (args.length≤n)=true)
  (h:Go P orc H.length n [.code b] .normal (r1a args) H fun e ρ H'=>(e = .normal∨e = .ret) ∧ ∃ v,g9a P fn ρ H'=some v∧R v H'):a3a P orc f args H R:=by
 subst hn
 exact a3a.body hf hb (of_decide_eq_true ha) h
theorem a3a.e {fn:Func} {b:Code} {n:Nat} {R:D→Prop} (hf:P.funcs[f]?=some fn) (hb:fn.body=some b) (hn:fn.ntmps=n) (ha:decide (args.length≤n)=true)
  (h:Go P orc H.length n [.code b] .normal (r1a args) H fun e ρ H'=>(e = .normal∨e = .ret) ∧ ∃ v,g9a P fn ρ H'=some v ∧ ∃ d' E,H'=H++E∧Wk H.length v d'∧R d'):a3a P orc f args H fun d S'=>S'=H∧R d:=
 a3a.drop (a3a.eb hf hb hn ha h)
end
theorem Gx.{u} :
  (∀ {α:Type u} {h:Decidable True} (a b:α),(@ite α True h a b)=a)∧(∀ {α:Type u} {h:Decidable False} (a b:α),(@ite α False h a b)=b)∧(∀ {α:Type u} [LT α] (a b:α),(a>b)=(b<a))∧(∀ {α:Type u} [BEq α] [ReflBEq α] (a:α),(a==a)=true):=
 ⟨fun a b=>if_pos trivial,fun a b=>if_neg id,fun a b=>rfl,fun a=>beq_self_eq_true a⟩
end Go.DM
namespace Go.DM
open Go Go.AM
section
variable (P:Program)
end
section
variable {P:Program} {t e m b s:Nat} {v:Value} {z:D} {zs:List D} {k k2:IntKind}
end
end Go.DM
namespace Go.DM
open Go Go.AM
section
variable {P:Program} {orc:c3a} {fl sz:Nat} {ops:Array Oper} {loose:List Nat} {Inv:Mem→Prop} {F:Nat} {k:List AM.K} {ρ:e1a} {H:Mem} {Q:AM.h6a→e1a→Mem→Prop}
end
end Go.DM
namespace Go.DM
open Go Go.AM
section
variable {d d':Nat→List Nat} {n:Nat}
def Steps (d:Nat→List Nat) (n:Nat):(Nat→Prop)→List Nat→Prop
 | _,[]=>True
 | s,j::l=>j<n ∧ ¬ s j∧(∀ e∈d j,s e)∧Steps d n (fun i=>s i∨i=j) l
theorem Steps.congr : ∀ {l:List Nat} {s s':Nat→Prop},(∀ i,s i↔s' i)→Steps d n s l→Steps d n s' l
 | [],_,_,_,_=>trivial
 | j::l,s,s',h,⟨h1,h2,h3,h4⟩=>⟨h1,fun q=>h2 ((h j).2 q),fun e he=>(h e).1 (h3 e he),h4.congr fun i=>or_congr (h i) Iff.rfl⟩
theorem n3a : ∀ {x y:List Nat} {s:Nat→Prop},Steps d n s (x++y)↔Steps d n s x∧Steps d n (fun i=>s i∨i∈x) y
 | [],y,s=>⟨fun h=>⟨trivial,h.congr fun i=>by simp⟩,fun h=>h.2.congr fun i=>by simp⟩
 | j::x,y,s=>by
  constructor
  ·rintro ⟨h1,h2,h3,h4⟩
   obtain ⟨h5,h6⟩:=n3a.1 h4
   exact ⟨⟨h1,h2,h3,h5⟩,h6.congr fun i=>by simp [or_assoc]⟩
  ·rintro ⟨⟨h1,h2,h3,h5⟩,h6⟩
   exact ⟨h1,h2,h3,n3a.2 ⟨h5,h6.congr fun i=>by simp [or_assoc]⟩⟩
theorem Steps.nin : ∀ {l:List Nat} {s:Nat→Prop},Steps d n s l → ∀ j∈l,¬ s j
 | j::l,s,⟨_,h2,_,h4⟩,i,hi=>by
  rcases List.mem_cons.1 hi with rfl | hi
  ·exact h2
  ·exact fun q=>h4.nin i hi (.inl q)
theorem Steps.closed : ∀ {l:List Nat} {s:Nat→Prop},(∀ i,s i → ∀ e∈d i,s e)→Steps d n s l → ∀ i,(s i∨i∈l) → ∀ e∈d i,s e∨e∈l
 | [],s,hs,_,i,hi,e,he=>by
  rcases hi with hi | hi
  ·exact .inl (hs i hi e he)
  ·cases hi
 | j::l,s,hs,⟨_,_,h3,h4⟩,i,hi,e,he=>by
  have hs' : ∀ i,(s i∨i=j) → ∀ e∈d i,s e∨e=j:=by
   rintro i (hi | rfl) e he
   ·exact .inl (hs i hi e he)
   ·exact .inl (h3 e he)
  have:=h4.closed hs' i (by
   rcases hi with hi | hi
   ·exact .inl (.inl hi)
   ·rcases List.mem_cons.1 hi with rfl | hi
    ·exact .inl (.inr rfl)
    ·exact .inr hi) e he
  rcases this with (h | rfl) | h
  ·exact .inl h
  ·exact .inr (by simp)
  ·exact .inr (List.mem_cons_of_mem _ h)
theorem Steps.dep : ∀ {l:List Nat} {s:Nat→Prop},(∀ j∈l,d' j=d j)→Steps d n s l→Steps d' n s l
 | [],_,_,_=>trivial
 | j::l,s,h,⟨h1,h2,h3,h4⟩=>⟨h1,h2,by rw [h j (by simp)];exact h3,h4.dep fun i hi=>h i (List.mem_cons_of_mem _ hi)⟩
theorem Steps.less {a:Nat} : ∀ {l:List Nat} {s:Nat→Prop},(∀ j∈l,a∉d j)→Steps d n (fun i=>s i∨i=a) l→Steps d n s l
 | [],_,_,_=>trivial
 | j::l,s,h,⟨h1,h2,h3,h4⟩=>⟨h1,fun q=>h2 (.inl q),fun e he=>by
   rcases h3 e he with q | rfl
   ·exact q
   ·exact absurd he (h j (by simp)),Steps.less (a:=a) (fun i hi=>h i (List.mem_cons_of_mem _ hi)) (h4.congr fun i=>by constructor<;>(rintro ((q | q) | q)<;>simp [q]))⟩
theorem d1c (p:Nat→Prop) : ∀ r:List Nat,∃ y v,r=y++v∧(∀ j∈v,¬ p j)∧(y=[] ∨ ∃ y0 m,y=y0++[m]∧p m)
 | []=>⟨[],[],rfl,by simp,.inl rfl⟩
 | j::r=>by
  obtain ⟨y,v,e,h1,h2⟩:=d1c p r
  rcases h2 with rfl | ⟨y0,m,rfl,hm⟩
  ·by_cases hj:p j
   ·exact ⟨[j],v,by simp [e],h1,.inr ⟨[],j,rfl,hj⟩⟩
   ·refine ⟨[],j::v,by simp [e],fun i hi => ?_,.inl rfl⟩
    rcases List.mem_cons.1 hi with rfl | hi
    ·exact hj
    ·exact h1 i hi
  ·exact ⟨j::(y0++[m]),v,by simp [e],h1,.inr ⟨j::y0,m,rfl,hm⟩⟩
end
theorem d7b {ops:Array Oper} : ∀ {l:List Nat} {listed:Array Bool},listed.size=ops.size→(d7c ops listed l↔Steps (direct ops) ops.size (fun i=>lst listed i=true) l ∧ ∀ i,i<ops.size→lst listed i=true∨i∈l)
 | [],listed,hsz=>⟨fun h=>by cases h with | nil h=>exact ⟨trivial,fun i hi=>.inl (h i hi)⟩,fun h=>.nil fun i hi=>by simpa using h.2 i hi⟩
 | j::l,listed,hsz=>by
  have hset : ∀ j,j<ops.size → ∀ i,lst (listed.setIfInBounds j true) i=true↔(lst listed i=true∨i=j):=by
   intro j hj i
   unfold lst
   by_cases hij:i=j
   ·subst hij
    simp [Array.getD,hsz,hj]
   ·simp [Array.getD_eq_getD_getElem?,Array.getElem?_setIfInBounds_ne (Ne.symm hij),hij]
  constructor
  ·intro h
   cases h with
   | cons hj hl hd t=>
    obtain ⟨h1,h2⟩:=(d7b (by simp [hsz])).1 t
    refine ⟨⟨hj,by simp [hl],hd,h1.congr (hset j hj)⟩,fun i hi => ?_⟩
    rcases h2 i hi with q | q
    ·rcases (hset j hj i).1 q with q | rfl
     ·exact .inl q
     ·exact .inr (by simp)
    ·exact .inr (List.mem_cons_of_mem _ q)
  ·rintro ⟨⟨hj,hl,hd,h1⟩,h2⟩
   refine .cons hj (by simpa using hl) hd ((d7b (by simp [hsz])).2 ⟨h1.congr fun i=>(hset j hj i).symm,fun i hi => ?_⟩)
   rcases h2 i hi with q | q
   ·exact .inl ((hset j hj i).2 (.inl q))
   ·rcases List.mem_cons.1 q with rfl | q
    ·exact .inl ((hset i hj i).2 (.inr rfl))
    ·exact .inr q
def z8d (o:Oper) (ms:List Nat):Oper := { o with after:=o.after++(ms.map fun m=>(⟨m,.data⟩:Edge)).toArray }
def plus (ops:Array Oper) (a:Nat) (ms:List Nat):Array Oper:=ops.modify a fun o=>z8d o ms
theorem k2b {ops:Array Oper} {a:Nat} {ms:List Nat} : (plus ops a ms).size=ops.size:=by simp [plus]
theorem k1b {ops:Array Oper} {a:Nat} {ms:List Nat} (i:Nat):(plus ops a ms)[i]?=if a=i then (ops[i]?).map fun o=>z8d o ms else ops[i]?:=by
 unfold plus
 rw [Array.getElem?_modify]
theorem q2d {ops:Array Oper} {a:Nat} {ms:List Nat} {i:Nat} {o:Oper} (h:(plus ops a ms)[i]?=some o) : ∃ o',ops[i]?=some o'∧o.dst=o'.dst∧o.op=o'.op∧o.guard=o'.guard:=by
 rw [k1b] at h
 split at h
 ·obtain ⟨o',ho,rfl⟩:=Option.map_eq_some_iff.1 h
  exact ⟨o',ho,rfl,rfl,rfl⟩
 ·exact ⟨o,h,rfl,rfl,rfl⟩
theorem q1d {ops:Array Oper} {a:Nat} {ms:List Nat} {i:Nat} {o:Oper} (h:ops[i]?=some o) : ∃ o',(plus ops a ms)[i]?=some o'∧o'.dst=o.dst∧o'.op=o.op∧o'.guard=o.guard:=by
 rw [k1b]
 split
 ·exact ⟨z8d o ms,by rw [h];rfl,rfl,rfl,rfl⟩
 ·exact ⟨o,h,rfl,rfl,rfl⟩
theorem b0d {ops:Array Oper} {a:Nat} {ms:List Nat} (i:Nat):e6a (plus ops a ms) i=e6a ops i:=by
 unfold e6a
 rw [k1b]
 split
 ·cases ops[i]?<;>rfl
 ·rfl
theorem o2c {ops:Array Oper} {a:Nat} {ms:List Nat} (i:Nat):((plus ops a ms)[i]?).bind (·.dst)=(ops[i]?).bind (·.dst):=by
 rw [k1b]
 split
 ·cases ops[i]?<;>rfl
 ·rfl
theorem p4b {ops:Array Oper} {a:Nat} {ms:List Nat} {ρ:e1a} : e9a (plus ops a ms) ρ=e9a ops ρ:=by
 funext j
 unfold e9a
 rw [o2c]
theorem w7b {ops:Array Oper} {a:Nat} {ms:List Nat} {ρ:e1a} : m6a (plus ops a ms) ρ=m6a ops ρ:=by
 funext j
 unfold m6a
 rw [o2c]
theorem z0b {o o':Oper} (h:o.guard=o'.guard) (f:Nat→Option Bool):Region.wanted o f=Region.wanted o' f:=by
 unfold Region.wanted
 rw [h]
section
variable {P:Program} {orc:c3a} {fl sz:Nat} {ops:Array Oper} {a:Nat} {ms:List Nat}
theorem k9a.plus {i:Nat} {ρ:e1a} {H H':Mem} {v:D} (h:k9a P orc fl sz ops i ρ H v H'):k9a P orc fl sz (plus ops a ms) i ρ H v H':=by
 obtain ⟨o,ho,hd,h⟩:=h
 obtain ⟨o',ho',e1,e2,e3⟩:=q1d (a:=a) (ms:=ms) ho
 refine ⟨o',ho',by rw [e1];exact hd,?_⟩
 rw [p4b,w7b,e3,e2,z0b e3]
 exact h
theorem k9a.t6d {i:Nat} {ρ:e1a} {H H':Mem} {v:D} (h:k9a P orc fl sz (DM.plus ops a ms) i ρ H v H'):k9a P orc fl sz ops i ρ H v H':=by
 obtain ⟨o,ho,hd,h⟩:=h
 obtain ⟨o',ho',e1,e2,e3⟩:=q2d ho
 refine ⟨o',ho',by rw [← e1];exact hd,?_⟩
 rw [p4b,w7b,e3,e2,z0b e3] at h
 exact h
theorem Run.t6d {l:List Nat} {ρ ρ':e1a} {S S':Mem} (h:Run P orc fl sz (plus ops a ms) l ρ S ρ' S'):Run P orc fl sz ops l ρ S ρ' S':=by
 induction h with
 | nil=>exact .nil
 | @cons i l ρ S v S1 ρ' S' h _ ih=>
  rw [b0d] at ih
  exact .cons h.t6d ih
theorem Tr.plus {loose:List Nat} {Inv:Mem→Prop} {F i:Nat} {ρ ρ':e1a} {H H':Mem} {l:List (D×Mem)} (h:Tr P orc fl sz ops loose Inv F i ρ H l ρ' H'):Tr P orc fl sz (plus ops a ms) loose Inv F i ρ H l ρ' H':=by
 induction h with
 | @nil ρ H=>
  have:=Tr.nil (P:=P) (orc:=orc) (fl:=fl) (sz:=sz) (ops:=DM.plus ops a ms) (loose:=loose) (Inv:=Inv) (F:=F) (ρ:=ρ) (H:=H)
  rw [k2b] at this
  exact this
 | cons h hl hi _ ih=>
  refine .cons h.plus (fun hm => ?_) hi (by rw [b0d];exact ih)
  obtain ⟨h1,h2⟩:=hl hm
  exact ⟨h1,fun H' hH=>(h2 H' hH).plus⟩
theorem Run.append {x y:List Nat} {ρ ρ2:e1a} {S S2:Mem} (h:Run P orc fl sz ops (x++y) ρ S ρ2 S2) : ∃ ρ1 S1,Run P orc fl sz ops x ρ S ρ1 S1∧Run P orc fl sz ops y ρ1 S1 ρ2 S2:=by
 induction x generalizing ρ S with
 | nil=>exact ⟨ρ,S,.nil,h⟩
 | cons i x ih=>
  cases h with
  | cons h t=>
   obtain ⟨ρ1,S1,h1,h2⟩:=ih t
   exact ⟨ρ1,S1,.cons h h1,h2⟩
def Apart (ops:Array Oper) (t:Tmp) (j:Nat):Prop := ∀ o,ops[j]?=some o→o.dst≠some t∧t∉o.looksAt ops
theorem Run.at {t:Tmp} {x:D} {l:List Nat} {ρ ρ':e1a} {S S':Mem} (h:Run P orc fl sz ops l ρ S ρ' S') (ha : ∀ j∈l,Apart ops t j):Run P orc fl sz ops l (r6a ρ t x) S (r6a ρ' t x) S':=by
 induction h with
 | nil=>exact .nil
 | @cons i l ρ S v S1 ρ' S' h _ ih=>
  have h1:=ha i (by simp)
  refine .cons (v:=v) (S1:=S1) (h.congr fun o ho u hu => ?_) ?_
  ·have:=(h1 o ho).2
   have hne:u≠t:=fun e=>this (by rw [← e];exact hu)
   simp only [r6a,if_neg hne]
  ·have e:m3a (r6a ρ t x) (e6a ops i) v=r6a (m3a ρ (e6a ops i) v) t x:=by
    obtain ⟨o,ho,_⟩:=h
    have h2:=(h1 o ho).1
    have h3:e6a ops i=o.dst:=by simp [e6a,ho]
    rw [h3]
    funext u
    cases hd:o.dst with
    | none=>rfl
    | some q=>
     rw [hd] at h2
     have h4:t≠q:=fun e=>h2 (by rw [e])
     simp only [m3a,r6a]
     by_cases h5:u=q
     ·have h6:u≠t:=fun e=>h4 (by rw [← e];exact h5)
      rw [if_pos h5,if_neg h6,if_pos h5]
     ·rw [if_neg h5,if_neg h5]
   rw [e]
   exact ih fun j hj=>ha j (List.mem_cons_of_mem _ hj)
theorem m5b {p:Option (Tmp×Value)} {l r:List Nat} {ρ ρ1:e1a} {S S1 S2:Mem} {out:n8e} (h:Run P orc fl sz ops l ρ S ρ1 S1) (hp : ∀ t z,p=some (t,z) → ∀ j∈l,Apart ops t j)
  (k:i8a P orc fl (.late sz ops r ρ1 p) S1 out S2):i8a P orc fl (.late sz ops (l++r) ρ p) S out S2:=by
 induction h with
 | nil=>exact k
 | @cons i l ρ S v S1 ρ' S' h _ ih=>
  have hk:=ih (fun t z e j hj=>hp t z e j (List.mem_cons_of_mem _ hj)) k
  obtain ⟨o,ho,hd,h⟩:=h
  have e:e6a ops i=o.dst:=by simp [e6a,ho]
  rw [e] at hk
  have hq : ∀ t z,p=some (t,z)→o.dst≠some t:=fun t z e=>(hp t z e i (by simp) o ho).1
  rcases h with ⟨g,b,hg,hy,hb,rfl,rfl⟩ | ⟨hw,hc,h | ⟨f,args,fn,ht,hf,hn,hb,hcall⟩⟩
  ·exact .z4c ho hq hg hy hb hd hk
  ·exact .e2e ho hq hw hd hc h hk
  ·exact .z2c ho hq hw hd hc ht hf hn hb hcall hk
theorem m5d {x y v:List Nat} {o:Oper} {ty t:Nat} {z:Value} {ρ ρ':e1a} {S S':Mem} (ho:ops[a]?=some o) (hop:o.op = .alloc ty) (hdst:o.dst=some t) (hg:o.guard=none) (hz:i3a P ty=some z) (hs:z.cells.all b3a=true)
  (hy : ∀ j∈y,Apart ops t j) (h:Run P orc fl sz ops (x++(y++a::v)) ρ S ρ' S'):i8a P orc fl (.late sz ops (x++a::(y++v)) ρ none) S (.env ρ') S':=by
 obtain ⟨ρ1,S1,hx,h⟩:=h.append
 obtain ⟨ρ2,S2,hyy,h⟩:=h.append
 cases h with
 | cons ha hv=>
 have e:e6a ops a=some t:=by simp [e6a,ho,hdst]
 obtain ⟨o',ho',hd,hst⟩:=ha
 rw [ho] at ho'
 cases ho'
 refine m5b hx (fun _ _ e=>by cases e) (.m6c ho hop hdst hg hd hz hs (m5b (hyy.at (x:=.bot) hy) (fun t' z' e=>by cases e;exact hy) (.z3c ?_)))
 have hv':=m5b (r:=[]) (p:=none) hv (fun _ _ e=>by cases e) .m3d
 rw [List.append_nil] at hv'
 rcases hst with ⟨g,b,hg',_⟩ | ⟨hw,hc,h | ⟨f,args,fn,ht,_⟩⟩
 ·rw [hg] at hg';cases hg'
 ·rw [hop] at h
  have n7f:opD P ρ2 (.alloc ty) S2=some (.ptr S2.length 0,S2++[.obj (z.cells.toList.map ofS)]):=by simp only [opD,hz,hs,if_true]
  have hval : ∀ w S3,opM P ρ2 (.alloc ty) S2 w S3→w = .ptr S2.length 0∧S3=S2++[.obj (z.cells.toList.map ofS)]:=by
   intro w S3 hm
   unfold opM at hm
   rw [n7f] at hm
   rcases hm with hm | hm | hm
   ·cases hm;exact ⟨rfl,rfl⟩
   ·obtain ⟨_,_,_,hm,_⟩:=hm;simp at hm
   ·obtain ⟨_,_,_,hm,_⟩:=hm;simp at hm
  obtain ⟨rfl,rfl⟩:=hval _ _ h
  have e2:r6a (r6a ρ2 t .bot) t (.ptr S2.length 0)=m3a ρ2 (e6a ops a) (.ptr S2.length 0):=by
   rw [e]
   funext u
   simp only [r6a,m3a]
   split<;>rfl
  rw [e2]
  exact hv'
 ·rw [hop] at ht
  simp [h0a] at ht
theorem f7b (j:Nat):direct (plus ops a ms) j=if a=j∧j<ops.size then direct ops j++ms else direct ops j:=by
 unfold direct
 rw [k1b]
 by_cases h:a=j
 ·rw [if_pos h]
  cases ho:ops[j]? with
  | none=>
   have : ¬ j<ops.size:=by have:=Array.getElem?_eq_none_iff.1 ho;omega
   simp [this]
  | some o=>
   have hj:=(Array.getElem?_eq_some_iff.1 ho).1
   rw [if_pos ⟨h,hj⟩]
   have hb : ∀ ms:List Nat,((ms.map fun m=>(⟨m,.data⟩:Edge)).filter (Region.binds .any)).map (·.on)=ms:=by
    intro ms
    induction ms with
    | nil=>rfl
    | cons m ms ih=>simp only [List.map_cons,List.filter_cons,Region.binds,if_true,ih]
   simp [z8d,hb]
 ·rw [if_neg h,if_neg (fun q=>h q.1)]
def m4d (ops:Array Oper) (a:Nat) (ms:List Nat):Bool:=
 decide (a<ops.size)&&(ms.all fun m=>decide (m<ops.size)&&m != a) &&
 (List.range ops.size).all fun j=>(!(direct ops j).contains a || ms.all fun m=>ordered ops ops.size m j)&&(j==a || !(clash ops a j || clash ops j a) || (ms.all fun m=>ordered ops ops.size m j) || ordered ops ops.size j a)
theorem v1d {o:Oper} {t:Tmp} {j:Nat} (ho:ops[a]?=some o) (hdst:o.dst=some t) (h1:clash ops a j=false) (h2:clash ops j a=false):Apart ops t j:=by
 intro oj hj
 simp only [clash,ho,hj,hdst] at h1
 simp only [Bool.or_eq_false_iff] at h1
 obtain ⟨⟨h3,h4⟩,_⟩:=h1
 exact ⟨by simpa using h4,by simpa using h3⟩
variable {k:List K} {ρ:e1a} {H:Mem} {Q:h6a→e1a→Mem→Prop}
theorem Go.rgF {id:Nat} {l:List Oper} (a:Nat) (ms loose:List Nat) (Inv:Mem→Prop) (hm:P.follows .mixedOrders=true) (hf:i0a (plus l.toArray a ms) loose=true) (F:Nat) (hfe:v5a (plus l.toArray a ms) loose F=true) (x7d:m4d l.toArray a ms=true)
  {o:Oper} {ty t:Nat} {z:Value} (ho:l.toArray[a]?=some o) (hop:o.op = .alloc ty) (hdst:o.dst=some t) (hg:o.guard=none) (hz:i3a P ty=some z) (hs:z.cells.all b3a=true) (hi:Inv H) (h:GoW P orc fl sz l.toArray loose Inv F 0 l k ρ H Q) :
  Go P orc fl sz (.code (.region id l.toArray true)::k) .normal ρ H Q:=by
 obtain ⟨tr,ρ',H',ht,hgo⟩:=h (by simp)
 clear h
 generalize l.toArray=ops at *
 refine ⟨.normal,ρ',H',.regionF hm (fun n => ?_),hgo⟩
 have hok:=hf
 simp only [i0a,q0a,Bool.and_eq_true,List.all_eq_true,List.mem_range,decide_eq_true_eq] at hok
 have hok1 : ∀ j,j<ops.size → ∀ e∈direct ops j,e<j:=fun j hj e he=>hok.1.1.1 j (by rw [k2b];exact hj) e (by
  rw [f7b]
  split
  ·exact List.mem_append_left _ he
  ·exact he)
 simp only [m4d,Bool.and_eq_true,decide_eq_true_eq,List.all_eq_true,List.mem_range,bne_iff_ne,Bool.or_eq_true,Bool.not_eq_true',beq_iff_eq] at x7d
 obtain ⟨⟨ha,hms⟩,x7d⟩:=x7d
 have k7d:d7c ops (Array.replicate ops.size false) (Region.linearise .any ops n):=v6a hok1 ops.size n _ (by simp) (by
  have:=List.countP_le_length (p:=fun i => !lst (Array.replicate ops.size false) i) (l:=List.range ops.size)
  simpa using this)
 generalize Region.linearise .any ops n=ord at *
 obtain ⟨hsteps,hall⟩:=(d7b (by simp)).1 k7d
 have hsteps:Steps (direct ops) ops.size (fun _=>False) ord:=hsteps.congr fun i=>by simp [y7a]
 have hall : ∀ i,i<ops.size→i∈ord:=fun i hi=>(hall i hi).resolve_left (by simp [y7a])
 obtain ⟨x,r,rfl⟩:=List.append_of_mem (hall a ha)
 obtain ⟨y,v,rfl,hv,hy⟩:=d1c (· ∈ ms) r
 obtain ⟨sx,sa⟩:=n3a.1 hsteps
 obtain ⟨_,ha2,ha3,syv⟩:=sa
 obtain ⟨sy,sv⟩:=n3a.1 syv
 have sx0 : ∀ i∈x,∀ e∈direct ops i,e∈x:=fun i hi e he=>(sx.closed (fun _ h=>h.elim) i (.inr hi) e he).resolve_left not_false
 have hax:a∉x:=fun h=>ha2 (.inr h)
 have e7f : ∀ j∈y,j<ops.size∧j≠a∧j∉x ∧ ∀ m∈ms,y.getLast?=some m → ¬ ordered ops ops.size m j=true:=by
  intro j hj
  obtain ⟨y1,y2,e⟩:=List.append_of_mem hj
  rw [e] at sy
  obtain ⟨s1,s2⟩:=n3a.1 sy
  obtain ⟨q1,q2,q3,q4⟩:=s2
  refine ⟨q1,fun h=>q2 (.inl (.inr h)),fun h=>q2 (.inl (.inl (.inr h))),fun m hm hl ho => ?_⟩
  have hcl : ∀ i,(((False∨i∈x)∨i=a)∨i∈y1) → ∀ e∈direct ops i,((False∨e∈x)∨e=a)∨e∈y1:=by
   refine s1.closed ?_
   rintro i ((h | h) | rfl) e he
   ·exact h.elim
   ·exact .inl (.inr (sx0 i h e he))
   ·exact .inl (ha3 e he)
  have hmem:=j8a (L:=fun i=>((False∨i∈x)∨i=a)∨i∈y1) hcl ops.size m j ho q3
  have hml:m∈j::y2:=by
   rw [e,List.getLast?_append] at hl
   have:(j::y2).getLast?=some m:=by
    cases hq:(j::y2).getLast? with
    | none=>simp at hq
    | some b=>rw [hq] at hl;simpa using hl
   exact List.mem_of_getLast? this
  rcases List.mem_cons.1 hml with rfl | hml
  ·exact q2 hmem
  ·exact q4.nin m hml (.inl hmem)
 have j3f : ∀ j∈y,a∉direct ops j∧Apart ops t j:=by
  intro j hj
  obtain ⟨b1,b2,b3,b4⟩:=e7f j hj
  obtain ⟨m0,hm0,hl0⟩ : ∃ m,m∈ms∧y.getLast?=some m:=by
   rcases hy with rfl | ⟨y0,m,rfl,hm⟩
   ·cases hj
   ·exact ⟨m,hm,by simp⟩
  have hno:=b4 m0 hm0 hl0
  obtain ⟨c1,c2⟩:=x7d j b1
  refine ⟨fun he => ?_,?_⟩
  ·rcases c1 with c1 | c1
   ·have:(direct ops j).contains a=true:=by simpa using he
    rw [this] at c1
    cases c1
   ·exact hno (c1 m0 hm0)
  ·rcases c2 with ((c2 | c2) | c2) | c2
   ·exact absurd c2 b2
   ·rw [Bool.or_eq_false_iff] at c2
    exact v1d ho hdst c2.1 c2.2
   ·exact absurd (c2 m0 hm0) hno
   ·exact absurd (j8a (L:=fun i=>i∈x) sx0 ops.size j a c2 fun e he=>(ha3 e he).resolve_left not_false) b3
 have hdn : ∀ j,j≠a→direct (plus ops a ms) j=direct ops j:=fun j hj=>by rw [f7b,if_neg (fun q=>hj q.1.symm)]
 have hnew:Steps (direct (plus ops a ms)) ops.size (fun _=>False) (x++(y++a::v)):=by
  refine n3a.2 ⟨sx.dep fun j hj=>hdn j fun e=>hax (e▸hj),n3a.2 ⟨?_,ha,?_,?_,?_⟩⟩
  ·exact (Steps.less (a:=a) (fun j hj=>(j3f j hj).1) sy).dep fun j hj=>hdn j (e7f j hj).2.1
  ·rintro ((h | h) | h)
   ·exact h
   ·exact hax h
   ·exact (e7f a h).2.1 rfl
  ·intro e he
   rw [f7b,if_pos ⟨rfl,ha⟩,List.mem_append] at he
   rcases he with he | he
   ·exact .inl (ha3 e he)
   ·obtain ⟨h1,h2⟩:=hms e he
    have:=hall e h1
    simp only [List.mem_append,List.mem_cons] at this
    rcases this with h | h | h | h
    ·exact .inl (.inr h)
    ·exact absurd h h2
    ·exact .inr h
    ·exact absurd he (hv e h)
  ·refine Steps.dep (d:=direct ops) (fun j hj=>hdn j fun e => ?_) (sv.congr fun i=>by constructor<;>(rintro (((q | q) | q) | q)<;>simp [q]))
   exact sv.nin j hj (.inl (.inr e))
 have f3f : ∀ i,i<ops.size→i∈x++(y++a::v):=fun i hi=>by
  have:=hall i hi
  simp only [List.mem_append,List.mem_cons] at this ⊢
  rcases this with h | h | h | h
  ·exact .inl h
  ·exact .inr (.inr (.inl h))
  ·exact .inr (.inl h)
  ·exact .inr (.inr (.inr h))
 have htp:d7c (plus ops a ms) (Array.replicate (plus ops a ms).size false) (x++(y++a::v)):=(d7b (by simp)).2 ⟨by rw [k2b];exact hnew.congr fun i=>by simp [y7a],fun i hi=>.inr (f3f i (by rwa [k2b] at hi))⟩
 exact m5d ho hop hdst hg hz hs (fun j hj=>(j3f j hj).2) ((ht.plus.allT hf hfe hi htp).t6d)
end
end Go.DM
namespace Go.DM
open Go Go.AM Go.RowKit
end Go.DM
namespace Go.DM
open Go Go.AM
def i5a (P:Program) (orc:c3a) (f:FuncId) (args:List D) (H:Mem) (Q:D→Mem→Prop):Prop := ∃ d ρ H',i8a P orc 0 (.call f args) H (.pan d ρ) H'∧Q d H'
def GoP (P:Program) (orc:c3a) (fl sz:Nat) (ops:Array Oper) (rest:List Oper) (k:List K) (ρ:e1a) (H:Mem) (Q:h6a→e1a→Mem→Prop):Prop:=
 ∀ i,ops.toList.drop i=rest → ∃ out H',i8a P orc fl (.ops sz ops (List.range' i (ops.size - i)) ρ) H out H'∧match out with
  | .env ρ'=>Go P orc fl sz k .normal ρ' H' Q
  | .pan d ρ'=>Go P orc fl sz k (.exit PAN) (r6a ρ' a9b d) H' Q
  | _=>False
section
variable {P:Program} {orc:c3a} {fl sz:Nat} {k:List K} {ρ:e1a} {H:Mem} {Q:h6a→e1a→Mem→Prop} {ops:Array Oper} {os:List Oper} {dst:Option Tmp} {op:Op} {cl:Call} {ty:TypeId} {pos:String}
 {after:Array Edge} {g:Option (Nat×Bool)} {f:FuncId} {args:List D}
theorem Go.rgP {id:Nat} {l:List Oper} (h:GoP P orc fl sz l.toArray l k ρ H Q):Go P orc fl sz (.code (.region id l.toArray false)::k) .normal ρ H Q:=by
 obtain ⟨out,H',hb,q⟩:=h 0 (by simp)
 rw [Nat.sub_zero,← List.range_eq_range'] at hb
 cases out with
 | env ρ'=>exact ⟨_,_,_,.region hb,q⟩
 | pan d ρ'=>exact ⟨_,_,_,.q9d hb,q⟩
 | exit _ _=>exact q.elim
 | val _=>exact q.elim
 | t7b _ _ _ _=>exact q.elim
theorem GoP.nil (h:Go P orc fl sz k .normal ρ H Q):GoP P orc fl sz ops [] k ρ H Q:=fun i hi=>by
 have:ops.size≤i:=by simpa [List.drop_eq_nil_iff] using hi
 rw [show ops.size - i=0 by omega]
 exact ⟨_,_,.w4b,h⟩
theorem z8a (h:v9a ops ρ g=true):Region.wanted ⟨dst,op,ty,pos,after,g⟩ (e9a ops ρ)=true:=by
 cases g with
 | none=>rfl
 | some g=>exact h
theorem GoP.o (h1:a6c sz dst op=true) (h2:v9a ops ρ g=true) (h:p4a (opD P ρ op H) fun v H1=>GoP P orc fl sz ops os k (m3a ρ dst v) H1 Q):GoP P orc fl sz ops (⟨dst,op,ty,pos,after,g⟩::os) k ρ H Q:=fun i hi=>by
 obtain ⟨a,b⟩:=r2a h1
 obtain ⟨e1,e2⟩:=d6a hi
 cases hop:opD P ρ op H with
 | none=>rw [hop] at h;exact h.elim
 | some r=>
  rw [hop] at h
  obtain ⟨out,H',hb,q⟩:=h (i+1) e2
  rw [j4a (k1a e1)]
  exact ⟨out,H',.w5b e1 (z8a h2) a b (.inl hop) hb,q⟩
theorem GoP.s {x:Nat×Bool} {b:Option Bool} (h1:a6c sz dst op=true) (hy:m6a ops ρ x.1=some b) (hw:(b==some x.2)=false) (h:GoP P orc fl sz ops os k (m3a ρ dst j1a) H Q):GoP P orc fl sz ops (⟨dst,op,ty,pos,after,some x⟩::os) k ρ H Q:=fun i hi=>by
 obtain ⟨e1,e2⟩:=d6a hi
 obtain ⟨out,H',hb,q⟩:=h (i+1) e2
 rw [j4a (k1a e1)]
 exact ⟨out,H',.z0a e1 rfl hy hw (r2a h1).1 hb,q⟩
theorem GoP.c (hf:j9a P f) (h1:a6c sz dst (.call cl)=true) (h2:v9a ops ρ g=true) (ht:h0a ρ (.call cl)=some (f,args)) (h:a3a P orc f args H fun v H1=>GoP P orc fl sz ops os k (m3a ρ dst v) H1 Q) :
  GoP P orc fl sz ops (⟨dst,.call cl,ty,pos,after,g⟩::os) k ρ H Q:=fun i hi=>by
 obtain ⟨a,b⟩:=r2a h1
 obtain ⟨fn,f1,f2,f3⟩:=hf
 obtain ⟨e1,e2⟩:=d6a hi
 obtain ⟨v,H1,hcall,h⟩:=h
 obtain ⟨out,H',hb,q⟩:=h (i+1) e2
 rw [j4a (k1a e1)]
 exact ⟨out,H',.y9a e1 (z8a h2) a b ht f1 (by simpa using f2) f3 hcall hb,q⟩
theorem GoP.cP (hf:j9a P f) (h1:a6c sz dst (.call cl)=true) (h2:v9a ops ρ g=true) (ht:h0a ρ (.call cl)=some (f,args)) (h:i5a P orc f args H fun d H1=>Go P orc fl sz k (.exit PAN) (r6a ρ a9b d) H1 Q) :
  GoP P orc fl sz ops (⟨dst,.call cl,ty,pos,after,g⟩::os) k ρ H Q:=fun i hi=>by
 obtain ⟨a,b⟩:=r2a h1
 obtain ⟨fn,f1,f2,f3⟩:=hf
 obtain ⟨e1,e2⟩:=d6a hi
 obtain ⟨d,ρ1,H1,hcall,h⟩:=h
 rw [j4a (k1a e1)]
 exact ⟨.pan d ρ,H1,.m9b e1 (z8a h2) b ht f1 (by simpa using f2) f3 hcall fun _ _ _ h=>h,h⟩
theorem GoP.p {x:Operand} (hk:b5a x=true) (h2:v9a ops ρ g=true) (hx : ∃ t v,d1a ρ x = .iface t v) (h:Go P orc fl sz k (.exit PAN) (r6a ρ a9b (d1a ρ x)) H Q) :
  GoP P orc fl sz ops (⟨dst,.panic x,ty,pos,after,g⟩::os) k ρ H Q:=fun i hi=>by
 obtain ⟨e1,e2⟩:=d6a hi
 rw [j4a (k1a e1)]
 exact ⟨.pan _ ρ,H,.a7d e1 (z8a h2) rfl hk hx fun _ _ _ h=>h,h⟩
theorem Go.z1e : ∀ (k:List K),k.all (fun | .blk id=>id != PAN | _=>true)=true→Q (.exit PAN) ρ H→Go P orc fl sz k (.exit PAN) ρ H Q
 | [],_,h=>h
 | .code _::k,hk,h=>Go.z1e k (by simpa using hk) h
 | .blk id::k,hk,h=>by
  rw [List.all_cons,Bool.and_eq_true] at hk
  exact Go.p1e (fun e=>by simp [← e] at hk) (Go.z1e k hk.2 h)
 | .lp _::k,hk,h=>Go.z1e k (by simpa using hk) h
theorem Go.pan (hk:k.all (fun | .blk id=>id != PAN | _=>true)=true) (h:Q (.exit PAN) ρ H):Go P orc fl sz k (.exit PAN) ρ H Q:=Go.z1e k hk h
theorem i5a.body {fn:Func} {b:Code} {n:Nat} {R:D→Mem→Prop} (hf:P.funcs[f]?=some fn) (hb:fn.body=some b) (hn:fn.ntmps=n) (ha:decide (args.length≤n)=true)
  (h:Go P orc H.length n [.code b] .normal (r1a args) H fun e ρ H'=>e = .exit PAN∧R (ρ a9b) H'):i5a P orc f args H R:=by
 subst hn
 obtain ⟨e,ρ',H',hbig,rfl,hr⟩:=h
 exact ⟨_,_,H',.p6e hf hb (of_decide_eq_true ha) hbig,hr⟩
def z5b (P:Program) (orc:c3a) (fl sz:Nat) (c:Code) (ρ:e1a) (H:Mem) (Q:h6a→e1a→FuncId→List D→Mem→Prop):Prop := ∃ e ρ' g vs H',i8a P orc fl (.o6b sz c ρ) H (.t7b e ρ' g vs) H'∧Q e ρ' g vs H'
theorem z5b.w5e {c d:Code} {R:h6a→e1a→FuncId→List D→Mem→Prop} (h:Go P orc fl sz [.code c] .normal ρ H fun e ρ1 H1=>e = .normal∧z5b P orc fl sz d ρ1 H1 R):z5b P orc fl sz (.seq c d) ρ H R:=by
 obtain ⟨e,ρ1,H1,hb,rfl,e2,ρ2,g,vs,H2,hb2,hr⟩:=h
 exact ⟨_,_,_,_,_,.i6d hb hb2,hr⟩
theorem z5b.h7f {c d:Code} {R:h6a→e1a→FuncId→List D→Mem→Prop} (h:z5b P orc fl sz c ρ H fun e ρ1 g vs H1=>e = .normal∧Go P orc H1.length sz [.code d] .normal ρ1 H1 fun e2 ρ2 H2=>R e2 ρ2 g vs H2):z5b P orc fl sz (.seq c d) ρ H R:=by
 obtain ⟨e,ρ1,g,vs,H1,hb,rfl,e2,ρ2,H2,hb2,hr⟩:=h
 exact ⟨_,_,_,_,_,.i5d hb hb2,hr⟩
theorem z5b.at {id:Nat} {o1 o2:Oper} {c:Call} {x:Operand} {g:FuncId} {first captured:List D} {R:h6a→e1a→FuncId→List D→Mem→Prop} (hg1:o1.guard=none) (h1:a6c sz o1.dst o1.op=true) (hop:o2.op = .defer c) (hc:c.callee = .value x) (hca:c.args = #[]) (hk:b5a x=true) (hg:o2.guard=none) (hd:o2.dst=none)
  (h:p4a (opD P ρ o1.op H) fun v H1=>d1a (m3a ρ o1.dst v) x = .fn (.func g) first captured∧R .normal (m3a ρ o1.dst v) g (first++captured) H1):z5b P orc fl sz (.region id #[o1,o2] false) ρ H R:=by
 obtain ⟨a,b⟩:=r2a h1
 cases hop1:opD P ρ o1.op H with
 | none=>rw [hop1] at h;exact h.elim
 | some r=>
  rw [hop1] at h
  exact ⟨_,_,_,_,_,.q8e hg1 a b (.inl hop1) hop hc hca hk hg hd h.1,h.2⟩
def o3e (P : Program) (g : FuncId) (n : Nat) (t0 : Tmp) (C : Code) : Prop := ∃ gn id ty pos after, P.funcs[g]? = some gn ∧ gn.body = some (.seq (.region id #[⟨some t0, .call ⟨.builtin .recover, #[], #[]⟩, ty, pos, after, none⟩] false) C) ∧ gn.name ≠ "runtime.NumGoroutine" ∧ gn.ntmps = n ∧ gn.results = #[]
theorem a3a.recv {fn:Func} {b:Code} {n:Nat} {R:D→Mem→Prop} (hf:P.funcs[f]?=some fn) (hb:fn.body=some b) (hn:fn.ntmps=n) (ha:decide (args.length≤n)=true)
  (h:z5b P orc H.length n b (r1a args) H fun e ρ g vs H1=>(e = .normal∨e = .ret∨e = .exit PAN) ∧ ∃ n' t0 C,o3e P g n' t0 C∧vs.length≤n'∧t0<n' ∧
   Go P orc H1.length n' [.code C] .normal (r6a (r1a vs) t0 (match e with | .exit _=>ρ a9b | _=>.u9a)) H1 fun e2 _ H2=>(e2 = .normal∨e2 = .ret) ∧ ∃ v,g9a P fn (r6a ρ a9b .bot) H2=some v∧R v H2):a3a P orc f args H R:=by
 subst hn
 obtain ⟨e,ρ1,g,vs,H1,hb1,he,n',t0,C,⟨gn,id,ty,pos,after,g1,g2,g3,rfl,g4⟩,h1,h2,e2,ρ2,H2,hb2,he2,v,hv,hr⟩:=h
 exact ⟨v,H2,.p7e hf hb (of_decide_eq_true ha) hb1 he g1 g2 g3 h1 h2 hb2 he2 g4 hv,hr⟩
end
end Go.DM
namespace Go.DM
open Go Go.AM
def idle (o:Oper):Oper := { o with dst:=none,op:=.move (.const (.bool false)),guard:=none }
def asked (o:Oper):Oper := { o with op:=match o.op with | .call ⟨.value (.func f),args,_⟩=>.makeFunc (.func f) args #[] | op=>op }
def cutAt (l:List Oper) (i:Nat):List Oper:=l.take i++match l.drop i with | o::os=>asked o::os.map idle | []=>[]
def e5d (l:List Oper) (i:Nat):Bool:=
 (List.range l.length).all (fun j=>decide (j≤i) || ordered l.toArray l.length i j) &&
 (m7b (cutAt l i).toArray).all (fun m=>ordered l.toArray l.length m i) &&
 (List.range i).all (fun j=>(match l[j]? with | some o=>(match o.guard with | some g=>decide (g.1<i) | none=>true) | none=>true) && !(e6a l.toArray j==e6a l.toArray i)) &&
 match l[i]? with | some ⟨some _,.call ⟨.value (.func _),_,_⟩,_,_,_,none⟩=>true | _=>false
section
variable {P:Program} {orc:c3a} {fl sz:Nat} {ρ:e1a} {H:Mem} {l:List Oper} {i:Nat}
theorem p3a:(cutAt l i).length=l.length:=by
 unfold cutAt
 cases h:l.drop i with
 | nil=>
  have:=List.drop_eq_nil_iff.1 h
  simp [List.length_take];omega
 | cons o os=>
  have:=congrArg List.length h
  simp at this
  simp [List.length_take];omega
theorem i3b {j:Nat} (h:j<i):(cutAt l i)[j]?=l[j]?:=by
 unfold cutAt
 rcases Nat.lt_or_ge j l.length with hj | hj
 ·rw [List.getElem?_append_left (by simp;omega),List.getElem?_take,if_pos h]
 ·rw [List.getElem?_eq_none hj,List.getElem?_eq_none]
  have:=p3a (l:=l) (i:=i)
  unfold cutAt at this
  omega
theorem q7b {o:Oper} (h:l[i]?=some o):(cutAt l i)[i]?=some (asked o):=by
 obtain ⟨hi,he⟩:=List.getElem?_eq_some_iff.1 h
 unfold cutAt
 rw [List.getElem?_append_right (by simp;omega),show i - (l.take i).length=0 by simp;omega]
 have:l.drop i=o::l.drop (i+1):=by rw [← he];exact List.drop_eq_getElem_cons hi
 rw [this]
 rfl
theorem e8c {j:Nat} (h:i<j):(cutAt l i)[j]?=(l[j]?).map idle:=by
 rcases Nat.lt_or_ge j l.length with hj | hj
 ·have hi:i<l.length:=by omega
  unfold cutAt
  rw [List.getElem?_append_right (by simp;omega)]
  have e:l.drop i=l[i]::l.drop (i+1):=List.drop_eq_getElem_cons hi
  rw [e]
  simp only [List.length_take,Nat.min_eq_left (Nat.le_of_lt hi)]
  rw [show j - i=(j - (i+1))+1 by omega,List.getElem?_cons_succ,List.getElem?_map,List.getElem?_drop,show i+1+(j - (i+1))=j by omega]
 ·rw [List.getElem?_eq_none hj,List.getElem?_eq_none (by rw [p3a];exact hj)]
  rfl
theorem s3c (j:Nat):((cutAt l i)[j]?).map (·.after)=(l[j]?).map (·.after):=by
 rcases Nat.lt_trichotomy j i with h | rfl | h
 ·rw [i3b h]
 ·cases h:l[j]? with
  | none=>
   have:=List.getElem?_eq_none_iff.1 h
   rw [List.getElem?_eq_none (by rw [p3a];exact this)]
  | some o=>rw [q7b h];rfl
 ·rw [e8c h]
  cases l[j]?<;>rfl
theorem b6c (j:Nat):direct (cutAt l i).toArray j=direct l.toArray j:=by
 have:=s3c (l:=l) (i:=i) j
 unfold direct
 rw [List.getElem?_toArray,List.getElem?_toArray]
 cases h1:(cutAt l i)[j]?<;>cases h2:l[j]?<;>rw [h1,h2] at this<;>simp at this ⊢
 rw [this]
theorem d7c.cut {listed:Array Bool} {ord:List Nat} (h:d7c l.toArray listed ord):d7c (cutAt l i).toArray listed ord:=by
 have hs:(cutAt l i).toArray.size=l.toArray.size:=by simp [p3a]
 induction h with
 | nil h=>exact .nil fun j hj=>h j (by omega)
 | cons hj hl hd _ ih=>exact .cons (by omega) hl (fun e he=>hd e (by rwa [b6c] at he)) ih
theorem Run.far {ops:Array Oper} {ord:List Nat} {ρ ρ':e1a} {S S':Mem} (h:Run P orc fl sz ops ord ρ S ρ' S') {t:Tmp} (ht : ∀ j∈ord,e6a ops j≠some t):ρ' t=ρ t:=by
 induction h with
 | nil=>rfl
 | @cons j l ρ S v S1 ρ' S' h _ ih=>
  rw [ih fun j hj=>ht j (List.mem_cons_of_mem _ hj),v7a,if_neg (ht j (List.mem_cons_self ..))]
theorem Run.same {ops:Array Oper} {ord:List Nat} {ρ ρ':e1a} {S S':Mem} (h:Run P orc fl sz ops ord ρ S ρ' S') (ht : ∀ j∈ord,j∉m7b ops):S'=S:=by
 induction h with
 | nil=>rfl
 | @cons j l ρ S v S1 ρ' S' h _ ih=>
  rw [ih fun j hj=>ht j (List.mem_cons_of_mem _ hj)]
  have hm:=ht j (List.mem_cons_self ..)
  have hlt:=h.lt
  obtain ⟨o,ho,hd,⟨g,b,hg,hy,hb,rfl,rfl⟩ | ⟨hw,hc,h⟩⟩:=h
  ·rfl
  ·simp only [m7b,List.mem_filter,List.mem_range,hlt,true_and,ho,Bool.not_eq_true',Bool.not_eq_false,Bool.or_eq_true] at hm
   rcases h with h | ⟨f,args,fn,htg,_⟩
   ·rcases hm with hm | hm
    ·exact (m2b hm h).1
    ·exact w9b hm h
   ·exfalso
    obtain ⟨dst,op,type,pos,after,guard⟩:=o
    cases op<;>(try (simp [h0a] at htg;done))
    case call cl=>
    obtain ⟨callee,args,at_⟩:=cl
    cases callee<;>simp [h0a,q0b,p5b] at hm htg
theorem w3e {t0:Tmp} {f1:FuncId} {args:Array Operand} {at_:Array TypeId} {ty:TypeId} {pos:String} {after:Array Edge} (ho:l[i]?=some ⟨some t0,.call ⟨.value (.func f1),args,at_⟩,ty,pos,after,none⟩) {ord:List Nat} {ρ ρ':e1a} {S S':Mem} (hr:Run P orc fl sz (cutAt l i).toArray ord ρ S ρ' S') :
  (i∈ord ∨ ∃ a,ρ t0 = .fn (.func f1) a [])→(∀ j,e6a (cutAt l i).toArray j=some t0→j=i) → ∃ a,ρ' t0 = .fn (.func f1) a []:=by
 induction hr with
 | nil=>
      intro hor _;rcases hor with h | h
      ·cases h
      ·exact h
 | @cons j ord ρ S v S1 ρ2 S2 hst hr ih=>
  intro hor x9d
  refine ih ?_ x9d
  by_cases hji:j=i
  ·subst hji
   right
   obtain ⟨o,ho',hd,hcase⟩:=hst
   rw [List.getElem?_toArray,q7b ho] at ho'
   cases ho'
   obtain ⟨g,_,hg,_⟩ | ⟨hw,hc,hop⟩:=hcase
   ·cases hg
   have:v = .fn (.func f1) (args.toList.map (d1a ρ)) []:=by
    rcases hop with (h | ⟨sz',len,cells,h,_⟩ | ⟨sz',len,cells,h,_⟩) | ⟨f,a,fn,htg,_⟩
    ·simp only [asked,opD] at h;cases h;rfl
    ·simp only [asked,opD] at h;cases h
    ·simp only [asked,opD] at h;cases h
    ·cases htg
   have hdst:e6a (cutAt l j).toArray j=some t0:=by simp [e6a,q7b ho,asked]
   exact ⟨_,by rw [hdst,v7a,if_pos rfl,this]⟩
  ·rcases hor with h | ⟨a,h⟩
   ·rcases List.mem_cons.1 h with h | h
    ·exact absurd h.symm hji
    ·exact .inl h
   ·right
    refine ⟨a,?_⟩
    rw [v7a,if_neg fun e=>hji (x9d j e)]
    exact h
theorem m1e {tX:Tmp} {f0:FuncId} {args:Array Operand} {at_:Array TypeId} {ty:TypeId} {pos:String} {after:Array Edge} {e3c:List D} {d:D} {ρd:e1a} {H1 Hc:Mem} {ρ':e1a} {fn:Func}
  (h0:l[i]?=some ⟨some tX,.call ⟨.value (.func f0),args,at_⟩,ty,pos,after,none⟩) (hx:e5d l i=true) (hX:ρ' tX = .fn (.func f0) e3c [])
  (hf : P.funcs[f0]? = some fn) (hn : fn.name ≠ "runtime.NumGoroutine") (hb : fn.body.isNone = false)
  (hcall:i8a P orc 0 (.call f0 e3c) Hc (.pan d ρd) H1) : ∀ {ord:List Nat} {listed:Array Bool} {ρ:e1a} {S:Mem},listed.size=l.length→d7c l.toArray listed ord→lst listed i=false →
   (∀ j,lst listed j=true → ∀ e∈direct l.toArray j,lst listed e=true) →
   Run P orc fl sz (cutAt l i).toArray ord ρ S ρ' Hc→i8a P orc fl (.ops sz l.toArray ord ρ) S (.pan d fun _=>.bot) H1:=by
 simp only [e5d,Bool.and_eq_true,List.all_eq_true,List.mem_range,Bool.or_eq_true,decide_eq_true_eq,Bool.not_eq_true',beq_eq_false_iff_ne,ne_eq] at hx
 obtain ⟨⟨⟨x1,x2⟩,x3⟩,_⟩:=hx
 have hil:i<l.length:=(List.getElem?_eq_some_iff.1 h0).1
 intro ord
 induction ord with
 | nil=>
  intro listed ρ S hsz ht hl hcl hr
  cases ht with
  | nil h=>rw [h i (by simpa using hil)] at hl;cases hl
 | cons j ord ih=>
  intro listed ρ S hsz ht hl hcl hr
  cases ht with
  | cons hj hlj hdj ht=>
  cases hr with
  | @cons _ _ _ _ v S1 _ _ hstep hr=>
  have hset : ∀ a,lst (listed.setIfInBounds j true) a=(lst listed a || decide (a=j)):=by
   intro a
   unfold lst
   by_cases hij:a=j
   ·subst hij
    have:a<l.length:=by simpa using hj
    simp [Array.getD,hsz,this]
   ·simp [Array.getD_eq_getD_getElem?,Array.getElem?_setIfInBounds_ne (Ne.symm hij),hij]
  have o8a : ∀ a,ordered l.toArray l.length a j=true→lst listed a=true:=fun a h=>j8a (L:=fun a=>lst listed a=true) hcl l.length a j h hdj
  have g8f : ∀ {ord:List Nat} {listed:Array Bool},listed.size=l.length→d7c l.toArray listed ord → ∀ a∈ord,lst listed a=false:=by
   intro ord
   induction ord with
   | nil=>intro _ _ _ a ha;cases ha
   | cons b ord ihb=>
    intro listed hsz ht a ha
    cases ht with
    | cons hj' j5f _ ht' =>
     rcases List.mem_cons.1 ha with rfl | ha
     ·exact j5f
     ·have:=ihb (by simp [hsz]) ht' a ha
      unfold lst at this ⊢
      by_cases hab:a=b
      ·subst hab;exact j5f
      ·simpa [Array.getD_eq_getD_getElem?,Array.getElem?_setIfInBounds_ne (Ne.symm hab)] using this
  by_cases hji:j=i
  ·subst hji
   have hat:=q7b h0
   obtain ⟨o,ho,hd,hcase⟩:=hstep
   rw [List.getElem?_toArray,hat] at ho
   cases ho
   obtain ⟨g,_,hg,_⟩ | ⟨hw,hc,hop⟩:=hcase
   ·cases hg
   have hop:opM P ρ (.makeFunc (.func f0) args #[]) S v S1:=by
    rcases hop with h | ⟨f,a,fn,htg,_⟩
    ·exact h
    ·cases htg
   have hv:v = .fn (.func f0) (args.toList.map (d1a ρ)) []∧S1=S:=by
    rcases hop with h | ⟨sz',len,cells,h,_⟩ | ⟨sz',len,cells,h,_⟩
    ·simp only [opD] at h;cases h;exact ⟨rfl,rfl⟩
    ·simp only [opD] at h;cases h
    ·simp only [opD] at h;cases h
   obtain ⟨rfl,rfl⟩:=hv
   have hdst:e6a (cutAt l j).toArray j=some tX:=by simp [e6a,hat,asked]
   have f0f:e6a l.toArray j=some tX:=by simp [e6a,h0]
   have hlt:=g8f (by simp [hsz]) ht
   have far : ∀ a∈ord,e6a (cutAt l j).toArray a≠some tX:=by
    intro a ha
    have hla:=hlt a ha
    rw [hset] at hla
    simp only [Bool.or_eq_false_iff,decide_eq_false_iff_not] at hla
    rcases Nat.lt_trichotomy a j with h | h | h
    ·have:=(x3 a h).2
     rw [f0f] at this
     unfold e6a at this ⊢
     rw [List.getElem?_toArray,i3b h]
     simpa using this
    ·exact absurd h hla.2
    ·unfold e6a
     rw [List.getElem?_toArray,e8c h]
     cases l[a]?<;>simp [idle]
   have hX':=hr.far far
   rw [hX,hdst,v7a,if_pos rfl] at hX'
   cases hX'
   have hm:=hr.same fun a ha hm=>by
    have hla:=hlt a ha
    rw [hset] at hla
    simp only [Bool.or_eq_false_iff,decide_eq_false_iff_not] at hla
    have:=o8a a (x2 a hm)
    rw [this] at hla
    cases hla.1
   subst hm
   exact .m9b (by rw [List.getElem?_toArray];exact h0) rfl (by
    simp only [asked,Op.operands] at hc
    simpa [Op.operands,Call.operands,b5a] using hc) (by simp [h0a,d1a]) hf hn hb hcall fun _=>.bot
  ·have hjlt:j<i:=by
    rcases x1 j (by simpa using hj) with h | h
    ·omega
    ·have:=o8a i h
     rw [this] at hl
     cases hl
   have hget:(cutAt l i).toArray[j]?=l.toArray[j]?:=by rw [List.getElem?_toArray,List.getElem?_toArray,i3b hjlt]
   have hdst:e6a (cutAt l i).toArray j=e6a l.toArray j:=by unfold e6a;rw [hget]
   have t7e:k9a P orc fl sz l.toArray j ρ S v S1:=by
    obtain ⟨o,ho,hd,hcase⟩:=hstep
    rw [hget] at ho
    have hg : ∀ g,o.guard=some g→(cutAt l i).toArray[g.1]?=l.toArray[g.1]?:=by
     intro g hg
     have:=(x3 j hjlt).1
     rw [List.getElem?_toArray] at ho
     rw [ho] at this
     simp only [hg,decide_eq_true_eq] at this
     rw [List.getElem?_toArray,List.getElem?_toArray,i3b this]
    refine ⟨o,ho,hd,?_⟩
    rcases hcase with ⟨g,b,hg',hy,hb',hv,hS⟩ | ⟨hw,hc,h⟩
    ·refine .inl ⟨g,b,hg',?_,hb',hv,hS⟩
     unfold m6a at hy ⊢
     rwa [← hg g hg']
    ·refine .inr ⟨?_,hc,h⟩
     unfold Region.wanted at hw ⊢
     cases hgo:o.guard with
     | none=>rfl
     | some g=>
      rw [hgo] at hw
      simp only at hw ⊢
      unfold e9a at hw ⊢
      rwa [← hg g hgo]
   refine t7e.cons ?_
   rw [← hdst]
   refine ih (by simp [hsz]) ht ?_ ?_ hr
   ·rw [hset]
    simp [hl]
    exact fun e=>hji e.symm
   ·intro a ha e he
    rw [hset] at ha ⊢
    simp only [Bool.or_eq_true,decide_eq_true_eq] at ha ⊢
    rcases ha with h | rfl
    ·exact .inl (hcl a h e he)
    ·exact .inl (hdj e he)
variable {k:List K} {Q:h6a→e1a→Mem→Prop}
theorem Go.o9f {id:Nat} {l:List Oper} (i:Nat) (loose:List Nat) (Inv:Mem→Prop) (hm:P.follows .mixedOrders=true) (hf:i0a (cutAt l i).toArray loose=true) (F:Nat) (hfe:v5a (cutAt l i).toArray loose F=true) (hx:e5d l i=true) (hi:Inv H) {f0:FuncId} (hfn:j9a P f0)
  (h:GoW P orc fl sz (cutAt l i).toArray loose Inv F 0 (cutAt l i) [] ρ H fun e ρ' H'=>e = .normal ∧ ∃ tX e3c,e6a l.toArray i=some tX∧ρ' tX = .fn (.func f0) e3c []∧i5a P orc f0 e3c H' fun d H1=>Go P orc fl sz k (.exit PAN) (r6a (fun _=>.bot) a9b d) H1 Q) :
  Go P orc fl sz (.code (.region id l.toArray true)::k) .normal ρ H Q:=by
 obtain ⟨tr,ρ',H',t,_,tX,e3c,hX,hv,d,ρd,H1,hcall,hgo⟩:=h (by simp)
 obtain ⟨fn,e1,e2,e3⟩:=hfn
 have hx':=hx
 simp only [e5d,Bool.and_eq_true] at hx'
 cases ho:l[i]? with
 | none=>rw [ho] at hx';cases hx'.2
 | some o=>
 obtain ⟨dst,op,ty,pos,after,g⟩:=o
 rw [ho] at hx'
 have hx2:=hx'.2
 split at hx2
 case h_2=>cases hx2
 rename_i t0 f1 args at_ ty' pos' after' heq
 cases heq
 have:t0=tX:=by
  have:e6a l.toArray i=some t0:=by simp [e6a,ho]
  rw [this] at hX
  cases hX;rfl
 subst this
 have hok:=hf
 simp only [i0a,Bool.and_eq_true] at hok
 have hok1:=hok.1
 refine ⟨.exit PAN,_,H1,.b1d hm fun n => ?_,hgo⟩
 have k7d:d7c l.toArray (Array.replicate l.toArray.size false) (Region.linearise .any l.toArray n):=by
  simp only [q0a,Bool.and_eq_true,List.all_eq_true,List.mem_range,decide_eq_true_eq] at hok1
  refine v6a (fun j hj e he=>hok1.1.1 j (by simpa [p3a] using hj) e (by rwa [b6c])) l.toArray.size n (Array.replicate l.toArray.size false) (by simp) ?_
  have:=List.countP_le_length (p:=fun i => !lst (Array.replicate l.toArray.size false) i) (l:=List.range l.toArray.size)
  simpa using this
 have hrun:=t.allT hf hfe hi (ord:=Region.linearise .any l.toArray n) (by
  have:=k7d.cut (i:=i)
  rwa [show (cutAt l i).toArray.size=l.toArray.size by simp [p3a]])
 have hf1:f0=f1:=by
  by_cases hff:f0=f1
  ·exact hff
  ·exfalso
   have x9d : ∀ j,e6a (cutAt l i).toArray j=some t0→j=i:=by
    intro j hj
    have hx3:=hx'.1.2
    simp only [List.all_eq_true,List.mem_range,Bool.and_eq_true,Bool.not_eq_true',beq_eq_false_iff_ne,ne_eq] at hx3
    rcases Nat.lt_trichotomy j i with h | h | h
    ·exfalso
     have:=(hx3 j h).2
     have hd0:e6a l.toArray i=some t0:=by simp [e6a,ho]
     rw [hd0] at this
     unfold e6a at this hj
     rw [List.getElem?_toArray,i3b h] at hj
     rw [List.getElem?_toArray] at this
     exact this hj
    ·exact h
    ·exfalso
     unfold e6a at hj
     rw [List.getElem?_toArray,e8c h] at hj
     cases hq:l[j]?<;>rw [hq] at hj<;>simp [idle] at hj
   have hin:i∈Region.linearise .any l.toArray n:=by
    have hall : ∀ {ord:List Nat} {listed:Array Bool},listed.size=l.length→d7c l.toArray listed ord→lst listed i=false→i∈ord:=by
     intro ord
     induction ord with
     | nil=>
      intro listed hsz ht hl
      cases ht with
      | nil h=>rw [h i (by simpa using (List.getElem?_eq_some_iff.1 ho).1)] at hl;cases hl
     | cons b ord ihb=>
      intro listed hsz ht hl
      cases ht with
      | cons _ _ _ ht' =>
       by_cases hib:i=b
       ·exact hib▸List.mem_cons_self ..
       ·refine List.mem_cons_of_mem _ (ihb (by simp [hsz]) ht' ?_)
        unfold lst at hl ⊢
        simpa [Array.getD_eq_getD_getElem?,Array.getElem?_setIfInBounds_ne (Ne.symm hib)] using hl
    exact hall (by simp) k7d (y7a _)
   obtain ⟨a,ha⟩:=w3e ho hrun (.inl hin) x9d
   rw [hv] at ha
   cases ha
   exact hff rfl
 subst hf1
 exact m1e ho hx hv e1 (by simpa using e2) e3 hcall (by simp) k7d (y7a _) (fun j hj=>by rw [y7a] at hj;cases hj) hrun
theorem Go.m0e {k:List K} {Q:h6a→e1a→Mem→Prop} {ρ:e1a} {H:Mem} {id:Nat} {l:List Oper} (i:Nat) (hm:P.follows .mixedOrders=true) (hf:i0a (cutAt l i).toArray []=true) (hx:e5d l i=true) {f0:FuncId} (hfn:j9a P f0)
  (h:GoR P orc fl sz (cutAt l i).toArray (cutAt l i) [] ρ H fun e ρ' H'=>e = .normal ∧ ∃ tX e3c,e6a l.toArray i=some tX∧ρ' tX = .fn (.func f0) e3c []∧i5a P orc f0 e3c H' fun d H1=>Go P orc fl sz k (.exit PAN) (r6a (fun _=>.bot) a9b d) H1 Q) :
  Go P orc fl sz (.code (.region id l.toArray true)::k) .normal ρ H Q:=by
 refine Go.o9f i [] (fun _=>True) hm hf (cutAt l i).toArray.size (by simp [v5a]) hx trivial hfn fun _ => ?_
 obtain ⟨ρ',H',hb,h⟩:=h 0 (by simp)
 obtain ⟨tr,t⟩:=e7b _ (by simp) hb
 exact ⟨tr,ρ',H',t,h⟩
end
end Go.DM
namespace Go.DM
open Go Go.AM
section
variable {S1:Mem} {F:List Nat} {ι:Nat→Nat} {n:Nat}
theorem Wz.slO {own own':Option Nat} {sz len:Nat} {cells cells':List D} (ho' : ∀ i,own'=some i→own=some (ι i)∧i<n) (h:WzL S1 F ι n cells cells'):Wz S1 F ι n (.sl own sz len cells) (.sl own' sz len cells'):=fun r v hS hr=>by
 cases hr with
 | sl _ _ _ _ vs h0 o m b hk hg hz hr hm hl' hs ho hc=>
  refine .sl (r:=⟨n,fun i=>r.ψ (ι i),fun h=>r.k h || F.any (fun o=>r.ψ o==h),r.H⟩) own' sz len cells' vs h0 o m b (by simp [hk]) hg hz hr hm (h.1.symm.trans hl') (h.1.symm.trans hs) (fun id e => ?_) fun i h1 h2=>h.2 i (by rw [h.1];exact h1) h1 r _ hS (hc i _ h2)
  obtain ⟨e1,e2⟩:=ho' id e
  obtain ⟨_,a2,a3,a4⟩:=ho _ e1
  exact ⟨e2,a2,a3,a4⟩
 | slE _ _ he=>
  have:cells'=[]:=List.eq_nil_of_length_eq_zero (h.1.symm)
  subst this
  cases own' with
  | none=>exact .slE _ _ he
  | some i=>exact absurd (ho' i rfl).1 (by simp)
theorem Wz.h5a {cells cells':List D} {off:Nat} (h:WzL S1 F ι n cells cells'):Wz S1 F ι n (.h5a cells off) (.h5a cells' off):=fun r v hS hr=>by
 cases hr with
 | h5a _ _ vs h0 o hk hr hl hc=>exact .h5a (r:=⟨n,fun i=>r.ψ (ι i),fun h=>r.k h || F.any (fun o=>r.ψ o==h),r.H⟩) cells' off vs h0 o (by simp [hk]) hr (h.1.symm.trans hl) fun i h1 h2=>h.2 i (by rw [h.1];exact h1) h1 r _ hS (hc i _ h2)
theorem Wz.fn {f:Fn} {xs xs' cs cs':List D} (h:WzL S1 F ι n xs xs') (hc:WzL S1 F ι n cs cs'):Wz S1 F ι n (.fn f xs cs) (.fn f xs' cs'):=fun r v hS hr=>by
 cases hr with
 | fn _ _ _ ys ds h1 h2 h3 h4=>exact .fn (r:=⟨n,fun i=>r.ψ (ι i),fun h=>r.k h || F.any (fun o=>r.ψ o==h),r.H⟩) f xs' cs' ys ds (h.1.symm.trans h1) (fun i a b=>h.2 i (by rw [h.1];exact a) a r _ hS (h2 i _ b)) (hc.1.symm.trans h3) fun i a b=>hc.2 i (by rw [hc.1];exact a) a r _ hS (h4 i _ b)
theorem Wz.iface {t:TypeId} {d d':D} (h:Wz S1 F ι n d d'):Wz S1 F ι n (.iface t d) (.iface t d'):=fun r v hS hr=>by
 cases hr with
 | iface _ _ v h1=>exact .iface (r:=⟨n,fun i=>r.ψ (ι i),fun h=>r.k h || F.any (fun o=>r.ψ o==h),r.H⟩) t d' v (h r v hS h1)
theorem Wz.bot {d:D} : Wz S1 F ι n d .bot:=fun _ v _ _=>.bot v
theorem WzL.map {f:D→D} : ∀ {l:List D},(∀ d∈l,Wz S1 F ι n d (f d))→WzL S1 F ι n l (l.map f)
 | [],_=>.nil
 | _::_,h=>.cons (h _ (List.mem_cons_self ..)) (WzL.map fun d hd=>h d (List.mem_cons_of_mem _ hd))
end
def a7b (mp:Nat→Option Nat) (fz:Nat→Option (List D)):Nat→D→D
 | 0,_=>.bot
 | k+1,d=>
  match d with
  | .ptr o off=>match mp o with | some i=>.ptr i off | none=>.bot
  | .msl o sz len=>
   match mp o with
   | some i=>.msl i sz len
   | none=>match fz o with | some cells=>(match Nat.beq cells.length (len*sz) with | true=>.sl none sz len (cells.map (a7b mp fz k)) | false=>.bot) | none=>.bot
  | .sl own sz len cells=>.sl (match own with | some o=>mp o | none=>none) sz len (cells.map (a7b mp fz k))
  | .h5a cells off=>.h5a (cells.map (a7b mp fz k)) off
  | .fn f xs cs=>.fn f (xs.map (a7b mp fz k)) (cs.map (a7b mp fz k))
  | .iface t d=>.iface t (a7b mp fz k d)
  | .agg xs=>.agg (xs.map (a7b mp fz k))
  | .tup xs=>.tup (xs.map (a7b mp fz k))
  | d=>d
theorem r0d {S1:Mem} {F:List Nat} {ι:Nat→Nat} {n:Nat} {mp:Nat→Option Nat} {fz:Nat→Option (List D)} (hmp : ∀ o i,mp o=some i→ι i=o∧i<n) (hfz : ∀ o cells,fz o=some cells→o∈F∧b6a S1 o=some cells) : ∀ (k:Nat) (d:D),Wz S1 F ι n d (a7b mp fz k d)
 | 0,d=>.bot
 | k+1,d=>by
  have ih:=fun d=>r0d hmp hfz k d
  have low : ∀ d,p2a 0 d→Wz S1 F ι n d d:=fun d h=>Wz.of_low (m:=0) (fun i hi=>by omega) (Nat.zero_le _) h
  cases d with
  | ptr o off=>
   simp only [a7b]
   cases h:mp o with
   | none=>exact .bot
   | some i=>
    obtain ⟨rfl,h2⟩:=hmp o i h
    exact .ptr h2
  | msl o sz len=>
   simp only [a7b]
   cases h:mp o with
   | some i=>
    obtain ⟨rfl,h2⟩:=hmp o i h
    exact .msl h2
   | none=>
    simp only
    cases h2:fz o with
    | none=>exact .bot
    | some cells=>
     simp only
     obtain ⟨f1,f2⟩:=hfz o cells h2
     split
     ·rename_i hl
      exact .freeze f1 f2 (Nat.eq_of_beq_eq_true hl) (.map fun d _=>ih d)
     ·exact .bot
  | sl own sz len cells=>
   simp only [a7b]
   refine .slO (fun i e => ?_) (.map fun d _=>ih d)
   cases own with
   | none=>cases e
   | some o=>
    obtain ⟨h1,h2⟩:=hmp o i e
    exact ⟨by rw [h1],h2⟩
  | h5a cells off=>exact .h5a (.map fun d _=>ih d)
  | fn f xs cs=>exact .fn (.map fun d _=>ih d) (.map fun d _=>ih d)
  | iface t d=>exact .iface (ih d)
  | agg xs=>exact .agg (.map fun d _=>ih d)
  | tup xs=>exact .tup (.map fun d _=>ih d)
  | bool b=>exact low _ (.bool b)
  | int k x=>exact low _ (.int k x)
  | str s=>exact low _ (.str s)
  | d9b=>exact low _ .d9b
  | c5a=>exact low _ .c5a
  | sl0=>exact low _ .sl0
  | slx=>exact low _ .slx
  | p1b=>exact low _ .p1b
  | u9a=>exact low _ .u9a
  | bot=>exact .bot
def y6e (o:Nat):List Nat→Nat→Option Nat
 | [],_=>none
 | x::l,j=>match Nat.beq x o with | true=>some j | false=>y6e o l (j+1)
theorem k8d {o:Nat} : ∀ {l:List Nat} {j i:Nat},y6e o l j=some i→j≤i∧l[i - j]?=some o
 | [],_,_,h=>by cases h
 | x::l,j,i,h=>by
  simp only [y6e] at h
  split at h
  ·rename_i hx
   cases h
   obtain rfl:=Nat.eq_of_beq_eq_true hx
   exact ⟨Nat.le_refl _,by simp⟩
  ·obtain ⟨h1,h2⟩:=k8d h
   exact ⟨by omega,by rw [show i - j=(i - (j+1))+1 by omega,List.getElem?_cons_succ];exact h2⟩
def d3e (l:List Nat) (o:Nat):Bool:=l.any (Nat.beq · o)
def mpG (fl:Nat) (ks F:List Nat) (o:Nat):Option Nat:=
 match d3e F o with
 | true=>none
 | false=>match Nat.blt o fl with | true=>some o | false=>y6e o ks fl
def fzG (F:List Nat) (H:Mem) (o:Nat):Option (List D):=match d3e F o with | true=>b6a H o | false=>none
def s1a (fl:Nat) (ks:List Nat) (i:Nat):Nat:=if i<fl then i else ks.getD (i - fl) 0
def obG (F:List Nat) (f:D→D) (o:Nat) (x:Option Ob):Ob:=
 match d3e F o,x with
 | false,some (.obj c)=>.obj (c.map f)
 | false,some .own=>.own
 | _,_=>.dead
def e4e (f:Nat→Ob→Ob):Nat→List Ob→List Ob
 | _,[]=>[]
 | i,x::l=>f i x::e4e f (i+1) l
theorem a1d {f:Nat→Ob→Ob} : ∀ {l:List Ob} {j i:Nat},(e4e f j l)[i]?=(l[i]?).map (f (j+i))
 | [],_,i=>by simp [e4e]
 | x::l,j,0=>by simp [e4e]
 | x::l,j,i+1=>by
  simp only [e4e,List.getElem?_cons_succ]
  rw [a1d,show j+1+i=j+(i+1) by omega]
theorem u4a {f:Nat→Ob→Ob} : ∀ {l:List Ob} {j:Nat},(e4e f j l).length=l.length
 | [],_=>rfl
 | x::l,j=>by simp [e4e,u4a]
def g2c (fl:Nat) (ks F:List Nat) (f:D→D) (H:Mem):Mem:=e4e (fun o x=>obG F f o (some x)) 0 (H.take fl)++ks.map fun o=>obG F f o H[o]?
def upL:Nat→List Nat→Bool
 | _,[]=>true
 | a,x::l=>Nat.ble a x&&upL (x+1) l
def n0e (fl:Nat) (ks F:List Nat) (H:Mem):Bool:=Nat.ble fl H.length&&upL fl ks&&F.all fun o=>(b6a H o).isSome
theorem f3e : ∀ {l:List Nat} {a:Nat},upL a l=true → ∀ (i j x y:Nat),l[i]?=some x→l[j]?=some y→a≤x∧(x=y→i=j)
 | [],_,_,i,_,x,_,h,_=>by simp at h
 | z::l,a,h,i,j,x,y,hi,hj=>by
  simp only [upL,Bool.and_eq_true] at h
  have hz:=Nat.le_of_ble_eq_true h.1
  have ih:=f3e h.2
  cases i with
  | zero=>
   simp at hi
   subst hi
   refine ⟨hz,fun e => ?_⟩
   cases j with
   | zero=>rfl
   | succ j=>
    simp at hj
    have:=(ih j j y y hj hj).1
    omega
  | succ i=>
   simp at hi
   cases j with
   | zero=>
    simp at hj
    subst hj
    have:=(ih i i x x hi hi).1
    exact ⟨by omega,fun e=>by omega⟩
   | succ j=>
    simp at hj
    have:=ih i j x y hi hj
    exact ⟨by omega,fun e=>by rw [this.2 e]⟩
section
variable {fl:Nat} {ks F:List Nat} {H:Mem} {kk:Nat}
theorem u7c:(g2c fl ks F (a7b (mpG fl ks F) (fzG F H) kk) H).length=min fl H.length+ks.length:=by simp [g2c,u4a]
structure k6f (fl:Nat) (ks F:List Nat) (H:Mem) (kk:Nat):Prop where
 len:fl≤(g2c fl ks F (a7b (mpG fl ks F) (fzG F H) kk) H).length
 low : ∀ i,i<fl→s1a fl ks i=i
 inj : ∀ i j,i<(g2c fl ks F (a7b (mpG fl ks F) (fzG F H) kk) H).length→j<(g2c fl ks F (a7b (mpG fl ks F) (fzG F H) kk) H).length→s1a fl ks i=s1a fl ks j→i=j
 fz : ∀ o∈F,∃ cells,b6a H o=some cells
 dis : ∀ i cells,b6a (g2c fl ks F (a7b (mpG fl ks F) (fzG F H) kk) H) i=some cells→s1a fl ks i∉F
 obj : ∀ i cells,b6a (g2c fl ks F (a7b (mpG fl ks F) (fzG F H) kk) H) i=some cells → ∃ c,b6a H (s1a fl ks i)=some c∧c.length=cells.length ∧ ∀ j (h:j<c.length) (h':j<cells.length),Wz H F (s1a fl ks) (g2c fl ks F (a7b (mpG fl ks F) (fzG F H) kk) H).length c[j] cells[j]
 own : ∀ i:Nat,(g2c fl ks F (a7b (mpG fl ks F) (fzG F H) kk) H)[i]?=some .own→H[s1a fl ks i]?=some .own
 ren : ∀ d,Wz H F (s1a fl ks) (g2c fl ks F (a7b (mpG fl ks F) (fzG F H) kk) H).length d (a7b (mpG fl ks F) (fzG F H) kk d)
theorem i8e (h:n0e fl ks F H=true):k6f fl ks F H kk:=by
 simp only [n0e,Bool.and_eq_true,List.all_eq_true] at h
 obtain ⟨⟨h1,h2⟩,h3⟩:=h
 have h1:=Nat.le_of_ble_eq_true h1
 have up:=f3e h2
 have hlen:=u7c (fl:=fl) (ks:=ks) (F:=F) (H:=H) (kk:=kk)
 rw [Nat.min_eq_left h1] at hlen
 have j2f : ∀ o,o∈F↔d3e F o=true:=fun o=>by
  simp only [d3e,List.any_eq_true]
  exact ⟨fun h=>⟨o,h,by simp⟩,fun ⟨x,hx,e⟩=>by rw [← Nat.eq_of_beq_eq_true e];exact hx⟩
 have iot : ∀ i o,fl≤i→ks[i - fl]?=some o→s1a fl ks i=o:=fun i o hi ho=>by simp [s1a,show ¬ i<fl by omega,ho]
 have at_ : ∀ i x,(g2c fl ks F (a7b (mpG fl ks F) (fzG F H) kk) H)[i]?=some x→x=obG F (a7b (mpG fl ks F) (fzG F H) kk) (s1a fl ks i) H[s1a fl ks i]?:=by
  intro i x hx
  unfold g2c at hx
  rcases Nat.lt_or_ge i fl with hi | hi
  ·rw [List.getElem?_append_left (by rw [u4a,List.length_take];omega),a1d,List.getElem?_take,if_pos hi] at hx
   have hi2:i<H.length:=by omega
   rw [List.getElem?_eq_getElem hi2] at hx
   simp only [Option.map_some,Option.some.injEq,Nat.zero_add] at hx
   have:s1a fl ks i=i:=by simp [s1a,hi]
   rw [this,List.getElem?_eq_getElem hi2]
   exact hx.symm
  ·rw [List.getElem?_append_right (by rw [u4a,List.length_take];omega),u4a,List.length_take,Nat.min_eq_left h1,List.getElem?_map] at hx
   cases hk:ks[i - fl]? with
   | none=>rw [hk] at hx;cases hx
   | some o=>
    rw [hk] at hx
    simp only [Option.map_some,Option.some.injEq] at hx
    rw [iot i o hi hk]
    exact hx.symm
 have k5f : ∀ i cells,b6a (g2c fl ks F (a7b (mpG fl ks F) (fzG F H) kk) H) i=some cells→d3e F (s1a fl ks i)=false ∧ ∃ c,b6a H (s1a fl ks i)=some c∧cells=c.map (a7b (mpG fl ks F) (fzG F H) kk):=by
  intro i cells ho
  have:=at_ i _ (f7a ho)
  unfold obG at this
  split at this
  ·rename_i c hf e
   injection this with this
   exact ⟨hf,c,by simp [b6a,e],this⟩
  ·cases this
  ·cases this
 have ren : ∀ d,Wz H F (s1a fl ks) (g2c fl ks F (a7b (mpG fl ks F) (fzG F H) kk) H).length d (a7b (mpG fl ks F) (fzG F H) kk d):=fun d=>by
  refine r0d (fun o i e => ?_) (fun o cells e => ?_) kk d
  ·unfold mpG at e
   split at e
   ·cases e
   ·split at e
    ·rename_i hb
     cases e
     have:o<fl:=by simpa [Nat.blt_eq] using hb
     exact ⟨by simp [s1a,this],by omega⟩
    ·obtain ⟨a,b⟩:=k8d e
     refine ⟨iot i o a b,?_⟩
     have:=(List.getElem?_eq_some_iff.1 b).1
     omega
  ·unfold fzG at e
   split at e
   ·rename_i hb
    exact ⟨(j2f o).2 hb,e⟩
   ·cases e
 refine ⟨by omega,fun i hi=>by simp [s1a,hi],fun i j hi hj e => ?_,fun o ho => ?_,fun i cells ho hF => ?_,fun i cells ho => ?_,fun i hi => ?_,ren⟩
 ·rw [hlen] at hi hj
  have val : ∀ i,fl≤i→i<fl+ks.length → ∃ o,ks[i - fl]?=some o∧s1a fl ks i=o:=fun i h1 h2=>by
   have:i - fl<ks.length:=by omega
   exact ⟨_,List.getElem?_eq_getElem this,iot i _ h1 (List.getElem?_eq_getElem this)⟩
  rcases Nat.lt_or_ge i fl with a | a<;>rcases Nat.lt_or_ge j fl with b | b
  ·simpa [s1a,a,b] using e
  ·obtain ⟨o,o1,o2⟩:=val j b hj
   have:=(up _ _ _ _ o1 o1).1
   rw [o2] at e
   simp [s1a,a] at e
   omega
  ·obtain ⟨o,o1,o2⟩:=val i a hi
   have:=(up _ _ _ _ o1 o1).1
   rw [o2] at e
   simp [s1a,b] at e
   omega
  ·obtain ⟨o,o1,o2⟩:=val i a hi
   obtain ⟨o',p1,p2⟩:=val j b hj
   have:=(up _ _ _ _ o1 p1).2 (by rw [← o2,← p2,e])
   omega
 ·exact Option.isSome_iff_exists.1 (h3 o ho)
 ·have:=(k5f i cells ho).1
  rw [(j2f _).1 hF] at this
  cases this
 ·obtain ⟨_,c,hc,rfl⟩:=k5f i cells ho
  refine ⟨c,hc,by simp,fun j hj hj' => ?_⟩
  rw [List.getElem_map]
  exact ren _
 ·have:=at_ i _ hi
  unfold obG at this
  split at this
  ·cases this
  ·rename_i e
   exact e
  ·cases this
variable {P:Program} {orc:c3a} {sz:Nat} {k:List K} {ρ:e1a} {Q:h6a→e1a→Mem→Prop} {c:Code}
theorem Go.gc (h:n0e fl ks F H=true) {ρ':e1a} (hρ : ∀ t,Wz H F (s1a fl ks) (g2c fl ks F (a7b (mpG fl ks F) (fzG F H) kk) H).length (ρ t) (ρ' t))
  (hg:Go P orc fl sz (.code c::k) .normal ρ' (g2c fl ks F (a7b (mpG fl ks F) (fzG F H) kk) H) Q):Go P orc fl sz (.code c::k) .normal ρ H Q:=by
 obtain ⟨e,ρ1,H1,hb,hq⟩:=hg
 have g:=i8e (kk:=kk) h
 exact ⟨e,ρ1,H1,.gc F (s1a fl ks) g.len g.low g.inj g.fz g.dis g.obj g.own hρ hb,hq⟩
theorem a3a.gc {f:FuncId} {args:List D} {S:Mem} {d:D} (h:a3a P orc f args S fun d' S'=>d'=d∧S'=H) (hk:n0e S.length ks [] H=true) :
  a3a P orc f args S fun d' S'=>d'=a7b (mpG S.length ks []) (fzG [] H) kk d∧S'=g2c S.length ks [] (a7b (mpG S.length ks []) (fzG [] H) kk) H:=by
 obtain ⟨_,_,hb,rfl,rfl⟩:=h
 have g:=i8e (kk:=kk) hk
 exact ⟨_,_,.keep [] (s1a S.length ks) hb g.len g.low g.inj (by simp) (by simp) (fun i cells hi=>.inr (by obtain ⟨c,h1,h2,h3⟩:=g.obj i cells hi;exact ⟨c,h1,h2,h3⟩)) g.own (g.ren _),rfl,rfl⟩
end
end Go.DM
