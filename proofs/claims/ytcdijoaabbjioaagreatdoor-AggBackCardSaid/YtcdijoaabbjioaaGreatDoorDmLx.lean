/- An abstract machine over Go's operations: rules for walking through a text. -/
import Derived.Test.YtcdijoaabbjioaaGreatDoorDmAx
import Derived.Test.YtcdijoaabbjioaaGreatDoorAmIx
import Derived.ChangeArms
import Derived.IntWalk
set_option linter.unusedSimpArgs false
set_option linter.unusedVariables false
namespace Go.DM
open Go Go.AM
section
variable (P:Program) (orc:c3a) (fl sz:Nat)
def i2f (c:Code) (ρ:e1a) (H:Mem) (Q:h6a→e1a→Mem→Prop):Prop := ∃ e ρ' H',i8a P orc fl (.code sz c ρ) H (.exit e ρ') H'∧Q e ρ' H'
def k7f (ops:Array Oper) (l:List Nat) (ρ:e1a) (H:Mem) (Q:e1a→Mem→Prop):Prop := ∃ ρ' H',i8a P orc fl (.ops sz ops l ρ) H (.env ρ') H'∧Q ρ' H'
def a3a (f:FuncId) (args:List D) (H:Mem) (Q:D→Mem→Prop):Prop := ∃ v H',i8a P orc 0 (.call f args) H (.val v) H'∧Q v H'
def Go:List K→h6a→e1a→Mem→(h6a→e1a→Mem→Prop)→Prop
 | [],e,ρ,H,Q=>Q e ρ H
 | .code c::k,.normal,ρ,H,Q=>i2f P orc fl sz c ρ H fun e ρ' H'=>Go k e ρ' H' Q
 | .code _::k,e,ρ,H,Q=>Go k e ρ H Q
 | .blk _::k,.normal,ρ,H,Q=>Go k .normal ρ H Q
 | .blk id::k,.exit id',ρ,H,Q=>if id'=id then Go k .normal ρ H Q else Go k (.exit id') ρ H Q
 | .blk _::k,.ret,ρ,H,Q=>Go k .ret ρ H Q
 | .lp c::k,.normal,ρ,H,Q=>i2f P orc fl sz (.loop c) ρ H fun e ρ' H'=>Go k e ρ' H' Q
 | .lp _::k,e,ρ,H,Q=>Go k e ρ H Q
def GoO (ops:Array Oper) (l:List Nat) (k:List K) (ρ:e1a) (H:Mem) (Q:h6a→e1a→Mem→Prop):Prop:=
 k7f P orc fl sz ops l ρ H fun ρ' H'=>Go P orc fl sz k .normal ρ' H' Q
def p4a (x:Option (D×Mem)) (F:D→Mem→Prop):Prop:=match x with | some (v,H)=>F v H | none=>False
end
section
variable {P:Program} {orc:c3a} {fl sz:Nat} {k:List K} {ρ:e1a} {H:Mem} {Q:h6a→e1a→Mem→Prop}
theorem Go.ret' : ∀ (k:List K),Q .ret ρ H→Go P orc fl sz k .ret ρ H Q
 | [],h=>h
 | .code _::k,h=>Go.ret' k h
 | .blk _::k,h=>Go.ret' k h
 | .lp _::k,h=>Go.ret' k h
theorem Go.skip (h:Go P orc fl sz k .normal ρ H Q):Go P orc fl sz (.code .skip::k) .normal ρ H Q:=⟨_,_,_,.skip,h⟩
theorem Go.ret (h:Q .ret ρ H):Go P orc fl sz (.code .ret::k) .normal ρ H Q:=⟨_,_,_,.ret,Go.ret' k h⟩
theorem Go.exit {id:Nat} (h:Go P orc fl sz k (.exit id) ρ H Q) (hi:id≠PAN:=by decide):Go P orc fl sz (.code (.exit id)::k) .normal ρ H Q:=⟨_,_,_,.exit hi,h⟩
theorem Go.z8e {id:Nat} (h:Go P orc fl sz k .normal ρ H Q):Go P orc fl sz (.blk id::k) (.exit id) ρ H Q:=by simp only [Go,if_true];exact h
theorem Go.p1e {id id':Nat} (hne:id'≠id) (h:Go P orc fl sz k (.exit id') ρ H Q):Go P orc fl sz (.blk id::k) (.exit id') ρ H Q:=by simp only [Go,hne,if_false];exact h
theorem Go.seq {c d:Code} (h:Go P orc fl sz (.code c :: .code d::k) .normal ρ H Q):Go P orc fl sz (.code (.seq c d)::k) .normal ρ H Q:=by
 obtain ⟨e,ρ1,H1,hb,h⟩:=h
 cases e with
 | normal=>
  obtain ⟨e2,ρ2,H2,hb2,h2⟩:=h
  exact ⟨e2,ρ2,H2,.z3e hb hb2,h2⟩
 | exit id=>exact ⟨_,ρ1,H1,.n5e hb (by simp),h⟩
 | ret=>exact ⟨_,ρ1,H1,.n5e hb (by simp),h⟩
theorem Go.block {id:Nat} {c:Code} (h:Go P orc fl sz (.code c :: .blk id::k) .normal ρ H Q) (hi:id≠PAN:=by decide):Go P orc fl sz (.code (.block id c)::k) .normal ρ H Q:=by
 obtain ⟨e,ρ1,H1,hb,h⟩:=h
 cases e with
 | normal=>exact ⟨.normal,ρ1,H1,.x6c hb,h⟩
 | exit id' =>
  by_cases he:id'=id
  ·subst he
   simp only [Go,if_true] at h
   exact ⟨.normal,ρ1,H1,.x7c hi hb,h⟩
  ·simp only [Go,he,if_false] at h
   exact ⟨.exit id',ρ1,H1,.b3c hb (by simp) (by simp [he]),h⟩
 | ret=>exact ⟨.ret,ρ1,H1,.b3c hb (by simp) (by simp),h⟩
theorem Go.loop {c:Code} (h:Go P orc fl sz (.code c :: .lp c::k) .normal ρ H Q):Go P orc fl sz (.code (.loop c)::k) .normal ρ H Q:=by
 obtain ⟨e,ρ1,H1,hb,h⟩:=h
 cases e with
 | normal=>
  obtain ⟨e2,ρ2,H2,hb2,h2⟩:=h
  exact ⟨e2,ρ2,H2,.z0d hb hb2,h2⟩
 | exit id=>exact ⟨_,ρ1,H1,.d9d hb (by simp),h⟩
 | ret=>exact ⟨_,ρ1,H1,.d9d hb (by simp),h⟩
theorem Go.lp {c:Code} (h:Go P orc fl sz (.code (.loop c)::k) .normal ρ H Q):Go P orc fl sz (.lp c::k) .normal ρ H Q:=h
theorem Go.cond {c:Operand} {x y:Code} {t:Bool} (hk:b5a c=true) (hc:d1a ρ c = .bool t) (h:Go P orc fl sz (.code (if t then x else y)::k) .normal ρ H Q) :
  Go P orc fl sz (.code (.cond c x y)::k) .normal ρ H Q:=by
 obtain ⟨e,ρ1,H1,hb,h⟩:=h
 exact ⟨e,ρ1,H1,.cond hk hc hb,h⟩
theorem Go.k8c {t:Tmp} {x y:Code} (hc:ρ t = .bool true) (h:Go P orc fl sz (.code x::k) .normal ρ H Q):Go P orc fl sz (.code (.cond (.tmp t) x y)::k) .normal ρ H Q:=Go.cond rfl hc h
theorem Go.k7c {t:Tmp} {x y:Code} (hc:ρ t = .bool false) (h:Go P orc fl sz (.code y::k) .normal ρ H Q):Go P orc fl sz (.code (.cond (.tmp t) x y)::k) .normal ρ H Q:=Go.cond rfl hc h
theorem Go.b0a {t:Tmp} {x y:Code} {b:Bool} (hc:ρ t = .bool b) (h1:b=true→Go P orc fl sz (.code x::k) .normal ρ H Q) (h2:b=false→Go P orc fl sz (.code y::k) .normal ρ H Q) :
  Go P orc fl sz (.code (.cond (.tmp t) x y)::k) .normal ρ H Q:=by
 cases b
 ·exact Go.k7c hc (h2 rfl)
 ·exact Go.k8c hc (h1 rfl)
theorem Go.region {id:Nat} {ops:Array Oper} (h:GoO P orc fl sz ops (List.range ops.size) k ρ H Q):Go P orc fl sz (.code (.region id ops false)::k) .normal ρ H Q:=by
 obtain ⟨ρ1,H1,hb,h⟩:=h
 exact ⟨.normal,ρ1,H1,.region hb,h⟩
theorem GoO.nil {ops:Array Oper} (h:Go P orc fl sz k .normal ρ H Q):GoO P orc fl sz ops [] k ρ H Q:=⟨ρ,H,.w4b,h⟩
theorem GoO.op {ops:Array Oper} {i:Nat} {l:List Nat} {o:Oper} (ho:ops[i]?=some o) (hd:i9a sz o.dst) (hc:o.op.operands.toList.all b5a=true)
  (hw:Region.wanted o (e9a ops ρ)=true) (h:p4a (opD P ρ o.op H) fun v H1=>GoO P orc fl sz ops l k (m3a ρ o.dst v) H1 Q):GoO P orc fl sz ops (i::l) k ρ H Q:=by
 cases hop:opD P ρ o.op H with
 | none=>rw [hop] at h;exact h.elim
 | some r=>
  obtain ⟨v,H1⟩:=r
  rw [hop] at h
  obtain ⟨ρ',H',hb,h⟩:=h
  exact ⟨ρ',H',.w5b ho hw hd hc (.inl hop) hb,h⟩
theorem GoO.skip {ops:Array Oper} {i:Nat} {l:List Nat} {o:Oper} {g:Nat×Bool} {b:Option Bool} (ho:ops[i]?=some o) (hd:i9a sz o.dst)
  (hg:o.guard=some g) (hy:m6a ops ρ g.1=some b) (hw:(b==some g.2)=false) (h:GoO P orc fl sz ops l k (m3a ρ o.dst j1a) H Q):GoO P orc fl sz ops (i::l) k ρ H Q:=by
 obtain ⟨ρ',H',hb,h⟩:=h
 exact ⟨ρ',H',.z0a ho hg hy hw hd hb,h⟩
theorem GoO.call {ops:Array Oper} {i:Nat} {l:List Nat} {o:Oper} {f:FuncId} {args:List D} {fn:Func} (ho:ops[i]?=some o) (hd:i9a sz o.dst) (hc:o.op.operands.toList.all b5a=true)
  (hw : Region.wanted o (e9a ops ρ) = true) (ht : h0a ρ o.op = some (f, args)) (hf : P.funcs[f]? = some fn) (hn : fn.name ≠ "runtime.NumGoroutine") (hb : fn.body.isNone = false)
  (h:a3a P orc f args H fun v H1=>GoO P orc fl sz ops l k (m3a ρ o.dst v) H1 Q):GoO P orc fl sz ops (i::l) k ρ H Q:=by
 obtain ⟨v,H1,hcall,ρ',H',hbig,h⟩:=h
 exact ⟨ρ',H',.y9a ho hw hd hc ht hf hn hb hcall hbig,h⟩
def GoI (P:Program) (orc:c3a) (fl sz:Nat) (ops:Array Oper) (i:Nat) (k:List K) (ρ:e1a) (H:Mem) (Q:h6a→e1a→Mem→Prop):Prop:=
 GoO P orc fl sz ops (List.range' i (ops.size - i)) k ρ H Q
theorem j4a {n i:Nat} (h:i<n):List.range' i (n - i)=i::List.range' (i+1) (n - (i+1)):=by
 rw [show n - i=(n - (i+1))+1 by omega,List.range'_succ]
theorem k1a {ops:Array Oper} {i:Nat} {o:Oper} (ho:ops[i]?=some o):i<ops.size:=(Array.getElem?_eq_some_iff.1 ho).1
theorem Go.reg {id:Nat} {ops:Array Oper} (h:GoI P orc fl sz ops 0 k ρ H Q):Go P orc fl sz (.code (.region id ops false)::k) .normal ρ H Q:=by
 refine Go.region ?_
 rw [List.range_eq_range']
 exact h
theorem GoI.op {ops:Array Oper} {i:Nat} {o:Oper} (ho:ops[i]?=some o) (hd:i9a sz o.dst) (hc:o.op.operands.toList.all b5a=true)
  (hw:Region.wanted o (e9a ops ρ)=true) (h:p4a (opD P ρ o.op H) fun v H1=>GoI P orc fl sz ops (i+1) k (m3a ρ o.dst v) H1 Q):GoI P orc fl sz ops i k ρ H Q:=by
 unfold GoI
 rw [j4a (k1a ho)]
 exact GoO.op ho hd hc hw h
theorem GoI.skip {ops:Array Oper} {i:Nat} {o:Oper} {g:Nat×Bool} {b:Option Bool} (ho:ops[i]?=some o) (hd:i9a sz o.dst)
  (hg:o.guard=some g) (hy:m6a ops ρ g.1=some b) (hw:(b==some g.2)=false) (h:GoI P orc fl sz ops (i+1) k (m3a ρ o.dst j1a) H Q):GoI P orc fl sz ops i k ρ H Q:=by
 unfold GoI
 rw [j4a (k1a ho)]
 exact GoO.skip ho hd hg hy hw h
theorem GoI.call {ops:Array Oper} {i:Nat} {o:Oper} {f:FuncId} {args:List D} {fn:Func} (ho:ops[i]?=some o) (hd:i9a sz o.dst) (hc:o.op.operands.toList.all b5a=true)
  (hw : Region.wanted o (e9a ops ρ) = true) (ht : h0a ρ o.op = some (f, args)) (hf : P.funcs[f]? = some fn) (hn : fn.name ≠ "runtime.NumGoroutine") (hb : fn.body.isNone = false)
  (h:a3a P orc f args H fun v H1=>GoI P orc fl sz ops (i+1) k (m3a ρ o.dst v) H1 Q):GoI P orc fl sz ops i k ρ H Q:=by
 unfold GoI
 rw [j4a (k1a ho)]
 exact GoO.call ho hd hc hw ht hf hn hb h
def GoR (P:Program) (orc:c3a) (fl sz:Nat) (ops:Array Oper) (rest:List Oper) (k:List K) (ρ:e1a) (H:Mem) (Q:h6a→e1a→Mem→Prop):Prop:=
 ∀ i,ops.toList.drop i=rest→GoI P orc fl sz ops i k ρ H Q
theorem d6a {ops:Array Oper} {i:Nat} {o:Oper} {os:List Oper} (h:ops.toList.drop i=o::os):ops[i]?=some o∧ops.toList.drop (i+1)=os:=by
 have h1:(ops.toList.drop i)[0]?=some o:=by rw [h];rfl
 rw [List.getElem?_drop] at h1
 refine ⟨by simpa using h1,?_⟩
 rw [← List.drop_drop,h]
 rfl
theorem Go.rg {id:Nat} {l:List Oper} (h:GoR P orc fl sz l.toArray l k ρ H Q):Go P orc fl sz (.code (.region id l.toArray false)::k) .normal ρ H Q:=Go.reg (h 0 (by simp))
theorem GoR.nil {ops:Array Oper} (h:Go P orc fl sz k .normal ρ H Q):GoR P orc fl sz ops [] k ρ H Q:=fun i hi=>by
 unfold GoI
 have:ops.size≤i:=by simpa [List.drop_eq_nil_iff] using hi
 rw [show ops.size - i=0 by omega]
 exact GoO.nil h
theorem GoR.op {ops:Array Oper} {os:List Oper} {dst:Option Tmp} {op:Op} {ty:TypeId} {pos:String} {after:Array Edge} (hd:i9a sz dst) (hc:op.operands.toList.all b5a=true)
  (h:p4a (opD P ρ op H) fun v H1=>GoR P orc fl sz ops os k (m3a ρ dst v) H1 Q):GoR P orc fl sz ops (⟨dst,op,ty,pos,after,none⟩::os) k ρ H Q:=fun i hi=>by
 obtain ⟨h1,h2⟩:=d6a hi
 refine GoI.op h1 hd hc rfl ?_
 cases hop:opD P ρ op H with
 | none=>rw [hop] at h;exact h.elim
 | some r=>
  rw [hop] at h
  exact h (i+1) h2
theorem GoR.opG {ops:Array Oper} {os:List Oper} {dst:Option Tmp} {op:Op} {ty:TypeId} {pos:String} {after:Array Edge} {g:Nat×Bool} (hd:i9a sz dst) (hc:op.operands.toList.all b5a=true)
  (hw:(e9a ops ρ g.1==some g.2)=true) (h:p4a (opD P ρ op H) fun v H1=>GoR P orc fl sz ops os k (m3a ρ dst v) H1 Q):GoR P orc fl sz ops (⟨dst,op,ty,pos,after,some g⟩::os) k ρ H Q:=fun i hi=>by
 obtain ⟨h1,h2⟩:=d6a hi
 refine GoI.op h1 hd hc hw ?_
 cases hop:opD P ρ op H with
 | none=>rw [hop] at h;exact h.elim
 | some r=>
  rw [hop] at h
  exact h (i+1) h2
theorem GoR.a7e {ops:Array Oper} {os:List Oper} {dst:Option Tmp} {op:Op} {ty:TypeId} {pos:String} {after:Array Edge} {g:Nat×Bool} {b:Option Bool} (hd:i9a sz dst)
  (hy:m6a ops ρ g.1=some b) (hw:(b==some g.2)=false) (h:GoR P orc fl sz ops os k (m3a ρ dst j1a) H Q):GoR P orc fl sz ops (⟨dst,op,ty,pos,after,some g⟩::os) k ρ H Q:=fun i hi=>by
 obtain ⟨h1,h2⟩:=d6a hi
 exact GoI.skip h1 hd rfl hy hw (h (i+1) h2)
theorem GoR.call {ops:Array Oper} {os:List Oper} {dst:Option Tmp} {c:Call} {ty:TypeId} {pos:String} {after:Array Edge} {f:FuncId} {args:List D} {fn:Func} (hd:i9a sz dst) (hc:(Op.call c).operands.toList.all b5a=true)
  (ht : h0a ρ (.call c) = some (f, args)) (hf : P.funcs[f]? = some fn) (hn : (fn.name == "runtime.NumGoroutine") = false) (hb : fn.body.isNone = false)
  (h:a3a P orc f args H fun v H1=>GoR P orc fl sz ops os k (m3a ρ dst v) H1 Q):GoR P orc fl sz ops (⟨dst,.call c,ty,pos,after,none⟩::os) k ρ H Q:=fun i hi=>by
 obtain ⟨h1,h2⟩:=d6a hi
 refine GoI.call h1 hd hc rfl ht hf (by simpa using hn) hb ?_
 obtain ⟨v,H',hb,q⟩:=h
 exact ⟨v,H',hb,q (i+1) h2⟩
theorem GoR.b1a {ops:Array Oper} {os:List Oper} {dst:Option Tmp} {op:Op} {ty:TypeId} {pos:String} {after:Array Edge} {g:Nat×Bool} {b:Bool} (hy:e9a ops ρ g.1=some b)
  (h1:b=true→GoR P orc fl sz ops (⟨dst,op,ty,pos,after,some g⟩::os) k ρ H Q) (h2:b=false→GoR P orc fl sz ops (⟨dst,op,ty,pos,after,some g⟩::os) k ρ H Q) :
  GoR P orc fl sz ops (⟨dst,op,ty,pos,after,some g⟩::os) k ρ H Q:=by
 cases b
 ·exact h2 rfl
 ·exact h1 rfl
theorem GoR.c4d {ops:Array Oper} {os:List Oper} {dst:Option Tmp} {c:Call} {ty:TypeId} {pos:String} {after:Array Edge} {g:Nat×Bool} {f:FuncId} {args:List D} {fn:Func} (hd:i9a sz dst) (hc:(Op.call c).operands.toList.all b5a=true)
  (hw : (e9a ops ρ g.1 == some g.2) = true) (ht : h0a ρ (.call c) = some (f, args)) (hf : P.funcs[f]? = some fn) (hn : (fn.name == "runtime.NumGoroutine") = false) (hb : fn.body.isNone = false)
  (h:a3a P orc f args H fun v H1=>GoR P orc fl sz ops os k (m3a ρ dst v) H1 Q):GoR P orc fl sz ops (⟨dst,.call c,ty,pos,after,some g⟩::os) k ρ H Q:=fun i hi=>by
 obtain ⟨h1,h2⟩:=d6a hi
 refine GoI.call h1 hd hc hw ht hf (by simpa using hn) hb ?_
 obtain ⟨v,H',hb,q⟩:=h
 exact ⟨v,H',hb,q (i+1) h2⟩
theorem a3a.mono {f:FuncId} {args:List D} {R R':D→Mem→Prop} (h:a3a P orc f args H R) (hr : ∀ v H',R v H'→R' v H'):a3a P orc f args H R':=by
 obtain ⟨v,H',hb,q⟩:=h
 exact ⟨v,H',hb,hr _ _ q⟩
theorem a3a.body {f:FuncId} {args:List D} {fn:Func} {c:Code} {R:D→Mem→Prop} (hf:P.funcs[f]?=some fn) (hb:fn.body=some c) (ha:args.length≤fn.ntmps)
  (h:Go P orc H.length fn.ntmps [.code c] .normal (r1a args) H fun e ρ H'=>(e = .normal∨e = .ret) ∧ ∃ v,g9a P fn ρ H'=some v∧R v H'):a3a P orc f args H R:=by
 obtain ⟨e,ρ,H',hbig,he,v,hv,hr⟩:=h
 exact ⟨v,H',.call hf hb ha hbig he hv,hr⟩
theorem l5e {ρ:e1a} {t:Tmp} {v:D} : m3a ρ (some t) v t=v:=by simp [m3a,r6a]
theorem l6e {ρ:e1a} {t u:Tmp} {v:D} (h:(u==t)=false):m3a ρ (some t) v u=ρ u:=by simp at h;simp [m3a,r6a,h]
theorem q5d {ρ:e1a} {v:D} : m3a ρ none v=ρ:=rfl
theorem v2b {a:D} {l:List D} {n:Nat} : r1a (a::l) (n+1)=r1a l n:=by simp [r1a]
theorem G :
  (∀ {v:D} {H:Mem} {F:D→Mem→Prop},p4a (some (v,H)) F=F v H) ∧
  (∀ {P ρ x H},opD P ρ (.move x) H=some (d1a ρ x,H)) ∧
  (∀ {P ρ x H},opD P ρ (.assign x) H=some (d1a ρ x,H)) ∧
  (∀ {P ρ c a b H},opD P ρ (.pick c a b) H=match d1a ρ c with | .bool t=>some (if t then d1a ρ a else d1a ρ b,H) | _=>none) ∧
  (∀ {P ρ t x H},opD P ρ (.box t x) H=(cellsD (d1a ρ x)).map fun cs=>(.ptr H.length 0,H++[.obj cs])) ∧
  (∀ {P ρ t x H},opD P ρ (.load t x) H=(l5a P t (d1a ρ x) H).map (·,H)) ∧
  (∀ {P ρ t x y H},opD P ρ (.store t x y) H=(j0a P t (d1a ρ x) (d1a ρ y) H).map (j1a,·)) ∧
  (∀ {P ρ s x f H},opD P ρ (.fieldAddr s x f) H=(a9a P s (d1a ρ x) f).map (·,H)) ∧
  (∀ {P ρ s x f H},opD P ρ (.field s x f) H=(u2b P s (d1a ρ x) f).map (·,H)) ∧
  (∀ {P ρ t x i H},opD P ρ (.indexAddr t x i) H=(m5a P t (d1a ρ x) (d1a ρ i)).map (·,H)) ∧
  (∀ {P ρ fn a b H},opD P ρ (.makeFunc fn a b) H=some (.fn fn (a.toList.map (d1a ρ)) (b.toList.map (d1a ρ)),H)) ∧
  (∀ {P ρ t x lo hi mx H},opD P ρ (.slice t x lo hi mx) H=(l0a P t (d1a ρ x) (lo.map (d1a ρ)) (hi.map (d1a ρ)) (mx.map (d1a ρ))).map (·,H)) ∧
  (∀ {P ρ t n ps H},opD P ρ (.buildSlice t n ps) H=f2a P t n (ps.toList.map fun (i,x)=>(i,d1a ρ x)) H) ∧
  (∀ {P ρ t ps H},opD P ρ (.build t ps) H=(r8a P t (ps.toList.map fun (i,x)=>(i,d1a ρ x))).map (·,H)) ∧
  (∀ {P ρ s d x H},opD P ρ (.convert s d x) H=k2a P s d (d1a ρ x) H) ∧
  (∀ {P ρ op t x y u H},opD P ρ (.binOp op t x y u) H=(i6a P op t x y (d1a ρ x) (d1a ρ y)).map (·,H)) ∧
  (∀ {P ρ b args at_ H},opD P ρ (.call { callee:=.builtin b,args:=args,argTypes:=at_ }) H=b8a P b at_ (args.toList.map (d1a ρ)) H) ∧
  (∀ {ρ:e1a} {t:Tmp},d1a ρ (.tmp t)=ρ t) ∧
  (∀ {ρ:e1a} {v:Value},d1a ρ (.const v)=ofV v) ∧
  (∀ {ρ:e1a} {f:FuncId},d1a ρ (.func f) = .fn (.func f) [] []) ∧
  (∀ {ρ:e1a} {t:Tmp} {v:D},m3a ρ (some t) v t=v) ∧
  (∀ {a:D} {l:List D},r1a (a::l) 0=a) ∧
  (∀ {a:D} {l:List D} {n:Nat},r1a (a::l) (n+1)=r1a l n):=
 ⟨rfl,rfl,rfl,rfl,rfl,rfl,rfl,rfl,rfl,rfl,rfl,rfl,rfl,rfl,rfl,rfl,rfl,rfl,rfl,rfl,l5e,rfl,v2b⟩
end
end Go.DM
namespace Go.DM
open Go Go.AM
def q0b:Op→Bool
 | .move _ | .assign _ | .pick _ _ _ | .nilCheck _ | .unOp _ _ _ | .makeInterface _ _ | .makeFunc _ _ _ | .fieldAddr _ _ _ | .field _ _ _ | .indexAddr _ _ _ | .index _ _ _ | .extract _ _ | .binOp _ _ _ _ _ | .build _ _ | .slice _ _ _ _ _ | .typeAssert _ _ _ _=>true
 | .call { callee:=.builtin .len,.. } | .call { callee:=.builtin .max,.. } | .call { callee:=.builtin .min,.. } => true
 | _=>false
def p5b:Op→Bool
 | .load _ _=>true
 | _=>false
theorem c8b {P:Program} {ρ:e1a} {op:Op} {H H1:Mem} {v:D} (hf:q0b op=true) (h:opD P ρ op H=some (v,H1)):H1=H ∧ ∀ H',opD P ρ op H'=some (v,H'):=by
 have key : ∀ x:Option D,(x.map (·,H))=some (v,H1)→H1=H ∧ ∀ H':Mem,x.map (·,H')=some (v,H'):=by
  intro x hx
  cases x with
  | none=>cases hx
  | some y=>cases hx;exact ⟨rfl,fun _=>rfl⟩
 cases op<;>(try (simp [q0b] at hf;done))<;>simp only [opD] at h ⊢
 case move=>cases h;exact ⟨rfl,fun _=>rfl⟩
 case assign=>cases h;exact ⟨rfl,fun _=>rfl⟩
 case pick=>split at h<;>first | (cases h;done) | (cases h;exact ⟨rfl,fun _=>rfl⟩)
 case nilCheck=>split at h<;>first | (cases h;done) | (cases h;exact ⟨rfl,fun _=>rfl⟩)
 case makeInterface=>split at h<;>first | (cases h;done) | (cases h;exact ⟨rfl,fun _=>rfl⟩)
 case makeFunc=>cases h;exact ⟨rfl,fun _=>rfl⟩
 case typeAssert x st as co=>cases co with | false=>cases h | true=>exact key _ h
 case fieldAddr=>exact key _ h
 case field=>exact key _ h
 case indexAddr=>exact key _ h
 case build=>exact key _ h
 case slice=>exact key _ h
 case binOp=>exact key _ h
 case extract=>
  split at h
  ·exact key _ h
  ·cases h
 case index=>
  split at h
  ·rename_i s k i _ _ _
   by_cases h0:0≤i
   ·rw [if_pos h0] at h
    simp only [h0,if_true]
    cases hs:s.data[i.toNat]? with
    | none=>rw [hs] at h;cases h
    | some b=>rw [hs] at h;cases h;exact ⟨rfl,fun _=>rfl⟩
   ·rw [if_neg h0] at h;cases h
  ·cases h
 case unOp op t x=>
  split at h
  ·cases h;exact ⟨rfl,fun _=>rfl⟩
  ·cases h;exact ⟨rfl,fun _=>rfl⟩
  ·rename_i k n _
   cases hp:k3a P (Op.intBits .xor k (if k.signed then -1 else k.max) n) with
   | none=>rw [hp] at h;cases h
   | some w=>
    rw [hp] at h
    by_cases hc:f8a w=true
    ·simp only [Option.bind_some,hc,if_true] at h ⊢
     cases h;exact ⟨rfl,fun _=>rfl⟩
    ·simp [hc] at h
  ·cases h
 case call c=>
  obtain ⟨callee,args,at_⟩:=c
  cases callee with
  | builtin b=>
   simp only at h ⊢
   generalize args.toList.map (d1a ρ)=xs at h ⊢
   have hlen:b8a P .len at_ xs H=some (v,H1)→H1=H ∧ ∀ H',b8a P .len at_ xs H'=some (v,H'):=by
    intro h
    match xs,h with
    | [x],h=>
     simp only [b8a] at h ⊢
     split at h<;>first | (cases h;done) | (cases h;exact ⟨rfl,fun _=>rfl⟩)
    | [],h=>cases h
    | _::_::_,h=>cases h
   have hmin:b8a P .min at_ xs H=some (v,H1)→H1=H ∧ ∀ H',b8a P .min at_ xs H'=some (v,H'):=by
    intro h
    match xs,h with
    | [],h=>simp [b8a] at h
    | [x],h=>simp [b8a] at h
    | _::_::_::_,h=>simp [b8a] at h
    | [x,y],h=>
     cases x<;>first | (simp [b8a] at h;done) | skip
     cases y<;>first | (simp [b8a] at h;done) | skip
     cases h;exact ⟨rfl,fun _=>rfl⟩
   have hmax:b8a P .max at_ xs H=some (v,H1)→H1=H ∧ ∀ H',b8a P .max at_ xs H'=some (v,H'):=by
    intro h
    match xs,h with
    | [],h=>simp [b8a] at h
    | [x],h=>simp [b8a] at h
    | _::_::_::_,h=>simp [b8a] at h
    | [x,y],h=>
     cases x<;>first | (simp [b8a] at h;done) | skip
     cases y<;>first | (simp [b8a] at h;done) | skip
     cases h;exact ⟨rfl,fun _=>rfl⟩
   cases b<;>(try (simp [q0b] at hf;done))
   ·exact hlen h
   ·exact hmax h
   ·exact hmin h
  | _=>simp [q0b] at hf
theorem g9b {P:Program} {ρ:e1a} {op:Op} {H H1:Mem} {v:D} (hf:p5b op=true) (h:opD P ρ op H=some (v,H1)):H1=H:=by
 cases op<;>(try (simp [p5b] at hf;done))<;>simp only [opD] at h
 cases hl:l5a P ‹_› (d1a ρ ‹_›) H with
 | none=>rw [hl] at h;cases h
 | some w=>rw [hl] at h;cases h;rfl
theorem m2b {P:Program} {ρ:e1a} {op:Op} {H H1:Mem} {v:D} (hf:q0b op=true) (h:opM P ρ op H v H1):H1=H ∧ ∀ H',opM P ρ op H' v H':=by
 rcases h with h | ⟨sz,len,cells,h,_,_⟩ | ⟨sz,len,cells,h,_,_⟩
 ·exact ⟨(c8b hf h).1,fun H'=>.inl ((c8b hf h).2 H')⟩
 ·have:=congrArg List.length (c8b hf h).1
  simp at this
 ·have:=congrArg List.length (c8b hf h).1
  simp at this
theorem w9b {P:Program} {ρ:e1a} {op:Op} {H H1:Mem} {v:D} (hf:p5b op=true) (h:opM P ρ op H v H1):H1=H:=by
 rcases h with h | ⟨sz,len,cells,h,_,_⟩ | ⟨sz,len,cells,h,_,_⟩
 ·exact g9b hf h
 ·have:=congrArg List.length (g9b hf h)
  simp at this
 ·have:=congrArg List.length (g9b hf h)
  simp at this
def m7b (ops:Array Oper):List Nat:=(List.range ops.size).filter fun i=>match ops[i]? with | some o => !(q0b o.op || p5b o.op) | none=>false
def k1d (ops:Array Oper) (i:Nat):Bool:=match ops[i]? with | some o=>q0b o.op | none=>false
def y8a (ops:Array Oper) (loose:List Nat):List Nat:=(m7b ops).filter fun i => !loose.contains i
def i0a (ops:Array Oper) (loose:List Nat):Bool:=
 q0a ops (y8a ops loose)&&(List.range ops.size).all fun i=>(y8a ops loose).contains i || k1d ops i || pinned ops (y8a ops loose) i || loose.contains i
def v5a (ops:Array Oper) (loose:List Nat) (F:Nat):Bool:=decide (ops.size≤F) || ((y8a ops loose).contains F&&loose.all fun a=>ordered ops ops.size a F)
section
variable (P:Program) (orc:c3a) (fl sz:Nat) (ops:Array Oper) (loose:List Nat) (Inv:Mem→Prop) (F:Nat)
inductive Tr:Nat→e1a→Mem→List (D×Mem)→e1a→Mem→Prop
 | nil {ρ H} : Tr ops.size ρ H [] ρ H
 | cons {i ρ H v H1 l ρ' H'} (h:k9a P orc fl sz ops i ρ H v H1) (hl:i∈loose→H1=H ∧ ∀ H',Inv H'→k9a P orc fl sz ops i ρ H' v H') (hi:i<F→Inv H1)
   (t:Tr (i+1) (m3a ρ (e6a ops i) v) H1 l ρ' H'):Tr i ρ H ((v,H1)::l) ρ' H'
end
section
variable {P:Program} {orc:c3a} {fl sz:Nat} {ops:Array Oper} {loose:List Nat} {Inv:Mem→Prop} {F:Nat}
theorem k9a.lt {i ρ H v H'} (h:k9a P orc fl sz ops i ρ H v H'):i<ops.size:=by
 obtain ⟨o,ho,_⟩:=h
 exact k1a ho
theorem Tr.spread {ρ0:e1a} {v:Nat→D} {Hs:Nat→Mem} {i ρ H l ρ' H'} (t:Tr P orc fl sz ops loose Inv F i ρ H l ρ' H'):Hs i=H→l7a ops v ρ0 (fun _=>true) i=ρ→(∀ k p,l[k]?=some p→v (i+k)=p.1∧Hs (i+k+1)=p.2) →
  (∀ j,i≤j→j<ops.size→k9a P orc fl sz ops j (l7a ops v ρ0 (fun _=>true) j) (Hs j) (v j) (Hs (j+1)) ∧
   (j∈loose→Hs (j+1)=Hs j ∧ ∀ H',Inv H'→k9a P orc fl sz ops j (l7a ops v ρ0 (fun _=>true) j) H' (v j) H')∧(j<F→Inv (Hs (j+1)))) ∧
  l7a ops v ρ0 (fun _=>true) ops.size=ρ'∧Hs ops.size=H':=by
 induction t with
 | nil=>intro h1 h2 _;exact ⟨fun j a b=>by omega,h2,h1⟩
 | @cons i ρ H w H1 l ρ' H' h hl hi t ih=>
  intro h1 h2 h3
  obtain ⟨e1,e2⟩:=h3 0 _ rfl
  simp only [Nat.add_zero] at e1 e2
  obtain ⟨a,b,c⟩:=ih e2 (by simp only [l7a,if_true,h2,e1]) fun k p hk=>by
   have:=h3 (k+1) p (by simpa using hk)
   rw [show i+1+k=i+(k+1) by omega]
   exact this
  refine ⟨fun j hj hjs => ?_,b,c⟩
  rcases Nat.lt_or_ge i j with hij | hij
  ·exact a j hij hjs
  ·obtain rfl:j=i:=by omega
   rw [h2,h1,e1,e2]
   exact ⟨h,hl,hi⟩
theorem r3a (hd : ∀ j,j<ops.size → ∀ k∈direct ops j,k<j) : ∀ n i j,ordered ops n i j=true→i<j
 | 0,_,_,h=>by simp [ordered] at h
 | n+1,i,j,h=>by
  simp only [ordered,List.any_eq_true,Bool.or_eq_true,beq_iff_eq] at h
  obtain ⟨k,hk,h⟩:=h
  have hj:j<ops.size:=by
   rcases Nat.lt_or_ge j ops.size with hj | hj
   ·exact hj
   ·simp [direct,Array.getElem?_eq_none hj] at hk
  have:=hd j hj k hk
  rcases h with rfl | h
  ·exact this
  ·exact Nat.lt_trans (r3a hd n i k h) this
theorem Tr.allT {ρ H l ρ' H'} (hf:i0a ops loose=true) (hfe:v5a ops loose F=true) (h0:Inv H) (t:Tr P orc fl sz ops loose Inv F 0 ρ H l ρ' H') {ord:List Nat} (ht:d7c ops (Array.replicate ops.size false) ord) :
  Run P orc fl sz ops ord ρ H ρ' H':=by
 simp only [i0a,Bool.and_eq_true] at hf
 obtain ⟨hok,hcl⟩:=hf
 let v:Nat→D:=fun i=>((l[i]?).map (·.1)).getD j1a
 let Hs:Nat→Mem:=fun i=>match i with | 0=>H | i+1=>((l[i]?).map (·.2)).getD H'
 obtain ⟨a,b,c⟩:=t.spread (ρ0:=ρ) (v:=v) (Hs:=Hs) rfl rfl fun k p hk=>by
  rw [Nat.zero_add]
  exact ⟨by simp [v,hk],by simp [Hs,hk]⟩
 have hinv : ∀ q,q≤ops.size→q≤F→Inv (Hs q):=by
  intro q hq hF
  cases q with
  | zero=>exact h0
  | succ q=>exact (a q (Nat.zero_le _) hq).2.2 hF
 have t4e : ∀ j,j<ops.size → ∀ k∈direct ops j,k<j:=by
  intro j hj k hk
  simp only [q0a,Bool.and_eq_true,List.all_eq_true,List.mem_range,decide_eq_true_eq] at hok
  exact hok.1.1 j hj k hk
 have o4d : ∀ i,i<ops.size→i∉loose→i∉y8a ops loose → ∃ o,ops[i]?=some o∧(q0b o.op=true∨p5b o.op=true):=by
  intro i hi hnl hm
  refine ⟨ops[i],by simp [hi],?_⟩
  have hm:i∉m7b ops:=fun h=>hm (by simp only [y8a,List.mem_filter];exact ⟨h,by simpa using hnl⟩)
  simp only [m7b,List.mem_filter,List.mem_range,hi,true_and,Array.getElem?_eq_getElem,Bool.not_eq_true',Bool.or_eq_false_iff,not_and] at hm
  cases h1:q0b ops[i].op with
  | true=>exact .inl rfl
  | false=>exact .inr (by simpa using hm h1)
 have still : ∀ i,i<ops.size→i∉y8a ops loose→Hs (i+1)=Hs i:=by
  intro i hi hm
  by_cases hnl:i∈loose
  ·exact ((a i (Nat.zero_le _) hi).2.1 hnl).1
  obtain ⟨o,ho,hk⟩:=o4d i hi hnl hm
  obtain ⟨o',ho',hd1,⟨g1,b1,hg1,hy1,hb1,hv1,h⟩ | ⟨hw1,hc1,h | ⟨f,args,fn,ht,hrest⟩⟩⟩:=(a i (Nat.zero_le _) hi).1
  ·exact h
  ·rw [ho] at ho'
   cases ho'
   rcases hk with hk | hk
   ·exact (m2b hk h).1
   ·exact w9b hk h
  ·rw [ho] at ho'
   cases ho'
   exfalso
   obtain ⟨dst,op,type,pos,after,guard⟩:=o
   cases op<;>(try (simp [h0a] at ht;done))
   case call cl=>
   obtain ⟨callee,args,at_⟩:=cl
   cases callee<;>simp [h0a,q0b,p5b] at hk ht
 have T:x1c P orc fl sz ops (y8a ops loose) ρ v Hs:=by
  refine ⟨fun i hi=>(a i (Nat.zero_le _) hi).1,still,?_⟩
  intro i hi hm q hq q1 q2
  by_cases hnl:i∈loose
  ·refine ((a i (Nat.zero_le _) hi).2.1 hnl).2 _ (hinv q hq ?_)
   simp only [v5a,Bool.or_eq_true,decide_eq_true_eq,Bool.and_eq_true,List.contains_iff_mem,List.all_eq_true] at hfe
   rcases hfe with hF | ⟨hF,hord⟩
   ·omega
   ·exact q2 F hF (hord i hnl)
  obtain ⟨o,ho,hk⟩:=o4d i hi hnl hm
  have hst:=still i hi hm
  have hs:=(a i (Nat.zero_le _) hi).1
  rw [hst] at hs
  simp only [List.all_eq_true,List.mem_range,Bool.or_eq_true,List.contains_iff_mem] at hcl
  rcases hcl i hi with ((h | h) | h) | h
  ·exact absurd h hm
  ·obtain ⟨o',ho',hd,⟨g1,b1,hg1,hy1,hb1,hv,_⟩ | ⟨hw,hc,h' | ⟨f,args,fn,ht,hrest⟩⟩⟩:=hs
   ·exact ⟨o',ho',hd,.inl ⟨g1,b1,hg1,hy1,hb1,hv,rfl⟩⟩
   ·rw [ho] at ho'
    cases ho'
    simp only [k1d,ho] at h
    exact ⟨o,ho,hd,.inr ⟨hw,hc,.inl ((m2b h h').2 _)⟩⟩
   ·rw [ho] at ho'
    cases ho'
    exfalso
    obtain ⟨dst,op,type,pos,after,guard⟩:=o
    cases op<;>(try (simp [h0a] at ht;done))
    case call cl=>
    obtain ⟨callee,args,at_⟩:=cl
    cases callee<;>simp [h0a,q0b,p5b] at hk ht
  ·have e:Hs q=Hs i:=by
    have hp : ∀ m∈y8a ops loose,ordered ops ops.size m i=true∨ordered ops ops.size i m=true:=by
     intro m hm
     simp only [pinned,List.all_eq_true,Bool.or_eq_true] at h
     exact h m hm
    rcases Nat.le_total i q with hle | hle
    ·have key : ∀ d,i+d≤q→Hs (i+d)=Hs i:=by
      intro d
      induction d with
      | zero=>intro _;rfl
      | succ d ih=>
       intro hd
       rw [← ih (by omega),← Nat.add_assoc]
       refine still _ (by omega) fun hmm => ?_
       rcases hp _ hmm with ho | ho
       ·have:=r3a t4e _ _ _ ho;omega
       ·have:=q2 _ hmm ho;omega
     have:=key (q - i) (by omega)
     rwa [show i+(q - i)=q by omega] at this
    ·have key : ∀ d,q+d≤i→Hs (q+d)=Hs q:=by
      intro d
      induction d with
      | zero=>intro _;rfl
      | succ d ih=>
       intro hd
       rw [← ih (by omega),← Nat.add_assoc]
       refine still _ (by omega) fun hmm => ?_
       rcases hp _ hmm with ho | ho
       ·have:=q1 _ hmm ho;omega
       ·have:=r3a t4e _ _ _ ho;omega
     have:=key (i - q) (by omega)
     rw [show q+(i - q)=i by omega] at this
     exact this.symm
   rw [e]
   exact hs
  ·exact absurd h hnl
 have:=c9d hok T ht
 rw [b,c] at this
 exact this
theorem Tr.all {ρ H l ρ' H'} (hf:i0a ops loose=true) (hfe:v5a ops loose F=true) (h0:Inv H) (t:Tr P orc fl sz ops loose Inv F 0 ρ H l ρ' H') (n:Nat) :
  i8a P orc fl (.ops sz ops (Region.linearise .any ops n) ρ) H (.env ρ') H':=by
 have hok:=hf
 simp only [i0a,Bool.and_eq_true] at hok
 exact (t.allT hf hfe h0 (f8c hok.1 n)).big
variable {k:List K} {ρ:e1a} {H:Mem} {Q:h6a→e1a→Mem→Prop}
theorem x9a {i:Nat} {o:Oper} (ho:ops[i]?=some o):e6a ops i=o.dst:=by simp [e6a,ho]
theorem e7b : ∀ (d:Nat) {i:Nat} {ρ ρ':e1a} {H H':Mem},i+d=ops.size→i8a P orc fl (.ops sz ops (List.range' i d) ρ) H (.env ρ') H' → ∃ l,Tr P orc fl sz ops [] (fun _=>True) ops.size i ρ H l ρ' H'
 | 0,i,ρ,ρ',H,H',hd,hb=>by
  obtain rfl:i=ops.size:=by omega
  cases hb
  exact ⟨[],.nil⟩
 | d+1,i,ρ,ρ',H,H',hd,hb=>by
  rw [List.range'_succ] at hb
  cases hb with
  | z0a ho hg hy hw hd' h=>
   have e:=x9a ho
   rw [← e] at h
   obtain ⟨l,t⟩:=e7b d (by omega) h
   exact ⟨_,.cons ⟨_,ho,hd',.inl ⟨_,_,hg,hy,hw,rfl,rfl⟩⟩ (by simp) (fun _=>trivial) t⟩
  | w5b ho hw hd' hc hop h=>
   have e:=x9a ho
   rw [← e] at h
   obtain ⟨l,t⟩:=e7b d (by omega) h
   exact ⟨_,.cons ⟨_,ho,hd',.inr ⟨hw,hc,.inl hop⟩⟩ (by simp) (fun _=>trivial) t⟩
  | y9a ho hw hd' hc ht hf hn hbo hcall h=>
   have e:=x9a ho
   rw [← e] at h
   obtain ⟨l,t⟩:=e7b d (by omega) h
   exact ⟨_,.cons ⟨_,ho,hd',.inr ⟨hw,hc,.inr ⟨_,_,_,ht,hf,hn,hbo,hcall⟩⟩⟩ (by simp) (fun _=>trivial) t⟩
theorem Go.rgS {id:Nat} {l:List Oper} (hm:P.follows .mixedOrders=true) (hf:i0a l.toArray []=true) (h:GoR P orc fl sz l.toArray l k ρ H Q):Go P orc fl sz (.code (.region id l.toArray true)::k) .normal ρ H Q:=by
 obtain ⟨ρ',H',hb,h⟩:=h 0 (by simp)
 obtain ⟨tr,t⟩:=e7b _ (by simp) hb
 exact ⟨.normal,ρ',H',.n2b hm (fun n=>t.all hf (by simp [v5a]) trivial n),h⟩
def GoW (P:Program) (orc:c3a) (fl sz:Nat) (ops:Array Oper) (loose:List Nat) (Inv:Mem→Prop) (F:Nat) (i:Nat) (rest:List Oper) (k:List K) (ρ:e1a) (H:Mem) (Q:h6a→e1a→Mem→Prop):Prop:=
 ops.toList.drop i=rest → ∃ l ρ' H',Tr P orc fl sz ops loose Inv F i ρ H l ρ' H'∧Go P orc fl sz k .normal ρ' H' Q
theorem Go.rgD {id:Nat} {l:List Oper} (loose:List Nat) (Inv:Mem→Prop) (hm:P.follows .mixedOrders=true) (hf:i0a l.toArray loose=true) (F:Nat) (hfe:v5a l.toArray loose F=true) (hi:Inv H) (h:GoW P orc fl sz l.toArray loose Inv F 0 l k ρ H Q) :
  Go P orc fl sz (.code (.region id l.toArray true)::k) .normal ρ H Q:=by
 obtain ⟨tr,ρ',H',t,h⟩:=h (by simp)
 exact ⟨.normal,ρ',H',.n2b hm (fun n=>t.all hf hfe hi n),h⟩
theorem GoW.nil {i:Nat} (hi:(i==ops.size)=true) (h:Go P orc fl sz k .normal ρ H Q):GoW P orc fl sz ops loose Inv F i [] k ρ H Q:=fun _=>by
 obtain rfl:i=ops.size:=by simpa using hi
 exact ⟨[],ρ,H,.nil,h⟩
theorem GoW.op {i:Nat} {os:List Oper} {dst:Option Tmp} {op:Op} {ty:TypeId} {pos:String} {after:Array Edge} (hd:i9a sz dst) (hc:op.operands.toList.all b5a=true) (hl:loose.contains i=false)
  (h:p4a (opD P ρ op H) fun v H1=>(i<F→Inv H1)∧GoW P orc fl sz ops loose Inv F (i+1) os k (m3a ρ dst v) H1 Q):GoW P orc fl sz ops loose Inv F i (⟨dst,op,ty,pos,after,none⟩::os) k ρ H Q:=fun hi=>by
 obtain ⟨h1,h2⟩:=d6a hi
 cases hop:opD P ρ op H with
 | none=>rw [hop] at h;exact h.elim
 | some r=>
  obtain ⟨v,H1⟩:=r
  rw [hop] at h
  obtain ⟨l,ρ',H',t,q⟩:=h.2 h2
  have e:e6a ops i=dst:=by simp [e6a,h1]
  rw [← e] at t
  exact ⟨_,ρ',H',.cons ⟨_,h1,hd,.inr ⟨rfl,hc,.inl (.inl hop)⟩⟩ (fun hm=>by simp [hm] at hl) h.1 t,q⟩
theorem GoW.read {i:Nat} {os:List Oper} {dst:Option Tmp} {op:Op} {ty:TypeId} {pos:String} {after:Array Edge} {v:D} (hd:i9a sz dst) (hc:op.operands.toList.all b5a=true)
  (hi:Inv H) (hr : ∀ H',Inv H'→opD P ρ op H'=some (v,H')) (h:GoW P orc fl sz ops loose Inv F (i+1) os k (m3a ρ dst v) H Q):GoW P orc fl sz ops loose Inv F i (⟨dst,op,ty,pos,after,none⟩::os) k ρ H Q:=fun hi'=>by
 obtain ⟨h1,h2⟩:=d6a hi'
 obtain ⟨l,ρ',H',t,q⟩:=h h2
 have e:e6a ops i=dst:=by simp [e6a,h1]
 rw [← e] at t
 exact ⟨_,ρ',H',.cons ⟨_,h1,hd,.inr ⟨rfl,hc,.inl (.inl (hr _ hi))⟩⟩ (fun _=>⟨rfl,fun H' hH=>⟨_,h1,hd,.inr ⟨rfl,hc,.inl (.inl (hr _ hH))⟩⟩⟩) (fun _=>hi) t,q⟩
theorem GoW.opG {i:Nat} {os:List Oper} {dst:Option Tmp} {op:Op} {ty:TypeId} {pos:String} {after:Array Edge} {g:Nat×Bool} (hd:i9a sz dst) (hc:op.operands.toList.all b5a=true) (hl:loose.contains i=false)
  (hw:(e9a ops ρ g.1==some g.2)=true) (h:p4a (opD P ρ op H) fun v H1=>(i<F→Inv H1)∧GoW P orc fl sz ops loose Inv F (i+1) os k (m3a ρ dst v) H1 Q):GoW P orc fl sz ops loose Inv F i (⟨dst,op,ty,pos,after,some g⟩::os) k ρ H Q:=fun hi=>by
 obtain ⟨h1,h2⟩:=d6a hi
 cases hop:opD P ρ op H with
 | none=>rw [hop] at h;exact h.elim
 | some r=>
  obtain ⟨v,H1⟩:=r
  rw [hop] at h
  obtain ⟨l,ρ',H',t,q⟩:=h.2 h2
  have e:e6a ops i=dst:=by simp [e6a,h1]
  rw [← e] at t
  exact ⟨_,ρ',H',.cons ⟨_,h1,hd,.inr ⟨hw,hc,.inl (.inl hop)⟩⟩ (fun hm=>by simp [hm] at hl) h.1 t,q⟩
theorem GoW.h3f {i:Nat} {os:List Oper} {dst:Option Tmp} {op:Op} {ty:TypeId} {pos:String} {after:Array Edge} {v:D} {g:Nat×Bool} (hd:i9a sz dst) (hc:op.operands.toList.all b5a=true)
  (hw:(e9a ops ρ g.1==some g.2)=true) (hi:Inv H) (hr : ∀ H',Inv H'→opD P ρ op H'=some (v,H')) (h:GoW P orc fl sz ops loose Inv F (i+1) os k (m3a ρ dst v) H Q):GoW P orc fl sz ops loose Inv F i (⟨dst,op,ty,pos,after,some g⟩::os) k ρ H Q:=fun hi'=>by
 obtain ⟨h1,h2⟩:=d6a hi'
 obtain ⟨l,ρ',H',t,q⟩:=h h2
 have e:e6a ops i=dst:=by simp [e6a,h1]
 rw [← e] at t
 exact ⟨_,ρ',H',.cons ⟨_,h1,hd,.inr ⟨hw,hc,.inl (.inl (hr _ hi))⟩⟩ (fun _=>⟨rfl,fun H' hH=>⟨_,h1,hd,.inr ⟨hw,hc,.inl (.inl (hr _ hH))⟩⟩⟩) (fun _=>hi) t,q⟩
theorem GoW.a7e {i:Nat} {os:List Oper} {dst:Option Tmp} {op:Op} {ty:TypeId} {pos:String} {after:Array Edge} {g:Nat×Bool} {b:Option Bool} (hd:i9a sz dst)
  (hy:m6a ops ρ g.1=some b) (hw:(b==some g.2)=false) (hi:i<F→Inv H) (h:GoW P orc fl sz ops loose Inv F (i+1) os k (m3a ρ dst j1a) H Q):GoW P orc fl sz ops loose Inv F i (⟨dst,op,ty,pos,after,some g⟩::os) k ρ H Q:=fun hi'=>by
 obtain ⟨h1,h2⟩:=d6a hi'
 obtain ⟨l,ρ',H',t,q⟩:=h h2
 have e:e6a ops i=dst:=by simp [e6a,h1]
 rw [← e] at t
 exact ⟨_,ρ',H',.cons ⟨_,h1,hd,.inl ⟨_,_,rfl,hy,hw,rfl,rfl⟩⟩ (fun _=>⟨rfl,fun H' hH=>⟨_,h1,hd,.inl ⟨_,_,rfl,hy,hw,rfl,rfl⟩⟩⟩) hi t,q⟩
theorem GoW.call {i:Nat} {os:List Oper} {dst:Option Tmp} {c:Call} {ty:TypeId} {pos:String} {after:Array Edge} {f:FuncId} {args:List D} {fn:Func} (hd:i9a sz dst) (hc:(Op.call c).operands.toList.all b5a=true)
  (ht : h0a ρ (.call c) = some (f, args)) (hf : P.funcs[f]? = some fn) (hn : (fn.name == "runtime.NumGoroutine") = false) (hb : fn.body.isNone = false) (hl : loose.contains i = false)
  (h:a3a P orc f args H fun v H1=>(i<F→Inv H1)∧GoW P orc fl sz ops loose Inv F (i+1) os k (m3a ρ dst v) H1 Q):GoW P orc fl sz ops loose Inv F i (⟨dst,.call c,ty,pos,after,none⟩::os) k ρ H Q:=fun hi=>by
 obtain ⟨h1,h2⟩:=d6a hi
 obtain ⟨v,H1,hcall,hinv,h⟩:=h
 obtain ⟨l,ρ',H',t,q⟩:=h h2
 have e:e6a ops i=dst:=by simp [e6a,h1]
 rw [← e] at t
 exact ⟨_,ρ',H',.cons ⟨_,h1,hd,.inr ⟨rfl,hc,.inr ⟨_,_,_,ht,hf,by simpa using hn,hb,hcall⟩⟩⟩ (fun hm=>by simp [hm] at hl) hinv t,q⟩
def p4d (x:Option (D×Mem)) (S:Mem) (F:D→Prop):Prop:=
 match x with
 | some (.sl (some id) sz len cells,S1)=>id=S.length∧S1=S++[.own]∧(∀ c∈cells,p2a 0 c)∧F (.sl none sz len cells)
 | _=>False
theorem s3b {P:Program} {t n:Nat} {ps:List (Nat×D)} {S S':Mem} {sz len:Nat} {cells:List D} (h:f2a P t n ps S=some (.sl (some S.length) sz len cells,S++[.own])):f2a P t n ps S'=some (.sl (some S'.length) sz len cells,S'++[.own]):=by
 unfold f2a at h ⊢
 cases hu:P.underlying t with
 | none=>simp [hu] at h
 | some d=>
 cases d<;>simp only [hu,Option.bind_eq_bind,Option.bind_some,reduceCtorEq] at h ⊢
 rename_i e
 cases hs:f3a P e with
 | none=>simp [hs] at h
 | some size=>
 cases hz:i3a P e with
 | none=>simp [hs,hz] at h
 | some z=>
 simp only [hs,hz,Option.bind_some] at h ⊢
 split at h
 ·cases h
 ·rename_i hc
  rw [if_neg hc]
  cases hf:l8a (fun i=>some (i*size,size)) (k4b (z.cells.toList.map ofS) n) ps with
  | none=>simp [hf] at h
  | some cs=>
   simp only [hf,Option.bind_some] at h ⊢
   split at h
   ·rename_i h1
    rw [if_pos h1]
    simp only [Option.some.injEq,Prod.mk.injEq,D.sl.injEq] at h
    obtain ⟨⟨_,rfl,rfl,rfl⟩,_⟩:=h
    rfl
   ·cases h
theorem GoW.newL {i:Nat} {os:List Oper} {dst:Option Tmp} {t n:Nat} {ps:Array (Nat×Operand)} {ty:TypeId} {pos:String} {after:Array Edge} (hd:i9a sz dst) (hc:(Op.buildSlice t n ps).operands.toList.all b5a=true) (_hl:loose.contains i=true) (hi:Inv H)
  (h:p4d (opD P ρ (.buildSlice t n ps) H) H fun v=>GoW P orc fl sz ops loose Inv F (i+1) os k (m3a ρ dst v) H Q):GoW P orc fl sz ops loose Inv F i (⟨dst,.buildSlice t n ps,ty,pos,after,none⟩::os) k ρ H Q:=fun hi'=>by
 obtain ⟨h1,h2⟩:=d6a hi'
 unfold p4d at h
 split at h
 ·rename_i id sz' len cells S1 hop
  obtain ⟨rfl,rfl,hl,h⟩:=h
  obtain ⟨l,ρ',H',t',q⟩:=h h2
  have e:e6a ops i=dst:=by simp [e6a,h1]
  rw [← e] at t'
  have key : ∀ H':Mem,opM P ρ (.buildSlice t n ps) H' (.sl none sz' len cells) H':=fun H' =>
   .inr (.inr ⟨sz',len,cells,s3b hop,fun i h=>hl _ (List.getElem_mem h),rfl,rfl⟩)
  exact ⟨_,ρ',H',.cons ⟨_,h1,hd,.inr ⟨rfl,hc,.inl (key _)⟩⟩ (fun _=>⟨rfl,fun H' _=>⟨_,h1,hd,.inr ⟨rfl,hc,.inl (key _)⟩⟩⟩) (fun _=>hi) t',q⟩
 ·exact h.elim
end
end Go.DM
namespace Go.DM
open Go Go.AM
def i1f (ops:Array Oper) (ρ:e1a) (o:Oper):Option Bool:=
 match o.guard with
 | none=>some true
 | some g=>match m6a ops ρ g.1 with | some b=>some (b==some g.2) | none=>none
def run (P:Program):Nat→x9e→Mem→Option (n8e×Mem)
 | 0,_,_=>none
 | n+1,j,H=>
  match j with
  | .late .. => none
  | .o6b .. => none
  | .ops sz ops l ρ=>
   match l with
   | []=>some (.env ρ,H)
   | i::l=>
    match ops[i]? with
    | none=>none
    | some o=>
     match j8b sz o.dst with
     | false=>none
     | true=>
      match i1f ops ρ o with
      | none=>none
      | some false=>run P n (.ops sz ops l (m3a ρ o.dst j1a)) H
      | some true=>
       match o.op.operands.toList.all b5a with
       | false=>none
       | true=>
        match h0a ρ o.op with
        | some (f,args)=>
         match P.funcs[f]? with
         | none=>none
         | some fn=>
          match fn.name == "runtime.NumGoroutine" || fn.body.isNone with
          | true=>none
          | false=>
           match run P n (.call f args) H with
           | some (.val v,H1)=>run P n (.ops sz ops l (m3a ρ o.dst v)) H1
           | _=>none
        | none=>
         match opD P ρ o.op H with
         | some (v,H1)=>run P n (.ops sz ops l (m3a ρ o.dst v)) H1
         | none=>none
  | .code sz c ρ=>
   match c with
   | .skip=>some (.exit .normal ρ,H)
   | .label _=>some (.exit .normal ρ,H)
   | .exit id=>match id==PAN with | true=>none | false=>some (.exit (.exit id) ρ,H)
   | .ret=>some (.exit .ret ρ,H)
   | .seq c d=>
    match run P n (.code sz c ρ) H with
    | some (.exit .normal ρ1,H1)=>run P n (.code sz d ρ1) H1
    | some (.exit (.exit id) ρ1,H1)=>some (.exit (.exit id) ρ1,H1)
    | some (.exit .ret ρ1,H1)=>some (.exit .ret ρ1,H1)
    | _=>none
   | .cond c x y=>
    match b5a c,d1a ρ c with
    | true,.bool true=>run P n (.code sz x ρ) H
    | true,.bool false=>run P n (.code sz y ρ) H
    | _,_=>none
   | .block id c=>
    match id==PAN with
    | true=>none
    | false=>
    match run P n (.code sz c ρ) H with
    | some (.exit .normal ρ1,H1)=>some (.exit .normal ρ1,H1)
    | some (.exit (.exit id') ρ1,H1)=>match id'==id with | true=>some (.exit .normal ρ1,H1) | false=>some (.exit (.exit id') ρ1,H1)
    | some (.exit .ret ρ1,H1)=>some (.exit .ret ρ1,H1)
    | _=>none
   | .loop c=>
    match run P n (.code sz c ρ) H with
    | some (.exit .normal ρ1,H1)=>run P n (.code sz (.loop c) ρ1) H1
    | some (.exit (.exit id) ρ1,H1)=>some (.exit (.exit id) ρ1,H1)
    | some (.exit .ret ρ1,H1)=>some (.exit .ret ρ1,H1)
    | _=>none
   | .region _ ops d=>
    match d && !i0a ops [] with
    | true=>none
    | false=>
     match run P n (.ops sz ops (List.range' 0 ops.size) ρ) H with
     | some (.env ρ1,H1)=>some (.exit .normal ρ1,H1)
     | _=>none
   | _=>none
  | .call f args=>
   match P.funcs[f]? with
   | none=>none
   | some fn=>
    match fn.body with
    | none=>none
    | some c=>
     match decide (args.length≤fn.ntmps) with
     | false=>none
     | true=>
      match run P n (.code fn.ntmps c (r1a args)) H with
      | some (.exit (.exit _) _,_)=>none
      | some (.exit _ ρ,H')=>match g9a P fn ρ H' with | some v=>some (.val v,H') | none=>none
      | _=>none
end Go.DM
namespace Go.DM
open Go Go.AM
section
variable {P:Program} {orc:c3a} {fl sz:Nat} {k:List K} {ρ:e1a} {S:Mem} {Q:h6a→e1a→Mem→Prop}
theorem Wk.of_low {n:Nat} {d:D} (h:p2a n d):Wk n d d:=fun _ _ _ hr=>h.lower hr
theorem Wk.sl {n:Nat} {own:Option Nat} {sz len:Nat} {cells cells':List D} (hl:cells.length=cells'.length) (h : ∀ i (h:i<cells.length) (h':i<cells'.length),Wk n cells[i] cells'[i]):Wk n (.sl own sz len cells) (.sl none sz len cells'):=by
 intro r v hn hr
 cases hr with
 | sl _ _ _ _ vs h0 o m b hk hg hz hr hm hl' hs ho hc=>
  exact .sl (r:=⟨n,r.ψ,r.k,r.H⟩) none sz len cells' vs h0 o m b hk hg hz hr hm (by omega) (by omega) (fun id e=>by cases e) fun i h1 h2=>h i (by omega) h1 r _ hn (hc i (by omega) h2)
 | slE _ _ he=>
  have:cells'=[]:=List.eq_nil_of_length_eq_zero hl.symm
  subst this
  exact .slE _ _ he
theorem Wk.disown {n:Nat} {own:Option Nat} {sz len:Nat} {cells:List D} (h : ∀ i (h:i<cells.length),p2a n cells[i]):Wk n (.sl own sz len cells) (.sl none sz len cells):=
 .sl rfl fun i h1 _=>.of_low (h i h1)
theorem Wk.e1d {n sz:Nat} : Wk n .c5a (.sl none sz 0 []):=fun r v _ h=>by cases h;exact .slE _ _ (.inl rfl)
theorem Wk.h9f {n sz:Nat} : Wk n .sl0 (.sl none sz 0 []):=fun r v _ h=>by cases h with | sl0 _ h=>exact .slE _ _ h
theorem Wk.agg {n:Nat} {xs ys:List D} (hl:xs.length=ys.length) (h : ∀ i (h:i<xs.length) (h':i<ys.length),Wk n xs[i] ys[i]):Wk n (.agg xs) (.agg ys):=by
 intro r v hn hr
 cases hr with
 | agg _ zs h1 h2=>exact .agg (r:=⟨n,r.ψ,r.k,r.H⟩) ys zs (by omega) fun i a b=>h i (by omega) a r _ hn (h2 i (by omega) b)
theorem Wk.tup {n:Nat} {xs ys:List D} (hl:xs.length=ys.length) (h : ∀ i (h:i<xs.length) (h':i<ys.length),Wk n xs[i] ys[i]):Wk n (.tup xs) (.tup ys):=by
 intro r v hn hr
 cases hr with
 | tup _ zs h1 h2=>exact .tup (r:=⟨n,r.ψ,r.k,r.H⟩) ys zs (by omega) fun i a b=>h i (by omega) a r _ hn (h2 i (by omega) b)
theorem Wf.refl {d:D} : Wf d d:=fun _ _ h=>h
theorem Wf.bot {d:D} : Wf d .bot:=fun _ v _=>.bot v
theorem Wf.sl {own:Option Nat} {sz len:Nat} {cells cells':List D} (hl:cells.length=cells'.length) (h : ∀ i (h:i<cells.length) (h':i<cells'.length),Wf cells[i] cells'[i]):Wf (.sl own sz len cells) (.sl none sz len cells'):=by
 intro r v hr
 cases hr with
 | sl _ _ _ _ vs h0 o m b hk hg hz hr hm hl' hs ho hc=>
  exact .sl none sz len cells' vs h0 o m b hk hg hz hr hm (by omega) (by omega) (fun id e=>by cases e) fun i h1 h2=>h i (by omega) h1 r _ (hc i (by omega) h2)
 | slE _ _ he=>
  have:cells'=[]:=List.eq_nil_of_length_eq_zero hl.symm
  subst this
  exact .slE _ _ he
theorem Wf.disown {own:Option Nat} {sz len:Nat} {cells:List D} : Wf (.sl own sz len cells) (.sl none sz len cells):=.sl rfl fun _ _ _=>.refl
theorem Wf.e1d {sz:Nat} : Wf .c5a (.sl none sz 0 []):=fun r v h=>by cases h;exact .slE _ _ (.inl rfl)
theorem Wf.h9f {sz:Nat} : Wf .sl0 (.sl none sz 0 []):=fun r v h=>by cases h with | sl0 _ h=>exact .slE _ _ h
theorem Wf.agg {xs ys:List D} (hl:xs.length=ys.length) (h : ∀ i (h:i<xs.length) (h':i<ys.length),Wf xs[i] ys[i]):Wf (.agg xs) (.agg ys):=by
 intro r v hr
 cases hr with
 | agg _ zs h1 h2=>exact .agg ys zs (by omega) fun i a b=>h i (by omega) a r _ (h2 i (by omega) b)
theorem Wf.tup {xs ys:List D} (hl:xs.length=ys.length) (h : ∀ i (h:i<xs.length) (h':i<ys.length),Wf xs[i] ys[i]):Wf (.tup xs) (.tup ys):=by
 intro r v hr
 cases hr with
 | tup _ zs h1 h2=>exact .tup ys zs (by omega) fun i a b=>h i (by omega) a r _ (h2 i (by omega) b)
inductive WfL:List D→List D→Prop
 | nil:WfL [] []
 | cons {x y xs ys} (h:Wf x y) (hs:WfL xs ys):WfL (x::xs) (y::ys)
theorem WfL.length {xs ys} (h:WfL xs ys):xs.length=ys.length:=by
 induction h with
 | nil=>rfl
 | cons _ _ ih=>simp [ih]
theorem WfL.get {xs ys} (h:WfL xs ys) : ∀ i (h1:i<xs.length) (h2:i<ys.length),Wf xs[i] ys[i]:=by
 induction h with
 | nil=>intro i h;simp at h
 | cons h _ ih=>
  intro i h1 h2
  cases i with
  | zero=>exact h
  | succ i=>exact ih i (by simpa using h1) (by simpa using h2)
theorem WfL.refl : ∀ {xs:List D},WfL xs xs
 | []=>.nil
 | _::_=>.cons .refl WfL.refl
theorem WfL.append {xs ys xs' ys'} (h:WfL xs ys) (k:WfL xs' ys'):WfL (xs++xs') (ys++ys'):=by
 induction h with
 | nil=>exact k
 | cons h _ ih=>exact .cons h ih
theorem Wf.agg' {xs ys:List D} (h:WfL xs ys):Wf (.agg xs) (.agg ys):=.agg h.length h.get
theorem Wf.a2b {xs ys:List D} (h:WfL xs ys):Wf (.tup xs) (.tup ys):=.tup h.length h.get
theorem Wf.sl' {own:Option Nat} {sz len:Nat} {xs ys:List D} (h:WfL xs ys):Wf (.sl own sz len xs) (.sl none sz len ys):=.sl h.length h.get
theorem Wf.y9b {n:Nat} {d d':D} (h:Wf d d') (hl:p2a n d'):Wk n d d':=fun r v _ hr=>hl.lower (h r v hr)
def s6c:List (Nat×D)→e1a
 | [],_=>.bot
 | (i,d)::l,t=>if t=i then d else s6c l t
inductive WfE (ρ:e1a):List (Nat×D)→Prop
 | nil:WfE ρ []
 | cons {i d l} (h:Wf (ρ i) d) (hs:WfE ρ l):WfE ρ ((i,d)::l)
theorem WfE.all {ρ:e1a} {l:List (Nat×D)} (h:WfE ρ l) : ∀ t,Wf (ρ t) (s6c l t):=by
 induction h with
 | nil=>intro t;exact .bot
 | @cons i d l h _ ih=>
  intro t
  simp only [s6c]
  split
  ·rename_i e;subst e;exact h
  ·exact ih t
theorem Go.keep {c:Code} (l:List (Nat×D)) (hw:WfE ρ l) (h:Go P orc fl sz (.code c::k) .normal (s6c l) S Q):Go P orc fl sz (.code c::k) .normal ρ S Q:=by
 obtain ⟨e,ρ1,H1,hb,h⟩:=h
 exact ⟨e,ρ1,H1,.forget hw.all hb,h⟩
theorem a3a.weak {f:FuncId} {args args':List D} {R:D→Mem→Prop} (hw:WfL args args') (h:a3a P orc f args' S R):a3a P orc f args S R:=by
 obtain ⟨d,S1,hb,hr⟩:=h
 exact ⟨d,S1,.weak hb hw.length hw.get,hr⟩
theorem a3a.drop {f:FuncId} {args:List D} {R:D→Prop}
  (h:a3a P orc f args S fun d S1 => ∃ d' E,S1=S++E∧Wk S.length d d'∧R d'):a3a P orc f args S fun d S'=>S'=S∧R d:=by
 obtain ⟨d,S1,hb,d',E,rfl,hw,hr⟩:=h
 refine ⟨d',(S++E).take S.length,.drop hb (by simp) hw fun o cells ho hc=>.inl ?_,by simp,hr⟩
 unfold b6a at hc ⊢
 rwa [List.getElem?_append_left ho] at hc
theorem Wz.of_low {S1:Mem} {F:List Nat} {ι:Nat→Nat} {m n:Nat} (hι : ∀ i,i<m→ι i=i) (hm:m≤n) {d:D} (h:p2a m d):Wz S1 F ι n d d:=fun r v _ hr=>
 h.rename hm (fun i hi=>by show r.ψ (ι i)=_;rw [hι i hi]) (fun h hk=>by simp [hk]) hr
theorem Wz.msl {S1:Mem} {F:List Nat} {ι:Nat→Nat} {i n sz len:Nat} (hi:i<n):Wz S1 F ι n (.msl (ι i) sz len) (.msl i sz len):=fun r v _ hr=>by
 cases hr with
 | msl _ _ _ ho hlt hz=>exact .msl (r:=⟨n,fun i=>r.ψ (ι i),fun h=>r.k h || F.any (fun o=>r.ψ o==h),r.H⟩) i sz len hi hlt hz
theorem Wz.ptr {S1:Mem} {F:List Nat} {ι:Nat→Nat} {i n off:Nat} (hi:i<n):Wz S1 F ι n (.ptr (ι i) off) (.ptr i off):=fun r v _ hr=>by
 cases hr with
 | ptr _ _ ho=>exact .ptr (r:=⟨n,fun i=>r.ψ (ι i),fun h=>r.k h || F.any (fun o=>r.ψ o==h),r.H⟩) i off hi
def WzL (S1:Mem) (F:List Nat) (ι:Nat→Nat) (n:Nat) (xs ys:List D):Prop:=xs.length=ys.length ∧ ∀ j (h:j<xs.length) (h':j<ys.length),Wz S1 F ι n xs[j] ys[j]
theorem WzL.nil {S1 F ι n} : WzL S1 F ι n [] []:=⟨rfl,fun j h=>by simp at h⟩
theorem WzL.cons {S1 F ι n x y xs ys} (h:Wz S1 F ι n x y) (hs:WzL S1 F ι n xs ys):WzL S1 F ι n (x::xs) (y::ys):=
 ⟨by simp [hs.1],fun j h1 h2=>by cases j with | zero=>exact h | succ j=>exact hs.2 j (by simpa using h1) (by simpa using h2)⟩
theorem Wz.agg {S1 F ι n xs ys} (h:WzL S1 F ι n xs ys):Wz S1 F ι n (.agg xs) (.agg ys):=fun r v hS hr=>by
 cases hr with
 | agg _ zs h1 h2=>exact .agg (r:=⟨n,fun i=>r.ψ (ι i),fun h=>r.k h || F.any (fun o=>r.ψ o==h),r.H⟩) ys zs (h.1.symm.trans h1) fun i a b=>h.2 i (by rw [h.1];exact a) a r _ hS (h2 i _ b)
theorem Wz.tup {S1 F ι n xs ys} (h:WzL S1 F ι n xs ys):Wz S1 F ι n (.tup xs) (.tup ys):=fun r v hS hr=>by
 cases hr with
 | tup _ zs h1 h2=>exact .tup (r:=⟨n,fun i=>r.ψ (ι i),fun h=>r.k h || F.any (fun o=>r.ψ o==h),r.H⟩) ys zs (h.1.symm.trans h1) fun i a b=>h.2 i (by rw [h.1];exact a) a r _ hS (h2 i _ b)
theorem Wz.freeze {S1 F ι n} {o sz len:Nat} {cells cells':List D} (ho:o∈F) (hob:b6a S1 o=some cells) (hl:cells.length=len*sz) (h:WzL S1 F ι n cells cells'):Wz S1 F ι n (.msl o sz len) (.sl none sz len cells'):=fun r v hS hr=>by
 cases hr with
 | msl _ _ _ ho' hlt hz=>
  obtain ⟨b,g,w,l,kk,dl⟩:=hS.obj o cells hob
  refine .sl (r:=⟨n,fun i=>r.ψ (ι i),fun h=>r.k h || F.any (fun o=>r.ψ o==h),r.H⟩) none sz len cells' b.cells (r.ψ o) 0 len b ?_ g (hz b g) ?_ (Nat.le_refl _) (h.1.symm.trans dl.1) (h.1.symm.trans hl) (fun id e=>by cases e) fun i h1 h2=>h.2 i (by rw [h.1];exact h1) h1 r _ hS (dl.2 i _ h2)
  ·simp only [Bool.or_eq_true,List.any_eq_true,beq_iff_eq]
   exact .inr ⟨o,ho,rfl⟩
  ·have:=t1a (H:=r.H) (h:=r.ψ o) (o:=0) (n:=b.cells.length) g (by simp)
   rw [List.drop_zero,List.take_length] at this
   exact this
theorem a3a.keep {f:FuncId} {args:List D} {R:D→Mem→Prop}
  (h:a3a P orc f args S fun d S1 => ∃ (F:List Nat) (ι:Nat→Nat) (S2:Mem) (d':D),S.length≤S2.length∧(∀ i,i<S.length→ι i=i)∧(∀ i j,i<S2.length→j<S2.length→ι i=ι j→i=j)∧(∀ o∈F,∃ cells,b6a S1 o=some cells)∧(∀ i,i<S2.length→ι i∉F) ∧
   (∀ i cells,b6a S2 i=some cells→(i<S.length∧b6a S i=some cells∧b6a S1 i=some cells) ∨ ∃ c,b6a S1 (ι i)=some c∧WzL S1 F ι S2.length c cells) ∧
   (∀ i:Nat,S2[i]?=some .own→S1[ι i]?=some .own)∧Wz S1 F ι S2.length d d'∧R d' S2):a3a P orc f args S R:=by
 obtain ⟨d,S1,hb,F,ι,S2,d',h1,h2,h3,h4,h5,h6,h7,h8,hr⟩:=h
 exact ⟨d',S2,.keep F ι hb h1 h2 h3 h4 h5 (fun i cells hi=>(h6 i cells hi).imp id fun ⟨c,a,b⟩=>⟨c,a,b.1,b.2⟩) h7 h8,hr⟩
end
end Go.DM
namespace Go.DM
open Go Go.AM Go.RowKit
theorem a8e {r:Rl} (h:r.n=0):p6a r []:=
 ⟨by simpa using h,fun o cells h=>by simp [b6a] at h,fun id h=>by simp at h,fun i j _ ⟨x,hx,_⟩=>by simp at hx⟩
theorem r6c {P:Program} {A:Beside} (hA:Kept A) {orc:c3a} (ho:a8b P A orc) {f:FuncId} {ds:List D} {vs:List Value} {args':Array Value} {r:Rl} {φ:Nat→AM.Place} {W:World} (hn:r.n=0) (hs:o4e A φ r.H W)
  (hro : ∀ h b,hget r.H h=some b→b.rw=false) (hd:DL r ds vs) (hargs:j5a r.H.length φ vs args'.toList) (h:a3a P orc f ds [] fun d _=>d = .bool true) :
  Calls P f args' W fun e W'=>e = .returned (.bool true)∧Below W.heap.size W W':=by
 obtain ⟨d,S',hb,rfl⟩:=h
 refine hb.sound hA ho r φ W (a8e hn) hs vs args' hd hargs _ fun r' u v' φ' w' le sr hst du hv => ?_
 cases du
 cases hv
 exact ⟨rfl,hst.below hro⟩
end Go.DM
namespace Go.DM
open Go Go.AM Go.RowKit Go.ChangeShapes Go.WideShapes
section
variable (P:Program)
def m2d:List Field→Nat→Nat→Bool
 | [],o,n=>o==n
 | f::fs,o,n=>f.offset==o&&m2d fs (o+P.cellsOf f.type) n
def a9d (ts:List TypeId):Bool:=ts.all fun t=>
 match P.underlying t with
 | some .bool | some (.int _) | some .string=>P.cellsOf t==1
 | some (.slice e)=>P.cellsOf t==1&&ts.contains e&&decide (0<P.cellsOf e)
 | some (.struct fs)=>fs.toList.all (fun f=>ts.contains f.type)&&m2d P fs.toList 0 (P.cellsOf t)
 | _=>false
def WTs (f:TypeId→List D→Prop):List TypeId→List D→Prop
 | [],ds=>ds=[]
 | t::ts,ds => ∃ x y,ds=x++y∧x.length=P.cellsOf t∧f t x∧WTs f ts y
def WT:Nat→TypeId→List D→Prop
 | 0,_,_=>False
 | n+1,t,ds=>
  match P.underlying t with
  | some .bool => ∃ b,ds=[.bool b]
  | some (.int k) => ∃ x,ds=[.int k x]∧(Lit.int k x).wf=true
  | some .string => ∃ s:ByteArray,ds=[.str s]∧s.size≤maxLen
  | some (.slice e) => ∃ xss:List (List D),ds=[.sl none (P.cellsOf e) xss.length xss.flatten]∧xss.length≤maxLen ∧ ∀ x∈xss,x.length=P.cellsOf e∧WT n e x
  | some (.struct fs)=>WTs P (WT n) (fs.toList.map (·.type)) ds
  | _=>False
end
def rl (H:Heap):Rl:=⟨0,fun _=>0,fun _=>true,H⟩
structure Bs (w:World) (H:Heap) (φ:Nat→AM.Place):Prop where
 sim:Sim φ H w
 ro : ∀ h b,hget H h=some b→b.rw=false
def Grow (H:Heap) (φ:Nat→AM.Place) (H':Heap) (φ':Nat→AM.Place):Prop:=(∃ E,H'=H++E) ∧ ∀ i,i<H.length→φ' i=φ i
theorem Grow.refl {H φ} : Grow H φ H φ:=⟨⟨[],by simp⟩,fun _ _=>rfl⟩
theorem Grow.trans {H φ H1 φ1 H2 φ2} (a:Grow H φ H1 φ1) (b:Grow H1 φ1 H2 φ2):Grow H φ H2 φ2:=by
 obtain ⟨⟨E,rfl⟩,a2⟩:=a
 obtain ⟨⟨F,rfl⟩,b2⟩:=b
 exact ⟨⟨E++F,by simp⟩,fun i h=>(b2 i (by simp;omega)).trans (a2 i h)⟩
theorem Grow.len {H φ H' φ'} (a:Grow H φ H' φ'):H.length≤H'.length:=by
 obtain ⟨⟨E,rfl⟩,_⟩:=a
 simp
theorem Grow.le {H φ H' φ'} (a:Grow H φ H' φ'):(rl H).Le (rl H'):=by
 obtain ⟨⟨E,rfl⟩,_⟩:=a
 refine ⟨Nat.le_refl _,fun _ _=>rfl,by simp [rl],fun h b _ hg=>⟨rfl,b,?_,rfl,rfl⟩,fun h b hh hg=>⟨b,?_,rfl⟩⟩
 ·have:hget (rl H).H h=some b:=hg
  have hl:=e7a hg
  simp only [rl] at hg hl ⊢
  unfold hget at hg ⊢
  rwa [List.getElem?_append_left hl]
 ·simp only [rl] at hg hh ⊢
  unfold hget at hg ⊢
  rwa [List.getElem?_append_left hh] at hg
theorem Grow.n3e {H φ H' φ'} (a:Grow H φ H' φ') {vs cs} (h:j5a H.length φ vs cs):j5a H'.length φ' vs cs:=h.mono a.len a.2
section
variable {P:Program} {w:World}
def Opens (P:Program) (w:World) (n:Nat) (t:TypeId) (cs:List Value):Prop:=
 ∀ H φ,Bs w H φ → ∃ H' φ' xs vs,Bs w H' φ'∧Grow H φ H' φ'∧WT P n t xs∧xs.length=P.cellsOf t∧DL (rl H') xs vs∧j5a H'.length φ' vs cs
theorem c3c {α:Type} {n:Nat} (ty:TypeId) (f:α→List Value) : ∀ (l:List α),(∀ x∈l,Opens P w n ty (f x)) → ∀ H φ,Bs w H φ →
  ∃ (H':Heap) (φ':Nat→AM.Place) (xss:List (List D)) (vs:List Value),Bs w H' φ'∧Grow H φ H' φ'∧xss.length=l.length∧(∀ x∈xss,x.length=P.cellsOf ty∧WT P n ty x)∧DL (rl H') xss.flatten vs∧j5a H'.length φ' vs (l.flatMap f)
 | [],_,H,φ,hb=>⟨H,φ,[],[],hb,.refl,rfl,by simp,.nil,.nil⟩
 | x::l,hx,H,φ,hb=>by
  obtain ⟨H1,φ1,xs,vs,b1,g1,w1,l1,d1,r1⟩:=hx x (by simp) H φ hb
  obtain ⟨H2,φ2,xss,us,b2,g2,l2,w2,d2,r2⟩:=c3c ty f l (fun y hy=>hx y (by simp [hy])) H1 φ1 b1
  refine ⟨H2,φ2,xs::xss,vs++us,b2,g1.trans g2,by simp [l2],?_,?_,?_⟩
  ·intro y hy
   rcases List.mem_cons.1 hy with rfl | hy
   ·exact ⟨l1,w1⟩
   ·exact w2 y hy
  ·simp only [List.flatten_cons];exact (d1.mono g2.le).append d2
  ·simp only [List.flatMap_cons];exact (g2.n3e r1).append r2
theorem p2b {n:Nat} (f:Field→List Value) : ∀ (l:List Field),(∀ x∈l,Opens P w n x.type (f x)) → ∀ H φ,Bs w H φ →
  ∃ (H':Heap) (φ':Nat→AM.Place) (xs:List D) (vs:List Value),Bs w H' φ'∧Grow H φ H' φ'∧WTs P (WT P n) (l.map (·.type)) xs∧DL (rl H') xs vs∧j5a H'.length φ' vs (l.flatMap f)
 | [],_,H,φ,hb=>⟨H,φ,[],[],hb,.refl,rfl,.nil,.nil⟩
 | x::l,hx,H,φ,hb=>by
  obtain ⟨H1,φ1,xs,vs,b1,g1,w1,l1,d1,r1⟩:=hx x (by simp) H φ hb
  obtain ⟨H2,φ2,ys,us,b2,g2,w2,d2,r2⟩:=p2b f l (fun y hy=>hx y (by simp [hy])) H1 φ1 b1
  exact ⟨H2,φ2,xs++ys,vs++us,b2,g1.trans g2,⟨xs,ys,rfl,l1,w1,w2⟩,(d1.mono g2.le).append d2,by simp only [List.flatMap_cons];exact (g2.n3e r1).append r2⟩
theorem b9c {cs:List Value} : ∀ {fs:List Field} {o:Nat},m2d P fs o cs.length=true→cs.drop o=fs.flatMap fun f=>(cs.drop f.offset).take (P.cellsOf f.type)
 | [],o,h=>by simp [m2d] at h;subst h;simp
 | f::fs,o,h=>by
  simp only [m2d,Bool.and_eq_true,beq_iff_eq] at h
  obtain ⟨h1,h2⟩:=h
  simp only [List.flatMap_cons]
  rw [← b9c h2,h1,← List.drop_drop]
  exact (List.take_append_drop _ _).symm
theorem s8b {a:Addr} {k:Nat} {v:Value} (hsp:a.spot=none) (h:w.cell? (a.add k)=some v) : ∃ c e fr,w.heap[a.block]?=some (.cells c e fr)∧c[a.off+k]?=some v:=by
 obtain ⟨B,o,sp⟩:=a
 simp only at hsp
 subst hsp
 rw [Addr.add_lit] at h
 unfold World.cell? at h
 split at h
 ·rename_i c e fr hh
  exact ⟨c,e,fr,hh,by simpa using h⟩
 ·cases h
theorem Bs.push {H:Heap} {φ:Nat→AM.Place} (hb:Bs w H φ) {a:Addr} {vs cs:List Value} {sz cap:Nat} (hsp:a.spot=none) (hr:j5a H.length φ vs cs)
  (hc : ∀ k,k<cs.length→w.cell? (a.add k)=cs[k]?) (hcap : ∀ k,k<cap*sz → ∃ v,w.cell? (a.add k)=some v) (hle:cs.length≤cap*sz) (h0:0<cap*sz) :
  Bs w (H++[some ⟨vs,sz,false,0,[]⟩]) (fun i=>if i=H.length then ⟨a.block,a.off,a.off+cap*sz,sz⟩ else φ i):=by
 have hnew : ∀ {h b},hget (H++[some ⟨vs,sz,false,0,[]⟩]) h=some b→(h=H.length∧b=⟨vs,sz,false,0,[]⟩)∨(h<H.length∧hget H h=some b):=by
  intro h b hg
  unfold hget at hg ⊢
  rcases Nat.lt_or_ge h H.length with hl | hl
  ·rw [List.getElem?_append_left hl] at hg;exact .inr ⟨hl,hg⟩
  ·rw [List.getElem?_append_right hl] at hg
   rcases Nat.eq_or_lt_of_le hl with he | hl
   ·rw [← he] at hg;simp at hg;exact .inl ⟨he.symm,hg.symm⟩
   ·rw [List.getElem?_eq_none (by simp;omega)] at hg;cases hg
 have hro : ∀ h b,hget (H++[some ⟨vs,sz,false,0,[]⟩]) h=some b→b.rw=false:=by
  intro h b hg
  rcases hnew hg with ⟨_,rfl⟩ | ⟨_,hg⟩
  ·rfl
  ·exact hb.ro h b hg
 have keep : ∀ i,i<H.length→(fun i=>if i=H.length then (⟨a.block,a.off,a.off+cap*sz,sz⟩:AM.Place) else φ i) i=φ i:=fun i hi=>by simp [Nat.ne_of_lt hi]
 refine ⟨⟨?_,?_,?_,?_⟩,hro⟩
 ·intro h b hg
  rcases hnew hg with ⟨rfl,rfl⟩ | ⟨hl,hg⟩
  ·obtain ⟨v0,hv0⟩:=hcap 0 h0
   obtain ⟨c,e,fr,hh,_⟩:=s8b hsp hv0
   have hsz:a.off+cap*sz≤c.size:=by
    obtain ⟨v1,hv1⟩:=hcap (cap*sz - 1) (by omega)
    obtain ⟨c',e',fr',hh',h1⟩:=s8b hsp hv1
    rw [hh] at hh'
    cases hh'
    obtain ⟨h2,_⟩:=Array.getElem?_eq_some_iff.1 h1
    omega
   refine ⟨c,e,fr,by simpa using hh,?_,by simpa using hsz,by simp,?_,fun h=>(by cases h),by simp⟩
   ·simp only [if_true,hr.1];omega
   ·intro i v hv
    have hi:i<cs.length:=by rw [← hr.1];exact (List.getElem?_eq_some_iff.1 hv).1
    refine ⟨cs[i],?_,?_⟩
    ·have:=hc i hi
     rw [List.getElem?_eq_getElem hi] at this
     obtain ⟨c',e',fr',hh',h1⟩:=s8b hsp this
     rw [hh] at hh'
     cases hh'
     simpa using h1
    ·have:=hr.2 i v cs[i] hv (List.getElem?_eq_getElem hi)
     exact this.mono (by simp) keep
  ·obtain ⟨c,e,fr,h1,h2,h3,h4,h5,h6,h7⟩:=hb.sim.cov h b hg
   have hne:h≠H.length:=Nat.ne_of_lt hl
   refine ⟨c,e,fr,by simpa [hne] using h1,by simpa [hne] using h2,by simpa [hne] using h3,by simpa [hne] using h4,?_,by simpa [hne] using h6,h7⟩
   intro i v hv
   obtain ⟨v',e1,e2⟩:=h5 i v hv
   exact ⟨v',by simpa [hne] using e1,e2.mono (by simp) keep⟩
 ·intro h h' b b' _ hg _ hrw
  rw [hro h b hg] at hrw
  cases hrw
 ·intro h b p b' hg hp hg'
  exact hro p b' hg'
 ·intro h b p hg hp
  rcases hnew hg with ⟨_,rfl⟩ | ⟨_,hg⟩
  ·cases hp
  ·exact Nat.lt_of_lt_of_le (hb.sim.z2a h b p hg hp) (by simp)
theorem l5b {a:Addr} {c:Nat} : ∀ (len:Nat),(∀ i,i<len → ∃ cs,w.cells? 0 (a.add (i*c)) c=some cs) →
  ((List.range len).flatMap fun i=>(w.cells? 0 (a.add (i*c)) c).getD []).length=len*c ∧ ∀ k,k<len*c→w.cell? (a.add k)=((List.range len).flatMap fun i=>(w.cells? 0 (a.add (i*c)) c).getD [])[k]? ∧ ∃ v,w.cell? (a.add k)=some v
 | 0,_=>by simp
 | len+1,h=>by
  obtain ⟨h1,h2⟩:=l5b (a:=a) (c:=c) len fun i hi=>h i (by omega)
  obtain ⟨cs,hcs⟩:=h len (by omega)
  obtain ⟨_,hl,hk⟩:=World.cells?_some hcs
  rw [List.range_succ,List.flatMap_append]
  simp only [List.flatMap_cons,List.flatMap_nil,List.append_nil,hcs,Option.getD_some]
  refine ⟨by simp only [List.length_append,h1,hl];rw [Nat.add_mul];omega,fun k hk' => ?_⟩
  rw [Nat.add_mul] at hk'
  rcases Nat.lt_or_ge k (len*c) with hlt | hge
  ·rw [List.getElem?_append_left (by omega)]
   exact h2 k hlt
  ·rw [List.getElem?_append_right (by omega),h1]
   have:=hk (k - len*c) (by omega)
   rw [Addr.add_add,show len*c+(k - len*c)=k by omega] at this
   exact ⟨this,cs[k - len*c]'(by omega),by rw [this,List.getElem?_eq_getElem]⟩
theorem m8b {Ht:Type} {enc:TypeId×Value→Ht} {held:Bool} {ts:List TypeId} (hp:a9d P ts=true) : ∀ (fuel:Nat) (t:TypeId) (cs:List Value) (x:DataW Ht×List MemPlace),t∈ts →
  DataW.trod enc P w 0 (fun _=>true) held fuel t cs=some x→Opens P w fuel t cs∧cs.length=P.cellsOf t
 | 0,t,cs,x,_,h=>by simp [DataW.trod] at h
 | fuel+1,t,cs,x,ht,h=>by
  have hpt:=List.all_eq_true.1 hp t ht
  cases hu:P.underlying t with
  | none=>rw [hu] at hpt;cases hpt
  | some d=>
  rw [hu] at hpt
  cases d<;>(try (simp at hpt;done))
  case bool=>
   have hc:P.cellsOf t=1:=by simpa using hpt
   unfold DataW.trod at h
   rw [hu] at h
   split at h<;>simp_all
   rename_i b
   intro H φ hb
   exact ⟨H,φ,[.bool b],[.bool b],hb,.refl,by simp [WT,hu],by simp [hc],.cons (.bool b) .nil,.cons (.bool b) .nil⟩
  case int k=>
   have hc:P.cellsOf t=1:=by simpa using hpt
   obtain ⟨n,hcs,hx,hw⟩:=DataW.trod_int hu h
   subst hcs
   refine ⟨?_,by simp [hc]⟩
   intro H φ hb
   exact ⟨H,φ,[.int k n],[.int k n],hb,.refl,by simp [WT,hu,hw],by simp [hc],.cons (.int k n) .nil,.cons (.int k n) .nil⟩
  case string=>
   have hc:P.cellsOf t=1:=by simpa using hpt
   obtain ⟨s,hcs,hx,hw⟩:=DataW.trod_string hu h
   subst hcs
   refine ⟨?_,by simp [hc]⟩
   intro H φ hb
   exact ⟨H,φ,[.str s],[.string s],hb,.refl,by simp [WT,hu,hw],by simp [hc],.cons (.str s) .nil,.cons (.string s) .nil⟩
  case slice e=>
   simp only [Bool.and_eq_true,beq_iff_eq,List.contains_iff_mem,decide_eq_true_eq] at hpt
   obtain ⟨⟨hc,he⟩,hpos⟩:=hpt
   rcases DataW.trod_slice hu h with ⟨rfl,_⟩ | ⟨a,len,cap,elems,rest,n,hn,rfl,_,_,hlc,hcm,hel,n0f,hsp,_⟩
   ·refine ⟨?_,by simp [hc]⟩
    intro H φ hb
    exact ⟨H,φ,[.sl none (P.cellsOf e) 0 []],[.slice none 0 0],hb,.refl,by simp only [WT,hu];exact ⟨[],rfl,Nat.zero_le _,by simp⟩,by simp [hc],.cons (.slE _ _ (.inl rfl)) .nil,.cons (.a8c _ _) .nil⟩
   ·refine ⟨?_,by simp [hc]⟩
    intro H φ hb
    cases hn
    obtain ⟨hrl,hrest⟩:=hsp rfl
    have hall : ∀ i,i<cap → ∃ cs x,w.cells? 0 (a.add (i*P.cellsOf e)) (P.cellsOf e)=some cs∧DataW.trod enc P w 0 (fun _=>true) held fuel e cs=some x:=by
     intro i hi
     rcases Nat.lt_or_ge i len with hlt | hge
     ·have:=n0f i hlt
      rw [List.getElem?_eq_getElem (by omega)] at this
      obtain ⟨cs,h1,h2⟩:=Option.bind_eq_some_iff.1 this
      exact ⟨cs,_,h1,h2⟩
     ·have:=hrest (i - len) (by omega)
      rw [List.getElem?_eq_getElem (by omega),show len+(i - len)=i by omega] at this
      obtain ⟨cs,h1,h2⟩:=Option.bind_eq_some_iff.1 this
      exact ⟨cs,_,h1,h2⟩
    by_cases hc0:cap=0
    ·subst hc0
     have hl0:len=0:=by omega
     subst hl0
     exact ⟨H,φ,[.sl none (P.cellsOf e) 0 []],[.slice (some v0b) 0 0],hb,.refl,by simp only [WT,hu];exact ⟨[],rfl,Nat.zero_le _,by simp⟩,by simp [hc],.cons (.slE _ _ (.inr rfl)) .nil,.cons (.q5a _) .nil⟩
    ·have e6f:a.spot=none:=by
      obtain ⟨cs,x,h1,_⟩:=hall 0 (by omega)
      obtain ⟨_,hl,hk⟩:=World.cells?_some h1
      have:=hk 0 hpos
      rw [List.getElem?_eq_getElem (by omega)] at this
      simp only [Nat.zero_mul,Addr.add_zero'] at this
      unfold World.cell? at this
      split at this
      ·split at this
       ·cases this
       ·rename_i hs;simpa using hs
      ·cases this
     obtain ⟨H1,φ1,xss,vs,b1,g1,l1,w1,d1,r1⟩:=c3c (P:=P) (w:=w) (n:=fuel) e (fun i=>(w.cells? 0 (a.add (i*P.cellsOf e)) (P.cellsOf e)).getD []) (List.range len) (fun i hi=>by
      obtain ⟨cs,x,h1,h2⟩:=hall i (by have:=List.mem_range.1 hi;omega)
      simp only [h1,Option.getD_some]
      exact (m8b hp fuel e cs x he h2).1) H φ hb
     obtain ⟨f1,f2⟩:=l5b (w:=w) (a:=a) (c:=P.cellsOf e) len fun i hi=>by obtain ⟨cs,_,h1,_⟩:=hall i (by omega);exact ⟨cs,h1⟩
     obtain ⟨_,f4⟩:=l5b (w:=w) (a:=a) (c:=P.cellsOf e) cap fun i hi=>by obtain ⟨cs,_,h1,_⟩:=hall i hi;exact ⟨cs,h1⟩
     have hlen:xss.length=len:=by simpa using l1
     have hcp:0<cap*P.cellsOf e:=Nat.mul_pos (by omega) hpos
     have hpush:=b1.push (sz:=P.cellsOf e) (cap:=cap) e6f r1 (fun k hk=>(f2 k (by rw [f1] at hk;exact hk)).1) (fun k hk=>(f4 k hk).2) (by rw [f1];exact Nat.mul_le_mul_right _ hlc) hcp
     have g2:Grow H1 φ1 (H1++[some ⟨vs,P.cellsOf e,false,0,[]⟩]) (fun i=>if i=H1.length then ⟨a.block,a.off,a.off+cap*P.cellsOf e,P.cellsOf e⟩ else φ1 i):=
      ⟨⟨_,rfl⟩,fun i hi=>by simp [Nat.ne_of_lt hi]⟩
     have hg:hget (H1++[some ⟨vs,P.cellsOf e,false,0,[]⟩]) H1.length=some ⟨vs,P.cellsOf e,false,0,[]⟩:=by simp [hget]
     have hdl:=d1.mono g2.le
     have hvl:vs.length=len*P.cellsOf e:=by rw [r1.1,f1]
     refine ⟨_,_,[.sl none (P.cellsOf e) xss.length xss.flatten],[.slice (some ⟨H1.length,0,none⟩) len len],hpush,g1.trans g2,?_,by simp [hc],.cons ?_ .nil,.cons ?_ .nil⟩
     ·simp only [WT,hu]
      exact ⟨xss,rfl,by omega,w1⟩
     ·rw [hlen]
      refine .sl none _ len _ vs H1.length 0 len _ rfl hg rfl ?_ (Nat.le_refl _) hdl.1 (by rw [hdl.1,hvl]) (fun id h=>by cases h) hdl.2
      have:=t1a (H:=H1++[some ⟨vs,P.cellsOf e,false,0,[]⟩]) (h:=H1.length) (o:=0) (n:=vs.length) hg (by simp)
      rw [List.drop_zero,List.take_length] at this
      exact this
     ·have hv:=h3a.sl (n:=(H1++[some (⟨vs,P.cellsOf e,false,0,[]⟩:Blk)]).length) (φ:=fun i=>if i=H1.length then ⟨a.block,a.off,a.off+cap*P.cellsOf e,P.cellsOf e⟩ else φ1 i) H1.length 0 len len cap (by simp) (Nat.le_refl _) hlc (by simp)
      obtain ⟨B,o,sp⟩:=a
      simp only at e6f
      subst e6f
      simpa using hv
  case struct fs=>
   simp only [Bool.and_eq_true,List.all_eq_true,List.contains_iff_mem] at hpt
   obtain ⟨hf,hl⟩:=hpt
   obtain ⟨xs,n,hn,_,hlen,_,hfs⟩:=DataW.trod_struct hu h
   cases hn
   refine ⟨?_,hlen⟩
   intro H φ hb
   rw [← hlen] at hl
   have hcs:=b9c hl
   rw [List.drop_zero] at hcs
   have hop : ∀ f∈fs.toList,Opens P w fuel f.type ((cs.drop f.offset).take (P.cellsOf f.type)):=by
    intro f hfm
    obtain ⟨i,hi,rfl⟩:=List.mem_iff_getElem.1 hfm
    have hi':i<fs.size:=by simpa using hi
    have:=hfs i fs[i] (by simp [hi'])
    have hxs:i<xs.length:=by rename_i h6;omega
    rw [List.getElem?_eq_getElem hxs] at this
    exact (m8b hp fuel _ _ _ (hf _ hfm) (by simpa using this)).1
   obtain ⟨H1,φ1,ys,vs,b1,g1,w1,d1,r1⟩:=p2b (fun f=>(cs.drop f.offset).take (P.cellsOf f.type)) fs.toList hop H φ hb
   rw [← hcs] at r1
   refine ⟨H1,φ1,ys,vs,b1,g1,by simp only [WT,hu];exact w1,by rw [d1.1,r1.1,hlen],d1,r1⟩
def o9e (P:Program) (t:TypeId) (xs:List D):D:=match g8a P t with | some true=>.agg xs | _=>xs.headD .bot
def WTA (P:Program):List TypeId→List (List D)→Prop
 | [],[]=>True
 | t::ts,x::xs=>(∃ n,WT P n t x)∧WTA P ts xs
 | _,_=>False
theorem c2c {Ht:Type} {enc:TypeId×Value→Ht} {held:Bool} {ts:List TypeId} (hp:a9d P ts=true) : ∀ (tys:List TypeId) (args:List Value) (ds:List (DataW Ht)) (p:List MemPlace),(∀ t∈tys,t∈ts) →
  (∀ (j:Nat) t v,tys[j]?=some t→args[j]?=some v→((∃ cs,v = .agg cs)↔g8a P t=some true)) →
  DataW.TrodAll enc P w 0 (fun _=>true) held tys args ds p → ∀ H φ,Bs w H φ →
  ∃ H' φ' xss vs,Bs w H' φ'∧Grow H φ H' φ'∧WTA P tys xss∧DL (rl H') (List.zipWith (o9e P) tys xss) vs∧j5a H'.length φ' vs args
 | [],args,ds,p,_,_,h,H,φ,hb=>by
  obtain ⟨rfl,rfl,rfl⟩:=trodAll_nil h
  exact ⟨H,φ,[],[],hb,.refl,trivial,.nil,.nil⟩
 | t::tys,args,ds,p,ht,hv,h,H,φ,hb=>by
  obtain ⟨v,vs',d,ds',p,q,rfl,rfl,rfl,h1,h2⟩:=trodAll_cons h
  obtain ⟨fuel,h1⟩:=h1
  obtain ⟨ho,hcl⟩:=m8b hp fuel t _ _ (ht t (by simp)) h1
  obtain ⟨H1,φ1,xs,us,b1,g1,w1,l1,d1,r1⟩:=ho H φ hb
  obtain ⟨H2,φ2,xss,us2,b2,g2,w2,d2,r2⟩:=c2c hp tys vs' ds' q (fun t h=>ht t (by simp [h])) (fun j t v a b=>hv (j+1) t v (by simpa using a) (by simpa using b)) h2 H1 φ1 b1
  have hone:=hv 0 t v rfl rfl
  have hd1:=d1.mono g2.le
  have hr1:=g2.n3e r1
  by_cases hag:g8a P t=some true
  ·obtain ⟨cs,rfl⟩:=hone.2 hag
   refine ⟨H2,φ2,xs::xss,.agg us.toArray::us2,b2,g1.trans g2,⟨⟨_,w1⟩,w2⟩,?_,?_⟩
   ·simp only [List.zipWith_cons_cons,o9e,hag]
    exact .cons (.agg _ _ (by simpa using hd1.1) fun i a b=>by simp only [List.getElem_toArray];exact hd1.2 i a (by simpa using b)) d2
   ·refine .cons ?_ r2
    have:=h3a.h3d hr1
    simpa [Value.cells] using this
  ·have hna : ¬ ∃ cs,v = .agg cs:=fun h=>hag (hone.1 h)
   have hcells:v.cells.toList=[v]:=by
    cases v<;>first | rfl | (exact absurd ⟨_,rfl⟩ hna)
   rw [hcells] at hr1
   have hl:us.length=1:=hr1.1
   obtain ⟨u,rfl⟩ : ∃ u,us=[u]:=by match us,hl with | [u],_=>exact ⟨u,rfl⟩
   have hxl:xs.length=1:=hd1.1
   obtain ⟨x,rfl⟩ : ∃ x,xs=[x]:=by match xs,hxl with | [x],_=>exact ⟨x,rfl⟩
   refine ⟨H2,φ2,[x]::xss,u::us2,b2,g1.trans g2,⟨⟨_,w1⟩,w2⟩,?_,.cons hr1.head r2⟩
   have:o9e P t [x]=x:=by
    unfold o9e
    split
    ·rename_i h;exact absurd h hag
    ·rfl
   simp only [List.zipWith_cons_cons,this]
   exact .cons hd1.head d2
theorem b9e {ts:List TypeId} (hp:a9d P ts=true) {r:Reach} {b0:Nat} {t:TypeId} {v:Value} (ht:t∈ts) (h:Value.okWide P w r b0 t v):(∃ cs,v = .agg cs)↔g8a P t=some true:=by
 have hpt:=List.all_eq_true.1 hp t ht
 cases hu:P.underlying t with
 | none=>rw [hu] at hpt;cases hpt
 | some d=>
 rw [hu] at hpt
 cases d<;>(try (simp at hpt;done))
 case bool=>obtain ⟨_,rfl⟩:=okWide_bool hu h;simp [g8a,hu]
 case int=>obtain ⟨_,rfl⟩:=okWide_int hu h;simp [g8a,hu]
 case string=>obtain ⟨_,rfl⟩:=okWide_string hu h;simp [g8a,hu]
 case slice=>obtain ⟨_,_,_,rfl⟩:=okWide_slice hu h;simp [g8a,hu]
 case struct=>obtain ⟨cs,rfl,_⟩:=okWide_struct hu h;simp [g8a,hu]
theorem law_true {Ht:Type} {enc:TypeId×Value→Ht} {A:Beside} (hA:Kept A) {orc:c3a} (ho:a8b P A orc) (h0 : ∀ φ H,Bs w H φ→A φ H w) {f:FuncId} {tys ts:List TypeId} {args:Array Value} {ds:List (DataW Ht)} {p:List MemPlace} (hp:a9d P ts=true) (ht : ∀ t∈tys,t∈ts)
  {r:Reach} {b0:Nat} (hv : ∀ (j:Nat) t v,tys[j]?=some t→args.toList[j]?=some v→Value.okWide P w r b0 t v)
  (h:DataW.TrodAll enc P w 0 (fun _=>true) true tys args.toList ds p) (hc : ∀ xss,WTA P tys xss→a3a P orc f (List.zipWith (o9e P) tys xss) [] fun d _=>d = .bool true) :
  Calls P f args w fun e W'=>e = .returned (.bool true)∧Below w.heap.size w W':=by
 have hb0:Bs w [] (fun _=>⟨0,0,0,0⟩):=⟨r8d,fun h b hg=>by simp [hget] at hg⟩
 obtain ⟨H1,φ1,xss,vs,b1,g1,w1,d1,r1⟩:=c2c hp tys args.toList ds p ht (fun j t v a b=>b9e hp (ht t (List.mem_of_getElem? a)) (hv j t v a b)) h [] _ hb0
 exact r6c (r:=rl H1) hA ho rfl ⟨b1.sim,h0 _ _ b1⟩ b1.ro d1 r1 (hc xss w1)
end
end Go.DM
namespace Go.DM
open Go Go.AM
theorem back_eq {r:Rl} : ∀ {us vs:List Value},us.map (fun v=>toV (ofV v))=us.map some→DL r (us.map ofV) vs→vs=us
 | [],[],_,_=>rfl
 | [],_::_,_,h=>by simp [DL] at h
 | _::_,[],_,h=>by simp [DL] at h
 | u::us,v::vs,hb,h=>by
  simp only [List.map_cons,List.cons.injEq] at hb
  have h0:h2a r (ofV u) v:=h.head
  rw [p6c h0 hb.1,back_eq hb.2 h.tail]
end Go.DM
namespace Go.DM
open Go Go.AM
section
variable {P:Program} {orc:c3a} {fl sz:Nat} {k:List K} {ρ:e1a} {S:Mem} {Q:h6a→e1a→Mem→Prop}
theorem Go.lpN {c:Code} (h:Go P orc fl sz (.code (.loop c)::k) .normal ρ S Q):Go P orc fl sz (.lp c::k) .normal ρ S Q:=h
theorem Go.while {c:Code} {α:Type} (m:α→Nat) (e:α→List (Nat×D)) (S:α→Mem) (Inv:α→Prop)
  (h : ∀ a,Inv a→(∀ a',m a'<m a→Inv a'→Go P orc fl sz (.code (.loop c)::k) .normal (s6c (e a')) (S a') Q)→Go P orc fl sz (.code c :: .lp c::k) .normal (s6c (e a)) (S a) Q) :
  ∀ a,Inv a→Go P orc fl sz (.code (.loop c)::k) .normal (s6c (e a)) (S a) Q:=by
 intro a ha
 generalize hn:m a=n
 induction n using Nat.strongRecOn generalizing a with
 | ind n ih=>
  refine Go.loop (h a ha fun a' hlt ha' => ?_)
  exact ih (m a') (hn▸hlt) a' ha' rfl
theorem i4e {i:Nat} {d:D} {l:List (Nat×D)} : s6c ((i,d)::l) i=d:=by simp [s6c]
theorem i5e {i t:Nat} {d:D} {l:List (Nat×D)} (h:(t==i)=false):s6c ((i,d)::l) t=s6c l t:=by simp at h;simp [s6c,h]
theorem a7a {S E:Mem} {n:Nat} : b6a (S++E) (S.length+n)=b6a E n:=by simp [b6a,List.getElem?_append_right]
theorem a6a {S E:Mem} : b6a (S++E) S.length=b6a E 0:=a7a (n:=0)
theorem a4a {x:Ob} {E:Mem} : b6a (x::E) 0=match x with | .obj c=>some c | _=>none:=by cases x<;>rfl
theorem a5a {x:Ob} {E:Mem} {n:Nat} : b6a (x::E) (n+1)=b6a E n:=by simp [b6a]
theorem h9c {S E:Mem} {n:Nat} {x:Ob} : (S++E).set (S.length+n) x=S++E.set n x:=by simp
theorem b4d {S E:Mem} {x:Ob} : (S++E).set S.length x=S++E.set 0 x:=by simp
theorem w4a {S E:Mem} {o:Nat} {c:List D} (h:b6a S o=some c):b6a (S++E) o=some c:=by
 have:=(List.getElem?_eq_some_iff.1 (f7a h)).1
 unfold b6a at h ⊢
 rwa [List.getElem?_append_left this]
theorem z4d {S:Mem} {o:Nat} {c:List D} (h:b6a S o=some c):o<S.length:=(List.getElem?_eq_some_iff.1 (f7a h)).1
theorem f0b {t n:Nat} (ha:g8a P t=some true) (hs:f3a P t=some n) {x:D} : l5a P t x S=(e5a x S).bind fun p=>if p.2+n≤p.1.length then some (.agg ((p.1.drop p.2).take n)) else none:=by
 unfold l5a
 rw [ha,hs]
 cases e5a x S with
 | none=>rfl
 | some p=>rfl
theorem u2a {t:Nat} (ha:g8a P t=some false) {x:D} : l5a P t x S=(e5a x S).bind fun p=>p.1[p.2]?:=by
 unfold l5a
 rw [ha]
 cases e5a x S with
 | none=>rfl
 | some p=>rfl
theorem h9a {t n:Nat} (hs:f3a P t=some n) {o off:Nat} {v:D} {vs:List D} (hv:cellsD v=some vs) (hl:vs.length=n) (ho:vs.all D.one=true) :
  j0a P t (.ptr o off) v S=(b6a S o).bind fun cells=>if off+n≤cells.length then some (S.set o (.obj (wr cells off vs))) else none:=by
 unfold j0a
 rw [hs,hv]
 simp only
 cases b6a S o with
 | none=>rfl
 | some cells=>
  simp only [Option.bind_some,hl,ho,and_true,true_and]
theorem h7a {t:Nat} {z:Value} (hz:i3a P t=some z) (hs:z.cells.all b3a=true):opD P ρ (.alloc t) S=some (.ptr S.length 0,S++[.obj (z.cells.toList.map ofS)]):=by
 simp [opD,hz,hs]
theorem t7c {t e n:Nat} (hu:P.underlying t=some (.slice e)) (hs:f3a P e=some n) {own:Option Nat} {len:Nat} {cells:List D} {k:IntKind} {i:Int} :
  m5a P t (.sl own n len cells) (.int k i)=if 0≤i∧i<len then some (.h5a cells (i.toNat*n)) else none:=by
 simp only [m5a,hu,hs,and_true]
theorem i4a {k:IntKind} {n:Nat} : n4c (.int k (n:Int))=some n:=by simp [n4c]
theorem k7e {k:IntKind} {i:Int} (h:0≤i):n4c (.int k i)=some i.toNat:=by simp [n4c,h]
theorem o0c:d8a none=some none:=rfl
theorem e8a {d:D} : d8a (some d)=(n4c d).map some:=rfl
def u0d (own:Option Nat) (n len:Nat) (cells:List D) (l h:Nat) (m:Option Nat):Option D:=
 if l≤h∧h≤m.getD len∧m.getD len≤len then
  if m.isSome=true∧m.getD len=l then some .sl0 else some (.sl (if h=len then own else none) n (h - l) ((cells.drop (l*n)).take ((h - l)*n)))
 else none
theorem t6b {t e n:Nat} (hu:P.underlying t=some (.slice e)) (hs:f3a P e=some n) {own:Option Nat} {len:Nat} {cells:List D} {lo hi mx:Option D} :
  l0a P t (.sl own n len cells) lo hi mx=(d8a lo).bind fun l=>(d8a hi).bind fun h=>(d8a mx).bind fun m=>if m.isSome=true∧h.isNone=true then none else u0d own n len cells (l.getD 0) (h.getD len) m:=by
 unfold l0a
 rw [hu]
 cases d8a lo<;>cases d8a hi<;>cases d8a mx<;>simp [hs,u0d]
 rename_i l h m
 by_cases hc:m.isSome=true∧h=none
 ·simp [hc]
 ·simp [hc]
theorem h5e {t:Nat} (hu:P.underlying t=some .string) {s:ByteArray} {lo hi:Option D} :
  l0a P t (.str s) lo hi none=(d8a lo).bind fun l=>(d8a hi).bind fun h=>if l.getD 0≤h.getD s.size∧h.getD s.size≤s.size then some (.str (s.extract (l.getD 0) (h.getD s.size))) else none:=by
 unfold l0a
 rw [hu]
 cases d8a lo<;>cases d8a hi<;>simp [d8a]
theorem k1e {at_:Array TypeId} {t:Nat} (h:at_[0]?=some t) (hu:P.underlying t=some .string) {s:ByteArray} : b8a P .len at_ [.str s] S=some (.int .i64 s.size,S):=by simp [b8a,h,hu]
theorem v4b {at_:Array TypeId} {t e:Nat} (h:at_[0]?=some t) (hu:P.underlying t=some (.slice e)) {own:Option Nat} {n len:Nat} {cells:List D} : b8a P .len at_ [.sl own n len cells] S=some (.int .i64 len,S):=by simp [b8a,h,hu]
theorem len_nil {at_:Array TypeId} {t e:Nat} (h:at_[0]?=some t) (hu:P.underlying t=some (.slice e)):b8a P .len at_ [.c5a] S=some (.int .i64 0,S):=by simp [b8a,h,hu]
theorem g3b {at_:Array TypeId} {t e:Nat} (h:at_[0]?=some t) (hu:P.underlying t=some (.slice e)):b8a P .len at_ [.slx] S=some (.int .i64 0,S):=by simp [b8a,h,hu]
theorem y6a {at_:Array TypeId} {t e:Nat} (h:at_[0]?=some t) (hu:P.underlying t=some (.slice e)):b8a P .len at_ [.sl0] S=some (.int .i64 0,S):=by simp [b8a,h,hu]
def indexStr (x i:D) (S:Mem):Option (D×Mem):=match x,i with | .str s,.int _ i=>if 0≤i then (s.data[i.toNat]?).map fun b=>(.int .u8 b.toNat,S) else none | _,_=>none
theorem u2e {t:Nat} (hu:P.underlying t=some .string) {x i:Operand} : opD P ρ (.index t x i) S=indexStr (d1a ρ x) (d1a ρ i) S:=by
 simp only [opD,hu,indexStr]
 cases d1a ρ x<;>cases d1a ρ i<;>rfl
theorem f4a {s:ByteArray} {n:Nat} {k:IntKind} (h:n<s.size):indexStr (.str s) (.int k (n:Int)) S=some (.int .u8 (s.data[n]'h).toNat,S):=by
 have:n<s.data.size:=h
 simp only [indexStr,Int.natCast_nonneg,if_true,Int.toNat_natCast,Array.getElem?_eq_getElem this,Option.map_some]
def p7a (bytes n:Nat) (new:List D):Prop:=n*bytes≤2 ^ 47∧n<2 ^ 62∧0<bytes∧new.all D.one=true
instance {b n:Nat} {new:List D} : Decidable (p7a b n new):=by unfold p7a;infer_instance
structure l2b (P:Program) (t e n bytes:Nat):Prop where
 u:P.underlying t=some (.slice e)
 info : ∃ i z,P.info? e=some i∧i.size=n∧i.bytes=bytes∧i.zero=some z∧z.cells.size=n
theorem b0b {t e n bytes:Nat} (h:l2b P t e n bytes) {own:Option Nat} {m:Nat} {new:List D} :
  b4a P #[t,t] .c5a (.sl own n m new) S=if m=0 then some (.c5a,S) else if p7a bytes m new then some (.sl (some S.length) n m new,S++[.own]) else none:=by
 obtain ⟨hu,i,z,hi,rfl,rfl,hz,hs⟩:=h
 simp [b4a,hu,hi,hz,hs,o4a,u5d,p7a]
theorem o2b {t e n bytes:Nat} (h:l2b P t e n bytes) {own:Option Nat} {m:Nat} {new:List D} :
  b4a P #[t,t] .sl0 (.sl own n m new) S=if m=0 then some (.sl0,S) else if p7a bytes m new then some (.sl (some S.length) n m new,S++[.own]) else none:=by
 obtain ⟨hu,i,z,hi,rfl,rfl,hz,hs⟩:=h
 simp [b4a,hu,hi,hz,hs,o4a,u5d,p7a]
theorem o1b {t e n bytes:Nat} (h:l2b P t e n bytes) {own:Option Nat} {id m len:Nat} {cells new:List D} :
  b4a P #[t,t] (.sl (some id) n len cells) (.sl own n m new) S=if m=0 then some (.sl (some id) n len cells,S) else if p7a bytes (len+m) new then (match S[id]? with | some .own=>some (.sl (some S.length) n (len+m) (cells++new),S.set id .dead++[.own]) | _=>none) else none:=by
 obtain ⟨hu,i,z,hi,rfl,rfl,hz,hs⟩:=h
 simp [b4a,hu,hi,hz,hs,o4a,u5d,p7a]
 rfl
theorem c9a {t e n bytes:Nat} (h:l2b P t e n bytes) {s x:D} (hx:o4a n x=some (0,[])) (hs:s = .c5a∨s = .sl0 ∨ ∃ own len cells,s = .sl own n len cells):b4a P #[t,t] s x S=some (s,S):=by
 obtain ⟨hu,i,z,hi,rfl,rfl,hz,hss⟩:=h
 have e:u5d S i.size x=x:=by cases x<;>first | rfl | (simp [o4a] at hx)
 rcases hs with rfl | rfl | ⟨own,len,cells,rfl⟩<;>simp [b4a,hu,hi,hz,hss,hx,e]
theorem f9b {t e:Nat} {x y:Operand} (hu:P.underlying t=some (.slice e)):i6a P .eql t x y .c5a .c5a=some (.bool true)∧i6a P .eql t x y .slx .c5a=some (.bool false)∧(∀ {own sz n cells},i6a P .eql t x y (.sl own sz (n+1) cells) .c5a=some (.bool false)) ∧
  i6a P .neq t x y .c5a .c5a=some (.bool false)∧i6a P .neq t x y .slx .c5a=some (.bool true)∧(∀ {own sz n cells},i6a P .neq t x y (.sl own sz (n+1) cells) .c5a=some (.bool true)):=by
 refine ⟨?_,?_,?_,?_,?_,?_⟩<;>simp [i6a,toV,toS,r0c,j9c,q2b,c1c,hu,ofV,ofS]
theorem x7a {op:BinOp} {t:TypeId} {x y:Operand} {k:IntKind} {a b:Int} {v:Value} (h:b8c op k a b=some v) (hop:(match op with | .shl | .shr | .and | .or | .xor | .andNot=>false | _=>true)=true):i6a P op t x y (.int k a) (.int k b)=some (ofV v):=by
 cases op<;>first | (cases hop;done) | (simp only [i6a,toV,toS,r0c,j9c,if_true];simp only [h];rfl)
theorem f4b {op:BinOp} {t:TypeId} {x y:Operand} {a b:ByteArray} {v:Value} (h:b6d op a b=some v):i6a P op t x y (.str a) (.str b)=some (ofV v):=by
 simp only [i6a,toV,toS,r0c,j9c,h];rfl
theorem Z :
  (∀ {i:Nat} {d:D} {l:List (Nat×D)},s6c ((i,d)::l) i=d) ∧
  (∀ {o off:Nat} {S:Mem},e5a (.ptr o off) S=(b6a S o).map (·,off)) ∧
  (∀ {c:List D} {off:Nat} {S:Mem},e5a (.h5a c off) S=some (c,off)) ∧
  (∀ {S E:Mem} {n:Nat},b6a (S++E) (S.length+n)=b6a E n) ∧
  (∀ {S E:Mem},b6a (S++E) S.length=b6a E 0) ∧
  (∀ {c:List D} {E:Mem},b6a (.obj c::E) 0=some c) ∧
  (∀ {x:Ob} {E:Mem} {n:Nat},b6a (x::E) (n+1)=b6a E n) ∧
  (∀ {S E:Mem} {n:Nat} {x:Ob},(S++E).set (S.length+n) x=S++E.set n x) ∧
  (∀ {S E:Mem} {x:Ob},(S++E).set S.length x=S++E.set 0 x) ∧
  (∀ {P t x y k a b},i6a P .add t x y (.int k a) (.int k b)=some (.int k (k.wrap (a+b)))∧i6a P .sub t x y (.int k a) (.int k b)=some (.int k (k.wrap (a - b)))∧i6a P .mul t x y (.int k a) (.int k b)=some (.int k (k.wrap (a*b))) ∧
   i6a P .eql t x y (.int k a) (.int k b)=some (.bool (a==b))∧i6a P .neq t x y (.int k a) (.int k b)=some (.bool (a != b))∧i6a P .lss t x y (.int k a) (.int k b)=some (.bool (decide (a<b)))∧i6a P .leq t x y (.int k a) (.int k b)=some (.bool (decide (a≤b))) ∧
   i6a P .gtr t x y (.int k a) (.int k b)=some (.bool (decide (a>b)))∧i6a P .geq t x y (.int k a) (.int k b)=some (.bool (decide (a≥b)))) ∧
  (∀ {P t x y a b},i6a P .eql t x y (.str a) (.str b)=some (.bool (decide (a=b)))∧i6a P .neq t x y (.str a) (.str b)=some (.bool !(decide (a=b)))∧i6a P .lss t x y (.str a) (.str b)=some (.bool (Op.bytesLess a.toList b.toList)) ∧
   i6a P .gtr t x y (.str a) (.str b)=some (.bool !(Op.bytesLess a.toList b.toList || decide (a=b)))∧i6a P .leq t x y (.str a) (.str b)=some (.bool (Op.bytesLess a.toList b.toList || decide (a=b)))∧i6a P .geq t x y (.str a) (.str b)=some (.bool !(Op.bytesLess a.toList b.toList))) ∧
  (∀ {P ρ t x S},opD P ρ (.unOp .not t x) S=match d1a ρ x with | .bool b=>some (.bool !b,S) | _=>none) ∧
  (∀ {P ρ x i S},opD P ρ (.extract x i) S=match d1a ρ x with | .tup vs=>(vs[i]?).map (·,S) | _=>none) ∧
  (∀ {xs},cellsD (.agg xs)=some xs)∧(∀ {k n},cellsD (.int k n)=some [.int k n])∧(∀ {b},cellsD (.bool b)=some [.bool b])∧(∀ {b},cellsD (.str b)=some [.str b])∧(cellsD .c5a=some [.c5a])∧(cellsD .sl0=some [.sl0])∧(∀ {o z l c},cellsD (.sl o z l c)=some [.sl o z l c]) ∧
  (∀ {o f},cellsD (.ptr o f)=some [.ptr o f])∧(∀ {f a b},cellsD (.fn f a b)=some [.fn f a b])∧(cellsD .d9b=some [.d9b]) ∧
  (∀ {k n},D.one (.int k n)=true)∧(∀ {b},D.one (.bool b)=true)∧(∀ {b},D.one (.str b)=true)∧(D.one .c5a=true)∧(D.one .sl0=true)∧(∀ {o z l c},D.one (.sl o z l c)=true)∧(∀ {o f},D.one (.ptr o f)=true)∧(D.one .d9b=true) ∧
  (∀ {α:Type} {cs:List α} {o:Nat},wr cs o []=cs)∧(∀ {α:Type} {cs vs:List α} {o:Nat} {v:α},wr cs o (v::vs)=wr (cs.set o v) (o+1) vs) ∧
  (∀ {b:Bool},ofV (.bool b) = .bool b)∧(∀ {k n},ofV (.int k n) = .int k n)∧(∀ {s},ofV (.string s) = .str s)∧(ofV (.slice none 0 0) = .c5a)∧(ofV (.pointer none) = .d9b) ∧
  (∀ {b:Bool},ofS (.bool b) = .bool b)∧(∀ {k n},ofS (.int k n) = .int k n)∧(∀ {s},ofS (.string s) = .str s)∧(ofS (.slice none 0 0) = .c5a)∧(ofS (.pointer none) = .d9b):=by
 refine ⟨i4e,rfl,rfl,a7a,a6a,rfl,a5a,h9c,b4d,?_,?_,?_,rfl,rfl,rfl,rfl,rfl,rfl,rfl,rfl,rfl,rfl,rfl,rfl,rfl,rfl,rfl,rfl,rfl,rfl,rfl,rfl,rfl,rfl,rfl,rfl,rfl,rfl,rfl,rfl,rfl,rfl,rfl⟩
 rotate_left
 ·intro P t x y a b
  have e:(a.toList==b.toList)=decide (a=b):=str_eq
  refine ⟨?_,?_,f4b (v:=.bool (Op.bytesLess a.toList b.toList)) rfl,?_,?_,f4b (v:=.bool !(Op.bytesLess a.toList b.toList)) rfl⟩
  ·rw [f4b (v:=.bool (a.toList==b.toList)) rfl,e];rfl
  ·rw [f4b (v:=.bool !(a.toList==b.toList)) rfl,e];rfl
  ·rw [f4b (v:=.bool !(Op.bytesLess a.toList b.toList || a.toList==b.toList)) rfl,e];rfl
  ·rw [f4b (v:=.bool (Op.bytesLess a.toList b.toList || a.toList==b.toList)) rfl,e];rfl
 ·intro P ρ t x S
  cases h:d1a ρ x<;>simp [opD,h]
 ·intro P t x y k a b
  exact ⟨x7a (v:=.int k (k.wrap (a+b))) rfl rfl,x7a (v:=.int k (k.wrap (a - b))) rfl rfl,x7a (v:=.int k (k.wrap (a*b))) rfl rfl,x7a (v:=.bool (a==b)) rfl rfl,x7a (v:=.bool (a != b)) rfl rfl,x7a (v:=.bool (decide (a<b))) rfl rfl,x7a (v:=.bool (decide (a≤b))) rfl rfl,x7a (v:=.bool (decide (a>b))) rfl rfl,x7a (v:=.bool (decide (a≥b))) rfl rfl⟩
end
end Go.DM
namespace Go.DM
open Go Go.AM
section
variable {P:Program} {S:Mem}
def r4a (P:Program) (t:TypeId):Option (List (Nat×Nat)):=
 match P.underlying t with
 | some (.struct fields)=>fields.toList.mapM (fun f=>(P.info? f.type).map fun i=>(f.offset,i.size))
 | _=>none
def tyA (P:Program) (t:TypeId):Option Nat×Option Nat×Option Value×Option (List (Nat×Nat)):=(f3a P t,(P.info? t).map (·.bytes),i3a P t,r4a P t)
theorem y0a {t e n b:Nat} {z:Value} (hu:P.underlying t=some (.slice e)) (h1:f3a P e=some n) (h2:(P.info? e).map (·.bytes)=some b) (h3:i3a P e=some z) (h4:z.cells.size=n):l2b P t e n b:=by
 cases hi:P.info? e with
 | none=>simp [f3a,hi] at h1
 | some i=>
  simp only [f3a,i3a,hi,Option.map_some,Option.some.injEq,Option.bind_some] at h1 h2 h3
  exact ⟨hu,i,z,hi,h1,h2,h3,h4⟩
theorem o3a {t:TypeId} {fields:Array Field} {pl:List (Nat×Nat)} {z:Value} (hu:P.underlying t=some (.struct fields)) (hp:r4a P t=some pl) (hz:i3a P t=some z) (hs:z.cells.all b3a=true) {ps:List (Nat×D)} :
  r8a P t ps=(l8a (fun i=>pl[i]?) (z.cells.toList.map ofS) ps).map .agg:=by
 simp only [r4a,hu] at hp
 unfold i3a at hz
 cases hi:P.info? t with
 | none=>rw [hi] at hz;cases hz
 | some it=>
  rw [hi] at hz
  simp only [Option.bind_some] at hz
  simp only [r8a,hi,hu,hz,hp,hs,if_true,List.getElem?_toArray]
theorem x8a {t e n:TypeId} {z:Value} (hu:P.underlying t=some (.slice e)) (hs:f3a P e=some n) (hz:i3a P e=some z) (hc:z.cells.all b3a=true) (hl:z.cells.size=n) {len:Nat} {ps:List (Nat×D)} :
  f2a P t len ps S=if len*n>2 ^ 24 then none else (l8a (fun i=>some (i*n,n)) (k4b (z.cells.toList.map ofS) len) ps).bind fun cells=>if cells.all D.one=true then some (.sl (some S.length) n len cells,S++[.own]) else none:=by
 have hk:(len*n>2 ^ 24∨z.cells.all b3a=false∨z.cells.size≠n)=(len*n>2 ^ 24):=by
  apply propext
  constructor
  ·rintro (h | h | h)
   ·exact h
   ·rw [hc] at h;cases h
   ·exact absurd hl h
  ·exact fun h=>.inl h
 simp only [f2a,hu,hs,hz,Option.bind_eq_bind,Option.bind_some,hk]
theorem j9d {pl:Nat→Option (Nat×Nat)} {cs:List D} : l8a pl cs []=some cs:=rfl
theorem d5d {pl:Nat→Option (Nat×Nat)} {cs:List D} {i:Nat} {v:D} {rest:List (Nat×D)} :
  l8a pl cs ((i,v)::rest)=(pl i).bind fun p=>(cellsD v).bind fun xs=>if xs.length=p.2∧p.1+p.2≤cs.length then l8a pl (wr cs p.1 xs) rest else none:=by
 simp only [l8a]
 cases pl i with
 | none=>rfl
 | some p=>
  obtain ⟨off,size⟩:=p
  cases cellsD v with
  | none=>rfl
  | some xs=>rfl
theorem a1e {α:Type} {xs:List α} : k4b xs 1=xs:=by simp [k4b]
theorem r1d {α:Type} {xs:List α} : k4b xs 0=[]:=rfl
end
end Go.DM
namespace Go.DM
open Go Go.AM
def p8d {α:Type} (x:Option α) (F:α→Prop):Prop:=match x with | some v=>F v | none=>False
theorem a0a {α:Type} {v:α} {F:α→Prop} : p8d (some v) F=F v:=rfl
theorem fin {α:Type} {x:Option α} {F:α→Prop} (h:p8d x F) : ∃ v,x=some v∧F v:=by
 cases x with
 | none=>exact h.elim
 | some v=>exact ⟨v,rfl,h⟩
section
variable {P:Program} {fn:Func} {ρ:e1a} {S:Mem}
theorem a8a {t:Tmp} (h:fn.results = #[.tmp t]):g9a P fn ρ S=some (ρ t):=by simp [g9a,h,resultD]
theorem g3a {t:Tmp} {ty:TypeId} (h:fn.results = #[.cell t ty]):g9a P fn ρ S=l5a P ty (ρ t) S:=by simp [g9a,h,resultD]
theorem i1a {x y:ResultVar} (h:fn.results = #[x,y]):g9a P fn ρ S=(resultD P ρ S x).bind fun a=>(resultD P ρ S y).bind fun b=>some (.tup [a,b]):=by
 simp only [g9a,h,t3a]
 cases resultD P ρ S x with
 | none=>rfl
 | some a=>
  cases resultD P ρ S y with
  | none=>rfl
  | some b=>rfl
theorem k7a {x y z:ResultVar} (h:fn.results = #[x,y,z]):g9a P fn ρ S=(resultD P ρ S x).bind fun a=>(resultD P ρ S y).bind fun b=>(resultD P ρ S z).bind fun c=>some (.tup [a,b,c]):=by
 simp only [g9a,h,t3a]
 cases resultD P ρ S x with
 | none=>rfl
 | some a=>
  cases resultD P ρ S y with
  | none=>rfl
  | some b=>
   cases resultD P ρ S z with
   | none=>rfl
   | some c=>rfl
theorem o4c (h:fn.results = #[]):g9a P fn ρ S=some (.tup []):=by simp [g9a,h,t3a]
theorem a2a {t:Tmp} : resultD P ρ S (.tmp t)=some (ρ t):=rfl
theorem a1a {t:Tmp} {ty:TypeId} : resultD P ρ S (.cell t ty)=l5a P ty (ρ t) S:=rfl
end
theorem Wk.int {n:Nat} {k x} : Wk n (.int k x) (.int k x):=.of_low (.int k x)
theorem Wk.bool {n:Nat} {x} : Wk n (.bool x) (.bool x):=.of_low (.bool x)
theorem Wk.str {n:Nat} {x} : Wk n (.str x) (.str x):=.of_low (.str x)
inductive e5b (n:Nat):List D→Prop
 | nil:e5b n []
 | cons {x xs} (h:p2a n x) (hs:e5b n xs):e5b n (x::xs)
theorem e5b.get {n xs} (h:e5b n xs) : ∀ i (h:i<xs.length),p2a n xs[i]:=by
 induction h with
 | nil=>intro i h;simp at h
 | cons h _ ih=>
  intro i hi
  cases i with
  | zero=>exact h
  | succ i=>exact ih i (by simpa using hi)
theorem e5b.mem {n xs} (h:e5b n xs) : ∀ c∈xs,p2a n c:=fun c hc=>by
 obtain ⟨i,hi,rfl⟩:=List.mem_iff_getElem.1 hc
 exact h.get i hi
theorem e5b.append {n xs ys} (h:e5b n xs) (k:e5b n ys):e5b n (xs++ys):=by
 induction h with
 | nil=>exact k
 | cons h _ ih=>exact .cons h ih
theorem e5b.n7c {n:Nat} : ∀ {xs:List D},(∀ x∈xs,p2a n x)→e5b n xs
 | [],_=>.nil
 | x::xs,h=>.cons (h x (by simp)) (e5b.n7c fun y hy=>h y (by simp [hy]))
theorem p2a.agg' {n xs} (h:e5b n xs):p2a n (.agg xs):=.agg xs h.get
theorem p2a.a2b {n xs} (h:e5b n xs):p2a n (.tup xs):=.tup xs h.get
theorem p2a.sl' {n sz len xs} (h:e5b n xs):p2a n (.sl none sz len xs):=.sl none sz len xs (fun _ e=>by cases e) h.get
end Go.DM
namespace Go.DM
open Go Go.AM
theorem wrap64 {x:Int} (h1 : -9223372036854775808≤x) (h2:x≤9223372036854775807):IntKind.i64.wrap x=x:=by
 rw [IntKind.wrap_i64];omega
theorem b9a {i:Nat} (h:i<4611686018427387904):IntKind.i64.wrap ((i:Int)+1)=((i+1:Nat):Int):=by rw [wrap64 (by omega) (by omega)];omega
section
variable {α:Type} {f:α→List D} {n:Nat}
theorem flat_length (hf : ∀ x,(f x).length=n) : ∀ (l:List α),(l.flatMap f).length=l.length*n
 | []=>by simp
 | x::l=>by simp only [List.flatMap_cons,List.length_append,hf,flat_length hf l,List.length_cons,Nat.add_mul];omega
theorem u5b (hf : ∀ x,(f x).length=n) : ∀ (l:List α) (i:Nat),(l.flatMap f).drop (i*n)=(l.drop i).flatMap f
 | l,0=>by simp
 | [],i+1=>by simp
 | x::l,i+1=>by
  simp only [List.flatMap_cons,List.drop_succ_cons]
  rw [Nat.add_mul,Nat.one_mul,Nat.add_comm,← List.drop_drop]
  have:(f x++l.flatMap f).drop n=l.flatMap f:=by rw [← hf x];simp
  rw [this,u5b hf l i]
theorem j0b (hf : ∀ x,(f x).length=n) (l:List α) (i:Nat) (h:i<l.length) {k:Nat} (hk:k<n):(l.flatMap f)[i*n+k]?=(f l[i])[k]?:=by
 rw [← List.getElem?_drop,u5b hf,List.drop_eq_getElem_cons h,List.flatMap_cons,List.getElem?_append_left (by rw [hf];exact hk)]
theorem b7c (hf : ∀ x,(f x).length=n) (l:List α) (i:Nat) (h:i<l.length) (hk:0<n):(l.flatMap f)[i*n]?=(f l[i])[0]?:=j0b hf l i h hk
theorem u7b (hf : ∀ x,(f x).length=n) (l:List α) (i:Nat) (h:i<l.length) {a b:Nat} (hk:a+b≤n):((l.flatMap f).drop (i*n+a)).take b=((f l[i]).drop a).take b:=by
 rw [← List.drop_drop,u5b hf,List.drop_eq_getElem_cons h,List.flatMap_cons,List.drop_append_of_le_length (by rw [hf];omega),List.take_append_of_le_length (by rw [List.length_drop,hf];omega)]
theorem f3c (hf : ∀ x,(f x).length=n) (l:List α) (i:Nat) (h:i<l.length):((l.flatMap f).drop (i*n)).take n=f l[i]:=by
 have:=u7b hf l i h (a:=0) (b:=n) (by omega)
 rw [Nat.add_zero,List.drop_zero] at this
 rw [this,List.take_of_length_le (by rw [hf];exact Nat.le_refl _)]
theorem u6b (hf : ∀ x,(f x).length=n) (l:List α) (i:Nat) (h:i<l.length) {a b:Nat} (hk:a+b≤n):(i*n+a+b≤(l.flatMap f).length)=True:=by
 rw [flat_length hf]
 simp only [eq_iff_iff,iff_true]
 have:(i+1)*n≤l.length*n:=Nat.mul_le_mul_right _ h
 rw [Nat.add_mul] at this
 omega
theorem m1b (hf : ∀ x,(f x).length=n) (l:List α) (i:Nat) (h:i<l.length):(i*n+n≤(l.flatMap f).length)=True:=u6b hf l i h (a:=0) (b:=n) (by omega)
end
theorem y0d {i n:Nat} (h:i<n):(0≤(i:Int)∧(i:Int)<(n:Int))=True:=by simp;omega
end Go.DM
namespace Go.DM
open Go Go.AM
theorem builtin_append {P:Program} {at_:Array TypeId} {s x:D} {S:Mem} : b8a P .append at_ [s,x] S=b4a P at_ s x S:=rfl
def z7b (b:Nat) (o:D) (n len:Nat) (cells:List D) (S:Mem):Prop:=(o = .c5a∧len=0∧cells=[])∨(o = .sl0∧len=0∧cells=[]) ∨ ∃ id,b≤id∧o = .sl (some id) n len cells∧S[id]?=some .own
structure Grown (b:Nat) (S S':Mem):Prop where
 len:S.length≤S'.length
 pre : ∀ E,∀ S0:Mem,S0.length=b→S=S0++E → ∃ E',S'=S0++E'
 obj : ∀ o c,b6a S o=some c→b6a S' o=some c
theorem Grown.refl {b S} : Grown b S S:=⟨Nat.le_refl _,fun E _ _ h=>⟨E,h⟩,fun _ _ h=>h⟩
theorem Grown.trans {b S S1 S2} (x:Grown b S S1) (y:Grown b S1 S2):Grown b S S2:=
 ⟨Nat.le_trans x.len y.len,fun E S0 h e=>by obtain ⟨E1,e1⟩:=x.pre E S0 h e;exact y.pre E1 S0 h e1,fun o c h=>y.obj o c (x.obj o c h)⟩
theorem Grown.app {b:Nat} {S E:Mem} : Grown b S (S++E):=⟨by simp,fun E0 S0 _ h=>⟨E0++E,by rw [h];simp⟩,fun _ _ h=>w4a h⟩
theorem z7b.app {b o n len cells S} (h:z7b b o n len cells S) (E:Mem):z7b b o n len cells (S++E):=by
 rcases h with h | h | ⟨id,h1,h2,h3⟩
 ·exact .inl h
 ·exact .inr (.inl h)
 ·exact .inr (.inr ⟨id,h1,h2,by rw [List.getElem?_append_left (List.getElem?_eq_some_iff.1 h3).1];exact h3⟩)
theorem z7b.wf {b o n len cells S} (h:z7b b o n len cells S):Wf o (.sl none n len cells):=by
 rcases h with ⟨rfl,rfl,rfl⟩ | ⟨rfl,rfl,rfl⟩ | ⟨id,_,rfl,_⟩
 ·exact .e1d
 ·exact .h9f
 ·exact .disown
theorem z7b.append {P:Program} {b t e n bytes len m:Nat} {o:D} {own:Option Nat} {cells new:List D} {S:Mem} (h:l2b P t e n bytes) (ha:z7b b o n len cells S) (hb:b≤S.length) (hm:m≠0) (hf:p7a bytes (len+m) new) :
  ∃ o' S',b4a P #[t,t] o (.sl own n m new) S=some (o',S')∧z7b b o' n (len+m) (cells++new) S'∧Grown b S S':=by
 rcases ha with ⟨rfl,rfl,rfl⟩ | ⟨rfl,rfl,rfl⟩ | ⟨id,h1,rfl,h3⟩
 ·rw [Nat.zero_add] at hf
  refine ⟨_,_,by rw [b0b h,if_neg hm,if_pos hf],.inr (.inr ⟨S.length,hb,by simp,by simp⟩),.app⟩
 ·rw [Nat.zero_add] at hf
  refine ⟨_,_,by rw [o2b h,if_neg hm,if_pos hf],.inr (.inr ⟨S.length,hb,by simp,by simp⟩),.app⟩
 ·refine ⟨_,_,by rw [o1b h,if_neg hm,if_pos hf,h3],.inr (.inr ⟨S.length,hb,rfl,by simp⟩),⟨by simp,fun E S0 hl he => ?_,fun o c ho => ?_⟩⟩
  ·subst he
   refine ⟨E.set (id - S0.length) .dead++[.own],?_⟩
   rw [List.set_append_right _ _ (by omega)]
   simp
  ·have hne:id≠o:=by rintro rfl;rw [f7a ho] at h3;cases h3
   refine w4a ?_
   unfold b6a at ho ⊢
   rwa [List.getElem?_set_ne hne]
end Go.DM
namespace Go.DM
open Go Go.AM
section
variable {P:Program} {orc:c3a} {S:Mem} {f:FuncId} {args:List D}
theorem a3a.ret {X:D} {Q:D→Mem→Prop} (h:a3a P orc f args S fun d S'=>S'=S∧d=X) (hq:Q X S):a3a P orc f args S Q:=h.mono (by rintro d S' ⟨rfl,rfl⟩;exact hq)
theorem a3a.w8a {R:D→Prop} {Q:D→Mem→Prop} (h:a3a P orc f args S fun d S'=>S'=S∧R d) (hq : ∀ d,R d→Q d S):a3a P orc f args S Q:=h.mono (by rintro d S' ⟨rfl,hr⟩;exact hq d hr)
end
end Go.DM
namespace Go.DM
open Go Go.AM
section
variable {P:Program} {orc:c3a} {fl sz:Nat} {k:List K} {ρ:e1a} {H:Mem} {Q:h6a→e1a→Mem→Prop} {ops:Array Oper} {loose:List Nat} {Inv:Mem→Prop} {F:Nat}
theorem GoW.h4f {i:Nat} {os:List Oper} {dst:Option Tmp} {op:Op} {ty:TypeId} {pos:String} {after:Array Edge} (hd:i9a sz dst) (hc:op.operands.toList.all b5a=true)
  (h:p4a (opD P ρ op H) fun v H1=>H1=H∧Inv H∧(∀ H',Inv H'→opD P ρ op H'=some (v,H'))∧GoW P orc fl sz ops loose Inv F (i+1) os k (m3a ρ dst v) H Q):GoW P orc fl sz ops loose Inv F i (⟨dst,op,ty,pos,after,none⟩::os) k ρ H Q:=by
 cases hop:opD P ρ op H with
 | none=>rw [hop] at h;exact h.elim
 | some r=>
  obtain ⟨v,H1⟩:=r
  rw [hop] at h
  obtain ⟨_,hi,hr,h⟩:=h
  exact GoW.read hd hc hi hr h
theorem GoW.w0e {i:Nat} {os:List Oper} {dst:Option Tmp} {op:Op} {ty:TypeId} {pos:String} {after:Array Edge} {g:Nat×Bool} (hd:i9a sz dst) (hc:op.operands.toList.all b5a=true)
  (hw:(e9a ops ρ g.1==some g.2)=true) (h:p4a (opD P ρ op H) fun v H1=>H1=H∧Inv H∧(∀ H',Inv H'→opD P ρ op H'=some (v,H'))∧GoW P orc fl sz ops loose Inv F (i+1) os k (m3a ρ dst v) H Q):GoW P orc fl sz ops loose Inv F i (⟨dst,op,ty,pos,after,some g⟩::os) k ρ H Q:=by
 cases hop:opD P ρ op H with
 | none=>rw [hop] at h;exact h.elim
 | some r=>
  obtain ⟨v,H1⟩:=r
  rw [hop] at h
  obtain ⟨_,hi,hr,h⟩:=h
  exact GoW.h3f hd hc hw hi hr h
end
end Go.DM
namespace Go.DM
open Go Go.AM
section
variable {P:Program} {S:Mem} {ρ:e1a}
theorem g4e {t:TypeId} {x y:Operand} {k:IntKind} {a b:Int} : i6a P .and t x y (.int k a) (.int k b)=some (.int k (bits .and k a b)):=by
 simp only [i6a,toV,toS,r0c,j9c,if_true,intBits_and,Pure.pure,k3a];rfl
theorem p0e {t:TypeId} {x y:Operand} {k:IntKind} {a b:Int} : i6a P .or t x y (.int k a) (.int k b)=some (.int k (bits .or k a b)):=by
 simp only [i6a,toV,toS,r0c,j9c,if_true,show Op.intBits .or k a b=pure (.int k (bits .or k a b)) from rfl,Pure.pure,k3a];rfl
theorem g9e {t:TypeId} {x y:Operand} {k k':IntKind} {a b:Int} (h:0≤b):i6a P .shr t x y (.int k a) (.int k' b)=some (.int k (a.fdiv (2 ^ (min b.toNat k.bits)))):=by
 simp only [i6a,toV,toS,r0c,j9c,if_neg (show ¬ b<0 by omega)];rfl
theorem g8e {t:TypeId} {x y:Operand} {k k':IntKind} {a b:Int} (h:0≤b):i6a P .shl t x y (.int k a) (.int k' b)=some (.int k (k.wrap (a*2 ^ (min b.toNat k.bits)))):=by
 simp only [i6a,toV,toS,r0c,j9c,if_neg (show ¬ b<0 by omega)];rfl
theorem g5e {t:TypeId} {x y:Operand} {k:IntKind} {a b:Int} (h:(b=0)=False):i6a P .quo t x y (.int k a) (.int k b)=some (.int k (k.wrap (a.tdiv b))):=by
 simp only [i6a,toV,toS,r0c,j9c,if_true,b8c,h,if_false];rfl
theorem g7e {t:TypeId} {x y:Operand} {k:IntKind} {a b:Int} (h:(b=0)=False):i6a P .rem t x y (.int k a) (.int k b)=some (.int k (a.tmod b)):=by
 simp only [i6a,toV,toS,r0c,j9c,if_true,b8c,h,if_false];rfl
theorem v3d {t:TypeId} {x y:Operand} {a b:Bool} (hu:P.underlying t=some .bool):i6a P .eql t x y (.bool a) (.bool b)=some (.bool (a==b))∧i6a P .neq t x y (.bool a) (.bool b)=some (.bool !(a==b)):=by
 constructor<;>simp [i6a,toV,toS,r0c,j9c,hu,ofV,ofS]
theorem x6e {t:TypeId} {x:Operand} : opD P ρ (.unOp .neg t x) S=match d1a ρ x with | .int k n=>some (.int k (k.wrap (0 - n)),S) | _=>none:=by
 cases h:d1a ρ x<;>simp [opD,h]
theorem e3a {s d:TypeId} {k1 k2 k:IntKind} {n:Int} (hs:P.underlying s=some (.int k1)) (hd:P.underlying d=some (.int k)):k2a P s d (.int k2 n) S=some (.int k (k.wrap n),S):=by
 simp only [k2a,hs,hd]
theorem w1d {s d:TypeId} {a:ByteArray} (hs:P.underlying s=some .string) (hd:P.underlying d=some .string):k2a P s d (.str a) S=some (.str a,S):=by
 simp only [k2a,hs,hd]
end
theorem a4c {α:Type} {f:α→List D} {l:List α} {i:Nat} (h:i<l.length):(l.take (i+1)).flatMap f=(l.take i).flatMap f++f l[i]:=by
 rw [← List.take_append_getElem h,List.flatMap_append];simp only [List.flatMap_cons,List.flatMap_nil,List.append_nil]
end Go.DM
namespace Go.DM
open Go Go.AM
theorem s9a {S:Mem} {s:ByteArray} {k:IntKind} (h:0<s.size):indexStr (.str s) (.int k 0) S=some (.int .u8 (s.data[0]'h).toNat,S):=f4a (n:=0) h
end Go.DM
namespace Go.DM
open Go Go.AM
theorem v0c {S E:Mem} {n:Nat} : (S++E)[S.length+n]?=E[n]?:=by simp [List.getElem?_append_right]
theorem a8d {S E:Mem} : (S++E)[S.length]?=E[0]?:=v0c (n:=0)
end Go.DM
namespace Go.DM
open Go Go.AM
theorem z7b.one {b o n len cells S} (h:z7b b o n len cells S):D.one o=true∧cellsD o=some [o]:=by
 rcases h with ⟨rfl,_⟩ | ⟨rfl,_⟩ | ⟨id,_,rfl,_⟩<;>exact ⟨rfl,rfl⟩
end Go.DM
namespace Go.DM
open Go Go.AM
theorem b8d {α:Type} : ∀ (xs pre cs:List α),xs.length=cs.length→wr (pre++cs) pre.length xs=pre++xs
 | [],pre,[],_=>by simp [wr]
 | [],_,_::_,h=>by simp at h
 | _::_,_,[],h=>by simp at h
 | x::xs,pre,c::cs,h=>by
  simp only [wr]
  have:=b8d xs (pre++[x]) cs (by simpa using h)
  simp only [List.length_append,List.length_cons,List.length_nil,Nat.zero_add,List.append_assoc,List.cons_append,List.nil_append] at this
  rw [← this]
  congr 1
  simp
theorem j3c {α:Type} {xs cs:List α} (h:xs.length=cs.length):wr cs 0 xs=xs:=b8d xs [] cs h
end Go.DM
namespace Go.DM
open Go Go.AM
theorem z7b.set {b o n len cells S j x} (h:z7b b o n len cells S) (hj:j<b):z7b b o n len cells (S.set j x):=by
 rcases h with h | h | ⟨id,h1,h2,h3⟩
 ·exact .inl h
 ·exact .inr (.inl h)
 ·exact .inr (.inr ⟨id,h1,h2,by rw [List.getElem?_set_ne (by omega)];exact h3⟩)
end Go.DM
namespace Go.DM
open Go Go.AM
theorem Y :
  (∀ {S E:Mem} {n:Nat},(S++E)[List.length S+n]?=E[n]?) ∧
  (∀ {S E:Mem},(S++E)[List.length S]?=E[0]?) ∧
  (∀ {P:Program} {t:TypeId} {x y:Operand} {k:IntKind} {a b:Int},i6a P BinOp.and t x y (D.int k a) (D.int k b)=some (D.int k (bits BinOp.and k a b))) ∧
  (∀ {P:Program} {t:TypeId} {x y:Operand} {k:IntKind} {a b:Int},i6a P BinOp.or t x y (D.int k a) (D.int k b)=some (D.int k (bits BinOp.or k a b))) ∧
  (∀ {P:Program} {t:TypeId} {x y:Operand} {k k':IntKind} {a b:Int},0≤b→i6a P BinOp.shr t x y (D.int k a) (D.int k' b)=some (D.int k (Int.fdiv a (2 ^ min (Int.toNat b) (IntKind.bits k))))) ∧
  (∀ {P:Program} {t:TypeId} {x y:Operand} {k k':IntKind} {a b:Int},0≤b→i6a P BinOp.shl t x y (D.int k a) (D.int k' b)=some (D.int k (IntKind.wrap k (a*2 ^ min (Int.toNat b) (IntKind.bits k))))) ∧
  (∀ {P:Program} {t:TypeId} {x y:Operand} {k:IntKind} {a b:Int},(b=0)=False→i6a P BinOp.quo t x y (D.int k a) (D.int k b)=some (D.int k (IntKind.wrap k (Int.tdiv a b)))) ∧
  (∀ {P:Program} {t:TypeId} {x y:Operand} {k:IntKind} {a b:Int},(b=0)=False→i6a P BinOp.rem t x y (D.int k a) (D.int k b)=some (D.int k (Int.tmod a b))) ∧
  (∀ {ρ:e1a} {t u:Tmp} {v:D},(u==t)=false→m3a ρ (some t) v u=ρ u) ∧
  (∀ {ρ:e1a} {v:D},m3a ρ none v=ρ) ∧
  (∀ {k:IntKind} {n:Nat},n4c (D.int k ↑n)=some n) ∧
  (∀ {k:IntKind} {i:Int},0≤i→n4c (D.int k i)=some (Int.toNat i)) ∧
  (d8a none=some none) ∧
  (∀ {d:D},d8a (some d)=Option.map some (n4c d)) ∧
  (∀ {α:Type} {a b:α},Option.getD (some a) b=a) ∧
  (∀ {α:Type} {a:α},Option.getD none a=a) ∧
  (∀ {α:Type} {a:α},Option.isSome (some a)=true) ∧
  (∀ {α:Type},Option.isSome (none:Option α)=false) ∧
  (∀ {α:Type} {a:α},Option.isNone (some a)=false) ∧
  (∀ {α:Type},Option.isNone (none:Option α)=true) ∧
  (∀ (n:Nat),Int.toNat ↑n=n) ∧
  (∀ (n:Nat),0≤n) ∧
  (∀ (n:Nat),n - 0=n) ∧
  (∀ (p:Prop),(False∧p)=False) ∧
  (∀ (p:Prop),(p∧False)=False) ∧
  (∀ {i t:Nat} {d:D} {l:List (Nat×D)},(t==i)=false→s6c ((i,d)::l) t=s6c l t) ∧
  (∀ {pl:Nat→Option (Nat×Nat)} {cs:List D},l8a pl cs []=some cs) ∧
  (∀ {pl:Nat→Option (Nat×Nat)} {cs:List D} {i:Nat} {v:D} {rest:List (Nat×D)},l8a pl cs ((i,v)::rest)=Option.bind (pl i) fun p=>Option.bind (cellsD v) fun xs=>if List.length xs=Prod.snd p∧Prod.fst p+Prod.snd p≤List.length cs then l8a pl (wr cs (Prod.fst p) xs) rest else none) ∧
  (∀ {α:Type} {xs:List α},k4b xs 1=xs) ∧
  (∀ {α:Type} {xs:List α},k4b xs 0=[]) ∧
  (∀ (n:Nat),0+n=n) ∧
  (∀ (n:Nat),n+0=n) ∧
  (∀ (n:Nat),0*n=0) ∧
  (∀ (n:Nat),n*1=n) ∧
  (∀ (n:Nat),1*n=n) ∧
  (∀ (n:Nat),n≤n) ∧
  (∀ {α:Type} {β:Type} (a:α) (f:α→β),Option.map f (some a)=some (f a)) ∧
  (∀ {α:Type} {β:Type} (f:α→β),Option.map f none=none) ∧
  (∀ {α:Type} {β:Type} (a:α) (f:α→Option β),Option.bind (some a) f=f a) ∧
  ((false=true)=False) ∧
  ((!true)=false) ∧
  ((!false)=true) ∧
  (∀ (p:Prop),(p∧p)=p) ∧
  (∀ (p:Prop),(True∧p)=p) ∧
  (∀ (p:Prop),(p∧True)=p) ∧
  (∀ {α:Type} {β:Type} {f:α→β} {a:α} {l:List α},List.map f (a::l)=f a::List.map f l) ∧
  (∀ {α:Type} {β:Type} {f:α→β},List.map f []=[]) ∧
  (∀ {α:Type} {a:α} {as:List α},List.length (a::as)=List.length as+1) ∧
  (∀ {α:Type},List.length ([]:List α)=0) ∧
  (∀ {α:Type} {as bs:List α},List.length (as++bs)=List.length as+List.length bs) ∧
  (∀ {α:Type} {a:α} {l:List α},(a::l)[0]?=some a) ∧
  (∀ {α:Type} {a:α} {i:Nat} {l:List α},(a::l)[i+1]?=l[i]?) ∧
  (∀ {α:Type} {x:α} {xs:List α} {a:α},List.set (x::xs) 0 a=a::xs) ∧
  (∀ {α:Type} {x:α} {xs:List α} {i:Nat} {a:α},List.set (x::xs) (i+1) a=x::List.set xs i a) ∧
  (∀ {α:Type} {l:List α},List.drop 0 l=l) ∧
  (∀ {α:Type} {a:α} {l:List α} {i:Nat},List.drop (i+1) (a::l)=List.drop i l) ∧
  (∀ {α:Type} {a:α} {as:List α} {i:Nat},List.take (i+1) (a::as)=a::List.take i as) ∧
  (∀ {α:Type} {l:List α},List.take 0 l=[]) ∧
  (∀ {α:Type} {a:α} {l:List α} {f:α→Bool},List.all (a::l) f=(f a&&List.all l f)) ∧
  (∀ {α:Type} {f:α→Bool},List.all [] f=true) ∧
  (∀ (b:Bool),(b&&b)=b) ∧
  (∀ (b:Bool),(b&&true)=b) ∧
  (∀ (b:Bool),(true&&b)=b) ∧
  (∀ {α:Type} (as bs cs:List α),as++bs++cs=as++(bs++cs)) ∧
  (∀ {α:Type} {a:α} {as bs:List α},a::as++bs=a::(as++bs)) ∧
  (∀ {α:Type} (as:List α),[]++as=as) ∧
  (∀ {α:Type} (as:List α),as++[]=as) ∧
  ((true=false)=False):=
 ⟨@v0c,@a8d,@g4e,@p0e,@g9e,@g8e,@g5e,@g7e,@l6e,@q5d,@i4a,@k7e,@o0c,@e8a,@Option.getD_some,@Option.getD_none,@Option.isSome_some,@Option.isSome_none,@Option.isNone_some,@Option.isNone_none,@Int.toNat_natCast,@Nat.zero_le,@Nat.sub_zero,@false_and,@and_false,@i5e,@j9d,@d5d,@a1e,@r1d,@Nat.zero_add,@Nat.add_zero,@Nat.zero_mul,@Nat.mul_one,@Nat.one_mul,@Nat.le_refl,@Option.map_some,@Option.map_none,@Option.bind_some,@Bool.false_eq_true,@Bool.not_true,@Bool.not_false,@and_self,@true_and,@and_true,@List.map_cons,@List.map_nil,@List.length_cons,@List.length_nil,@List.length_append,@List.getElem?_cons_zero,@List.getElem?_cons_succ,@List.set_cons_zero,@List.set_cons_succ,@List.drop_zero,@List.drop_succ_cons,@List.take_succ_cons,@List.take_zero,@List.all_cons,@List.all_nil,@Bool.and_self,@Bool.and_true,@Bool.true_and,@List.append_assoc,@List.cons_append,@List.nil_append,@List.append_nil,@Bool.true_eq_false⟩
end Go.DM
namespace Go.DM
open Go Go.AM
theorem cellsOf_size {P:Program} {t n:Nat} (h:f3a P t=some n):P.cellsOf t=n:=by
 unfold f3a at h
 unfold Program.cellsOf
 rw [h]
 rfl
section
variable {P:Program} {m t:Nat} {x:List D}
theorem WT.int {k:IntKind} (hu:P.underlying t=some (.int k)) (h:WT P m t x) : ∃ n,x=[.int k n]∧(Lit.int k n).wf=true:=by
 cases m with
 | zero=>exact h.elim
 | succ m=>simpa only [WT,hu] using h
theorem WT.str (hu:P.underlying t=some .string) (h:WT P m t x) : ∃ s:ByteArray,x=[.str s]∧s.size≤maxLen:=by
 cases m with
 | zero=>exact h.elim
 | succ m=>simpa only [WT,hu] using h
theorem WT.slice {e z:Nat} (hu:P.underlying t=some (.slice e)) (hz:f3a P e=some z) (h:WT P m t x) : ∃ (m':Nat) (xss:List (List D)),m=m'+1∧x=[.sl none z xss.length xss.flatten]∧xss.length≤maxLen ∧ ∀ y∈xss,WT P m' e y:=by
 cases m with
 | zero=>exact h.elim
 | succ m=>
  simp only [WT,hu,cellsOf_size hz] at h
  obtain ⟨xss,rfl,h2,h3⟩:=h
  exact ⟨m,xss,rfl,rfl,h2,fun y hy=>(h3 y hy).2⟩
theorem WT.struct {fs:Array Field} (hu:P.underlying t=some (.struct fs)) (h:WT P m t x) : ∃ m',m=m'+1∧WTs P (WT P m') (fs.toList.map (·.type)) x:=by
 cases m with
 | zero=>exact h.elim
 | succ m=>
  simp only [WT,hu] at h
  exact ⟨m,rfl,h⟩
theorem WTs.cons {f:TypeId→List D→Prop} {t:Nat} {ts:List TypeId} {ds:List D} (h:WTs P f (t::ts) ds) : ∃ x y,ds=x++y∧f t x∧WTs P f ts y:=by
 obtain ⟨x,y,h1,_,h3,h4⟩:=h
 exact ⟨x,y,h1,h3,h4⟩
theorem WTs.nil {f:TypeId→List D→Prop} {ds:List D} (h:WTs P f [] ds):ds=[]:=h
end
theorem u5c {α:Type} {c:α→List D} {p:α→Prop} : ∀ {xss:List (List D)},(∀ x∈xss,∃ a,x=c a∧p a) → ∃ l:List α,xss=l.map c ∧ ∀ a∈l,p a
 | [],_=>⟨[],rfl,by simp⟩
 | x::xss,h=>by
  obtain ⟨a,rfl,ha⟩:=h x (by simp)
  obtain ⟨l,rfl,hl⟩:=u5c (c:=c) (p:=p) (xss:=xss) fun y hy=>h y (by simp [hy])
  exact ⟨a::l,rfl,by simpa using ⟨ha,hl⟩⟩
theorem y7c {α:Type} {c:α→List D} {l:List α} : (l.map c).flatten=l.flatMap c:=by simp [List.flatMap]
end Go.DM
namespace Go.DM
open Go Go.AM Go.RowKit
def m4c (w0:World):Beside:=fun φ H w=>Below w0.heap.size w0 w ∧ ∀ h b,hget H h=some b→b.rw=true→w0.heap.size≤(φ h).B
theorem t9c {w0:World} : Kept (m4c w0):=by
 refine ⟨?_,fun φ H w h=>⟨h.1,fun h b hg=>by simp [hget] at hg⟩⟩
 intro φ H w φ' H' w' ⟨hb,hr⟩ st
 have hs:w0.heap.size≤w.heap.size:=hb.size
 refine ⟨⟨st.os.trans hb.os,st.tape.trans hb.tape,st.output.trans hb.output,Nat.le_trans hs st.size,fun k hk => ?_⟩,fun h b hg hw => ?_⟩
 ·rw [st.frame k (Nat.lt_of_lt_of_le hk hs) (fun h b _ hg hw he => ?_)]
  ·exact hb.block k hk
  ·have:=hr h b hg hw
   omega
 ·rcases st.later h b (Nat.zero_le _) hg hw with hl | ⟨h0,b0,_,hg0,hr0,e0⟩
  ·exact Nat.le_trans hs hl
  ·exact e0▸hr h0 b0 hg0 hr0
theorem m5c {w:World} {φ H} (hb:Bs w H φ):m4c w φ H w:=
 ⟨.refl _ _,fun h b hg hw=>by rw [hb.ro h b hg] at hw;cases hw⟩
theorem d5b {φ H w w'} (hs:Sim φ H w) (hb:Below w.heap.size w w'):Step 0 φ H w φ H w':=by
 refine ⟨Nat.le_refl _,fun _ _=>rfl,hb.size,hb.os,hb.tape,hb.output,fun b h _=>hb.block b h,fun h b' _ hg=>⟨b',hg,id⟩,fun h b hb hg hr=>.inr ⟨h,b,hb,hg,hr,rfl⟩,t0a rfl,?_,hs.apart,hs.par,hs.z2a⟩
 intro h b hg
 obtain ⟨c,e,fr,hB,g⟩:=hs.cov h b hg
 exact ⟨c,e,fr,by rw [hb.block _ (Array.getElem?_eq_some_iff.1 hB).1];exact hB,g⟩
def p9d (a b:t7a):t7a:=fun f args d=>a f args d∨b f args d
theorem z1a {P:Program} {A:Beside} {a b:t7a} (ha:t8a P A a) (hb:t8a P A b):t8a P A (p9d a b):=by
 rintro f args d (h | h)
 ·exact ha f args d h
 ·exact hb f args d h
abbrev s1b:=FuncId→List Value→Value→Prop
def u0a (c:s1b):t7a:=fun f args d => ∃ vs v,c f vs v∧args=vs.map ofV∧d=ofV v
structure x0c (P:Program) (A:Beside) (c:s1b):Prop where
 args : ∀ f vs v,c f vs v → ∀ u∈vs,f8a u=true∧toV (ofV u)=some u
 val : ∀ f vs v,c f vs v→f8a v=true
 run : ∀ f vs v,c f vs v → ∀ φ H w,A φ H w→Calls P f vs.toArray w fun e w'=>e = .returned v∧Below w.heap.size w w'
theorem t0b {P:Program} {A:Beside} {c:s1b} (h:x0c P A c):t8a P A (u0a c):=by
 rintro f args d ⟨us,v,hc,rfl,rfl⟩ r φ w hs vs args' dl hargs
 have hvs:=back_eq (r:=r) (us:=us) (vs:=vs) (List.map_congr_left fun u hu=>(h.args _ _ _ hc u hu).2) dl
 subst hvs
 have ha:=j5a.of_closed (fun u hu=>(h.args _ _ _ hc u hu).1) hargs
 rw [show args'=vs.toArray by rw [← ha]]
 refine (h.run _ _ _ hc φ r.H w hs.2).mono fun e w' ⟨he,hb⟩ => ?_
 exact ⟨r,v,v,φ,he,.refl r,fun S h=>h,d5b hs.1 hb,.ofV v,h3a.closed (h.val _ _ _ hc)⟩
theorem a3a.u0a {P:Program} {orc:c3a} {c:s1b} (hi : ∀ f args d,DM.u0a c f args d → ∀ S,orc f args S d S) {f:FuncId} {us:List Value} {v:Value} {S:Mem} (h:c f us v):a3a P orc f (us.map ofV) S fun d S'=>S'=S∧d=ofV v:=
 ⟨_,_,.orc (hi _ _ _ ⟨us,v,h,rfl,rfl⟩ _),rfl,rfl⟩
theorem a3a.frame {P:Program} {orc:c3a} {f:FuncId} {us:List Value} {v:Value} (h3 : ∀ u∈us,f8a u=true∧toV (ofV u)=some u) (h6:f8a v=true∧toV (ofV v)=some v) (h:a3a P orc f (us.map ofV) [] fun d _=>d=ofV v) (S:Mem) :
  a3a P orc f (us.map ofV) S fun d S'=>S'=S∧d=ofV v:=by
 obtain ⟨d,S1,hb,rfl⟩:=h
 refine ⟨_,_,.frame (us:=us) (v:=v) (fun r vs dl=>back_eq (List.map_congr_left fun u hu=>(h3 u hu).2) dl) (fun r=>⟨by simp,fun i a b => ?_⟩) (fun u hu=>(h3 u hu).1) (fun r u hd=>p6c hd h6.2) (fun r=>.ofV v) h6.1 hb,rfl,rfl⟩
 rw [List.getElem_map]
 exact .ofV _
theorem a3a.o8b {P:Program} {orc:c3a} {f:FuncId} {b:Bool} (h:a3a P orc f [] [] fun d S'=>S'=[]∧d = .bool b) (S:Mem):a3a P orc f [] S fun d S'=>S'=S∧d = .bool b:=
 a3a.frame (us:=[]) (v:=.bool b) (by simp) ⟨rfl,rfl⟩ (h.mono fun _ _ h=>h.2) S
abbrev o2e:=FuncId→List Value→List Value→Prop
def n5c (c:o2e):t7a:=fun f args d => ∃ vs cs,c f vs cs∧args=vs.map ofV∧d = .sl none 1 cs.length (cs.map ofS)
structure z6e (P:Program) (A:Beside) (c:o2e):Prop where
 args : ∀ f vs v,c f vs v → ∀ u∈vs,f8a u=true∧toV (ofV u)=some u
 val : ∀ f vs v,c f vs v → ∀ u∈v,b3a u=true
 run : ∀ f vs v,c f vs v → ∀ φ H w,A φ H w → ∃ t:TypeId,Calls P f vs.toArray w fun e w'=>e = .returned (.slice (some ⟨w.heap.size,0,none⟩) v.length v.length)∧w'=w.alloc (.cells v.toArray t)
theorem n6c {P:Program} {A:Beside} {c:o2e} (h:z6e P A c):t8a P A (n5c c):=by
 rintro f args d ⟨us,cs,hc,rfl,rfl⟩ r φ w hs vs args' dl hargs
 have hvs:=back_eq (r:=r) (us:=us) (vs:=vs) (List.map_congr_left fun u hu=>(h.args _ _ _ hc u hu).2) dl
 subst hvs
 have ha:=j5a.of_closed (fun u hu=>(h.args _ _ _ hc u hu).1) hargs
 rw [show args'=vs.toArray by rw [← ha]]
 obtain ⟨t,hrun⟩:=h.run _ _ _ hc φ r.H w hs.2
 refine hrun.mono fun e w' ⟨he,hb⟩ => ?_
 subst hb
 have hval:=h.val _ _ _ hc
 have hst:Step 0 φ r.H w (u0b φ r.H.length ⟨w.heap.size,0,cs.length,1⟩) (p8a r.H ⟨cs,1,false,0,[]⟩) (w.alloc (.cells cs.toArray t)):=
  y7b (nb:=⟨cs,1,false,0,[]⟩) (cs:=cs.toArray) (e:=t) (fr:=(0,0)) (fin:=cs.length) hs.1 (by rfl) rfl rfl rfl (Nat.le_refl _) (by simp) (fun i _ h=>by omega) (fun h=>absurd rfl h) (Nat.zero_le _) (fun p hp=>by cases hp)
   (fun i v hv=>⟨v,by simpa using hv,.scalar (hval v (List.mem_of_getElem? hv))⟩)
 have hnew:hget (p8a r.H ⟨cs,1,false,0,[]⟩) r.H.length=some ⟨cs,1,false,0,[]⟩:=by simp [p8a,n1a]
 have hold : ∀ h,h<r.H.length→hget (p8a r.H ⟨cs,1,false,0,[]⟩) h=hget r.H h:=fun h hh=>by rw [p8a,g5a hh]
 refine ⟨⟨r.n,r.ψ,fun h=>h==r.H.length || r.k h,p8a r.H ⟨cs,1,false,0,[]⟩⟩,.slice (some ⟨r.H.length,0,none⟩) cs.length cs.length,_,_,he,?_,?_,hst,?_,?_⟩
 ·refine ⟨Nat.le_refl _,fun _ _=>rfl,hst.len,fun h b hk hg=>⟨by simp [hk],b,?_,rfl,rfl⟩,fun h b hh hg=>⟨b,by rwa [hold h hh] at hg,rfl⟩⟩
  rw [hold h (e7a hg)]
  exact hg
 ·intro S hS
  refine ⟨hS.n,fun o cells ho => ?_,fun id hid => ?_,hS.inj⟩
  ·obtain ⟨b,g,hw,hl,hk,hd⟩:=hS.obj o cells ho
   have hlt:=e7a g
   refine ⟨b,(hold _ hlt).trans g,hw,hl,by simp [hk,Nat.ne_of_lt hlt],hd.mono ?_⟩
   refine ⟨Nat.le_refl _,fun _ _=>rfl,hst.len,fun h b hk hg=>⟨by simp [hk],b,?_,rfl,rfl⟩,fun h b hh hg=>⟨b,by rwa [hold h hh] at hg,rfl⟩⟩
   rw [hold h (e7a hg)]
   exact hg
  ·obtain ⟨b,g,hw,hk⟩:=hS.own id hid
   exact ⟨b,(hold _ (e7a g)).trans g,hw,by simp [hk]⟩
 ·refine .sl none 1 cs.length (cs.map ofS) cs r.H.length 0 cs.length _ (by simp) hnew rfl ?_ (Nat.le_refl _) (by simp) (by simp) (fun id h=>by cases h) (fun i h1 h2 => ?_)
  ·have:=t1a (H:=p8a r.H ⟨cs,1,false,0,[]⟩) (h:=r.H.length) (o:=0) (n:=cs.length) hnew (by simp)
   simpa using this
  ·rw [List.getElem_map]
   have:=hval cs[i] (List.getElem_mem _)
   exact .ofS _
 ·have:=h3a.sl (n:=(p8a r.H ⟨cs,1,false,0,[]⟩).length) (φ:=u0b φ r.H.length ⟨w.heap.size,0,cs.length,1⟩) r.H.length 0 cs.length cs.length cs.length (by simp [p8a]) (Nat.le_refl _) (Nat.le_refl _) (by simp [i2a])
  simpa [i2a] using this
theorem a3a.n5c {P:Program} {orc:c3a} {c:o2e} (hi : ∀ f args d,DM.n5c c f args d → ∀ S,orc f args S d S) {f:FuncId} {us cs:List Value} {S:Mem} (h:c f us cs):a3a P orc f (us.map ofV) S fun d S'=>S'=S∧d = .sl none 1 cs.length (cs.map ofS):=
 ⟨_,_,.orc (hi _ _ _ ⟨us,cs,h,rfl,rfl⟩ _),rfl,rfl⟩
theorem b5d {r:Rl} {φ:Nat→AM.Place} {w:World} (hs:Sim φ r.H w) {own:Option Nat} {n:Nat} {cs:List Value} (hsc : ∀ u∈cs,b3a u=true) (hb:cs.map (fun v=>toV (ofS v))=cs.map some) {v v':Value}
  (hd:h2a r (.sl own 1 n (cs.map ofS)) v) (hv:h3a r.H.length φ v v') :
  (n=0∧cs=[] ∧ ∃ a c,v' = .slice a 0 c)∨(n=cs.length ∧ ∃ bk o c,v' = .slice (some ⟨bk,o,none⟩) cs.length c∧cs.length≤c∧bk<w.heap.size ∧ ∀ j x,cs[j]?=some x→w.cell? ⟨bk,o+j,none⟩=some x):=by
 generalize hx:cs.map ofS=xs at hd
 cases hd with
 | slE sz v h=>
  left
  refine ⟨rfl,by simpa using hx,?_⟩
  rcases h with rfl | rfl
  ·cases hv;exact ⟨_,_,rfl⟩
  ·cases hv;exact ⟨_,_,rfl⟩
 | sl own sz len cells vs h o m b hk hg hz hr hm hl hs1 ho hc=>
  subst hx
  have hcs:vs=cs:=by
   refine List.ext_getElem (by simpa using hl.symm) fun i h1 h2 => ?_
   have:=hc i (by simpa using h2) h1
   rw [List.getElem_map] at this
   refine p6c this ?_
   have e:=congrArg (fun l=>l[i]?) hb
   simpa [h2] using e
  subst hcs
  have hn:n=vs.length:=by simpa using hs1.symm
  subst hn
  obtain ⟨b',hg',hle,hvs⟩:=w6a hr
  rw [hg] at hg'
  cases hg'
  have hcell : ∀ j x,vs[j]?=some x→w.cell? ⟨(φ h).B,(φ h).base+o+j,none⟩=some x:=by
   intro j x hj
   obtain ⟨c,e,fr,hB,g1,g2,g3,g4,g5⟩:=hs.cov h b hg
   have hj':b.cells[o+j]?=some x:=by
    rw [hvs,List.getElem?_take] at hj
    split at hj
    ·simpa using hj
    ·cases hj
   obtain ⟨x',hx',hr'⟩:=g4 (o+j) x hj'
   have:x'=x:=by
    exact hr'.n2a (hsc x (List.mem_of_getElem? hj))
   subst this
   simp only [World.cell?,hB]
   simpa [Nat.add_assoc] using hx'
  have hbk:(φ h).B<w.heap.size:=by
   obtain ⟨c,e,fr,hB,_⟩:=hs.cov h b hg
   exact (Array.getElem?_eq_some_iff.1 hB).1
  generalize hq:vs.length=q at hv
  cases hv with
  | sl _ _ _ _ c hn hl' hmc hf=>subst hq;exact .inr ⟨rfl,_,_,c,rfl,by omega,hbk,hcell⟩
  | e1b _ _ bb hn=>exact .inl ⟨rfl,List.eq_nil_of_length_eq_zero hq,_,_,rfl⟩
end Go.DM
namespace Go.DM
open Go Go.AM Go.RowKit
section
variable {P:Program} {orc:c3a} {fl sz:Nat} {ops:Array Oper} {loose:List Nat} {Inv:Mem→Prop} {F:Nat} {k:List K} {ρ:e1a} {H:Mem} {Q:h6a→e1a→Mem→Prop}
theorem GoW.c4d {i:Nat} {os:List Oper} {dst:Option Tmp} {c:Call} {ty:TypeId} {pos:String} {after:Array Edge} {g:Nat×Bool} {f:FuncId} {args:List D} {fn:Func} (hd:i9a sz dst) (hc:(Op.call c).operands.toList.all b5a=true)
  (hw : (e9a ops ρ g.1 == some g.2) = true) (ht : h0a ρ (.call c) = some (f, args)) (hf : P.funcs[f]? = some fn) (hn : (fn.name == "runtime.NumGoroutine") = false) (hb : fn.body.isNone = false) (hl : loose.contains i = false)
  (h:a3a P orc f args H fun v H1=>(i<F→Inv H1)∧GoW P orc fl sz ops loose Inv F (i+1) os k (m3a ρ dst v) H1 Q):GoW P orc fl sz ops loose Inv F i (⟨dst,.call c,ty,pos,after,some g⟩::os) k ρ H Q:=fun hi=>by
 obtain ⟨h1,h2⟩:=d6a hi
 obtain ⟨v,H1,hcall,hinv,h⟩:=h
 obtain ⟨l,ρ',H',t,q⟩:=h h2
 have e:e6a ops i=dst:=by simp [e6a,h1]
 rw [← e] at t
 exact ⟨_,ρ',H',.cons ⟨_,h1,hd,.inr ⟨hw,hc,.inr ⟨_,_,_,ht,hf,by simpa using hn,hb,hcall⟩⟩⟩ (fun hm=>by simp [hm] at hl) hinv t,q⟩
end
abbrev o0e:=FuncId→List Value→Value→TypeId→Prop
def l3c (c:o0e):t7a:=fun f args d => ∃ vs u t,c f vs u t∧args=vs.map ofV∧d = .tup [ofS u,.iface t .bot]
structure z5e (P:Program) (A:Beside) (c:o0e):Prop where
 args : ∀ f vs u t,c f vs u t → ∀ x∈vs,f8a x=true∧toV (ofV x)=some x
 val : ∀ f vs u t,c f vs u t→b3a u=true
 run : ∀ f vs u t,c f vs u t → ∀ φ H w,A φ H w→Calls P f vs.toArray w fun e w'=>(∃ N,e = .returned (.tuple #[u,.iface t (.pointer (some ⟨N,0,none⟩))]))∧Below w.heap.size w w'
theorem l4c {P:Program} {A:Beside} {c:o0e} (h:z5e P A c):t8a P A (l3c c):=by
 rintro f args d ⟨us,u,t,hc,rfl,rfl⟩ r φ w hs vs args' dl hargs
 have hvs:=back_eq (r:=r) (us:=us) (vs:=vs) (List.map_congr_left fun x hx=>(h.args _ _ _ _ hc x hx).2) dl
 subst hvs
 have ha:=j5a.of_closed (fun x hx=>(h.args _ _ _ _ hc x hx).1) hargs
 rw [show args'=vs.toArray by rw [← ha]]
 refine (h.run _ _ _ _ hc φ r.H w hs.2).mono fun e w' ⟨⟨N,he⟩,hb⟩ => ?_
 refine ⟨r,.tuple #[u,.iface t (.map (some N))],_,φ,he,.refl r,fun S h=>h,d5b hs.1 hb,.tup _ _ rfl fun i a b => ?_,.tuple _ _ rfl fun i a b => ?_⟩
 ·match i,a,b with
  | 0,_,_=>exact .ofS u
  | 1,_,_=>exact .iface _ _ _ (.bot _)
 ·match i,a,b with
  | 0,_,_=>exact .scalar (h.val _ _ _ _ hc)
  | 1,_,_=>exact .iface _ _ _ (.glob N)
theorem a3a.l3c {P:Program} {orc:c3a} {c:o0e} (hi : ∀ f args d,DM.l3c c f args d → ∀ S,orc f args S d S) {f:FuncId} {us:List Value} {u:Value} {t:TypeId} {S:Mem} (h:c f us u t) :
  a3a P orc f (us.map ofV) S fun d S'=>S'=S∧d = .tup [ofS u,.iface t .bot]:=
 ⟨_,_,.orc (hi _ _ _ ⟨us,u,t,h,rfl,rfl⟩ _),rfl,rfl⟩
theorem z3d {P:Program} {t u:TypeId} {m:Array (String×TypeId)} {x y:Operand} {d:D} (hu:P.underlying t=some (.interface m)):i6a P .neq t x y (.iface u d) .u9a=some (.bool true):=by
 simp [i6a,toV,toS,c1c,hu]
end Go.DM
