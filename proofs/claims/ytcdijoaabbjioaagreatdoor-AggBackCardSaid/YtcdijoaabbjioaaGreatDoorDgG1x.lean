/- The fold's parser, by the program: looking at a word, telling an error by a panic. -/
import Derived.Test.YtcdijoaabbjioaaGreatDoorDgP9x
import Derived.Test.YtcdijoaabbjioaaGreatDoorDpAx
set_option linter.unusedSimpArgs false
set_option linter.unusedVariables false
namespace Go.Proofs.DgT
open Go Go.DM
set_option maxRecDepth 100000
def gC (l:List Tok) (i:Nat):List D:=[.sl none 4 l.length (t4a l),.int .i64 (i:Int)]
theorem l8c {n:Nat} {l:List Tok} {i:Nat} : e5b n (gC l i):=.cons (.sl none _ _ _ (fun id e=>by cases e) fun j hj=>(s0b l).get j hj) (.cons (.int _ _) .nil)
def isW (l:List Tok) (i:Nat) (k:Int) (s:ByteArray):Bool:=match l[i]? with | some t=>decide (t.k=k)&&decide (t.t=s) | none=>false
theorem o7e {l:List Tok} {M:List D→Mem} {o n:Nat} (hF:Fam M o n) (i:Nat) (k:Int) (s:ByteArray):a3a Tryz.prog O 85 [.ptr o 0,.int .i64 k,.str s] (M (gC l i)) fun d S'=>S'=M (gC l i)∧d = .bool (isW l i k s):=by
 obtain ⟨f1,f2,f3,f4,f5,f6,f7,f8,f9,f10,f11⟩:=hF.facts
 simp only [gC] at *
 refine a3a.e Tryz.func85 rfl Tryz.ntmps85 (by rfl) ?_
 by_cases hi:i<l.length
 ·have e:isW l i k s=(decide (l[i].k=k)&&decide (l[i].t=s)):=by simp [isW,hi]
  rw [e]
  have at1:=q6a hi
  have dl:decide ((i:Int)<(l.length:Int))=true:=by simp;omega
  have hk:(l[i].k==k)=decide (l[i].k=k):=rfl
  by_cases h1:l[i].k=k
  ·by_cases h2:l[i].t=s
   ·repeat' (first|refine Go.a rfl ?_|refine Go.rg ?_|refine GoR.nil ?_|refine Go.ret ?_|refine Go.b rfl ?_|refine Go.rgS dmx (by decide) ?_|(refine GoR.o (by rfl) (by rfl) ?_;(conv=>arg 1;simp only [G,Z,Y,Gx,vV,simprocAttr,fb2,fb3,fb9,d4a,d5a,g7a,f2,at1,Tok.c,dl,h1,h2,beq_self_eq_true,decide_true]);show GoR ..)|refine GoR.s (by rfl) rfl rfl ?_|(refine GoR.b1a rfl (fun hc => ?_) (fun hc => ?_)<;>simp only [hc])|refine Go.b0a rfl (fun hc => ?_) (fun hc => ?_))
    refine ⟨(by first | exact .inl rfl | exact .inr rfl),fin ?_⟩
    rw [a8a (fn:=Tryz.f85) rfl]
    simp only [a0a,a2a,a1a,G,Z,Y,Gx,vV,simprocAttr,fb2,fb3,fb9,d4a,d5a,g7a]
    exact ⟨_,[],by simp,.bool,by simp [h1,h2]⟩
   ·repeat' (first|refine Go.a rfl ?_|refine Go.rg ?_|refine GoR.nil ?_|refine Go.ret ?_|refine Go.b rfl ?_|refine Go.rgS dmx (by decide) ?_|(refine GoR.o (by rfl) (by rfl) ?_;(conv=>arg 1;simp only [G,Z,Y,Gx,vV,simprocAttr,fb2,fb3,fb9,d4a,d5a,g7a,f2,at1,Tok.c,dl,h1,beq_self_eq_true,decide_true,h2,decide_false]);show GoR ..)|refine GoR.s (by rfl) rfl rfl ?_|(refine GoR.b1a rfl (fun hc => ?_) (fun hc => ?_)<;>simp only [hc])|refine Go.b0a rfl (fun hc => ?_) (fun hc => ?_))
    refine ⟨(by first | exact .inl rfl | exact .inr rfl),fin ?_⟩
    rw [a8a (fn:=Tryz.f85) rfl]
    simp only [a0a,a2a,a1a,G,Z,Y,Gx,vV,simprocAttr,fb2,fb3,fb9,d4a,d5a,g7a]
    exact ⟨_,[],by simp,.bool,by simp [h1,h2]⟩
  ·repeat' (first|refine Go.a rfl ?_|refine Go.rg ?_|refine GoR.nil ?_|refine Go.ret ?_|refine Go.b rfl ?_|refine Go.rgS dmx (by decide) ?_|(refine GoR.o (by rfl) (by rfl) ?_;(conv=>arg 1;simp only [G,Z,Y,Gx,vV,simprocAttr,fb2,fb3,fb9,d4a,d5a,g7a,f2,at1,Tok.c,dl,show (l[i].k==k)=false by simpa using h1,h1,decide_false]);show GoR ..)|refine GoR.s (by rfl) rfl rfl ?_|(refine GoR.b1a rfl (fun hc => ?_) (fun hc => ?_)<;>simp only [hc])|refine Go.b0a rfl (fun hc => ?_) (fun hc => ?_))
   refine ⟨(by first | exact .inl rfl | exact .inr rfl),fin ?_⟩
   rw [a8a (fn:=Tryz.f85) rfl]
   simp only [a0a,a2a,a1a,G,Z,Y,Gx,vV,simprocAttr,fb2,fb3,fb9,d4a,d5a,g7a]
   exact ⟨_,[],by simp,.bool,by simp [h1]⟩
 ·have e:isW l i k s=false:=by simp [isW,show l[i]?=none by simp;omega]
  rw [e]
  have dl:decide ((i:Int)<(l.length:Int))=false:=by simp;omega
  repeat' (first|refine Go.a rfl ?_|refine Go.rg ?_|refine GoR.nil ?_|refine Go.ret ?_|refine Go.b rfl ?_|refine Go.rgS dmx (by decide) ?_|(refine GoR.o (by rfl) (by rfl) ?_;(conv=>arg 1;simp only [G,Z,Y,Gx,vV,simprocAttr,fb2,fb3,fb9,d4a,d5a,g7a,f2,dl]);show GoR ..)|refine GoR.s (by rfl) rfl rfl ?_|(refine GoR.b1a rfl (fun hc => ?_) (fun hc => ?_)<;>simp only [hc])|refine Go.b0a rfl (fun hc => ?_) (fun hc => ?_))
  refine ⟨(by first | exact .inl rfl | exact .inr rfl),fin ?_⟩
  rw [a8a (fn:=Tryz.f85) rfl]
  simp only [a0a,a2a,a1a,G,Z,Y,Gx,vV,simprocAttr,fb2,fb3,fb9,d4a,d5a,g7a]
  exact ⟨_,[],by simp,.bool,rfl⟩
def g0d (i:Nat) (e:Int):D:=.iface 75 (.agg [.int .i64 (i:Int),.int .i64 e])
theorem a4d {M:List D→Mem} {o n:Nat} (_hF:Fam M o n) (c:List D) (e:Int):a3a Tryz.prog O 86 [.ptr o 0,.bool true,.int .i64 e] (M c) fun d S'=>S'=M c∧d = .tup []:=by
 refine a3a.e Tryz.func86 rfl Tryz.ntmps86 (by rfl) ?_
 repeat' (first|refine Go.a rfl ?_|refine Go.rg ?_|refine GoR.nil ?_|refine Go.ret ?_|refine Go.b rfl ?_|(refine GoR.o (by rfl) (by rfl) ?_;(conv=>arg 1;simp only [G,Z,Y,Gx,vV,simprocAttr,fb3,c8a,d4a,j2a,g7a]);show GoR ..)|refine Go.b0a rfl (fun hc => ?_) (fun hc => ?_))
 refine ⟨(by first | exact .inl rfl | exact .inr rfl),fin ?_⟩
 rw [o4c (fn:=Tryz.f86) rfl]
 simp only [a0a,a2a,a1a,G,Z,Y,Gx,vV,simprocAttr,fb3,c8a,d4a,j2a,g7a]
 exact ⟨_,[],by simp,Wk.of_low (.a2b .nil),rfl⟩
theorem g3c {l:List Tok} {M:List D→Mem} {o n:Nat} (hF:Fam M o n) (i:Nat) (e:Int):i5a Tryz.prog O 86 [.ptr o 0,.bool false,.int .i64 e] (M (gC l i)) fun d S'=>S'=M (gC l i)∧d=g0d i e:=by
 obtain ⟨f1,f2,f3,f4,f5,f6,f7,f8,f9,f10,f11⟩:=hF.facts
 simp only [gC] at *
 refine i5a.body Tryz.func86 rfl Tryz.ntmps86 (by rfl) ?_
 repeat' (first|refine Go.a rfl ?_|refine Go.rgP (id:=1) ?_|refine Go.rg ?_|refine GoR.nil ?_|refine Go.ret ?_|refine Go.b rfl ?_|refine GoP.nil ?_|refine GoP.p rfl (by rfl) ⟨_,_,rfl⟩ ?_|(refine GoR.o (by rfl) (by rfl) ?_;(conv=>arg 1;simp only [G,Z,Y,Gx,vV,simprocAttr,fb3,c8a,d4a,j2a,g7a,f2]);show GoR ..)|(refine GoP.o (by rfl) (by rfl) ?_;(conv=>arg 1;simp only [G,Z,Y,Gx,vV,simprocAttr,fb3,c8a,d4a,j2a,g7a,f2]);show GoP ..)|refine Go.b0a rfl (fun hc => ?_) (fun hc => ?_))
 refine Go.pan rfl ⟨rfl,rfl,rfl⟩
end Go.Proofs.DgT
namespace Go.Proofs.DgT
open Go Go.DM
set_option maxRecDepth 100000
theorem i5a.b2a {P:Program} {orc:c3a} {f:FuncId} {args:List D} {S X:Mem} {Y:D} {Q:D→Mem→Prop} (h:i5a P orc f args S fun d S'=>S'=X∧d=Y) (hq:Q Y X):i5a P orc f args S Q:=by
 obtain ⟨d,ρ,H',hb,rfl,rfl⟩:=h
 exact ⟨d,ρ,_,hb,hq⟩
theorem i5a.w8a {P:Program} {orc:c3a} {f:FuncId} {args:List D} {S:Mem} {M:List D→Mem} {Y:D} {Q:D→Mem→Prop} (h:i5a P orc f args S fun d S'=>d=Y ∧ ∃ c E,S'=M c++E) (hq : ∀ c E,Q Y (M c++E)):i5a P orc f args S Q:=by
 obtain ⟨d,ρ,H',hb,rfl,c,E,rfl⟩:=h
 exact ⟨d,ρ,_,hb,hq c E⟩
def c0d (f:FuncId) (args:List D) (l:List Tok) (M:List D→Mem) (i:Nat):Except (Nat×Int) (D×Nat)→Prop
 | .ok (d,i')=>a3a Tryz.prog O f args (M (gC l i)) fun d' S'=>S'=M (gC l i')∧d'=d
 | .error (i',e)=>i5a Tryz.prog O f args (M (gC l i)) fun d' S'=>d'=g0d i' e ∧ ∃ c E,S'=M c++E
def c0e (l:List Tok) (i:Nat) (k:Int) (s:ByteArray):Except (Nat×Int) (D×Nat):=if isW l i k s then .ok (.tup [],i+1) else .error (i,2)
theorem h0d {l:List Tok} (hl:l.length<100000) {M:List D→Mem} {o n:Nat} (hF:Fam M o n) (i:Nat) (hi:i≤l.length) (k:Int) (s:ByteArray):c0d 83 [.ptr o 0,.int .i64 k,.str s] l M i (c0e l i k s):=by
 obtain ⟨m1,m2,m3,m4,m5,m6,m7,m8,m9,m10,m11⟩:=hF.facts
 have mm:=hF.facts
 have his:=o7e (l:=l) hF i k s
 have hbad:=g3c (l:=l) hF i 2
 have hok:=fun c=>a4d hF c 2
 unfold c0e
 cases hw:isW l i k s with
 | true=>
  simp only [if_true]
  show a3a _ _ _ _ _ _
  refine a3a.b0c hF ?_
  rw [hw] at his
  simp only [gC] at *
  refine a3a.eb Tryz.func83 rfl Tryz.ntmps83 (by rfl) ?_
  repeat' (first|refine Go.a rfl ?_|refine Go.rg ?_|refine GoR.nil ?_|refine Go.ret ?_|refine Go.b rfl ?_|(refine GoR.o (by rfl) (by rfl) ?_;(conv=>arg 1;simp only [G,Z,Y,Gx,vV,simprocAttr,fb3,d4a,g7a,mm,b9a (show i<4611686018427387904 by omega)]);show GoR ..)|(refine GoR.c c85 (by rfl) (by rfl) rfl ?_;(refine a3a.b2a his ?_))|(refine GoR.c c86 (by rfl) (by rfl) rfl ?_;(refine a3a.b2a (hok _) ?_))|refine Go.b0a rfl (fun hc => ?_) (fun hc => ?_))
  refine ⟨(by first | exact .inl rfl | exact .inr rfl),fin ?_⟩
  rw [o4c (fn:=Tryz.f83) rfl]
  simp only [a0a,a2a,a1a,G,Z,Y,Gx,vV,simprocAttr,fb3,d4a,g7a,mm]
  exact ⟨[],by simp,l8c (i:=i+1),.refl,.a2b .nil⟩
 | false=>
  simp only [Bool.false_eq_true,if_false]
  show i5a _ _ _ _ _ _
  rw [hw] at his
  simp only [gC] at *
  refine i5a.body Tryz.func83 rfl Tryz.ntmps83 (by rfl) ?_
  repeat' (first|refine Go.a rfl ?_|refine Go.rgP (id:=0) ?_|refine Go.rg ?_|refine GoR.nil ?_|refine Go.ret ?_|refine Go.b rfl ?_|refine GoP.nil ?_|refine GoP.p rfl (by rfl) ⟨_,_,rfl⟩ ?_|(refine GoP.cP c86 (by rfl) (by rfl) rfl ?_;(refine i5a.b2a hbad ?_))|(refine GoR.o (by rfl) (by rfl) ?_;(conv=>arg 1;simp only [G,Z,Y,Gx,vV,simprocAttr,fb3,d4a,g7a,m1,m2]);show GoR ..)|(refine GoP.c c85 (by rfl) (by rfl) rfl ?_;(refine a3a.b2a his ?_))|(refine GoR.c c85 (by rfl) (by rfl) rfl ?_;(refine a3a.b2a his ?_))|(refine GoP.o (by rfl) (by rfl) ?_;(conv=>arg 1;simp only [G,Z,Y,Gx,vV,simprocAttr,fb3,d4a,g7a,m1,m2]);show GoP ..)|refine Go.b0a rfl (fun hc => ?_) (fun hc => ?_))
  exact Go.pan rfl ⟨rfl,rfl,_,[],(List.append_nil _).symm⟩
def q6b (l:List Tok) (i:Nat) (k:Int):Except (Nat×Int) (D×Nat):=match l[i]? with | some t=>if t.k=k then .ok (.agg (Tok.c t),i+1) else .error (i,2) | none=>.error (i,2)
theorem g9d {l:List Tok} (hl:l.length<100000) {M:List D→Mem} {o n:Nat} (hF:Fam M o n) (i:Nat) (hi:i≤l.length) (k:Int):c0d 82 [.ptr o 0,.int .i64 k] l M i (q6b l i k):=by
 have hbad:=fun E=>g3c (l:=l) (hF.app E) i 2
 have hok:=fun E c=>a4d (hF.app E) c 2
 obtain ⟨m1,m2,m3,m4,m5,m6,m7,m8,m9,m10,m11⟩:=hF.facts
 have mm:=hF.facts
 have bad:q6b l i k = .error (i,2)→(∀ h:i<l.length,l[i].k≠k)→c0d 82 [.ptr o 0,.int .i64 k] l M i (q6b l i k):=by
  intro he hk
  rw [he]
  show i5a _ _ _ _ _ _
  simp only [gC] at *
  refine i5a.body Tryz.func82 rfl Tryz.ntmps82 (by rfl) ?_
  by_cases h:i<l.length
  ·have at1:=q6a h
   repeat' (first|refine Go.a rfl ?_|refine Go.m0e (id:=1) 26 dmx (by decide) (by decide) c86 ?_|refine Go.rg ?_|refine GoR.nil ?_|refine Go.ret ?_|refine Go.b rfl ?_|refine Go.rgS dmx (by decide) ?_|(refine GoR.o (by rfl) (by rfl) ?_;(conv=>arg 1;simp only [G,Z,Y,Gx,vV,simprocAttr,fb2,fb3,fb9,d4a,d5a,g7a,m1,m2,m4,at1,Tok.c,show (l[i].k==k)=false by simpa using hk h,show decide ((i:Int)<(l.length:Int))=true by simp;omega]);show GoR ..)|(refine GoP.o (by rfl) (by rfl) ?_;(conv=>arg 1;simp only [G,Z,Y,Gx,vV,simprocAttr,fb2,fb3,fb9,d4a,d5a,g7a,m1,m2,m4,at1,Tok.c,show (l[i].k==k)=false by simpa using hk h,show decide ((i:Int)<(l.length:Int))=true by simp;omega]);show GoP ..)|refine GoP.s (by rfl) rfl rfl ?_|refine GoR.s (by rfl) rfl rfl ?_|(refine GoR.b1a rfl (fun hc => ?_) (fun hc => ?_)<;>simp only [hc])|refine Go.b0a rfl (fun hc => ?_) (fun hc => ?_))
   exact ⟨rfl,_,_,rfl,rfl,i5a.b2a (hbad _) (Go.pan rfl ⟨rfl,rfl,_,_,rfl⟩)⟩
  ·repeat' (first|refine Go.a rfl ?_|refine Go.m0e (id:=1) 26 dmx (by decide) (by decide) c86 ?_|refine Go.rg ?_|refine GoR.nil ?_|refine Go.ret ?_|refine Go.b rfl ?_|refine Go.rgS dmx (by decide) ?_|(refine GoR.o (by rfl) (by rfl) ?_;(conv=>arg 1;simp only [G,Z,Y,Gx,vV,simprocAttr,fb2,fb3,fb9,d4a,d5a,g7a,m1,m2,m4,show decide ((i:Int)<(l.length:Int))=false by simp;omega]);show GoR ..)|(refine GoP.o (by rfl) (by rfl) ?_;(conv=>arg 1;simp only [G,Z,Y,Gx,vV,simprocAttr,fb2,fb3,fb9,d4a,d5a,g7a,m1,m2,m4,show decide ((i:Int)<(l.length:Int))=false by simp;omega]);show GoP ..)|refine GoP.s (by rfl) rfl rfl ?_|refine GoR.s (by rfl) rfl rfl ?_|(refine GoR.b1a rfl (fun hc => ?_) (fun hc => ?_)<;>simp only [hc])|refine Go.b0a rfl (fun hc => ?_) (fun hc => ?_))
   exact ⟨rfl,_,_,rfl,rfl,i5a.b2a (hbad _) (Go.pan rfl ⟨rfl,rfl,_,_,rfl⟩)⟩
 by_cases h:i<l.length
 ·by_cases hk:l[i].k=k
  ·have he:q6b l i k = .ok (.agg (Tok.c l[i]),i+1):=by simp [q6b,h,hk]
   rw [he]
   show a3a _ _ _ _ _ _
   refine a3a.b0c hF ?_
   have at1:=q6a h
   simp only [gC] at *
   refine a3a.eb Tryz.func82 rfl Tryz.ntmps82 (by rfl) ?_
   repeat' (first|refine Go.a rfl ?_|refine Go.rg ?_|refine GoR.nil ?_|refine Go.ret ?_|refine Go.b rfl ?_|refine Go.rgS dmx (by decide) ?_|(refine GoR.o (by rfl) (by rfl) ?_;(conv=>arg 1;simp only [G,Z,Y,Gx,vV,simprocAttr,fb2,fb3,fb9,d4a,d5a,g7a,mm,at1,Tok.c,hk,beq_self_eq_true,show decide ((i:Int)<(l.length:Int))=true by simp;omega,b9a (show i<4611686018427387904 by omega),show IntKind.i64.wrap (((i+1:Nat):Int) - 1)=(i:Int) by rw [wrap64 (by omega) (by omega)];omega]);show GoR ..)|(refine GoR.c c86 (by rfl) (by rfl) rfl ?_;(refine a3a.b2a (hok _ _) ?_))|refine GoR.s (by rfl) rfl rfl ?_|(refine GoR.b1a rfl (fun hc => ?_) (fun hc => ?_)<;>simp only [hc])|refine Go.b0a rfl (fun hc => ?_) (fun hc => ?_))
   refine ⟨(by first | exact .inl rfl | exact .inr rfl),fin ?_⟩
   rw [g3a (fn:=Tryz.f82) rfl]
   simp only [a0a,a2a,a1a,G,Z,Y,Gx,vV,simprocAttr,fb2,fb3,fb9,d4a,d5a,g7a,mm]
   exact ⟨_,rfl,l8c (i:=i+1),by rw [Tok.c,hk];exact .refl,.agg' (j7a l[i])⟩
  ·exact bad (by simp [q6b,h,hk]) fun _=>hk
 ·exact bad (by simp [q6b,show l[i]?=none by simp;omega]) fun h'=>absurd h' h
end Go.Proofs.DgT
namespace Go.Proofs.DgT
open Go Go.DM
set_option maxRecDepth 100000
def r0a (l:List Tok) (i:Nat):Except (Nat×Int) (Nd×Nat):=match ofF l i with | some r=>if r.2.e=0 then .ok (r.1,r.2.i) else .error (r.2.i,r.2.e) | none=>.error (0,0)
def t1c (l:List Tok) (i:Nat):Except (Nat×Int) (D×Nat):=match r0a l i with | .ok (n,j)=>.ok (.agg n.c,j) | .error e=>.error e
theorem g8d {l:List Tok} (hl:l.length<100000) (hw : ∀ t∈l,n6a t) {M:List D→Mem} {o n:Nat} (hF:Fam M o n) (i:Nat) (hi:i≤l.length):c0d 84 [.ptr o 0] l M i (t1c l i):=by
 have hbad:=fun E j e=>g3c (l:=l) (hF.app E) j e
 have hok:=fun E c e=>a4d (hF.app E) c e
 obtain ⟨r,hr,hg⟩:=g6c hw hi
 have hof:=fun S=>s6e hl hi hr S
 obtain ⟨m1,m2,m3,m4,m5,m6,m7,m8,m9,m10,m11⟩:=hF.facts
 have mm:=hF.facts
 obtain ⟨nd,⟨i1,n1,e1⟩⟩:=r
 have hi1:i1≤l.length:=hg.hi
 by_cases he:e1=0
 ·subst he
  have hx:t1c l i = .ok (.agg nd.c,i1):=by simp [t1c,r0a,hr]
  rw [hx]
  show a3a _ _ _ _ _ _
  refine a3a.b0c hF ?_
  obtain ⟨op,nm,nn,ks⟩:=nd
  simp only [okN,if_true,Nd.k0a,gC] at *
  refine a3a.eb Tryz.func84 rfl Tryz.ntmps84 (by rfl) ?_
  repeat' (first|refine Go.a rfl ?_|refine Go.rg ?_|refine GoR.nil ?_|refine Go.ret ?_|refine Go.b rfl ?_|refine Go.rgS dmx (by decide) ?_|refine Go.rgF 13 [8] [] (fun _=>True) dmx (by decide) 8 (by decide) (by decide) rfl rfl rfl rfl d3d (by simp [AM.b3a,Value.cells]) (by trivial) ?_|refine GoW.nil rfl ?_|((first|refine GoR.o (by rfl) (by rfl) ?_|refine GoW.o (by rfl) (by rfl) ?_|refine GoW.rd (by rfl) (by rfl) ?_);(conv=>arg 1;simp only [G,Z,Y,Gx,vV,simprocAttr,fb2,fb3,fb9,c2a,b7a,c8a,d4a,g7a,mm]);first|show GoR ..|(show _∧GoW ..;refine ⟨by exact fun _=>trivial,?_⟩)|(show _∧_∧_∧GoW ..;refine ⟨rfl,by trivial,(fun H _=>by simp only [G,Z,Y,Gx,vV,simprocAttr,fb2,fb3,fb9,c2a,b7a,c8a,d4a,g7a,mm]),?_⟩))|(refine GoW.c c127 (by rfl) (by rfl) rfl ?_;(refine a3a.b2a (hof _) ?_);refine ⟨by exact fun _=>trivial,?_⟩)|(refine GoR.c c127 (by rfl) (by rfl) rfl ?_;(refine a3a.b2a (hof _) ?_))|(refine GoW.c c86 (by rfl) (by rfl) rfl ?_;(refine a3a.b2a (hok _ _ _) ?_);refine ⟨by exact fun _=>trivial,?_⟩)|(refine GoR.c c86 (by rfl) (by rfl) rfl ?_;(refine a3a.b2a (hok _ _ _) ?_))|refine Go.b0a rfl (fun hc => ?_) (fun hc => ?_))
  refine ⟨(by first | exact .inl rfl | exact .inr rfl),fin ?_⟩
  rw [g3a (fn:=Tryz.f84) rfl]
  simp only [a0a,a2a,a1a,G,Z,Y,Gx,vV,simprocAttr,fb2,fb3,fb9,c2a,b7a,c8a,d4a,g7a,mm]
  exact ⟨_,rfl,l8c (i:=i1),.refl,by have:=s3a (m:=n) (.mk op nm nn ks);rwa [Nd.k0a] at this⟩
 ·have hx:t1c l i = .error (i1,e1):=by simp [t1c,r0a,hr,he]
  rw [hx]
  show i5a _ _ _ _ _ _
  simp only [okN,if_neg he,t6a,Nd.k0a,gC] at *
  refine i5a.body Tryz.func84 rfl Tryz.ntmps84 (by rfl) ?_
  repeat' (first|refine Go.a rfl ?_|refine Go.rgP (id:=3) ?_|refine Go.rg ?_|refine GoR.nil ?_|refine Go.ret ?_|refine Go.b rfl ?_|refine Go.rgS dmx (by decide) ?_|refine Go.rgF 13 [8] [] (fun _=>True) dmx (by decide) 8 (by decide) (by decide) rfl rfl rfl rfl d3d (by simp [AM.b3a,Value.cells]) (by trivial) ?_|refine GoP.nil ?_|refine GoP.p rfl (by rfl) ⟨_,_,rfl⟩ ?_|(refine GoP.cP c86 (by rfl) (by rfl) rfl ?_;(refine i5a.b2a (hbad _ _ _) ?_))|refine GoW.nil rfl ?_|((first|refine GoR.o (by rfl) (by rfl) ?_|refine GoW.o (by rfl) (by rfl) ?_|refine GoW.rd (by rfl) (by rfl) ?_);(conv=>arg 1;simp only [G,Z,Y,Gx,vV,simprocAttr,fb2,fb3,fb9,c2a,b7a,c8a,d4a,g7a,mm,show (e1==0)=false by simpa using he]);first|show GoR ..|(show _∧GoW ..;refine ⟨by exact fun _=>trivial,?_⟩)|(show _∧_∧_∧GoW ..;refine ⟨rfl,by trivial,(fun H _=>by simp only [G,Z,Y,Gx,vV,simprocAttr,fb2,fb3,fb9,c2a,b7a,c8a,d4a,g7a,mm,show (e1==0)=false by simpa using he]),?_⟩))|(refine GoP.c c127 (by rfl) (by rfl) rfl ?_;(refine a3a.b2a (hof _) ?_))|(refine GoW.c c127 (by rfl) (by rfl) rfl ?_;(refine a3a.b2a (hof _) ?_);refine ⟨by exact fun _=>trivial,?_⟩)|(refine GoR.c c127 (by rfl) (by rfl) rfl ?_;(refine a3a.b2a (hof _) ?_))|(refine GoP.o (by rfl) (by rfl) ?_;(conv=>arg 1;simp only [G,Z,Y,Gx,vV,simprocAttr,fb2,fb3,fb9,c2a,b7a,c8a,d4a,g7a,mm,show (e1==0)=false by simpa using he]);show GoP ..)|refine Go.b0a rfl (fun hc => ?_) (fun hc => ?_))
  exact Go.pan rfl ⟨rfl,rfl,_,_,rfl⟩
end Go.Proofs.DgT
