/- A fold out of a text, by the program. -/
import Derived.Test.YtcdijoaabbjioaaGreatDoorDgG8
import Derived.Test.YtcdijoaabbjioaaGreatDoorDgP9x
set_option linter.unusedSimpArgs false
set_option linter.unusedVariables false
namespace Go.Proofs.DgT
open Go Go.DM
set_option maxRecDepth 100000
theorem o8e {l:List Tok} (hl:l.length<100000) (hw : ∀ t∈l,n6a t) {M:List D→Mem} {o n:Nat} (hF:Fam M o n) {a:Ag} (h:x3c l = .ok a) :
  a3a Tryz.prog O 30 [.ptr o 0] (M (gC l 0)) fun d S'=>S'=M (gC l l.length)∧d = .agg (Ag.c a):=by
 have hb:=g6d hl hw hF (b:=_) rfl
 rw [h] at hb
 refine a3a.b0c hF (a3a.eb Tryz.func30 rfl Tryz.ntmps30 (by rfl) ?_)
 obtain ⟨e,ρ,H',hbig,he,v,hv,E,hE,hwf⟩:=hb
 exact ⟨e,ρ,H',hbig,he,v,hv,E,hE,l8c,hwf,.agg' (x2c a)⟩
theorem z7e {l:List Tok} (hl:l.length<100000) (hw : ∀ t∈l,n6a t) {M:List D→Mem} {o n:Nat} (hF:Fam M o n) {j:Nat} {e:Int} (h:x3c l = .error (j,e)) :
  i5a Tryz.prog O 30 [.ptr o 0] (M (gC l 0)) fun d S'=>d=g0d j e ∧ ∃ c E,S'=M c++E:=by
 have hb:=g6d hl hw hF (b:=_) rfl
 rw [h] at hb
 refine i5a.body Tryz.func30 rfl Tryz.ntmps30 (by rfl) ?_
 exact hb
theorem Fam.six (S:Mem) (x1 x2 x3 x4 x5:Ob):Fam (fun c=>S++[x1,x2,x3,x4,x5,.obj c]) (S.length+5) (S.length+6):=
 ⟨by omega,fun c=>by simp,fun c=>by simp [b6a,List.getElem?_append_right],fun c c'=>by
  show (S++[x1,x2,x3,x4,x5,.obj c]).set (S.length+5) _=_
  rw [h9c]
  rfl⟩
def b9d:Ag:=⟨⟨#[]⟩,0,t6a,t6a,[]⟩
def w5a (s:ByteArray):ER Ag:=
 match u1c s with
 | .error x=>.error x
 | .ok l=>match x3c l with | .ok a=>.ok a | .error (j,e)=>.error (p3b l j s,e)
def n4e:ER Ag→D
 | .ok a=>.tup [.agg (Ag.c a),.int .i64 0,.int .i64 0]
 | .error (p,e)=>.tup [.agg (Ag.c b9d),.int .i64 (p:Int),.int .i64 e]
theorem r8b {m:Nat} (x:ER Ag):p2a m (n4e x):=by
 cases x with
 | ok a=>exact .a2b (.cons (.agg' (x2c a)) (.cons (.int _ _) (.cons (.int _ _) .nil)))
 | error x=>exact .a2b (.cons (.agg' (x2c _)) (.cons (.int _ _) (.cons (.int _ _) .nil)))
theorem j6c:Wf (.agg zA) (.agg (Ag.c b9d)):=by
 have h:=j7c
 exact .agg' (.cons .refl (.cons .refl (WfL.append h (WfL.append h (.cons .e1d .nil)))))
theorem isNil:i6a Tryz.prog .eql 20 (.tmp 8) (.const .nilIface) .u9a .u9a=some (.bool true):=by kernel_rfl
theorem notNil {u:TypeId} {d:D} : i6a Tryz.prog .eql 20 (.tmp 8) (.const .nilIface) (.iface u d) .u9a=some (.bool false):=by
 simp [i6a,toV,toS,c1c,Tryz.underlying20]
set_option maxHeartbeats 1000000 in
theorem u9d (s:ByteArray) (hs:s.size<1000000) (S:Mem):a3a Tryz.prog O 9 [.str s] S fun d S'=>S'=S∧d=n4e (w5a s):=by
 have htok:=fun S=>m9d s hs S
 cases hlex:u1c s with
 | error x=>
  obtain ⟨p,e⟩:=x
  have he0:=y6d hlex
  have hp:w5a s = .error (p,e):=by simp [w5a,hlex]
  rw [hp]
  simp only [hlex,b5e] at htok
  refine a3a.e Tryz.func9 rfl Tryz.ntmps9 (by rfl) ?_
  repeat' (first|refine Go.a rfl ?_|refine Go.rg ?_|refine GoR.nil ?_|refine Go.ret ?_|refine Go.b rfl ?_|refine Go.rgS dmx (by decide) ?_|refine Go.rgD [1,2] (fun H=>b6a H (S.length+2)=some [.int .i64 (p:Int)]∧b6a H (S.length+3)=some [.int .i64 e]) dmx (by decide) 5 (by decide) (by (constructor<;>simp only [a7a,a5a,a4a])) ?_|refine GoW.nil rfl ?_|((first|refine GoR.o (by rfl) (by rfl) ?_|refine GoW.o (by rfl) (by rfl) ?_|refine GoW.rd (by rfl) (by rfl) ?_);(conv=>arg 1;simp only [G,Z,Y,Gx,vV,simprocAttr,fb2,fb3,fb9,b7a,d7a,d9a,c8a,d4a,g7a,show (e != 0)=true by simpa using he0]);first|show GoR ..|(show _∧GoW ..;refine ⟨by (first|exact fun h=>absurd h (by decide)|(intro _;(constructor<;>simp only [a7a,a5a,a4a]))),?_⟩)|(show _∧_∧_∧GoW ..;refine ⟨rfl,by (constructor<;>simp only [a7a,a5a,a4a]),(fun H hI=>by (try dsimp only at hI);simp only [G,Z,Y,Gx,vV,simprocAttr,fb2,fb3,fb9,b7a,d7a,d9a,c8a,d4a,g7a,show (e != 0)=true by simpa using he0,hI]),?_⟩))|(refine GoW.c c28 (by rfl) (by rfl) rfl ?_;(refine a3a.b2a (htok _) ?_);refine ⟨by (first|exact fun h=>absurd h (by decide)|(intro _;(constructor<;>simp only [a7a,a5a,a4a]))),?_⟩)|(refine GoR.c c28 (by rfl) (by rfl) rfl ?_;(refine a3a.b2a (htok _) ?_))|refine Go.b0a rfl (fun hc => ?_) (fun hc => ?_))
  refine ⟨(by first | exact .inl rfl | exact .inr rfl),fin ?_⟩
  rw [k7a (fn:=Tryz.f9) rfl]
  simp only [a0a,a2a,a1a,G,Z,Y,Gx,vV,simprocAttr,fb2,fb3,fb9,b7a,d7a,d9a,c8a,d4a,g7a]
  exact ⟨_,_,rfl,Wf.y9b (.a2b (.cons j6c .refl)) (r8b (.error (p,e))),rfl⟩
 | ok l=>
  have hll:=y7d hs hlex
  have hw:=z7c hlex
  simp only [hlex,b5e] at htok
  refine a3a.drop (a3a.recv Tryz.func9 rfl Tryz.ntmps9 (by rfl) ?_)
  refine z5b.w5e ?_
  repeat' (first|refine Go.a rfl ?_|refine Go.rg ?_|refine GoR.nil ?_|refine Go.ret ?_|refine Go.b rfl ?_|refine Go.rgS dmx (by decide) ?_|refine Go.rgD [1,2] (fun _=>True) dmx (by decide) 5 (by decide) (by trivial) ?_|refine GoW.nil rfl ?_|((first|refine GoR.o (by rfl) (by rfl) ?_|refine GoW.o (by rfl) (by rfl) ?_|refine GoW.rd (by rfl) (by rfl) ?_);(conv=>arg 1;simp only [G,Z,Y,Gx,vV,simprocAttr,fb2,fb3,fb9,b7a,d7a,d9a,c8a,d4a,g7a]);first|show GoR ..|(show _∧GoW ..;refine ⟨by exact fun _=>trivial,?_⟩)|(show _∧_∧_∧GoW ..;refine ⟨rfl,by trivial,(fun H _=>by simp only [G,Z,Y,Gx,vV,simprocAttr,fb2,fb3,fb9,b7a,d7a,d9a,c8a,d4a,g7a]),?_⟩)))
  refine ⟨rfl,?_⟩
  refine z5b.w5e ?_
  repeat' (first|refine Go.a rfl ?_|refine Go.rg ?_|refine GoR.nil ?_|refine Go.ret ?_|refine Go.b rfl ?_|refine Go.rgS dmx (by decide) ?_|refine Go.rgD [1,2] (fun _=>True) dmx (by decide) 5 (by decide) (by trivial) ?_|refine GoW.nil rfl ?_|((first|refine GoR.o (by rfl) (by rfl) ?_|refine GoW.o (by rfl) (by rfl) ?_|refine GoW.rd (by rfl) (by rfl) ?_);(conv=>arg 1;simp only [G,Z,Y,Gx,vV,simprocAttr,fb2,fb3,fb9,b7a,d7a,d9a,c8a,d4a,g7a]);first|show GoR ..|(show _∧GoW ..;refine ⟨by exact fun _=>trivial,?_⟩)|(show _∧_∧_∧GoW ..;refine ⟨rfl,by trivial,(fun H _=>by simp only [G,Z,Y,Gx,vV,simprocAttr,fb2,fb3,fb9,b7a,d7a,d9a,c8a,d4a,g7a]),?_⟩))|(refine GoW.c c28 (by rfl) (by rfl) rfl ?_;(refine a3a.b2a (htok _) ?_);refine ⟨by exact fun _=>trivial,?_⟩)|(refine GoR.c c28 (by rfl) (by rfl) rfl ?_;(refine a3a.b2a (htok _) ?_)))
  refine ⟨rfl,?_⟩
  refine z5b.w5e ?_
  repeat' (first|refine Go.a rfl ?_|refine Go.rg ?_|refine GoR.nil ?_|refine Go.ret ?_|refine Go.b rfl ?_|refine Go.rgS dmx (by decide) ?_|refine Go.rgD [1,2] (fun _=>True) dmx (by decide) 5 (by decide) (by trivial) ?_|refine GoW.nil rfl ?_|((first|refine GoR.o (by rfl) (by rfl) ?_|refine GoW.o (by rfl) (by rfl) ?_|refine GoW.rd (by rfl) (by rfl) ?_);(conv=>arg 1;simp only [G,Z,Y,Gx,vV,simprocAttr,fb2,fb3,fb9,b7a,d7a,d9a,c8a,d4a,g7a]);first|show GoR ..|(show _∧GoW ..;refine ⟨by exact fun _=>trivial,?_⟩)|(show _∧_∧_∧GoW ..;refine ⟨rfl,by trivial,(fun H _=>by simp only [G,Z,Y,Gx,vV,simprocAttr,fb2,fb3,fb9,b7a,d7a,d9a,c8a,d4a,g7a]),?_⟩)))
  refine ⟨rfl,?_⟩
  refine z5b.h7f (z5b.at (g:=29) (first:=[]) (captured:=[.ptr S.length 0,.ptr (S.length+1) 0,.ptr (S.length+2) 0,.ptr (S.length+3) 0,.ptr (S.length+4) 0]) rfl (by rfl) rfl rfl rfl rfl rfl rfl ?_)
  conv=>arg 1;simp only [G,Z,Y,Gx,vV,simprocAttr,fb2,fb3,fb9,b7a,d7a,d9a,c8a,d4a,g7a]
  refine ⟨rfl,rfl,?_⟩
  cases hA:x3c l with
  | ok a=>
   have hp:w5a s = .ok a:=by simp [w5a,hlex,hA]
   rw [hp]
   have hyes:=o8e (by omega) hw (Fam.six S (.obj [.str s]) (.obj zA) (.obj [.int .i64 0]) (.obj [.int .i64 0]) (.obj [.sl none 4 l.length (t4a l)])) hA
   have hone:((Ag.c a).all D.one=true)∧(Ag.c a).length=11:=by simp [Ag.c,Nd.one,Nd.len,D.one]
   obtain ⟨fn,k,⟨op1,nm1,n1,ks1⟩,⟨op2,nm2,n2,ks2⟩,w⟩:=a
   simp only [gC,zA,Ag.c,Nd.k0a,List.cons_append,List.nil_append] at hyes
   repeat' (first|refine Go.a rfl ?_|refine Go.rg ?_|refine GoR.nil ?_|refine Go.ret ?_|refine Go.b rfl ?_|refine Go.rgS dmx (by decide) ?_|refine Go.rgD [1,2] (fun _=>True) dmx (by decide) 5 (by decide) (by trivial) ?_|refine GoW.nil rfl ?_|((first|refine GoR.o (by rfl) (by rfl) ?_|refine GoW.o (by rfl) (by rfl) ?_|refine GoW.rd (by rfl) (by rfl) ?_);(conv=>arg 1;simp only [G,Z,Y,Gx,vV,simprocAttr,fb2,fb3,fb9,b7a,d7a,d9a,c8a,d4a,g7a]);first|show GoR ..|(show _∧GoW ..;refine ⟨by exact fun _=>trivial,?_⟩)|(show _∧_∧_∧GoW ..;refine ⟨rfl,by trivial,(fun H _=>by simp only [G,Z,Y,Gx,vV,simprocAttr,fb2,fb3,fb9,b7a,d7a,d9a,c8a,d4a,g7a]),?_⟩))|(refine GoW.c c30 (by rfl) (by rfl) rfl ?_;(refine a3a.b2a hyes ?_);refine ⟨by exact fun _=>trivial,?_⟩)|(refine GoR.c c30 (by rfl) (by rfl) rfl ?_;(refine a3a.b2a hyes ?_)))
   refine ⟨.inr (.inl rfl),30,8,_,⟨_,_,_,_,_,Tryz.func29,rfl,by decide,rfl,rfl⟩,by simp,by decide,?_⟩
   show Go _ _ _ _ _ _ (m3a (r1a _) (some 8) .u9a) _ _
   repeat' (first|refine Go.a rfl ?_|refine Go.rg ?_|refine GoR.nil ?_|refine Go.ret ?_|refine Go.b rfl ?_|refine Go.rgS dmx (by decide) ?_|refine Go.rgD [4] (fun _=>True) dmx (by decide) 7 (by decide) (by trivial) ?_|refine GoW.nil rfl ?_|((first|refine GoR.o (by rfl) (by rfl) ?_|refine GoW.o (by rfl) (by rfl) ?_|refine GoW.rd (by rfl) (by rfl) ?_);(conv=>arg 1;simp only [G,Z,Y,Gx,vV,simprocAttr,fb2,fb3,fb9,m9e,b7a,d7a,d9a,c8a,d4a,j2a,d5a,isNil]);first|show GoR ..|(show _∧GoW ..;refine ⟨by exact fun _=>trivial,?_⟩)|(show _∧_∧_∧GoW ..;refine ⟨rfl,by trivial,(fun H _=>by simp only [G,Z,Y,Gx,vV,simprocAttr,fb2,fb3,fb9,m9e,b7a,d7a,d9a,c8a,d4a,j2a,d5a,isNil]),?_⟩)))
   refine ⟨.inl rfl,fin ?_⟩
   rw [k7a (fn:=Tryz.f9) rfl]
   simp only [a0a,a2a,a1a,r6a,a9b,G,Z,Y,Gx,vV,simprocAttr,fb2,fb3,fb9,b7a,d7a,d9a,c8a,d4a,g7a]
   exact ⟨n4e (.ok ⟨fn,k,.mk op1 nm1 n1 ks1,.mk op2 nm2 n2 ks2,w⟩),_,rfl,Wf.y9b (by simp only [n4e,Ag.c,Nd.k0a,List.cons_append,List.nil_append];exact .refl) (r8b _),rfl⟩
  | error x=>
   obtain ⟨j,e⟩:=x
   have hp:w5a s = .error (p3b l j s,e):=by simp [w5a,hlex,hA]
   rw [hp]
   have hno:=z7e (by omega) hw (Fam.six S (.obj [.str s]) (.obj zA) (.obj [.int .i64 0]) (.obj [.int .i64 0]) (.obj [.sl none 4 l.length (t4a l)])) hA
   dsimp only [gC] at hno
   repeat' (first|refine Go.a rfl ?_|refine Go.rgP (id:=6) ?_|refine Go.rg ?_|refine GoR.nil ?_|refine Go.ret ?_|refine Go.b rfl ?_|refine Go.rgS dmx (by decide) ?_|refine Go.rgD [1,2] (fun _=>True) dmx (by decide) 5 (by decide) (by trivial) ?_|refine GoP.nil ?_|refine GoP.p rfl (by rfl) ⟨_,_,rfl⟩ ?_|refine GoW.nil rfl ?_|((first|refine GoR.o (by rfl) (by rfl) ?_|refine GoW.o (by rfl) (by rfl) ?_|refine GoW.rd (by rfl) (by rfl) ?_);(conv=>arg 1;simp only [G,Z,Y,Gx,vV,simprocAttr,fb2,fb3,fb9,b7a,d7a,d9a,c8a,d4a,g7a]);first|show GoR ..|(show _∧GoW ..;refine ⟨by exact fun _=>trivial,?_⟩)|(show _∧_∧_∧GoW ..;refine ⟨rfl,by trivial,(fun H _=>by simp only [G,Z,Y,Gx,vV,simprocAttr,fb2,fb3,fb9,b7a,d7a,d9a,c8a,d4a,g7a]),?_⟩))|(refine GoP.o (by rfl) (by rfl) ?_;(conv=>arg 1;simp only [G,Z,Y,Gx,vV,simprocAttr,fb2,fb3,fb9,b7a,d7a,d9a,c8a,d4a,g7a]);show GoP ..))
   obtain ⟨d0,ρ0,H0,hbig,rfl,c,E,rfl⟩:=hno
   refine GoP.cP c30 (by rfl) (by rfl) rfl ⟨_,_,_,hbig,?_⟩
   refine Go.pan rfl ?_
   refine ⟨.inr (.inr rfl),30,8,_,⟨_,_,_,_,_,Tryz.func29,rfl,by decide,rfl,rfl⟩,by simp,by decide,?_⟩
   show Go _ _ _ _ _ _ (m3a (r1a _) (some 8) (g0d j e)) _ _
   simp only [g0d,zA,List.append_assoc,List.cons_append,List.nil_append]
   by_cases hj:j<l.length
   ·have hpl:p3b l j s=l[j].a:=by simp [p3b,hj]
    have at1:=q6a hj
    repeat' (first|refine Go.a rfl ?_|refine Go.rg ?_|refine GoR.nil ?_|refine Go.ret ?_|refine Go.b rfl ?_|refine Go.rgS dmx (by decide) ?_|refine Go.rgD [4] (fun H=>b6a H (S.length+(E.length+1+1+1+1+1+1))=some [.int .i64 (j:Int),.int .i64 e]) dmx (by decide) 7 (by decide) (by (simp only [a7a,a6a,a5a,a4a])) ?_|refine GoW.nil rfl ?_|((first|refine GoR.o (by rfl) (by rfl) ?_|refine GoW.o (by rfl) (by rfl) ?_|refine GoW.rd (by rfl) (by rfl) ?_);(conv=>arg 1;simp only [G,Z,Y,Gx,vV,simprocAttr,fb2,fb3,fb9,m9e,b7a,d7a,d9a,c8a,d4a,j2a,d5a,notNil,at1,Tok.c,show decide ((j:Int)<(l.length:Int))=true by simp;omega]);first|show GoR ..|(show _∧GoW ..;refine ⟨by (first|exact fun h=>absurd h (by decide)|(intro _;(simp only [a7a,a6a,a5a,a4a]))),?_⟩)|(show _∧_∧_∧GoW ..;refine ⟨rfl,by (simp only [a7a,a6a,a5a,a4a]),(fun H hI=>by (try dsimp only at hI);simp only [G,Z,Y,Gx,vV,simprocAttr,fb2,fb3,fb9,m9e,b7a,d7a,d9a,c8a,d4a,j2a,d5a,notNil,at1,Tok.c,show decide ((j:Int)<(l.length:Int))=true by simp;omega,hI]),?_⟩)))
    refine ⟨.inl rfl,fin ?_⟩
    rw [k7a (fn:=Tryz.f9) rfl]
    simp only [a0a,a2a,a1a,r6a,a9b,G,Z,Y,Gx,vV,simprocAttr,fb2,fb3,fb9,b7a,d7a,d9a,c8a,d4a,g7a]
    exact ⟨n4e (.error (p3b l j s,e)),_,rfl,Wf.y9b (.a2b (.cons j6c (.cons (by rw [hpl];exact .refl) (.cons .refl .nil)))) (r8b _),rfl⟩
   ·have hpl:p3b l j s=s.size:=by simp [p3b,show l[j]?=none by simp;omega]
    repeat' (first|refine Go.a rfl ?_|refine Go.rg ?_|refine GoR.nil ?_|refine Go.ret ?_|refine Go.b rfl ?_|refine Go.rgS dmx (by decide) ?_|refine Go.rgD [4] (fun H=>b6a H (S.length+(E.length+1+1+1+1+1+1))=some [.int .i64 (j:Int),.int .i64 e]) dmx (by decide) 7 (by decide) (by (simp only [a7a,a6a,a5a,a4a])) ?_|refine GoW.nil rfl ?_|((first|refine GoR.o (by rfl) (by rfl) ?_|refine GoW.o (by rfl) (by rfl) ?_|refine GoW.rd (by rfl) (by rfl) ?_);(conv=>arg 1;simp only [G,Z,Y,Gx,vV,simprocAttr,fb2,fb3,fb9,m9e,b7a,d7a,d9a,c8a,d4a,j2a,d5a,notNil,show decide ((j:Int)<(l.length:Int))=false by simp;omega]);first|show GoR ..|(show _∧GoW ..;refine ⟨by (first|exact fun h=>absurd h (by decide)|(intro _;(simp only [a7a,a6a,a5a,a4a]))),?_⟩)|(show _∧_∧_∧GoW ..;refine ⟨rfl,by (simp only [a7a,a6a,a5a,a4a]),(fun H hI=>by (try dsimp only at hI);simp only [G,Z,Y,Gx,vV,simprocAttr,fb2,fb3,fb9,m9e,b7a,d7a,d9a,c8a,d4a,j2a,d5a,notNil,show decide ((j:Int)<(l.length:Int))=false by simp;omega,hI]),?_⟩)))
    refine ⟨.inl rfl,fin ?_⟩
    rw [k7a (fn:=Tryz.f9) rfl]
    simp only [a0a,a2a,a1a,r6a,a9b,G,Z,Y,Gx,vV,simprocAttr,fb2,fb3,fb9,b7a,d7a,d9a,c8a,d4a,g7a]
    exact ⟨n4e (.error (p3b l j s,e)),_,rfl,Wf.y9b (.a2b (.cons j6c (.cons (by rw [hpl];exact .refl) (.cons .refl .nil)))) (r8b _),rfl⟩
end Go.Proofs.DgT
