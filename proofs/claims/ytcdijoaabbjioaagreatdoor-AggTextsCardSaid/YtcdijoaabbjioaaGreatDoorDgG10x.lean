/- A fold's parts, by the document's reader. -/
import Derived.Test.YtcdijoaabbjioaaGreatDoorDgG9
set_option linter.unusedSimpArgs false
set_option linter.unusedVariables false
namespace Go.Proofs.DgT
open Go Go.DM
set_option maxRecDepth 100000
theorem isT_W {l:List Tok} {i:Nat} {s:ByteArray} : isT l i [s]=isW l i 3 s:=by
 unfold isT isW
 cases l[i]?<;>simp
theorem rWord {M:List D→Mem} {o n0:Nat} (hF:Fam M o n0) (l:List Tok) (i:Nat) (c b w:Int) (s:ByteArray) :
  CallD Tryz.prog O 36 [.ptr o 0,.str s] (M (rC l (i:Int) c b w)) fun d S'=>S'=M (rC l (i:Int) c b w)∧d = .bool (isW l i 1 s):=by
 obtain ⟨m1,m2,m3,m4,m5,m6,m7,m8,m9,m10,m11⟩:=hF.facts
 have mm:=hF.facts
 refine CallD.updE hF ?_
 refine CallD.eb Tryz.func36 rfl Tryz.ntmps36 (by rfl) ?_
 by_cases hi:i<l.length
 ·have e:isW l i 1 s=(decide (l[i].k=1)&&decide (l[i].t=s)):=by simp [isW,hi]
  rw [e]
  by_cases hk:l[i].k=1
  ·by_cases ht:l[i].t=s
   ·repeat' (first|refine Go.a rfl ?_|refine Go.rg ?_|refine GoR.nil ?_|refine Go.ret ?_|refine Go.b rfl ?_|refine Go.rgS dmx (by decide) ?_|(refine GoR.o (by rfl) (by rfl) ?_;(conv=>arg 1;simp only [G,Z,Y,Gx,vV,simprocAttr,fb2,fb3,fb9,fb82,fb87,fb88,mm,rC_at,toksAt hi,Tok.c,hk,ht,beq_self_eq_true,decide_true,show decide ((i:Int)<(l.length:Int))=true by simp;omega]);show GoR ..)|refine GoR.s (by rfl) rfl rfl ?_|(refine GoR.splitG rfl (fun hc => ?_) (fun hc => ?_)<;>simp only [hc])|refine Go.condB rfl (fun hc => ?_) (fun hc => ?_))
    refine ⟨(by first | exact .inl rfl | exact .inr rfl),fin ?_⟩
    rw [resD_tmp (fn:=Tryz.f36) rfl]
    simp only [optThen_some,resultD_tmp,resultD_cell,G,Z,Y,Gx,vV,simprocAttr,fb2,fb3,fb9,fb82,fb87,fb88,mm]
    exact ⟨[],by simp,rC_low,by simp [hk,ht];exact .refl,.bool _⟩
   ·repeat' (first|refine Go.a rfl ?_|refine Go.rg ?_|refine GoR.nil ?_|refine Go.ret ?_|refine Go.b rfl ?_|refine Go.rgS dmx (by decide) ?_|(refine GoR.o (by rfl) (by rfl) ?_;(conv=>arg 1;simp only [G,Z,Y,Gx,vV,simprocAttr,fb2,fb3,fb9,fb82,fb87,fb88,mm,rC_at,toksAt hi,Tok.c,hk,ht,decide_false,beq_self_eq_true,show decide ((i:Int)<(l.length:Int))=true by simp;omega]);show GoR ..)|refine GoR.s (by rfl) rfl rfl ?_|(refine GoR.splitG rfl (fun hc => ?_) (fun hc => ?_)<;>simp only [hc])|refine Go.condB rfl (fun hc => ?_) (fun hc => ?_))
    refine ⟨(by first | exact .inl rfl | exact .inr rfl),fin ?_⟩
    rw [resD_tmp (fn:=Tryz.f36) rfl]
    simp only [optThen_some,resultD_tmp,resultD_cell,G,Z,Y,Gx,vV,simprocAttr,fb2,fb3,fb9,fb82,fb87,fb88,mm]
    exact ⟨[],by simp,rC_low,by simp [hk,ht];exact .refl,.bool _⟩
  ·repeat' (first|refine Go.a rfl ?_|refine Go.rg ?_|refine GoR.nil ?_|refine Go.ret ?_|refine Go.b rfl ?_|refine Go.rgS dmx (by decide) ?_|(refine GoR.o (by rfl) (by rfl) ?_;(conv=>arg 1;simp only [G,Z,Y,Gx,vV,simprocAttr,fb2,fb3,fb9,fb82,fb87,fb88,mm,rC_at,toksAt hi,Tok.c,show (l[i].k==1)=false by simpa using hk,show decide ((i:Int)<(l.length:Int))=true by simp;omega]);show GoR ..)|refine GoR.s (by rfl) rfl rfl ?_|(refine GoR.splitG rfl (fun hc => ?_) (fun hc => ?_)<;>simp only [hc])|refine Go.condB rfl (fun hc => ?_) (fun hc => ?_))
   refine ⟨(by first | exact .inl rfl | exact .inr rfl),fin ?_⟩
   rw [resD_tmp (fn:=Tryz.f36) rfl]
   simp only [optThen_some,resultD_tmp,resultD_cell,G,Z,Y,Gx,vV,simprocAttr,fb2,fb3,fb9,fb82,fb87,fb88,mm]
   exact ⟨[],by simp,rC_low,by simp [hk];exact .refl,.bool _⟩
 ·have e:isW l i 1 s=false:=by simp [isW,show l[i]?=none by simp;omega]
  rw [e]
  repeat' (first|refine Go.a rfl ?_|refine Go.rg ?_|refine GoR.nil ?_|refine Go.ret ?_|refine Go.b rfl ?_|refine Go.rgS dmx (by decide) ?_|(refine GoR.o (by rfl) (by rfl) ?_;(conv=>arg 1;simp only [G,Z,Y,Gx,vV,simprocAttr,fb2,fb3,fb9,fb82,fb87,fb88,mm,rC_at,show decide ((i:Int)<(l.length:Int))=false by simp;omega]);show GoR ..)|refine GoR.s (by rfl) rfl rfl ?_|(refine GoR.splitG rfl (fun hc => ?_) (fun hc => ?_)<;>simp only [hc])|refine Go.condB rfl (fun hc => ?_) (fun hc => ?_))
  refine ⟨(by first | exact .inl rfl | exact .inr rfl),fin ?_⟩
  rw [resD_tmp (fn:=Tryz.f36) rfl]
  simp only [optThen_some,resultD_tmp,resultD_cell,G,Z,Y,Gx,vV,simprocAttr,fb2,fb3,fb9,fb82,fb87,fb88,mm]
  exact ⟨[],by simp,rC_low,.refl,.bool _⟩
def StR (l:List Tok) (M:List D→Mem) (E S':Mem):ER Nat→Prop
 | .ok j=>S'=M (rC l (j:Int) 0 0 0)++E
 | .error (j,e)=>S'=M (rC l (j:Int) 0 e (j:Int))++E
theorem rWantNo {M:List D→Mem} {o n0:Nat} (hF:Fam M o n0) (E:Mem) (l:List Tok) (a c b w:Int) (hb:b≠0) (s:ByteArray) :
  CallD Tryz.prog O 34 [.ptr o 0,.str s] (M (rC l a c b w)++E) fun d S'=>S'=M (rC l a c b w)++E∧d = .tup []:=by
 obtain ⟨m1,m2,m3,m4,m5,m6,m7,m8,m9,m10,m11⟩:=(hF.app E).facts
 have mm:=(hF.app E).facts
 refine CallD.updE (hF.app E) ?_
 refine CallD.eb Tryz.func34 rfl Tryz.ntmps34 (by rfl) ?_
 repeat' (first|refine Go.a rfl ?_|refine Go.rg ?_|refine GoR.nil ?_|refine Go.ret ?_|refine Go.b rfl ?_|(refine GoR.o (by rfl) (by rfl) ?_;(conv=>arg 1;simp only [G,Z,Y,Gx,vV,simprocAttr,fb3,fb82,fb87,mm,rC_at,show (b != 0)=true by simpa using hb]);show GoR ..)|refine Go.condB rfl (fun hc => ?_) (fun hc => ?_))
 refine ⟨(by first | exact .inl rfl | exact .inr rfl),fin ?_⟩
 rw [resD_none (fn:=Tryz.f34) rfl]
 simp only [optThen_some,resultD_tmp,resultD_cell,G,Z,Y,Gx,vV,simprocAttr,fb3,fb82,fb87,mm]
 exact ⟨[],by simp,rC_low,.refl,.tup' .nil⟩
theorem rWant {l:List Tok} (hl:l.length<100000) {M:List D→Mem} {o n0:Nat} (hF:Fam M o n0) (E:Mem) (i:Nat) (hi:i≤l.length) (s:ByteArray) :
  CallD Tryz.prog O 34 [.ptr o 0,.str s] (M (rC l (i:Int) 0 0 0)++E) fun d S'=>StR l M E S' (wX l i s)∧d = .tup []:=by
 have his:=rIs (hF.app E) l i 0 0 0 s
 have hfl:=rFail (hF.app E) l (i:Int) 0 0 2
 rw [isT_W] at his
 obtain ⟨m1,m2,m3,m4,m5,m6,m7,m8,m9,m10,m11⟩:=(hF.app E).facts
 have mm:=(hF.app E).facts
 cases hw:isW l i 3 s with
 | true=>
  have hx:wX l i s = .ok (i+1):=by simp [wX,hw]
  rw [hx]
  rw [hw] at his
  refine CallD.updE (hF.app E) (d2:=.tup []) (c2:=rC l ((i+1:Nat):Int) 0 0 0) ?_
  refine CallD.eb Tryz.func34 rfl Tryz.ntmps34 (by rfl) ?_
  repeat' (first|refine Go.a rfl ?_|refine Go.rg ?_|refine GoR.nil ?_|refine Go.ret ?_|refine Go.b rfl ?_|(refine GoR.o (by rfl) (by rfl) ?_;(conv=>arg 1;simp only [G,Z,Y,Gx,vV,simprocAttr,fb3,fb82,fb87,mm,rC_at,rC_wr,wrap_succ (show i<4611686018427387904 by omega)]);show GoR ..)|(refine GoR.c c93 (by rfl) (by rfl) rfl ?_;(refine CallD.ret2 his ?_))|refine Go.condB rfl (fun hc => ?_) (fun hc => ?_))
  refine ⟨(by first | exact .inl rfl | exact .inr rfl),fin ?_⟩
  rw [resD_none (fn:=Tryz.f34) rfl]
  simp only [optThen_some,resultD_tmp,resultD_cell,G,Z,Y,Gx,vV,simprocAttr,fb3,fb82,fb87,mm]
  exact ⟨[],by simp,rC_low,.refl,.tup' .nil⟩
 | false=>
  have hx:wX l i s = .error (i,2):=by simp [wX,hw]
  rw [hx]
  rw [hw] at his
  refine (CallD.updE (hF.app E) (d2:=.tup []) (c2:=rC l (i:Int) 0 2 (i:Int)) ?_).mono fun d S' ⟨h1,h2⟩=>⟨h1,h2⟩
  refine CallD.eb Tryz.func34 rfl Tryz.ntmps34 (by rfl) ?_
  repeat' (first|refine Go.a rfl ?_|refine Go.rg ?_|refine GoR.nil ?_|refine Go.ret ?_|refine Go.b rfl ?_|(refine GoR.o (by rfl) (by rfl) ?_;(conv=>arg 1;simp only [G,Z,Y,Gx,vV,simprocAttr,fb3,fb82,fb87,mm,rC_at,rC_wr]);show GoR ..)|(refine GoR.c c93 (by rfl) (by rfl) rfl ?_;(refine CallD.ret2 his ?_))|(refine GoR.c c32 (by rfl) (by rfl) rfl ?_;(refine CallD.ret2 hfl ?_))|refine Go.condB rfl (fun hc => ?_) (fun hc => ?_))
  refine ⟨(by first | exact .inl rfl | exact .inr rfl),fin ?_⟩
  rw [resD_none (fn:=Tryz.f34) rfl]
  simp only [optThen_some,resultD_tmp,resultD_cell,G,Z,Y,Gx,vV,simprocAttr,fb3,fb82,fb87,mm]
  exact ⟨[],by simp,rC_low,.refl,.tup' .nil⟩
end Go.Proofs.DgT
namespace Go.Proofs.DgT
open Go Go.DM
set_option maxRecDepth 100000
theorem rExprNo {M:List D→Mem} {o n0:Nat} (hF:Fam M o n0) (l:List Tok) (a c b w:Int) (hb:b≠0) :
  CallD Tryz.prog O 94 [.ptr o 0] (M (rC l a c b w)) fun d S'=>S'=M (rC l a c b w)∧d = .agg nilN.c:=by
 obtain ⟨m1,m2,m3,m4,m5,m6,m7,m8,m9,m10,m11⟩:=hF.facts
 have mm:=hF.facts
 refine CallD.updE hF ?_
 refine CallD.eb Tryz.func94 rfl Tryz.ntmps94 (by rfl) ?_
 repeat' (first|refine Go.a rfl ?_|refine Go.rg ?_|refine GoR.nil ?_|refine Go.ret ?_|refine Go.b rfl ?_|refine Go.rgS dmx (by decide) ?_|refine Go.rgF 13 [8] [] (fun _=>True) dmx (by decide) 8 (by decide) (by decide) rfl rfl rfl rfl dze34 (by simp [AM.scalarV,Value.cells]) (by trivial) ?_|refine GoW.nil rfl ?_|((first|refine GoR.o (by rfl) (by rfl) ?_|refine GoW.o (by rfl) (by rfl) ?_|refine GoW.rd (by rfl) (by rfl) ?_);(conv=>arg 1;simp only [G,Z,Y,Gx,vV,simprocAttr,fb2,fb3,fb9,fb32,fb34,fb82,fb87,mm,rC_at,show (b != 0)=true by simpa using hb]);first|show GoR ..|(show _∧GoW ..;refine ⟨by exact fun _=>trivial,?_⟩)|(show _∧_∧_∧GoW ..;refine ⟨rfl,by trivial,(fun H _=>by simp only [G,Z,Y,Gx,vV,simprocAttr,fb2,fb3,fb9,fb32,fb34,fb82,fb87,mm,rC_at,show (b != 0)=true by simpa using hb]),?_⟩))|refine Go.condB rfl (fun hc => ?_) (fun hc => ?_))
 refine ⟨(by first | exact .inl rfl | exact .inr rfl),fin ?_⟩
 rw [resD_cell (fn:=Tryz.f94) rfl]
 simp only [optThen_some,resultD_tmp,resultD_cell,G,Z,Y,Gx,vV,simprocAttr,fb2,fb3,fb9,fb32,fb34,fb82,fb87,mm]
 exact ⟨_,rfl,rC_low,nil_wf,nd_low _⟩
theorem rExpr {l:List Tok} (hl:l.length<100000) (hw : ∀ t∈l,WordOk t) {M:List D→Mem} {o n0:Nat} (hF:Fam M o n0) (i:Nat) (hi:i≤l.length) :
  (∀ a j,exprX l i = .ok (a,j)→CallD Tryz.prog O 94 [.ptr o 0] (M (rC l (i:Int) 0 0 0)) fun d S'=>S'=M (rC l (j:Int) 0 0 0)∧d = .agg a.c) ∧
  ∀ j e,exprX l i = .error (j,e)→CallD Tryz.prog O 94 [.ptr o 0] (M (rC l (i:Int) 0 0 0)) fun d S'=>S'=M (rC l (j:Int) 0 e (j:Int))∧d = .agg nilN.c:=by
 obtain ⟨r,hr,hg⟩:=ofF_good hw hi
 have hof:=fun S=>refOf hl hw hi hr S
 have hfl:=fun E2 a e=>rFail (hF.app E2) l a 0 0 e
 obtain ⟨m1,m2,m3,m4,m5,m6,m7,m8,m9,m10,m11⟩:=hF.facts
 have mm:=hF.facts
 obtain ⟨nd,⟨i1,n1,e1⟩⟩:=r
 by_cases he:e1=0
 ·subst he
  have hx:exprX l i = .ok (nd,i1):=by simp [exprX,hr]
  refine ⟨fun a j h => ?_,fun j e h=>by rw [hx] at h;cases h⟩
  rw [hx] at h
  cases h
  refine CallD.updE hF ?_
  obtain ⟨op,nm,nn,ks⟩:=nd
  simp only [okN,if_true,Nd.c_mk] at *
  refine CallD.eb Tryz.func94 rfl Tryz.ntmps94 (by rfl) ?_
  repeat' (first|refine Go.a rfl ?_|refine Go.rg ?_|refine GoR.nil ?_|refine Go.ret ?_|refine Go.b rfl ?_|refine Go.rgS dmx (by decide) ?_|refine Go.rgF 13 [8] [] (fun _=>True) dmx (by decide) 8 (by decide) (by decide) rfl rfl rfl rfl dze34 (by simp [AM.scalarV,Value.cells]) (by trivial) ?_|refine GoW.nil rfl ?_|((first|refine GoR.o (by rfl) (by rfl) ?_|refine GoW.o (by rfl) (by rfl) ?_|refine GoW.rd (by rfl) (by rfl) ?_);(conv=>arg 1;simp only [G,Z,Y,Gx,vV,simprocAttr,fb2,fb3,fb9,fb32,fb34,fb82,fb87,mm,rC_at,rC_wr]);first|show GoR ..|(show _∧GoW ..;refine ⟨by exact fun _=>trivial,?_⟩)|(show _∧_∧_∧GoW ..;refine ⟨rfl,by trivial,(fun H _=>by simp only [G,Z,Y,Gx,vV,simprocAttr,fb2,fb3,fb9,fb32,fb34,fb82,fb87,mm,rC_at,rC_wr]),?_⟩))|(refine GoW.c c128 (by rfl) (by rfl) rfl ?_;(refine CallD.ret2 (hof _) ?_);refine ⟨by exact fun _=>trivial,?_⟩)|(refine GoR.c c128 (by rfl) (by rfl) rfl ?_;(refine CallD.ret2 (hof _) ?_))|refine Go.condB rfl (fun hc => ?_) (fun hc => ?_))
  refine ⟨(by first | exact .inl rfl | exact .inr rfl),fin ?_⟩
  rw [resD_cell (fn:=Tryz.f94) rfl]
  simp only [optThen_some,resultD_tmp,resultD_cell,G,Z,Y,Gx,vV,simprocAttr,fb2,fb3,fb9,fb32,fb34,fb82,fb87,mm]
  exact ⟨_,rfl,rC_low,.refl,by have:=nd_low (m:=n0) (.mk op nm nn ks);rwa [Nd.c_mk] at this⟩
 ·have hx:exprX l i = .error (i1,e1):=by simp [exprX,hr,he]
  refine ⟨fun a j h=>(by rw [hx] at h;cases h),fun j e h => ?_⟩
  rw [hx] at h
  cases h
  refine CallD.updE hF ?_
  simp only [okN,if_neg he,nilN,Nd.c_mk] at *
  refine CallD.eb Tryz.func94 rfl Tryz.ntmps94 (by rfl) ?_
  repeat' (first|refine Go.a rfl ?_|refine Go.rg ?_|refine GoR.nil ?_|refine Go.ret ?_|refine Go.b rfl ?_|refine Go.rgS dmx (by decide) ?_|refine Go.rgF 13 [8] [] (fun _=>True) dmx (by decide) 8 (by decide) (by decide) rfl rfl rfl rfl dze34 (by simp [AM.scalarV,Value.cells]) (by trivial) ?_|refine GoW.nil rfl ?_|((first|refine GoR.o (by rfl) (by rfl) ?_|refine GoW.o (by rfl) (by rfl) ?_|refine GoW.rd (by rfl) (by rfl) ?_);(conv=>arg 1;simp only [G,Z,Y,Gx,vV,simprocAttr,fb2,fb3,fb9,fb32,fb34,fb82,fb87,mm,rC_at,rC_wr,show (e1 != 0)=true by simpa using he]);first|show GoR ..|(show _∧GoW ..;refine ⟨by exact fun _=>trivial,?_⟩)|(show _∧_∧_∧GoW ..;refine ⟨rfl,by trivial,(fun H _=>by simp only [G,Z,Y,Gx,vV,simprocAttr,fb2,fb3,fb9,fb32,fb34,fb82,fb87,mm,rC_at,rC_wr,show (e1 != 0)=true by simpa using he]),?_⟩))|(refine GoW.c c128 (by rfl) (by rfl) rfl ?_;(refine CallD.ret2 (hof _) ?_);refine ⟨by exact fun _=>trivial,?_⟩)|(refine GoR.c c128 (by rfl) (by rfl) rfl ?_;(refine CallD.ret2 (hof _) ?_))|(refine GoW.c c32 (by rfl) (by rfl) rfl ?_;(refine CallD.ret2 (hfl _ _ _) ?_);refine ⟨by exact fun _=>trivial,?_⟩)|(refine GoR.c c32 (by rfl) (by rfl) rfl ?_;(refine CallD.ret2 (hfl _ _ _) ?_))|refine Go.condB rfl (fun hc => ?_) (fun hc => ?_))
  refine ⟨(by first | exact .inl rfl | exact .inr rfl),fin ?_⟩
  rw [resD_cell (fn:=Tryz.f94) rfl]
  simp only [optThen_some,resultD_tmp,resultD_cell,G,Z,Y,Gx,vV,simprocAttr,fb2,fb3,fb9,fb32,fb34,fb82,fb87,mm]
  exact ⟨_,rfl,rC_low,.refl,by have:=nd_low (m:=n0) nilN;rwa [nilN,Nd.c_mk] at this⟩
set_option maxHeartbeats 800000 in
theorem rCond {l:List Tok} (hl:l.length<100000) (hw : ∀ t∈l,WordOk t) (hops : ∀ t∈l,opOk t.t=true→t.k=3) {M:List D→Mem} {o n0:Nat} (hF:Fam M o n0) (i:Nat) (hi:i≤l.length) :
  (∀ a j,condX l i = .ok (a,j)→CallD Tryz.prog O 37 [.ptr o 0] (M (rC l (i:Int) 0 0 0)) fun d S'=>S'=M (rC l (j:Int) 0 0 0)∧d = .agg (Cd.c a)) ∧
  ∀ j e,condX l i = .error (j,e) → ∃ c0,CallD Tryz.prog O 37 [.ptr o 0] (M (rC l (i:Int) 0 0 0)) fun d S'=>S'=M (rC l (j:Int) 0 e (j:Int))∧d = .agg (Cd.c c0):=by
 have hex:=fun E2 i hi=>rExpr hl hw (hF.app E2) i hi
 have hno:=fun E2 a c b w hb=>rExprNo (hF.app E2) l a c b w hb
 have hfl:=fun E2 a e=>rFail (hF.app E2) l a 0 0 e
 obtain ⟨m1,m2,m3,m4,m5,m6,m7,m8,m9,m10,m11⟩:=hF.facts
 have mm:=hF.facts
 cases h1:exprX l i with
 | error x=>
  obtain ⟨j,e⟩:=x
  obtain ⟨hjl,he0⟩:=exprX_err hw hi h1
  have hx:condX l i = .error (j,e):=by simp [condX,h1]
  refine ⟨fun a j h=>(by rw [hx] at h;cases h),fun j' e' h => ?_⟩
  rw [hx] at h
  cases h
  refine ⟨⟨⟨#[]⟩,nilN,nilN⟩,CallD.updE hF ?_⟩
  have h1':=fun E2=>(hex E2 i hi).2 j e h1
  have hno':=fun E2=>hno E2 (j:Int) 0 e (j:Int) he0
  have hlow:=DLow.agg' (cd_low (m:=n0) ⟨⟨#[]⟩,nilN,nilN⟩)
  simp only [nilN,Nd.c_mk,Cd.c,List.cons_append,List.nil_append] at *
  refine CallD.eb Tryz.func37 rfl Tryz.ntmps37 (by rfl) ?_
  repeat' (first|refine Go.a rfl ?_|refine Go.rg ?_|refine GoR.nil ?_|refine Go.ret ?_|refine Go.b rfl ?_|refine Go.rgS dmx (by decide) ?_|(refine GoR.o (by rfl) (by rfl) ?_;(conv=>arg 1;simp only [G,Z,Y,Gx,vV,simprocAttr,fb2,fb3,fb9,fb32,fb34,fb82,fb87,fb88,fb93,mm,rC_at,rC_wr,show (e==0)=false by simpa using he0]);show GoR ..)|(refine GoR.c c94 (by rfl) (by rfl) rfl ?_;(first | refine CallD.ret2 (h1' _) ?_ | refine CallD.ret2 (hno' _) ?_))|refine Go.condB rfl (fun hc => ?_) (fun hc => ?_))
  refine ⟨(by first | exact .inl rfl | exact .inr rfl),fin ?_⟩
  rw [resD_cell (fn:=Tryz.f37) rfl]
  simp only [optThen_some,resultD_tmp,resultD_cell,G,Z,Y,Gx,vV,simprocAttr,fb2,fb3,fb9,fb32,fb34,fb82,fb87,fb88,fb93,mm]
  exact ⟨_,rfl,rC_low,.refl,hlow⟩
 | ok x=>
 obtain ⟨a,j⟩:=x
 obtain ⟨hij,hjl⟩:=exprX_le hw hi h1
 have h1':=fun E2=>(hex E2 i hi).1 a j h1
 have bad:condX l i = .error (j,2)→(∀ h:j<l.length,opOk l[j].t=false) → ∃ c0,CallD Tryz.prog O 37 [.ptr o 0] (M (rC l (i:Int) 0 0 0)) fun d S'=>S'=M (rC l (j:Int) 0 2 (j:Int))∧d = .agg (Cd.c c0):=by
  intro hx hk
  refine ⟨⟨⟨#[]⟩,a,nilN⟩,CallD.updE hF ?_⟩
  have hlow:=DLow.agg' (cd_low (m:=n0) ⟨⟨#[]⟩,a,nilN⟩)
  have hwf : ∀ x1 x2 x3 x4,WfL [x1,x2,x3,x4] a.c→Wf (.agg [.str ⟨#[]⟩,x1,x2,x3,x4,.str ⟨#[]⟩,.str ⟨#[]⟩,.int .i64 0,.nils]) (.agg (Cd.c ⟨⟨#[]⟩,a,nilN⟩)):=fun x1 x2 x3 x4 h=>.agg' (.cons .refl (WfL.append h zero_wfl))
  obtain ⟨op1,nm1,n1,ks1⟩:=a
  simp only [Nd.c_mk] at h1' hwf
  refine CallD.eb Tryz.func37 rfl Tryz.ntmps37 (by rfl) ?_
  by_cases h:j<l.length
  ·have hho:=refHolds (orc:=O) l[j].t 0 0
   rw [holds_ok,hk h] at hho
   repeat' (first|refine Go.a rfl ?_|refine Go.rg ?_|refine GoR.nil ?_|refine Go.ret ?_|refine Go.b rfl ?_|refine Go.rgS dmx (by decide) ?_|(refine GoR.o (by rfl) (by rfl) ?_;(conv=>arg 1;simp only [G,Z,Y,Gx,vV,simprocAttr,fb2,fb3,fb9,fb32,fb34,fb82,fb87,fb88,fb93,mm,rC_at,rC_wr,toksAt h,Tok.c,show decide ((j:Int)<(l.length:Int))=true by simp;omega]);show GoR ..)|(refine GoR.c c94 (by rfl) (by rfl) rfl ?_;(refine CallD.ret2 (h1' _) ?_))|(refine GoR.c c40 (by rfl) (by rfl) rfl ?_;(refine CallD.ret2 (hho _) ?_))|(refine GoR.c c32 (by rfl) (by rfl) rfl ?_;(refine CallD.ret2 (hfl _ _ _) ?_))|refine Go.condB rfl (fun hc => ?_) (fun hc => ?_))
   refine ⟨(by first | exact .inl rfl | exact .inr rfl),fin ?_⟩
   rw [resD_cell (fn:=Tryz.f37) rfl]
   simp only [optThen_some,resultD_tmp,resultD_cell,G,Z,Y,Gx,vV,simprocAttr,fb2,fb3,fb9,fb32,fb34,fb82,fb87,fb88,fb93,mm]
   exact ⟨_,rfl,rC_low,hwf _ _ _ _ .refl,hlow⟩
  ·repeat' (first|refine Go.a rfl ?_|refine Go.rg ?_|refine GoR.nil ?_|refine Go.ret ?_|refine Go.b rfl ?_|refine Go.rgS dmx (by decide) ?_|(refine GoR.o (by rfl) (by rfl) ?_;(conv=>arg 1;simp only [G,Z,Y,Gx,vV,simprocAttr,fb2,fb3,fb9,fb32,fb34,fb82,fb87,fb88,fb93,mm,rC_at,rC_wr,show decide ((j:Int)<(l.length:Int))=false by simp;omega]);show GoR ..)|(refine GoR.c c94 (by rfl) (by rfl) rfl ?_;(refine CallD.ret2 (h1' _) ?_))|(refine GoR.c c32 (by rfl) (by rfl) rfl ?_;(refine CallD.ret2 (hfl _ _ _) ?_))|refine Go.condB rfl (fun hc => ?_) (fun hc => ?_))
   refine ⟨(by first | exact .inl rfl | exact .inr rfl),fin ?_⟩
   rw [resD_cell (fn:=Tryz.f37) rfl]
   simp only [optThen_some,resultD_tmp,resultD_cell,G,Z,Y,Gx,vV,simprocAttr,fb2,fb3,fb9,fb32,fb34,fb82,fb87,fb88,fb93,mm]
   exact ⟨_,rfl,rC_low,hwf _ _ _ _ .refl,hlow⟩
 by_cases hj:j<l.length
 rotate_left
 ·have hx:condX l i = .error (j,2):=by simp [condX,h1,show l[j]?=none by simp;omega]
  refine ⟨fun a j h=>(by rw [hx] at h;cases h),fun j' e' h => ?_⟩
  rw [hx] at h
  cases h
  exact bad hx fun h=>absurd h hj
 cases ho:opOk l[j].t with
 | false=>
  have hx:condX l i = .error (j,2):=by simp [condX,h1,hj,ho]
  refine ⟨fun a j h=>(by rw [hx] at h;cases h),fun j' e' h => ?_⟩
  rw [hx] at h
  cases h
  exact bad hx fun _=>ho
 | true=>
  have hk:=hops _ (List.getElem_mem hj) ho
  have hho:=refHolds (orc:=O) l[j].t 0 0
  rw [holds_ok,ho] at hho
  have hj1:j+1≤l.length:=hj
  cases h2:exprX l (j+1) with
  | error x=>
   obtain ⟨j2,e⟩:=x
   have hx:condX l i = .error (j2,e):=by simp [condX,h1,hj,hk,ho,h2]
   refine ⟨fun a j h=>(by rw [hx] at h;cases h),fun j' e' h => ?_⟩
   rw [hx] at h
   cases h
   have h2':=fun E2=>(hex E2 (j+1) hj1).2 j2 e h2
   refine ⟨⟨l[j].t,a,nilN⟩,CallD.updE hF ?_⟩
   have hlow:=DLow.agg' (cd_low (m:=n0) ⟨l[j].t,a,nilN⟩)
   obtain ⟨op1,nm1,n1,ks1⟩:=a
   simp only [nilN,Nd.c_mk,Cd.c,List.cons_append,List.nil_append] at *
   refine CallD.eb Tryz.func37 rfl Tryz.ntmps37 (by rfl) ?_
   repeat' (first|refine Go.a rfl ?_|refine Go.rg ?_|refine GoR.nil ?_|refine Go.ret ?_|refine Go.b rfl ?_|refine Go.rgS dmx (by decide) ?_|(refine GoR.o (by rfl) (by rfl) ?_;(conv=>arg 1;simp only [G,Z,Y,Gx,vV,simprocAttr,fb2,fb3,fb9,fb32,fb34,fb82,fb87,fb88,fb93,mm,rC_at,rC_wr,toksAt hj,Tok.c,show decide ((j:Int)<(l.length:Int))=true by simp;omega,wrap_succ (show j<4611686018427387904 by omega)]);show GoR ..)|(refine GoR.c c94 (by rfl) (by rfl) rfl ?_;(first | refine CallD.ret2 (h1' _) ?_ | refine CallD.ret2 (h2' _) ?_))|(refine GoR.c c40 (by rfl) (by rfl) rfl ?_;(refine CallD.ret2 (hho _) ?_))|refine Go.condB rfl (fun hc => ?_) (fun hc => ?_))
   refine ⟨(by first | exact .inl rfl | exact .inr rfl),fin ?_⟩
   rw [resD_cell (fn:=Tryz.f37) rfl]
   simp only [optThen_some,resultD_tmp,resultD_cell,G,Z,Y,Gx,vV,simprocAttr,fb2,fb3,fb9,fb32,fb34,fb82,fb87,fb88,fb93,mm]
   exact ⟨_,rfl,rC_low,.refl,hlow⟩
  | ok x=>
   obtain ⟨b,j2⟩:=x
   have hx:condX l i = .ok (⟨l[j].t,a,b⟩,j2):=by simp [condX,h1,hj,hk,ho,h2]
   refine ⟨fun a' j' h => ?_,fun j' e' h=>(by rw [hx] at h;cases h)⟩
   rw [hx] at h
   cases h
   have h2':=fun E2=>(hex E2 (j+1) hj1).1 b j2 h2
   refine CallD.updE hF ?_
   have hlow:=DLow.agg' (cd_low (m:=n0) ⟨l[j].t,a,b⟩)
   obtain ⟨op1,nm1,n1,ks1⟩:=a
   obtain ⟨op2,nm2,n2,ks2⟩:=b
   simp only [Nd.c_mk,Cd.c,List.cons_append,List.nil_append] at *
   refine CallD.eb Tryz.func37 rfl Tryz.ntmps37 (by rfl) ?_
   repeat' (first|refine Go.a rfl ?_|refine Go.rg ?_|refine GoR.nil ?_|refine Go.ret ?_|refine Go.b rfl ?_|refine Go.rgS dmx (by decide) ?_|(refine GoR.o (by rfl) (by rfl) ?_;(conv=>arg 1;simp only [G,Z,Y,Gx,vV,simprocAttr,fb2,fb3,fb9,fb32,fb34,fb82,fb87,fb88,fb93,mm,rC_at,rC_wr,toksAt hj,Tok.c,show decide ((j:Int)<(l.length:Int))=true by simp;omega,wrap_succ (show j<4611686018427387904 by omega)]);show GoR ..)|(refine GoR.c c94 (by rfl) (by rfl) rfl ?_;(first | refine CallD.ret2 (h1' _) ?_ | refine CallD.ret2 (h2' _) ?_))|(refine GoR.c c40 (by rfl) (by rfl) rfl ?_;(refine CallD.ret2 (hho _) ?_))|refine Go.condB rfl (fun hc => ?_) (fun hc => ?_))
   refine ⟨(by first | exact .inl rfl | exact .inr rfl),fin ?_⟩
   rw [resD_cell (fn:=Tryz.f37) rfl]
   simp only [optThen_some,resultD_tmp,resultD_cell,G,Z,Y,Gx,vV,simprocAttr,fb2,fb3,fb9,fb32,fb34,fb82,fb87,fb88,fb93,mm]
   exact ⟨_,rfl,rC_low,.refl,hlow⟩
end Go.Proofs.DgT
