/- What stands in a fold's brackets, by the document's reader. -/
import Derived.Test.YtcdijoaabbjioaaGreatDoorDgG10x
set_option linter.unusedSimpArgs false
set_option linter.unusedVariables false
namespace Go.Proofs.DgT
open Go Go.DM
set_option maxRecDepth 100000
def zAf (fn:ByteArray):List D:=[.str fn,.int .i64 0,.str ⟨#[]⟩,.str ⟨#[]⟩,.int .i64 0,.nils,.str ⟨#[]⟩,.str ⟨#[]⟩,.int .i64 0,.nils,.nils]
def argsX (l:List Tok) (fn:ByteArray) (nd:Bool×Bool×Bool×Bool) (i1:Nat):ER (Ag×Nat):=
 match kX l nd.1 i1 with
 | .error x=>.error x
 | .ok (k,i2)=>match eX l nd.2.1 i2 with
  | .error x=>.error x
  | .ok (e,i3)=>match byX l nd.2.2.1 i3 with
   | .error x=>.error x
   | .ok (b,i4)=>.ok (⟨fn,k,e,b,[]⟩,i4)
theorem midX_args (l:List Tok) (fn:ByteArray) (nd:Bool×Bool×Bool×Bool):midX l fn nd=match wX l 1 (⟨#[40]⟩:ByteArray) with
  | .error x=>.error x
  | .ok i1=>match argsX l fn nd i1 with
   | .error x=>.error x
   | .ok (a,i4)=>tailX l a.fn a.k a.e a.by_ i4:=by
 unfold midX argsX
 cases wX l 1 (⟨#[40]⟩:ByteArray) with
 | error x=>rfl
 | ok i1=>
  simp only
  cases kX l nd.1 i1 with
  | error x=>rfl
  | ok x=>
   obtain ⟨k,i2⟩:=x
   simp only
   cases eX l nd.2.1 i2 with
   | error x=>rfl
   | ok x=>
    obtain ⟨e,i3⟩:=x
    simp only
    cases byX l nd.2.2.1 i3 with
    | error x=>rfl
    | ok x=>rfl
def agN (a:Ag):List D:=.str a.fn :: .int .i64 a.k::(a.e.c++(a.by_.c++[.nils]))
theorem agN_low {m:Nat} (a:Ag):LowL m (agN a):=.cons (.str _) (.cons (.int _ _) (.append (Nd.low _) (.append (Nd.low _) (.cons .nils .nil))))
def RArgs (l:List Tok) (fn:ByteArray) (M:List D→Mem) (o i:Nat) (x:ER (Ag×Nat)):Prop:=
 (∀ a j,x = .ok (a,j)→CallD Tryz.prog O 35 [.ptr o 0,.agg (zAf fn)] (M (rC l (i:Int) 0 0 0)) fun d S'=>S'=M (rC l (j:Int) 0 0 0)∧d = .agg (agN a)) ∧
 ∀ j e,x = .error (j,e) → ∃ (i':Nat) (a0:Ag),CallD Tryz.prog O 35 [.ptr o 0,.agg (zAf fn)] (M (rC l (i:Int) 0 0 0)) fun d S'=>S'=M (rC l (i':Int) 0 e (j:Int))∧d = .agg (agN a0)
theorem RArgs.ok {l:List Tok} {fn:ByteArray} {M:List D→Mem} {o i:Nat} {a:Ag} {j:Nat} (h:CallD Tryz.prog O 35 [.ptr o 0,.agg (zAf fn)] (M (rC l (i:Int) 0 0 0)) fun d S'=>S'=M (rC l (j:Int) 0 0 0)∧d = .agg (agN a)):RArgs l fn M o i (.ok (a,j)):=
 ⟨fun _ _ e=>by cases e;exact h,fun _ _ e=>by cases e⟩
theorem RArgs.err {l:List Tok} {fn:ByteArray} {M:List D→Mem} {o i:Nat} {j:Nat} {e:Int} (i':Nat) (a0:Ag) (h:CallD Tryz.prog O 35 [.ptr o 0,.agg (zAf fn)] (M (rC l (i:Int) 0 0 0)) fun d S'=>S'=M (rC l (i':Int) 0 e (j:Int))∧d = .agg (agN a0)):RArgs l fn M o i (.error (j,e)):=
 ⟨fun _ _ e=>(by cases e),fun _ _ e=>by cases e;exact ⟨i',a0,h⟩⟩
theorem nil_four:nilN.c=[.str ⟨#[]⟩,.str ⟨#[]⟩,.int .i64 0,.sl none 4 0 []]:=by rw [nilN,Nd.c_mk];rfl
theorem ag_wf (fn:ByteArray) (k:Int) (e b:Nd) {x y:List D} (hx:WfL x e.c) (hy:WfL y b.c):Wf (.agg (.str fn :: .int .i64 k::(x++(y++[.nils])))) (.agg (agN ⟨fn,k,e,b,[]⟩)):=
 .agg' (.cons .refl (.cons .refl (WfL.append hx (WfL.append hy .refl))))
theorem rArgsCount {l:List Tok} (hl:l.length<100000) (hw : ∀ t∈l,WordOk t) {M:List D→Mem} {o n0:Nat} (hF:Fam M o n0) (i:Nat) (hi:i≤l.length):RArgs l (⟨#[99,111,117,110,116]⟩:ByteArray) M o i (argsX l (⟨#[99,111,117,110,116]⟩:ByteArray) (needsF (⟨#[99,111,117,110,116]⟩:ByteArray)) i):=by
 have hx:argsX l (⟨#[99,111,117,110,116]⟩:ByteArray) (needsF (⟨#[99,111,117,110,116]⟩:ByteArray)) i = .ok (⟨(⟨#[99,111,117,110,116]⟩:ByteArray),0,nilN,nilN,[]⟩,i):=rfl
 rw [hx]
 refine .ok (CallD.updE hF ?_)
 obtain ⟨m1,m2,m3,m4,m5,m6,m7,m8,m9,m10,m11⟩:=hF.facts
 have mm:=hF.facts
 have hlow:=DLow.agg' (agN_low (m:=n0) ⟨(⟨#[99,111,117,110,116]⟩:ByteArray),0,nilN,nilN,[]⟩)
 refine CallD.eb Tryz.func35 rfl Tryz.ntmps35 (by rfl) ?_
 repeat' (first|refine Go.a rfl ?_|refine Go.rg ?_|refine GoR.nil ?_|refine Go.ret ?_|refine Go.b rfl ?_|refine Go.rgS dmx (by decide) ?_|(refine GoR.o (by rfl) (by rfl) ?_;(conv=>arg 1;simp only [G,Z,Y,Gx,vV,simprocAttr,fb2,fb3,fb9,fb32,fb34,fb35,fb37,fb82,fb87,fb88,mm,rC_at,rC_wr,zAf]);show GoR ..)|refine GoR.s (by rfl) rfl rfl ?_|(refine GoR.splitG rfl (fun hc => ?_) (fun hc => ?_)<;>simp only [hc])|refine Go.condB rfl (fun hc => ?_) (fun hc => ?_))
 refine ⟨(by first | exact .inl rfl | exact .inr rfl),fin ?_⟩
 rw [resD_cell (fn:=Tryz.f35) rfl]
 simp only [optThen_some,resultD_tmp,resultD_cell,G,Z,Y,Gx,vV,simprocAttr,fb2,fb3,fb9,fb32,fb34,fb35,fb37,fb82,fb87,fb88,mm]
 exact ⟨_,rfl,rC_low,ag_wf (⟨#[99,111,117,110,116]⟩:ByteArray) 0 nilN nilN zero_wfl zero_wfl,hlow⟩
theorem rArgsE {l:List Tok} (hl:l.length<100000) (hw : ∀ t∈l,WordOk t) {M:List D→Mem} {o n0:Nat} (hF:Fam M o n0) (i:Nat) (hi:i≤l.length) (fn:ByteArray) (h1:fn≠(⟨#[99,111,117,110,116]⟩:ByteArray)) (h2:fn≠(⟨#[116,111,112]⟩:ByteArray)) (h3:fn≠(⟨#[102,105,114,115,116]⟩:ByteArray)) (hn:needsF fn=(false,true,false,true)):RArgs l fn M o i (argsX l fn (needsF fn) i):=by
 have hex:=fun E2=>rExpr hl hw (hF.app E2) i hi
 rw [hn]
 cases h:exprX l i with
 | error x=>
  obtain ⟨j,e⟩:=x
  have hx:argsX l fn (false,true,false,true) i = .error (j,e):=by simp [argsX,kX,eX,h]
  rw [hx]
  have h':=fun E2=>(hex E2).2 j e h
  refine .err j ⟨fn,0,nilN,nilN,[]⟩ (CallD.updE hF ?_)
  have hlow:=DLow.agg' (agN_low (m:=n0) ⟨fn,0,nilN,nilN,[]⟩)
  have hwf:=ag_wf fn 0 nilN nilN .refl zero_wfl
  rw [nil_four] at h'
  simp only [nil_four,List.cons_append,List.nil_append] at hwf
  obtain ⟨m1,m2,m3,m4,m5,m6,m7,m8,m9,m10,m11⟩:=hF.facts
  have mm:=hF.facts
  refine CallD.eb Tryz.func35 rfl Tryz.ntmps35 (by rfl) ?_
  repeat' (first|refine Go.a rfl ?_|refine Go.rg ?_|refine GoR.nil ?_|refine Go.ret ?_|refine Go.b rfl ?_|refine Go.rgS dmx (by decide) ?_|(refine GoR.o (by rfl) (by rfl) ?_;(conv=>arg 1;simp only [G,Z,Y,Gx,vV,simprocAttr,fb2,fb3,fb9,fb32,fb34,fb35,fb37,fb82,fb87,fb88,mm,rC_at,rC_wr,zAf,h1,h2,h3,decide_false]);show GoR ..)|(refine GoR.c c94 (by rfl) (by rfl) rfl ?_;(refine CallD.ret2 (h' _) ?_))|refine GoR.s (by rfl) rfl rfl ?_|(refine GoR.splitG rfl (fun hc => ?_) (fun hc => ?_)<;>simp only [hc])|refine Go.condB rfl (fun hc => ?_) (fun hc => ?_))
  refine ⟨(by first | exact .inl rfl | exact .inr rfl),fin ?_⟩
  rw [resD_cell (fn:=Tryz.f35) rfl]
  simp only [optThen_some,resultD_tmp,resultD_cell,G,Z,Y,Gx,vV,simprocAttr,fb2,fb3,fb9,fb32,fb34,fb35,fb37,fb82,fb87,fb88,mm]
  exact ⟨_,rfl,rC_low,hwf,hlow⟩
 | ok x=>
  obtain ⟨a,j⟩:=x
  have hx:argsX l fn (false,true,false,true) i = .ok (⟨fn,0,a,nilN,[]⟩,j):=by simp [argsX,kX,eX,byX,h]
  rw [hx]
  have h':=fun E2=>(hex E2).1 a j h
  refine .ok (CallD.updE hF ?_)
  have hlow:=DLow.agg' (agN_low (m:=n0) ⟨fn,0,a,nilN,[]⟩)
  have hwf:=ag_wf fn 0 a nilN .refl zero_wfl
  obtain ⟨op1,nm1,n1,ks1⟩:=a
  simp only [Nd.c_mk] at h'
  simp only [Nd.c_mk,List.cons_append,List.nil_append] at hwf
  obtain ⟨m1,m2,m3,m4,m5,m6,m7,m8,m9,m10,m11⟩:=hF.facts
  have mm:=hF.facts
  refine CallD.eb Tryz.func35 rfl Tryz.ntmps35 (by rfl) ?_
  repeat' (first|refine Go.a rfl ?_|refine Go.rg ?_|refine GoR.nil ?_|refine Go.ret ?_|refine Go.b rfl ?_|refine Go.rgS dmx (by decide) ?_|(refine GoR.o (by rfl) (by rfl) ?_;(conv=>arg 1;simp only [G,Z,Y,Gx,vV,simprocAttr,fb2,fb3,fb9,fb32,fb34,fb35,fb37,fb82,fb87,fb88,mm,rC_at,rC_wr,zAf,h1,h2,h3,decide_false]);show GoR ..)|(refine GoR.c c94 (by rfl) (by rfl) rfl ?_;(refine CallD.ret2 (h' _) ?_))|refine GoR.s (by rfl) rfl rfl ?_|(refine GoR.splitG rfl (fun hc => ?_) (fun hc => ?_)<;>simp only [hc])|refine Go.condB rfl (fun hc => ?_) (fun hc => ?_))
  refine ⟨(by first | exact .inl rfl | exact .inr rfl),fin ?_⟩
  rw [resD_cell (fn:=Tryz.f35) rfl]
  simp only [optThen_some,resultD_tmp,resultD_cell,G,Z,Y,Gx,vV,simprocAttr,fb2,fb3,fb9,fb32,fb34,fb35,fb37,fb82,fb87,fb88,mm]
  exact ⟨_,rfl,rC_low,hwf,hlow⟩
end Go.Proofs.DgT
namespace Go.Proofs.DgT
open Go Go.DM
set_option maxRecDepth 100000
theorem wX_ok {l:List Tok} {i j:Nat} {s:ByteArray} (h:wX l i s = .ok j):j=i+1∧i<l.length:=by
 unfold wX at h
 by_cases hw:isW l i 3 s=true
 ·rw [if_pos hw] at h
  cases h
  refine ⟨rfl,?_⟩
  by_cases hi:i<l.length
  ·exact hi
  ·simp [isW,show l[i]?=none by simp;omega] at hw
 ·rw [if_neg hw] at h
  cases h
theorem wX_err {l:List Tok} {i j:Nat} {e:Int} {s:ByteArray} (h:wX l i s = .error (j,e)):j=i∧e=2:=by
 unfold wX at h
 by_cases hw:isW l i 3 s=true
 ·rw [if_pos hw] at h;cases h
 ·rw [if_neg hw] at h;cases h;exact ⟨rfl,rfl⟩
theorem rWantOk {l:List Tok} (hl:l.length<100000) {M:List D→Mem} {o n0:Nat} (hF:Fam M o n0) (E:Mem) (i:Nat) (hi:i≤l.length) (s:ByteArray) {j:Nat} (h:wX l i s = .ok j) :
  CallD Tryz.prog O 34 [.ptr o 0,.str s] (M (rC l (i:Int) 0 0 0)++E) fun d S'=>S'=M (rC l (j:Int) 0 0 0)++E∧d = .tup []:=by
 have:=rWant hl hF E i hi s
 rwa [h] at this
theorem rWantBad {l:List Tok} (hl:l.length<100000) {M:List D→Mem} {o n0:Nat} (hF:Fam M o n0) (E:Mem) (i:Nat) (hi:i≤l.length) (s:ByteArray) {j:Nat} {e:Int} (h:wX l i s = .error (j,e)) :
  CallD Tryz.prog O 34 [.ptr o 0,.str s] (M (rC l (i:Int) 0 0 0)++E) fun d S'=>S'=M (rC l (j:Int) 0 e (j:Int))++E∧d = .tup []:=by
 have:=rWant hl hF E i hi s
 rwa [h] at this
theorem needs_first:needsF (⟨#[102,105,114,115,116]⟩:ByteArray)=(false,true,true,true):=rfl
theorem needs_top:needsF (⟨#[116,111,112]⟩:ByteArray)=(true,true,false,true):=rfl
set_option maxHeartbeats 800000 in
theorem rArgsFirst {l:List Tok} (hl:l.length<100000) (hw : ∀ t∈l,WordOk t) {M:List D→Mem} {o n0:Nat} (hF:Fam M o n0) (i:Nat) (hi:i≤l.length):RArgs l (⟨#[102,105,114,115,116]⟩:ByteArray) M o i (argsX l (⟨#[102,105,114,115,116]⟩:ByteArray) (needsF (⟨#[102,105,114,115,116]⟩:ByteArray)) i):=by
 have hex:=fun E2=>rExpr hl hw (hF.app E2)
 have hwn:=fun E2 (a b w:Int) (hb:b≠0) s=>rWantNo hF E2 l a 0 b w hb s
 have hxn:=fun E2 (a b w:Int) (hb:b≠0)=>rExprNo (hF.app E2) l a 0 b w hb
 obtain ⟨m1,m2,m3,m4,m5,m6,m7,m8,m9,m10,m11⟩:=hF.facts
 have mm:=hF.facts
 rw [needs_first]
 rw [nil_four] at hxn
 cases h:exprX l i with
 | error x=>
  obtain ⟨j,e⟩:=x
  obtain ⟨hjl,he0⟩:=exprX_err hw hi h
  have hx:argsX l (⟨#[102,105,114,115,116]⟩:ByteArray) (false,true,true,true) i = .error (j,e):=by simp [argsX,kX,eX,h]
  rw [hx]
  have h':=fun E2=>(hex E2 i hi).2 j e h
  have hwn':=fun E2=>hwn E2 j e j he0 (⟨#[44]⟩:ByteArray)
  have hxn':=fun E2=>hxn E2 j e j he0
  rw [nil_four] at h'
  refine .err j ⟨(⟨#[102,105,114,115,116]⟩:ByteArray),0,nilN,nilN,[]⟩ (CallD.updE hF ?_)
  have hlow:=DLow.agg' (agN_low (m:=n0) ⟨(⟨#[102,105,114,115,116]⟩:ByteArray),0,nilN,nilN,[]⟩)
  have hwf:=ag_wf (⟨#[102,105,114,115,116]⟩:ByteArray) (0) nilN nilN .refl .refl
  simp only [nil_four,List.cons_append,List.nil_append] at hwf
  refine CallD.eb Tryz.func35 rfl Tryz.ntmps35 (by rfl) ?_
  repeat' (first|refine Go.a rfl ?_|refine Go.rg ?_|refine GoR.nil ?_|refine Go.ret ?_|refine Go.b rfl ?_|refine Go.rgS dmx (by decide) ?_|(refine GoR.o (by rfl) (by rfl) ?_;(conv=>arg 1;simp only [G,Z,Y,Gx,vV,simprocAttr,fb2,fb3,fb9,fb32,fb34,fb35,fb37,fb82,fb87,fb88,mm,rC_at,rC_wr,zAf]);show GoR ..)|(refine GoR.c c94 (by rfl) (by rfl) rfl ?_;(first | refine CallD.ret2 (h' _) ?_ | refine CallD.ret2 (hxn' _) ?_))|(refine GoR.c c34 (by rfl) (by rfl) rfl ?_;(refine CallD.ret2 (hwn' _) ?_))|refine GoR.s (by rfl) rfl rfl ?_|(refine GoR.splitG rfl (fun hc => ?_) (fun hc => ?_)<;>simp only [hc])|refine Go.condB rfl (fun hc => ?_) (fun hc => ?_))
  refine ⟨(by first | exact .inl rfl | exact .inr rfl),fin ?_⟩
  rw [resD_cell (fn:=Tryz.f35) rfl]
  simp only [optThen_some,resultD_tmp,resultD_cell,G,Z,Y,Gx,vV,simprocAttr,fb2,fb3,fb9,fb32,fb34,fb35,fb37,fb82,fb87,fb88,mm]
  exact ⟨_,rfl,rC_low,hwf,hlow⟩
 | ok x=>
 obtain ⟨a,j⟩:=x
 obtain ⟨hij,hjl⟩:=exprX_le hw hi h
 have h':=fun E2=>(hex E2 i hi).1 a j h
 cases h2:wX l j (⟨#[44]⟩:ByteArray) with
 | error x=>
  obtain ⟨j2,e2⟩:=x
  obtain ⟨rfl,rfl⟩:=wX_err h2
  have hx:argsX l (⟨#[102,105,114,115,116]⟩:ByteArray) (false,true,true,true) i = .error (j2,2):=by simp [argsX,kX,eX,byX,h,h2]
  rw [hx]
  have hw':=fun E2=>rWantBad hl hF E2 j2 hjl (⟨#[44]⟩:ByteArray) h2
  have hxn':=fun E2=>hxn E2 j2 2 j2 (by decide)
  refine .err j2 ⟨(⟨#[102,105,114,115,116]⟩:ByteArray),0,a,nilN,[]⟩ (CallD.updE hF ?_)
  have hlow:=DLow.agg' (agN_low (m:=n0) ⟨(⟨#[102,105,114,115,116]⟩:ByteArray),0,a,nilN,[]⟩)
  have hwf:=ag_wf (⟨#[102,105,114,115,116]⟩:ByteArray) (0) a nilN .refl .refl
  rw [nil_four] at hwf
  obtain ⟨op1,nm1,n1,ks1⟩:=a
  simp only [Nd.c_mk] at h'
  simp only [Nd.c_mk,List.cons_append,List.nil_append] at hwf
  refine CallD.eb Tryz.func35 rfl Tryz.ntmps35 (by rfl) ?_
  repeat' (first|refine Go.a rfl ?_|refine Go.rg ?_|refine GoR.nil ?_|refine Go.ret ?_|refine Go.b rfl ?_|refine Go.rgS dmx (by decide) ?_|(refine GoR.o (by rfl) (by rfl) ?_;(conv=>arg 1;simp only [G,Z,Y,Gx,vV,simprocAttr,fb2,fb3,fb9,fb32,fb34,fb35,fb37,fb82,fb87,fb88,mm,rC_at,rC_wr,zAf]);show GoR ..)|(refine GoR.c c94 (by rfl) (by rfl) rfl ?_;(first | refine CallD.ret2 (h' _) ?_ | refine CallD.ret2 (hxn' _) ?_))|(refine GoR.c c34 (by rfl) (by rfl) rfl ?_;(refine CallD.ret2 (hw' _) ?_))|refine GoR.s (by rfl) rfl rfl ?_|(refine GoR.splitG rfl (fun hc => ?_) (fun hc => ?_)<;>simp only [hc])|refine Go.condB rfl (fun hc => ?_) (fun hc => ?_))
  refine ⟨(by first | exact .inl rfl | exact .inr rfl),fin ?_⟩
  rw [resD_cell (fn:=Tryz.f35) rfl]
  simp only [optThen_some,resultD_tmp,resultD_cell,G,Z,Y,Gx,vV,simprocAttr,fb2,fb3,fb9,fb32,fb34,fb35,fb37,fb82,fb87,fb88,mm]
  exact ⟨_,rfl,rC_low,hwf,hlow⟩
 | ok j2=>
 obtain ⟨rfl,hj2⟩:=wX_ok h2
 have hw':=fun E2=>rWantOk hl hF E2 j hjl (⟨#[44]⟩:ByteArray) h2
 have hj2l:j+1≤l.length:=hj2
 cases h3:exprX l (j+1) with
 | error x=>
  obtain ⟨j3,e⟩:=x
  have hx:argsX l (⟨#[102,105,114,115,116]⟩:ByteArray) (false,true,true,true) i = .error (j3,e):=by simp [argsX,kX,eX,byX,h,h2,h3]
  rw [hx]
  have h3':=fun E2=>(hex E2 (j+1) hj2l).2 j3 e h3
  rw [nil_four] at h3'
  refine .err j3 ⟨(⟨#[102,105,114,115,116]⟩:ByteArray),0,a,nilN,[]⟩ (CallD.updE hF ?_)
  have hlow:=DLow.agg' (agN_low (m:=n0) ⟨(⟨#[102,105,114,115,116]⟩:ByteArray),0,a,nilN,[]⟩)
  have hwf:=ag_wf (⟨#[102,105,114,115,116]⟩:ByteArray) (0) a nilN .refl .refl
  rw [nil_four] at hwf
  obtain ⟨op1,nm1,n1,ks1⟩:=a
  simp only [Nd.c_mk] at h'
  simp only [Nd.c_mk,List.cons_append,List.nil_append] at hwf
  refine CallD.eb Tryz.func35 rfl Tryz.ntmps35 (by rfl) ?_
  repeat' (first|refine Go.a rfl ?_|refine Go.rg ?_|refine GoR.nil ?_|refine Go.ret ?_|refine Go.b rfl ?_|refine Go.rgS dmx (by decide) ?_|(refine GoR.o (by rfl) (by rfl) ?_;(conv=>arg 1;simp only [G,Z,Y,Gx,vV,simprocAttr,fb2,fb3,fb9,fb32,fb34,fb35,fb37,fb82,fb87,fb88,mm,rC_at,rC_wr,zAf]);show GoR ..)|(refine GoR.c c94 (by rfl) (by rfl) rfl ?_;(first | refine CallD.ret2 (h' _) ?_ | refine CallD.ret2 (h3' _) ?_))|(refine GoR.c c34 (by rfl) (by rfl) rfl ?_;(refine CallD.ret2 (hw' _) ?_))|refine GoR.s (by rfl) rfl rfl ?_|(refine GoR.splitG rfl (fun hc => ?_) (fun hc => ?_)<;>simp only [hc])|refine Go.condB rfl (fun hc => ?_) (fun hc => ?_))
  refine ⟨(by first | exact .inl rfl | exact .inr rfl),fin ?_⟩
  rw [resD_cell (fn:=Tryz.f35) rfl]
  simp only [optThen_some,resultD_tmp,resultD_cell,G,Z,Y,Gx,vV,simprocAttr,fb2,fb3,fb9,fb32,fb34,fb35,fb37,fb82,fb87,fb88,mm]
  exact ⟨_,rfl,rC_low,hwf,hlow⟩
 | ok x=>
  obtain ⟨b,j3⟩:=x
  have hx:argsX l (⟨#[102,105,114,115,116]⟩:ByteArray) (false,true,true,true) i = .ok (⟨(⟨#[102,105,114,115,116]⟩:ByteArray),0,a,b,[]⟩,j3):=by simp [argsX,kX,eX,byX,h,h2,h3]
  rw [hx]
  have h3':=fun E2=>(hex E2 (j+1) hj2l).1 b j3 h3
  refine .ok (CallD.updE hF ?_)
  have hlow:=DLow.agg' (agN_low (m:=n0) ⟨(⟨#[102,105,114,115,116]⟩:ByteArray),0,a,b,[]⟩)
  have hwf:=ag_wf (⟨#[102,105,114,115,116]⟩:ByteArray) (0) a b .refl .refl
  obtain ⟨op1,nm1,n1,ks1⟩:=a
  obtain ⟨op2,nm2,n2,ks2⟩:=b
  simp only [Nd.c_mk] at h' h3'
  simp only [Nd.c_mk,List.cons_append,List.nil_append] at hwf
  refine CallD.eb Tryz.func35 rfl Tryz.ntmps35 (by rfl) ?_
  repeat' (first|refine Go.a rfl ?_|refine Go.rg ?_|refine GoR.nil ?_|refine Go.ret ?_|refine Go.b rfl ?_|refine Go.rgS dmx (by decide) ?_|(refine GoR.o (by rfl) (by rfl) ?_;(conv=>arg 1;simp only [G,Z,Y,Gx,vV,simprocAttr,fb2,fb3,fb9,fb32,fb34,fb35,fb37,fb82,fb87,fb88,mm,rC_at,rC_wr,zAf]);show GoR ..)|(refine GoR.c c94 (by rfl) (by rfl) rfl ?_;(first | refine CallD.ret2 (h' _) ?_ | refine CallD.ret2 (h3' _) ?_))|(refine GoR.c c34 (by rfl) (by rfl) rfl ?_;(refine CallD.ret2 (hw' _) ?_))|refine GoR.s (by rfl) rfl rfl ?_|(refine GoR.splitG rfl (fun hc => ?_) (fun hc => ?_)<;>simp only [hc])|refine Go.condB rfl (fun hc => ?_) (fun hc => ?_))
  refine ⟨(by first | exact .inl rfl | exact .inr rfl),fin ?_⟩
  rw [resD_cell (fn:=Tryz.f35) rfl]
  simp only [optThen_some,resultD_tmp,resultD_cell,G,Z,Y,Gx,vV,simprocAttr,fb2,fb3,fb9,fb32,fb34,fb35,fb37,fb82,fb87,fb88,mm]
  exact ⟨_,rfl,rC_low,hwf,hlow⟩
set_option maxHeartbeats 1600000 in
theorem rArgsTop {l:List Tok} (hl:l.length<100000) (hw : ∀ t∈l,WordOk t) {M:List D→Mem} {o n0:Nat} (hF:Fam M o n0) (i:Nat) (hi:i≤l.length):RArgs l (⟨#[116,111,112]⟩:ByteArray) M o i (argsX l (⟨#[116,111,112]⟩:ByteArray) (needsF (⟨#[116,111,112]⟩:ByteArray)) i):=by
 have hex:=fun E2=>rExpr hl hw (hF.app E2)
 have hwn:=fun E2 (a b w:Int) (hb:b≠0) s=>rWantNo hF E2 l a 0 b w hb s
 have hxn:=fun E2 (a b w:Int) (hb:b≠0)=>rExprNo (hF.app E2) l a 0 b w hb
 have hfl:=fun E2 a e=>rFail (hF.app E2) l a 0 0 e
 obtain ⟨m1,m2,m3,m4,m5,m6,m7,m8,m9,m10,m11⟩:=hF.facts
 have mm:=hF.facts
 rw [needs_top]
 rw [nil_four] at hxn
 have hxn':=fun E2=>hxn E2 i 2 i (by decide)
 have hwn':=fun E2=>hwn E2 i 2 i (by decide) (⟨#[44]⟩:ByteArray)
 by_cases hil:i<l.length
 rotate_left
 ·have hx:argsX l (⟨#[116,111,112]⟩:ByteArray) (true,true,false,true) i = .error (i,2):=by simp [argsX,kX,show l[i]?=none by simp;omega]
  rw [hx]
  refine .err i ⟨(⟨#[116,111,112]⟩:ByteArray),0,nilN,nilN,[]⟩ (CallD.updE hF ?_)
  have hlow:=DLow.agg' (agN_low (m:=n0) ⟨(⟨#[116,111,112]⟩:ByteArray),0,nilN,nilN,[]⟩)
  have hwf:=ag_wf (⟨#[116,111,112]⟩:ByteArray) 0 nilN nilN .refl zero_wfl
  simp only [nil_four,List.cons_append,List.nil_append] at hwf
  refine CallD.eb Tryz.func35 rfl Tryz.ntmps35 (by rfl) ?_
  repeat' (first|refine Go.a rfl ?_|refine Go.rg ?_|refine GoR.nil ?_|refine Go.ret ?_|refine Go.b rfl ?_|refine Go.rgS dmx (by decide) ?_|(refine GoR.o (by rfl) (by rfl) ?_;(conv=>arg 1;simp only [G,Z,Y,Gx,vV,simprocAttr,fb2,fb3,fb9,fb32,fb34,fb35,fb37,fb82,fb87,fb88,mm,rC_at,rC_wr,zAf,show decide ((l.length:Int)≤(i:Int))=true by simp;omega,show decide ((i:Int)≥(l.length:Int))=true by simp;omega]);show GoR ..)|(refine GoR.c c32 (by rfl) (by rfl) rfl ?_;(refine CallD.ret2 (hfl _ _ _) ?_))|(refine GoR.c c34 (by rfl) (by rfl) rfl ?_;(refine CallD.ret2 (hwn' _) ?_))|(refine GoR.c c94 (by rfl) (by rfl) rfl ?_;(refine CallD.ret2 (hxn' _) ?_))|refine GoR.s (by rfl) rfl rfl ?_|(refine GoR.splitG rfl (fun hc => ?_) (fun hc => ?_)<;>simp only [hc])|refine Go.condB rfl (fun hc => ?_) (fun hc => ?_))
  refine ⟨(by first | exact .inl rfl | exact .inr rfl),fin ?_⟩
  rw [resD_cell (fn:=Tryz.f35) rfl]
  simp only [optThen_some,resultD_tmp,resultD_cell,G,Z,Y,Gx,vV,simprocAttr,fb2,fb3,fb9,fb32,fb34,fb35,fb37,fb82,fb87,fb88,mm]
  exact ⟨_,rfl,rC_low,hwf,hlow⟩
 have dlt:decide ((l.length:Int)≤(i:Int))=false:=by simp;omega
 have dge:decide ((i:Int)≥(l.length:Int))=false:=by simp;omega
 by_cases hk:l[i].k=2
 rotate_left
 ·have hx:argsX l (⟨#[116,111,112]⟩:ByteArray) (true,true,false,true) i = .error (i,2):=by simp [argsX,kX,hil,hk]
  rw [hx]
  refine .err i ⟨(⟨#[116,111,112]⟩:ByteArray),0,nilN,nilN,[]⟩ (CallD.updE hF ?_)
  have hlow:=DLow.agg' (agN_low (m:=n0) ⟨(⟨#[116,111,112]⟩:ByteArray),0,nilN,nilN,[]⟩)
  have hwf:=ag_wf (⟨#[116,111,112]⟩:ByteArray) 0 nilN nilN .refl zero_wfl
  simp only [nil_four,List.cons_append,List.nil_append] at hwf
  refine CallD.eb Tryz.func35 rfl Tryz.ntmps35 (by rfl) ?_
  repeat' (first|refine Go.a rfl ?_|refine Go.rg ?_|refine GoR.nil ?_|refine Go.ret ?_|refine Go.b rfl ?_|refine Go.rgS dmx (by decide) ?_|(refine GoR.o (by rfl) (by rfl) ?_;(conv=>arg 1;simp only [G,Z,Y,Gx,vV,simprocAttr,fb2,fb3,fb9,fb32,fb34,fb35,fb37,fb82,fb87,fb88,mm,rC_at,rC_wr,zAf,toksAt hil,Tok.c,dlt,dge,show (l[i].k != 2)=true by simpa using hk]);show GoR ..)|(refine GoR.c c32 (by rfl) (by rfl) rfl ?_;(refine CallD.ret2 (hfl _ _ _) ?_))|(refine GoR.c c34 (by rfl) (by rfl) rfl ?_;(refine CallD.ret2 (hwn' _) ?_))|(refine GoR.c c94 (by rfl) (by rfl) rfl ?_;(refine CallD.ret2 (hxn' _) ?_))|refine GoR.s (by rfl) rfl rfl ?_|(refine GoR.splitG rfl (fun hc => ?_) (fun hc => ?_)<;>simp only [hc])|refine Go.condB rfl (fun hc => ?_) (fun hc => ?_))
  refine ⟨(by first | exact .inl rfl | exact .inr rfl),fin ?_⟩
  rw [resD_cell (fn:=Tryz.f35) rfl]
  simp only [optThen_some,resultD_tmp,resultD_cell,G,Z,Y,Gx,vV,simprocAttr,fb2,fb3,fb9,fb32,fb34,fb35,fb37,fb82,fb87,fb88,mm]
  exact ⟨_,rfl,rC_low,hwf,hlow⟩
 have hk2:(l[i].k != 2)=false:=by simp [hk]
 by_cases hn:l[i].n<1∨16<l[i].n
 ·have hx:argsX l (⟨#[116,111,112]⟩:ByteArray) (true,true,false,true) i = .error (i,1):=by simp [argsX,kX,hil,hk,hn]
  rw [hx]
  have hxn1:=fun E2=>hxn E2 ((i+1:Nat):Int) 1 i (by decide)
  have hwn1:=fun E2=>hwn E2 ((i+1:Nat):Int) 1 i (by decide) (⟨#[44]⟩:ByteArray)
  by_cases hn1:l[i].n<1
  ·have d1:decide (l[i].n<1)=true:=by simpa using hn1
   refine .err (i+1) ⟨(⟨#[116,111,112]⟩:ByteArray),l[i].n,nilN,nilN,[]⟩ (CallD.updE hF ?_)
   have hlow:=DLow.agg' (agN_low (m:=n0) ⟨(⟨#[116,111,112]⟩:ByteArray),l[i].n,nilN,nilN,[]⟩)
   have hwf:=ag_wf (⟨#[116,111,112]⟩:ByteArray) (l[i].n) nilN nilN .refl zero_wfl
   simp only [nil_four,List.cons_append,List.nil_append] at hwf
   refine CallD.eb Tryz.func35 rfl Tryz.ntmps35 (by rfl) ?_
   repeat' (first|refine Go.a rfl ?_|refine Go.rg ?_|refine GoR.nil ?_|refine Go.ret ?_|refine Go.b rfl ?_|refine Go.rgS dmx (by decide) ?_|(refine GoR.o (by rfl) (by rfl) ?_;(conv=>arg 1;simp only [G,Z,Y,Gx,vV,simprocAttr,fb2,fb3,fb9,fb32,fb34,fb35,fb37,fb82,fb87,fb88,mm,rC_at,rC_wr,zAf,toksAt hil,Tok.c,dlt,dge,hk,hk2,wrap_succ (show i<4611686018427387904 by omega),d1]);show GoR ..)|(refine GoR.c c32 (by rfl) (by rfl) rfl ?_;(refine CallD.ret2 (hfl _ _ _) ?_))|(refine GoR.c c34 (by rfl) (by rfl) rfl ?_;(refine CallD.ret2 (hwn1 _) ?_))|(refine GoR.c c94 (by rfl) (by rfl) rfl ?_;(refine CallD.ret2 (hxn1 _) ?_))|refine GoR.s (by rfl) rfl rfl ?_|(refine GoR.splitG rfl (fun hc => ?_) (fun hc => ?_)<;>simp only [hc])|refine Go.condB rfl (fun hc => ?_) (fun hc => ?_))
   refine ⟨(by first | exact .inl rfl | exact .inr rfl),fin ?_⟩
   rw [resD_cell (fn:=Tryz.f35) rfl]
   simp only [optThen_some,resultD_tmp,resultD_cell,G,Z,Y,Gx,vV,simprocAttr,fb2,fb3,fb9,fb32,fb34,fb35,fb37,fb82,fb87,fb88,mm]
   exact ⟨_,rfl,rC_low,hwf,hlow⟩
  ·have d1:decide (l[i].n<1)=false:=by simpa using hn1
   have d2:decide (16<l[i].n)=true:=by simp;omega
   have d3:decide (l[i].n>16)=true:=by simp;omega
   refine .err (i+1) ⟨(⟨#[116,111,112]⟩:ByteArray),l[i].n,nilN,nilN,[]⟩ (CallD.updE hF ?_)
   have hlow:=DLow.agg' (agN_low (m:=n0) ⟨(⟨#[116,111,112]⟩:ByteArray),l[i].n,nilN,nilN,[]⟩)
   have hwf:=ag_wf (⟨#[116,111,112]⟩:ByteArray) (l[i].n) nilN nilN .refl zero_wfl
   simp only [nil_four,List.cons_append,List.nil_append] at hwf
   refine CallD.eb Tryz.func35 rfl Tryz.ntmps35 (by rfl) ?_
   repeat' (first|refine Go.a rfl ?_|refine Go.rg ?_|refine GoR.nil ?_|refine Go.ret ?_|refine Go.b rfl ?_|refine Go.rgS dmx (by decide) ?_|(refine GoR.o (by rfl) (by rfl) ?_;(conv=>arg 1;simp only [G,Z,Y,Gx,vV,simprocAttr,fb2,fb3,fb9,fb32,fb34,fb35,fb37,fb82,fb87,fb88,mm,rC_at,rC_wr,zAf,toksAt hil,Tok.c,dlt,dge,hk,hk2,wrap_succ (show i<4611686018427387904 by omega),d1,d2,d3]);show GoR ..)|(refine GoR.c c32 (by rfl) (by rfl) rfl ?_;(refine CallD.ret2 (hfl _ _ _) ?_))|(refine GoR.c c34 (by rfl) (by rfl) rfl ?_;(refine CallD.ret2 (hwn1 _) ?_))|(refine GoR.c c94 (by rfl) (by rfl) rfl ?_;(refine CallD.ret2 (hxn1 _) ?_))|refine GoR.s (by rfl) rfl rfl ?_|(refine GoR.splitG rfl (fun hc => ?_) (fun hc => ?_)<;>simp only [hc])|refine Go.condB rfl (fun hc => ?_) (fun hc => ?_))
   refine ⟨(by first | exact .inl rfl | exact .inr rfl),fin ?_⟩
   rw [resD_cell (fn:=Tryz.f35) rfl]
   simp only [optThen_some,resultD_tmp,resultD_cell,G,Z,Y,Gx,vV,simprocAttr,fb2,fb3,fb9,fb32,fb34,fb35,fb37,fb82,fb87,fb88,mm]
   exact ⟨_,rfl,rC_low,hwf,hlow⟩
 have d1:decide (l[i].n<1)=false:=by simp;omega
 have d2:decide (16<l[i].n)=false:=by simp;omega
 have d3:decide (l[i].n>16)=false:=by simp;omega
 have hi1:i+1≤l.length:=hil
 cases h2:wX l (i+1) (⟨#[44]⟩:ByteArray) with
 | error x=>
  obtain ⟨j2,e2⟩:=x
  obtain ⟨rfl,rfl⟩:=wX_err h2
  have hx:argsX l (⟨#[116,111,112]⟩:ByteArray) (true,true,false,true) i = .error (i+1,2):=by simp [argsX,kX,hil,hk,hn,h2]
  rw [hx]
  have hw':=fun E2=>rWantBad hl hF E2 (i+1) hi1 (⟨#[44]⟩:ByteArray) h2
  have hxn1:=fun E2=>hxn E2 ((i+1:Nat):Int) 2 ((i+1:Nat):Int) (by decide)
  refine .err (i+1) ⟨(⟨#[116,111,112]⟩:ByteArray),l[i].n,nilN,nilN,[]⟩ (CallD.updE hF ?_)
  have hlow:=DLow.agg' (agN_low (m:=n0) ⟨(⟨#[116,111,112]⟩:ByteArray),l[i].n,nilN,nilN,[]⟩)
  have hwf:=ag_wf (⟨#[116,111,112]⟩:ByteArray) (l[i].n) nilN nilN .refl zero_wfl
  simp only [nil_four,List.cons_append,List.nil_append] at hwf
  refine CallD.eb Tryz.func35 rfl Tryz.ntmps35 (by rfl) ?_
  repeat' (first|refine Go.a rfl ?_|refine Go.rg ?_|refine GoR.nil ?_|refine Go.ret ?_|refine Go.b rfl ?_|refine Go.rgS dmx (by decide) ?_|(refine GoR.o (by rfl) (by rfl) ?_;(conv=>arg 1;simp only [G,Z,Y,Gx,vV,simprocAttr,fb2,fb3,fb9,fb32,fb34,fb35,fb37,fb82,fb87,fb88,mm,rC_at,rC_wr,zAf,toksAt hil,Tok.c,dlt,dge,hk,hk2,wrap_succ (show i<4611686018427387904 by omega),d1,d2,d3]);show GoR ..)|(refine GoR.c c34 (by rfl) (by rfl) rfl ?_;(refine CallD.ret2 (hw' _) ?_))|(refine GoR.c c94 (by rfl) (by rfl) rfl ?_;(refine CallD.ret2 (hxn1 _) ?_))|refine GoR.s (by rfl) rfl rfl ?_|(refine GoR.splitG rfl (fun hc => ?_) (fun hc => ?_)<;>simp only [hc])|refine Go.condB rfl (fun hc => ?_) (fun hc => ?_))
  refine ⟨(by first | exact .inl rfl | exact .inr rfl),fin ?_⟩
  rw [resD_cell (fn:=Tryz.f35) rfl]
  simp only [optThen_some,resultD_tmp,resultD_cell,G,Z,Y,Gx,vV,simprocAttr,fb2,fb3,fb9,fb32,fb34,fb35,fb37,fb82,fb87,fb88,mm]
  exact ⟨_,rfl,rC_low,hwf,hlow⟩
 | ok j2=>
 obtain ⟨rfl,hj2⟩:=wX_ok h2
 have hw':=fun E2=>rWantOk hl hF E2 (i+1) hi1 (⟨#[44]⟩:ByteArray) h2
 have hj2l:i+1+1≤l.length:=hj2
 cases h3:exprX l (i+1+1) with
 | error x=>
  obtain ⟨j3,e⟩:=x
  have hx:argsX l (⟨#[116,111,112]⟩:ByteArray) (true,true,false,true) i = .error (j3,e):=by simp [argsX,kX,eX,byX,hil,hk,hn,h2,h3]
  rw [hx]
  have h3':=fun E2=>(hex E2 (i+1+1) hj2l).2 j3 e h3
  rw [nil_four] at h3'
  refine .err j3 ⟨(⟨#[116,111,112]⟩:ByteArray),l[i].n,nilN,nilN,[]⟩ (CallD.updE hF ?_)
  have hlow:=DLow.agg' (agN_low (m:=n0) ⟨(⟨#[116,111,112]⟩:ByteArray),l[i].n,nilN,nilN,[]⟩)
  have hwf:=ag_wf (⟨#[116,111,112]⟩:ByteArray) (l[i].n) nilN nilN .refl zero_wfl
  simp only [nil_four,List.cons_append,List.nil_append] at hwf
  refine CallD.eb Tryz.func35 rfl Tryz.ntmps35 (by rfl) ?_
  repeat' (first|refine Go.a rfl ?_|refine Go.rg ?_|refine GoR.nil ?_|refine Go.ret ?_|refine Go.b rfl ?_|refine Go.rgS dmx (by decide) ?_|(refine GoR.o (by rfl) (by rfl) ?_;(conv=>arg 1;simp only [G,Z,Y,Gx,vV,simprocAttr,fb2,fb3,fb9,fb32,fb34,fb35,fb37,fb82,fb87,fb88,mm,rC_at,rC_wr,zAf,toksAt hil,Tok.c,dlt,dge,hk,hk2,wrap_succ (show i<4611686018427387904 by omega),d1,d2,d3]);show GoR ..)|(refine GoR.c c34 (by rfl) (by rfl) rfl ?_;(refine CallD.ret2 (hw' _) ?_))|(refine GoR.c c94 (by rfl) (by rfl) rfl ?_;(refine CallD.ret2 (h3' _) ?_))|refine GoR.s (by rfl) rfl rfl ?_|(refine GoR.splitG rfl (fun hc => ?_) (fun hc => ?_)<;>simp only [hc])|refine Go.condB rfl (fun hc => ?_) (fun hc => ?_))
  refine ⟨(by first | exact .inl rfl | exact .inr rfl),fin ?_⟩
  rw [resD_cell (fn:=Tryz.f35) rfl]
  simp only [optThen_some,resultD_tmp,resultD_cell,G,Z,Y,Gx,vV,simprocAttr,fb2,fb3,fb9,fb32,fb34,fb35,fb37,fb82,fb87,fb88,mm]
  exact ⟨_,rfl,rC_low,hwf,hlow⟩
 | ok x=>
  obtain ⟨b,j3⟩:=x
  have hx:argsX l (⟨#[116,111,112]⟩:ByteArray) (true,true,false,true) i = .ok (⟨(⟨#[116,111,112]⟩:ByteArray),l[i].n,b,nilN,[]⟩,j3):=by simp [argsX,kX,eX,byX,hil,hk,hn,h2,h3]
  rw [hx]
  have h3':=fun E2=>(hex E2 (i+1+1) hj2l).1 b j3 h3
  refine .ok (CallD.updE hF ?_)
  have hlow:=DLow.agg' (agN_low (m:=n0) ⟨(⟨#[116,111,112]⟩:ByteArray),l[i].n,b,nilN,[]⟩)
  have hwf:=ag_wf (⟨#[116,111,112]⟩:ByteArray) (l[i].n) b nilN .refl zero_wfl
  obtain ⟨op2,nm2,n2,ks2⟩:=b
  simp only [Nd.c_mk] at h3'
  simp only [Nd.c_mk,List.cons_append,List.nil_append] at hwf
  refine CallD.eb Tryz.func35 rfl Tryz.ntmps35 (by rfl) ?_
  repeat' (first|refine Go.a rfl ?_|refine Go.rg ?_|refine GoR.nil ?_|refine Go.ret ?_|refine Go.b rfl ?_|refine Go.rgS dmx (by decide) ?_|(refine GoR.o (by rfl) (by rfl) ?_;(conv=>arg 1;simp only [G,Z,Y,Gx,vV,simprocAttr,fb2,fb3,fb9,fb32,fb34,fb35,fb37,fb82,fb87,fb88,mm,rC_at,rC_wr,zAf,toksAt hil,Tok.c,dlt,dge,hk,hk2,wrap_succ (show i<4611686018427387904 by omega),d1,d2,d3]);show GoR ..)|(refine GoR.c c34 (by rfl) (by rfl) rfl ?_;(refine CallD.ret2 (hw' _) ?_))|(refine GoR.c c94 (by rfl) (by rfl) rfl ?_;(refine CallD.ret2 (h3' _) ?_))|refine GoR.s (by rfl) rfl rfl ?_|(refine GoR.splitG rfl (fun hc => ?_) (fun hc => ?_)<;>simp only [hc])|refine Go.condB rfl (fun hc => ?_) (fun hc => ?_))
  refine ⟨(by first | exact .inl rfl | exact .inr rfl),fin ?_⟩
  rw [resD_cell (fn:=Tryz.f35) rfl]
  simp only [optThen_some,resultD_tmp,resultD_cell,G,Z,Y,Gx,vV,simprocAttr,fb2,fb3,fb9,fb32,fb34,fb35,fb37,fb82,fb87,fb88,mm]
  exact ⟨_,rfl,rC_low,hwf,hlow⟩
end Go.Proofs.DgT
namespace Go.Proofs.DgT
open Go Go.DM
set_option maxRecDepth 100000
variable {orc:DOracle}
theorem refFunc (s:ByteArray) (S:Mem):CallD Tryz.prog orc 33 [.str s] S fun d S'=>S'=S∧d = .bool (needsF s).2.2.2:=by
 refine CallD.e Tryz.func33 rfl Tryz.ntmps33 (by rfl) ?_
 repeat' (first|refine Go.a rfl ?_|refine Go.rg ?_|refine GoR.nil ?_|refine Go.ret ?_|refine Go.b rfl ?_|(refine GoR.o (by rfl) (by rfl) ?_;(conv=>arg 1;simp only [G,Z,Y,Gx,vV,simprocAttr,fb9]);show GoR ..)|refine Go.condB rfl (fun hc => ?_) (fun hc => ?_))
 all_goals
  refine ⟨(by first | exact .inl rfl | exact .inr rfl),fin ?_⟩
  rw [resD_tmp (fn:=Tryz.f33) rfl]
  simp only [optThen_some,resultD_tmp,resultD_cell,G,Z,Y,Gx,vV,simprocAttr,fb9]
  refine ⟨_,[],by simp,Wk.of_low (.bool _),?_⟩
  simp_all [needsF]
theorem lexAll_self : ∀ (f:Nat) (l:List UInt8) (a:Nat) (ts:List Tok),lexAll f l a = .ok ts → ∀ t∈ts,∃ n v,lexOne t.t.data.toList = .ok (t.k,n,v)
 | 0,_,_,_,h=>by cases h;simp
 | _+1,[],_,_,h=>by cases h;simp
 | f+1,b::r,a,ts,h=>by
  unfold lexAll at h
  split at h
  ·exact lexAll_self f r (a+1) ts h
  ·cases ho:lexOne (b::r) with
   | error e=>rw [ho] at h;cases h
   | ok x=>
    obtain ⟨k,n,v⟩:=x
    rw [ho] at h
    dsimp only at h
    cases hq:lexAll f ((b::r).drop n) (a+n) with
    | error y=>rw [hq] at h;cases h
    | ok us=>
     rw [hq] at h
     cases h
     intro t ht
     rcases List.mem_cons.1 ht with rfl | ht
     ·have:=(lexOne_ok ho).2.2.2.2 [] (by simp)
      rw [List.append_nil] at this
      exact ⟨n,v,by simpa using this⟩
     ·exact lexAll_self f _ _ us hq t ht
theorem lex_ops {s:ByteArray} {l:List Tok} (h:lexF s = .ok l) : ∀ t∈l,opOk t.t=true→t.k=3:=by
 intro t ht ho
 unfold lexF at h
 split at h
 ·cases h
 ·obtain ⟨n,v,hl⟩:=lexAll_self _ _ _ _ h t ht
  unfold opOk holdsF at ho
  generalize t.t=tt at ho hl
  generalize t.k=kk at hl ⊢
  have key : ∀ x:List UInt8,∀ m:Nat,lexOne x = .ok (3,m,0)→lexOne x = .ok (kk,n,v)→kk=3:=by
   intro x m h1 h2
   rw [h1] at h2
   cases h2
   rfl
  split at ho
  ·rename_i e;subst e;exact key _ 1 rfl hl
  ·split at ho
   ·rename_i e;subst e;exact key _ 2 rfl hl
   ·split at ho
    ·rename_i e;subst e;exact key _ 1 rfl hl
    ·split at ho
     ·rename_i e;subst e;exact key _ 2 rfl hl
     ·split at ho
      ·rename_i e;subst e;exact key _ 1 rfl hl
      ·split at ho
       ·rename_i e;subst e;exact key _ 2 rfl hl
       ·cases ho
theorem needs_cases {fn:ByteArray} (h:(needsF fn).2.2.2=true):fn=(⟨#[99,111,117,110,116]⟩:ByteArray)∨fn=(⟨#[102,105,114,115,116]⟩:ByteArray)∨fn=(⟨#[116,111,112]⟩:ByteArray)∨(fn≠(⟨#[99,111,117,110,116]⟩:ByteArray)∧fn≠(⟨#[116,111,112]⟩:ByteArray)∧fn≠(⟨#[102,105,114,115,116]⟩:ByteArray)∧needsF fn=(false,true,false,true)):=by
 by_cases h1:fn=(⟨#[99,111,117,110,116]⟩:ByteArray)
 ·exact .inl h1
 by_cases h2:fn=(⟨#[102,105,114,115,116]⟩:ByteArray)
 ·exact .inr (.inl h2)
 by_cases h3:fn=(⟨#[116,111,112]⟩:ByteArray)
 ·exact .inr (.inr (.inl h3))
 refine .inr (.inr (.inr ⟨h1,h3,h2,?_⟩))
 unfold needsF at h ⊢
 rw [if_neg h1,if_neg h2,if_neg h3] at h ⊢
 by_cases h4:fn=(⟨#[109,105,110]⟩:ByteArray)∨fn=(⟨#[109,97,120]⟩:ByteArray)∨fn=(⟨#[115,117,109]⟩:ByteArray)
 ·rw [if_pos h4]
 ·rw [if_neg h4] at h;cases h
theorem rArgs {l:List Tok} (hl:l.length<100000) (hw : ∀ t∈l,WordOk t) {M:List D→Mem} {o n0:Nat} (hF:Fam M o n0) (i:Nat) (hi:i≤l.length) (fn:ByteArray) (hfn:(needsF fn).2.2.2=true):RArgs l fn M o i (argsX l fn (needsF fn) i):=by
 rcases needs_cases hfn with rfl | rfl | rfl | ⟨h1,h2,h3,hn⟩
 ·exact rArgsCount hl hw hF i hi
 ·exact rArgsFirst hl hw hF i hi
 ·exact rArgsTop hl hw hF i hi
 ·exact rArgsE hl hw hF i hi fn h1 h2 h3 hn
theorem argsX_le {l:List Tok} (hw : ∀ t∈l,WordOk t) {fn:ByteArray} {nd:Bool×Bool×Bool×Bool} {i:Nat} (hi:i≤l.length) {a:Ag} {j:Nat} (h:argsX l fn nd i = .ok (a,j)):j≤l.length∧a.w=[]:=by
 unfold argsX at h
 cases hk:kX l nd.1 i with
 | error x=>rw [hk] at h;cases h
 | ok x=>
  obtain ⟨k,i2⟩:=x
  rw [hk] at h
  dsimp only at h
  have h2:i2≤l.length:=by
   unfold kX at hk
   split at hk
   ·cases hk;exact hi
   ·split at hk
    ·cases hk
    ·split at hk
     ·split at hk
      ·cases hk
      ·cases hw2:wX l (i+1) (⟨#[44]⟩:ByteArray) with
       | error x=>rw [hw2] at hk;cases hk
       | ok j=>rw [hw2] at hk;cases hk;exact (wX_le hw2).2
     ·cases hk
  cases he:eX l nd.2.1 i2 with
  | error x=>rw [he] at h;cases h
  | ok x=>
   obtain ⟨e,i3⟩:=x
   rw [he] at h
   dsimp only at h
   have h3:i3≤l.length:=by
    unfold eX at he
    split at he
    ·exact (exprX_le hw h2 he).2
    ·cases he;exact h2
   cases hb:byX l nd.2.2.1 i3 with
   | error x=>rw [hb] at h;cases h
   | ok x=>
    obtain ⟨b,i4⟩:=x
    rw [hb] at h
    cases h
    refine ⟨?_,rfl⟩
    unfold byX at hb
    split at hb
    ·cases hb;exact h3
    ·cases hw2:wX l i3 (⟨#[44]⟩:ByteArray) with
     | error x=>rw [hw2] at hb;cases hb
     | ok j=>rw [hw2] at hb;exact (exprX_le hw (wX_le hw2).2 hb).2
theorem argsX_err {l:List Tok} (hw : ∀ t∈l,WordOk t) {fn:ByteArray} {nd:Bool×Bool×Bool×Bool} {i:Nat} (hi:i≤l.length) {j:Nat} {e:Int} (h:argsX l fn nd i = .error (j,e)):e≠0:=by
 unfold argsX at h
 have hwe : ∀ {i j:Nat} {e:Int} {s:ByteArray},wX l i s = .error (j,e)→e≠0:=fun h=>by have:=(wX_err h).2;subst this;decide
 cases hk:kX l nd.1 i with
 | error x=>
  rw [hk] at h
  cases h
  unfold kX at hk
  split at hk
  ·cases hk
  ·split at hk
   ·cases hk;decide
   ·split at hk
    ·split at hk
     ·cases hk;decide
     ·cases hw2:wX l (i+1) (⟨#[44]⟩:ByteArray) with
      | error x=>rw [hw2] at hk;cases hk;exact hwe hw2
      | ok j=>rw [hw2] at hk;cases hk
    ·cases hk;decide
 | ok x=>
  obtain ⟨k,i2⟩:=x
  have h2:i2≤l.length:=by
   unfold kX at hk
   split at hk
   ·cases hk;exact hi
   ·split at hk
    ·cases hk
    ·split at hk
     ·split at hk
      ·cases hk
      ·cases hw2:wX l (i+1) (⟨#[44]⟩:ByteArray) with
       | error x=>rw [hw2] at hk;cases hk
       | ok j=>rw [hw2] at hk;cases hk;exact (wX_le hw2).2
     ·cases hk
  rw [hk] at h
  dsimp only at h
  cases he:eX l nd.2.1 i2 with
  | error x=>
   rw [he] at h
   cases h
   unfold eX at he
   split at he
   ·exact (exprX_err hw h2 he).2
   ·cases he
  | ok x=>
   obtain ⟨e',i3⟩:=x
   have h3:i3≤l.length:=by
    unfold eX at he
    split at he
    ·exact (exprX_le hw h2 he).2
    ·cases he;exact h2
   rw [he] at h
   dsimp only at h
   cases hb:byX l nd.2.2.1 i3 with
   | error x=>
    rw [hb] at h
    cases h
    unfold byX at hb
    split at hb
    ·cases hb
    ·cases hw2:wX l i3 (⟨#[44]⟩:ByteArray) with
     | error x=>rw [hw2] at hb;cases hb;exact hwe hw2
     | ok j=>rw [hw2] at hb;exact (exprX_err hw (wX_le hw2).2 hb).2
   | ok x=>rw [hb] at h;cases h
theorem condX_err {l:List Tok} (hw : ∀ t∈l,WordOk t) {i:Nat} (hi:i≤l.length) {j:Nat} {e:Int} (h:condX l i = .error (j,e)):e≠0:=by
 unfold condX at h
 cases h1:exprX l i with
 | error x=>rw [h1] at h;cases h;exact (exprX_err hw hi h1).2
 | ok x=>
  obtain ⟨a,j1⟩:=x
  rw [h1] at h
  dsimp only at h
  cases h2:l[j1]? with
  | none=>rw [h2] at h;cases h;decide
  | some t=>
   rw [h2] at h
   dsimp only at h
   split at h
   ·cases h3:exprX l (j1+1) with
    | error x=>
     rw [h3] at h
     cases h
     exact (exprX_err hw (show j1+1≤l.length from (List.getElem?_eq_some_iff.1 h2).1) h3).2
    | ok x=>rw [h3] at h;cases h
   ·cases h;decide
end Go.Proofs.DgT
