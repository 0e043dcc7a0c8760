/- The fold's parser, by the program: all of it, walked. -/
import Derived.Test.YtcdijoaabbjioaaGreatDoorDgG7
set_option linter.unusedSimpArgs false
set_option linter.unusedVariables false
namespace Go.Proofs.DgT
open Go Go.DM
set_option maxRecDepth 100000
def zA:List D:=[.str ⟨#[]⟩,.int .i64 0,.str ⟨#[]⟩,.str ⟨#[]⟩,.int .i64 0,.c5a,.str ⟨#[]⟩,.str ⟨#[]⟩,.int .i64 0,.c5a,.c5a]
def RK (l:List Tok) (M:List D→Mem) (o n:Nat) (fn:ByteArray) (kb eb bb:Bool) (i1:Nat) (z:List D) (ρ:e1a) (H:Mem):Prop:=
 ∃ k i2,kX l kb i1 = .ok (k,i2)∧i2≤l.length∧ρ 0 = .ptr o 0∧ρ 2 = .ptr n 0∧ρ 3 = .ptr (n+1) 0∧ρ 5 = .bool eb∧ρ 6 = .bool bb ∧
  H=M (gC l i2)++[.obj z,.obj (agL fn k (.str ⟨#[]⟩) (.str ⟨#[]⟩) (.int .i64 0) .c5a (.str ⟨#[]⟩) (.str ⟨#[]⟩) (.int .i64 0) .c5a .c5a)]
def BK (x:ER (Int×Nat)) (M:List D→Mem) (ρ:e1a) (H:Mem):Prop := ∃ j e,x = .error (j,e)∧ρ a9b=g0d j e ∧ ∃ c E,H=M c++E
def RE (l:List Tok) (M:List D→Mem) (o n:Nat) (fn:ByteArray) (k:Int) (eb bb:Bool) (i2:Nat) (z:List D) (ρ:e1a) (H:Mem):Prop:=
 ∃ e i3 x1 x2 x3 x4,eX l eb i2 = .ok (e,i3)∧i3≤l.length∧ρ 0 = .ptr o 0∧ρ 2 = .ptr n 0∧ρ 3 = .ptr (n+1) 0∧ρ 6 = .bool bb∧WfL [x1,x2,x3,x4] e.c∧[x1,x2,x3,x4].all D.one=true ∧
  H=M (gC l i3)++[.obj z,.obj (agL fn k x1 x2 x3 x4 (.str ⟨#[]⟩) (.str ⟨#[]⟩) (.int .i64 0) .c5a .c5a)]
def BE (x:ER (Nd×Nat)) (M:List D→Mem) (ρ:e1a) (H:Mem):Prop := ∃ j e,x = .error (j,e)∧ρ a9b=g0d j e ∧ ∃ c E,H=M c++E
def RB (l:List Tok) (M:List D→Mem) (o n:Nat) (fn:ByteArray) (k:Int) (x1 x2 x3 x4:D) (bb:Bool) (i3:Nat) (z:List D) (ρ:e1a) (H:Mem):Prop:=
 ∃ b i4 y1 y2 y3 y4,byX l bb i3 = .ok (b,i4)∧i4≤l.length∧ρ 0 = .ptr o 0∧ρ 2 = .ptr n 0∧ρ 3 = .ptr (n+1) 0∧WfL [y1,y2,y3,y4] b.c∧[y1,y2,y3,y4].all D.one=true ∧
  H=M (gC l i4)++[.obj z,.obj (agL fn k x1 x2 x3 x4 y1 y2 y3 y4 .c5a)]
theorem j7c:WfL [.str ⟨#[]⟩,.str ⟨#[]⟩,.int .i64 0,.c5a] t6a.c:=by
 rw [t6a,Nd.k0a]
 exact .cons .refl (.cons .refl (.cons .refl (.cons .e1d .nil)))
set_option maxHeartbeats 2000000 in
theorem g6d {l:List Tok} (hl:l.length<100000) (hw : ∀ t∈l,n6a t) {M:List D→Mem} {o n:Nat} (hF:Fam M o n) {b:Code} (hb:Tryz.f30.body=some b) :
  Go Tryz.prog O (M (gC l 0)).length 106 [.code b] .normal (r1a [.ptr o 0]) (M (gC l 0)) (z4e l M (x3c l)):=by
 obtain ⟨m1,m2,m3,m4,m5,m6,m7,m8,m9,m10,m11⟩:=hF.facts
 have mm:=hF.facts
 have hty:=fun i hi k hk E=>t0d hl hF (i:=i) hi (k:=k) hk E
 have htn:=fun i hi k hk E=>f0e hl hF (i:=i) hi (k:=k) hk E
 have hwy:=fun i j hi s h E=>m6e hl hF (i:=i) (j:=j) hi (s:=s) h E
 have hwn:=fun i j e hi s h E=>x7e hl hF (i:=i) (j:=j) (e:=e) hi (s:=s) h E
 have hey:=fun i j a hi h E=>t2c hl hw hF (i:=i) (j:=j) (a:=a) hi h E
 have hen:=fun i j e hi h E=>j5d hl hw hF (i:=i) (j:=j) (e:=e) hi h E
 have hcy:=fun i j a hi h E=>h3e hl hw hF (i:=i) (j:=j) (a:=a) hi h E
 have hcn:=fun i j e hi h E=>q1e hl hw hF (i:=i) (j:=j) (e:=e) hi h E
 cases hb
 simp only [gC] at *
 repeat' (first|refine Go.a rfl ?_|refine Go.rgP (id:=1) ?_|refine Go.rg ?_|refine GoR.nil ?_|refine Go.ret ?_|refine Go.b rfl ?_|refine Go.rgS dmx (by decide) ?_|refine Go.rgD [1] (fun _=>True) dmx (by decide) 5 (by decide) (by trivial) ?_|refine GoP.nil ?_|refine GoP.p rfl (by rfl) ⟨_,_,rfl⟩ ?_|refine GoW.nil rfl ?_|((first|refine GoR.o (by rfl) (by rfl) ?_|refine GoW.o (by rfl) (by rfl) ?_|refine GoW.rd (by rfl) (by rfl) ?_);(conv=>arg 1;simp only [G,Z,Y,Gx,vV,simprocAttr,fb2,fb3,fb9,c2a,b7a,d7a,d9a,c8a,d4a,j2a,d5a,g7a,mm]);first|show GoR ..|(show _∧GoW ..;refine ⟨by exact fun _=>trivial,?_⟩)|(show _∧_∧_∧GoW ..;refine ⟨rfl,by trivial,(fun H _=>by simp only [G,Z,Y,Gx,vV,simprocAttr,fb2,fb3,fb9,c2a,b7a,d7a,d9a,c8a,d4a,j2a,d5a,g7a,mm]),?_⟩))|(refine GoP.o (by rfl) (by rfl) ?_;(conv=>arg 1;simp only [G,Z,Y,Gx,vV,simprocAttr,fb2,fb3,fb9,c2a,b7a,d7a,d9a,c8a,d4a,j2a,d5a,g7a,mm]);show GoP ..)|refine GoP.s (by rfl) rfl rfl ?_|refine GoR.s (by rfl) rfl rfl ?_|refine GoW.s (by rfl) rfl rfl (by exact fun _=>trivial) ?_)
 by_cases h0 : ∃ h:0<l.length,l[0].k=1
 rotate_left
 ·have hx:x3c l = .error (0,2):=by
   unfold x3c
   cases hq:l[0]? with
   | none=>rfl
   | some t=>
    obtain ⟨h1,h2⟩:=List.getElem?_eq_some_iff.1 hq
    have:t.k≠1:=fun e=>h0 ⟨h1,by rw [h2];exact e⟩
    simp [this]
  refine GoP.cP c82 (by rfl) (by rfl) rfl (i5a.w8a (htn 0 (Nat.zero_le _) 1 (fun h e=>h0 ⟨h,e⟩) _) fun c E => ?_)
  rw [hx]
  exact Go.pan rfl ⟨rfl,rfl,_,_,rfl⟩
 obtain ⟨h0,h01⟩:=h0
 have hg0:l[0]?=some l[0]:=List.getElem?_eq_getElem h0
 refine GoP.c c82 (by rfl) (by rfl) rfl (a3a.b2a (hty 0 h0 1 h01 _) ?_)
 simp only [Tok.c]
 generalize hfn:l[0].t=fn
 have hnd:=i0b (orc:=O) fn
 rcases hN:f6a fn with ⟨kb,eb,bb,ob⟩
 simp only [hN] at hnd
 have hx0:x3c l=if ob then a3d l fn (kb,eb,bb,ob) else .error (0,5):=by simp [x3c,hg0,h01,hfn,hN]
 repeat' (first|refine Go.a rfl ?_|refine Go.rgP (id:=4) ?_|refine Go.rgP (id:=1) ?_|refine Go.rg ?_|refine GoR.nil ?_|refine Go.ret ?_|refine Go.b rfl ?_|refine Go.rgS dmx (by decide) ?_|refine Go.rgD [1] (fun _=>True) dmx (by decide) 5 (by decide) (by trivial) ?_|refine GoP.nil ?_|refine GoP.p rfl (by rfl) ⟨_,_,rfl⟩ ?_|refine GoP.nil ?_|refine GoP.p rfl (by rfl) ⟨_,_,rfl⟩ ?_|refine GoW.nil rfl ?_|((first|refine GoR.o (by rfl) (by rfl) ?_|refine GoW.o (by rfl) (by rfl) ?_|refine GoW.rd (by rfl) (by rfl) ?_);(conv=>arg 1;simp only [G,Z,Y,Gx,vV,simprocAttr,fb2,fb3,fb9,c2a,b7a,d7a,d9a,c8a,d4a,j2a,d5a,g7a,mm]);first|show GoR ..|(show _∧GoW ..;refine ⟨by exact fun _=>trivial,?_⟩)|(show _∧_∧_∧GoW ..;refine ⟨rfl,by trivial,(fun H _=>by simp only [G,Z,Y,Gx,vV,simprocAttr,fb2,fb3,fb9,c2a,b7a,d7a,d9a,c8a,d4a,j2a,d5a,g7a,mm]),?_⟩))|(refine GoP.c c44 (by rfl) (by rfl) rfl ?_;(refine a3a.b2a (hnd _) ?_))|(refine GoW.c c44 (by rfl) (by rfl) rfl ?_;(refine a3a.b2a (hnd _) ?_);refine ⟨by exact fun _=>trivial,?_⟩)|(refine GoR.c c44 (by rfl) (by rfl) rfl ?_;(refine a3a.b2a (hnd _) ?_))|(refine GoP.o (by rfl) (by rfl) ?_;(conv=>arg 1;simp only [G,Z,Y,Gx,vV,simprocAttr,fb2,fb3,fb9,c2a,b7a,d7a,d9a,c8a,d4a,j2a,d5a,g7a,mm]);show GoP ..)|refine GoP.s (by rfl) rfl rfl ?_|refine GoR.s (by rfl) rfl rfl ?_|refine GoW.s (by rfl) rfl rfl (by exact fun _=>trivial) ?_)
 cases ob with
 | false=>
  refine Go.k8c rfl ?_
  rw [hx0]
  repeat' (first|refine Go.a rfl ?_|refine Go.rgP (id:=4) ?_|refine Go.rg ?_|refine GoR.nil ?_|refine Go.ret ?_|refine Go.b rfl ?_|refine Go.rgS dmx (by decide) ?_|refine Go.rgD [1] (fun _=>True) dmx (by decide) 5 (by decide) (by trivial) ?_|refine GoP.nil ?_|refine GoP.p rfl (by rfl) ⟨_,_,rfl⟩ ?_|refine GoW.nil rfl ?_|((first|refine GoR.o (by rfl) (by rfl) ?_|refine GoW.o (by rfl) (by rfl) ?_|refine GoW.rd (by rfl) (by rfl) ?_);(conv=>arg 1;simp only [G,Z,Y,Gx,vV,simprocAttr,fb2,fb3,fb9,c2a,b7a,d7a,d9a,c8a,d4a,j2a,d5a,g7a,mm,show IntKind.i64.wrap (((0+1:Nat):Int) - 1)=((0:Nat):Int) by rw [wrap64 (by omega) (by omega)];omega]);first|show GoR ..|(show _∧GoW ..;refine ⟨by exact fun _=>trivial,?_⟩)|(show _∧_∧_∧GoW ..;refine ⟨rfl,by trivial,(fun H _=>by simp only [G,Z,Y,Gx,vV,simprocAttr,fb2,fb3,fb9,c2a,b7a,d7a,d9a,c8a,d4a,j2a,d5a,g7a,mm,show IntKind.i64.wrap (((0+1:Nat):Int) - 1)=((0:Nat):Int) by rw [wrap64 (by omega) (by omega)];omega]),?_⟩))|(refine GoP.o (by rfl) (by rfl) ?_;(conv=>arg 1;simp only [G,Z,Y,Gx,vV,simprocAttr,fb2,fb3,fb9,c2a,b7a,d7a,d9a,c8a,d4a,j2a,d5a,g7a,mm,show IntKind.i64.wrap (((0+1:Nat):Int) - 1)=((0:Nat):Int) by rw [wrap64 (by omega) (by omega)];omega]);show GoP ..)|refine GoP.s (by rfl) rfl rfl ?_|refine GoR.s (by rfl) rfl rfl ?_|refine GoW.s (by rfl) rfl rfl (by exact fun _=>trivial) ?_)
  exact Go.pan rfl ⟨rfl,rfl,_,_,rfl⟩
 | true=>
 refine Go.k7c rfl ?_
 rw [hx0,if_pos rfl]
 repeat' (first|refine Go.a rfl ?_|refine Go.rgP (id:=5) ?_|refine Go.rg ?_|refine GoR.nil ?_|refine Go.ret ?_|refine Go.b rfl ?_|refine Go.rgS dmx (by decide) ?_|refine Go.rgD [1] (fun _=>True) dmx (by decide) 5 (by decide) (by trivial) ?_|refine GoP.nil ?_|refine GoP.p rfl (by rfl) ⟨_,_,rfl⟩ ?_|refine GoW.nil rfl ?_|((first|refine GoR.o (by rfl) (by rfl) ?_|refine GoW.o (by rfl) (by rfl) ?_|refine GoW.rd (by rfl) (by rfl) ?_);(conv=>arg 1;simp only [G,Z,Y,Gx,vV,simprocAttr,fb2,fb3,fb9,c2a,b7a,d7a,d9a,c8a,d4a,j2a,d5a,g7a,mm]);first|show GoR ..|(show _∧GoW ..;refine ⟨by exact fun _=>trivial,?_⟩)|(show _∧_∧_∧GoW ..;refine ⟨rfl,by trivial,(fun H _=>by simp only [G,Z,Y,Gx,vV,simprocAttr,fb2,fb3,fb9,c2a,b7a,d7a,d9a,c8a,d4a,j2a,d5a,g7a,mm]),?_⟩))|(refine GoP.o (by rfl) (by rfl) ?_;(conv=>arg 1;simp only [G,Z,Y,Gx,vV,simprocAttr,fb2,fb3,fb9,c2a,b7a,d7a,d9a,c8a,d4a,j2a,d5a,g7a,mm]);show GoP ..)|refine GoP.s (by rfl) rfl rfl ?_|refine GoR.s (by rfl) rfl rfl ?_|refine GoW.s (by rfl) rfl rfl (by exact fun _=>trivial) ?_)
 cases h1:wX l 1 (⟨#[40]⟩:ByteArray) with
 | error x=>
  obtain ⟨j,e⟩:=x
  have hx:a3d l fn (kb,eb,bb,true) = .error (j,e):=by simp [a3d,h1]
  rw [hx]
  refine GoP.cP c83 (by rfl) (by rfl) rfl (i5a.w8a (hwn 1 j e (by omega) _ h1 _) fun c E => ?_)
  exact Go.pan rfl ⟨rfl,rfl,_,_,rfl⟩
 | ok i1=>
 refine GoP.c c83 (by rfl) (by rfl) rfl (a3a.b2a (hwy 1 i1 (by omega) _ h1 _) ?_)
 obtain ⟨hi1,j4f⟩:=p9c h1
 repeat' (first|refine Go.a rfl ?_|refine Go.rgP (id:=5) ?_|refine Go.rg ?_|refine GoR.nil ?_|refine Go.ret ?_|refine Go.b rfl ?_|refine Go.rgS dmx (by decide) ?_|refine Go.rgD [1] (fun _=>True) dmx (by decide) 5 (by decide) (by trivial) ?_|refine GoP.nil ?_|refine GoP.p rfl (by rfl) ⟨_,_,rfl⟩ ?_|refine GoW.nil rfl ?_|((first|refine GoR.o (by rfl) (by rfl) ?_|refine GoW.o (by rfl) (by rfl) ?_|refine GoW.rd (by rfl) (by rfl) ?_);(conv=>arg 1;simp only [G,Z,Y,Gx,vV,simprocAttr,fb2,fb3,fb9,c2a,b7a,d7a,d9a,c8a,d4a,j2a,d5a,g7a,mm]);first|show GoR ..|(show _∧GoW ..;refine ⟨by exact fun _=>trivial,?_⟩)|(show _∧_∧_∧GoW ..;refine ⟨rfl,by trivial,(fun H _=>by simp only [G,Z,Y,Gx,vV,simprocAttr,fb2,fb3,fb9,c2a,b7a,d7a,d9a,c8a,d4a,j2a,d5a,g7a,mm]),?_⟩))|(refine GoP.o (by rfl) (by rfl) ?_;(conv=>arg 1;simp only [G,Z,Y,Gx,vV,simprocAttr,fb2,fb3,fb9,c2a,b7a,d7a,d9a,c8a,d4a,j2a,d5a,g7a,mm]);show GoP ..)|refine GoP.s (by rfl) rfl rfl ?_|refine GoR.s (by rfl) rfl rfl ?_|refine GoW.s (by rfl) rfl rfl (by exact fun _=>trivial) ?_)
 refine Go.a2f [_] (RK l M o n fn kb eb bb i1 zA) (BK (kX l kb i1) M) ?_ ?_ ?_
 ·cases kb with
  | false=>
   refine Go.k7c rfl ?_
   repeat' (first|refine Go.a rfl ?_|refine Go.rg ?_|refine GoR.nil ?_|refine Go.ret ?_|refine Go.b rfl ?_|refine Go.rgS dmx (by decide) ?_|refine Go.rgD [1] (fun _=>True) dmx (by decide) 5 (by decide) (by trivial) ?_|refine GoW.nil rfl ?_|((first|refine GoR.o (by rfl) (by rfl) ?_|refine GoW.o (by rfl) (by rfl) ?_|refine GoW.rd (by rfl) (by rfl) ?_);(conv=>arg 1;simp only [G,Z,Y,Gx,vV,simprocAttr,fb2,fb3,fb9,c2a,b7a,d7a,d9a,c8a,d4a,j2a,d5a,g7a,mm]);first|show GoR ..|(show _∧GoW ..;refine ⟨by exact fun _=>trivial,?_⟩)|(show _∧_∧_∧GoW ..;refine ⟨rfl,by trivial,(fun H _=>by simp only [G,Z,Y,Gx,vV,simprocAttr,fb2,fb3,fb9,c2a,b7a,d7a,d9a,c8a,d4a,j2a,d5a,g7a,mm]),?_⟩))|refine GoR.s (by rfl) rfl rfl ?_|refine GoW.s (by rfl) rfl rfl (by exact fun _=>trivial) ?_)
   exact .inl ⟨rfl,0,i1,rfl,j4f,rfl,rfl,rfl,rfl,rfl,rfl⟩
  | true=>
   refine Go.k8c rfl ?_
   repeat' (first|refine Go.a rfl ?_|refine Go.rgP (id:=7) ?_|refine Go.rg ?_|refine GoR.nil ?_|refine Go.ret ?_|refine Go.b rfl ?_|refine Go.rgS dmx (by decide) ?_|refine Go.rgD [1] (fun _=>True) dmx (by decide) 5 (by decide) (by trivial) ?_|refine GoP.nil ?_|refine GoP.p rfl (by rfl) ⟨_,_,rfl⟩ ?_|refine GoW.nil rfl ?_|((first|refine GoR.o (by rfl) (by rfl) ?_|refine GoW.o (by rfl) (by rfl) ?_|refine GoW.rd (by rfl) (by rfl) ?_);(conv=>arg 1;simp only [G,Z,Y,Gx,vV,simprocAttr,fb2,fb3,fb9,c2a,b7a,d7a,d9a,c8a,d4a,j2a,d5a,g7a,mm]);first|show GoR ..|(show _∧GoW ..;refine ⟨by exact fun _=>trivial,?_⟩)|(show _∧_∧_∧GoW ..;refine ⟨rfl,by trivial,(fun H _=>by simp only [G,Z,Y,Gx,vV,simprocAttr,fb2,fb3,fb9,c2a,b7a,d7a,d9a,c8a,d4a,j2a,d5a,g7a,mm]),?_⟩))|(refine GoP.o (by rfl) (by rfl) ?_;(conv=>arg 1;simp only [G,Z,Y,Gx,vV,simprocAttr,fb2,fb3,fb9,c2a,b7a,d7a,d9a,c8a,d4a,j2a,d5a,g7a,mm]);show GoP ..)|refine GoP.s (by rfl) rfl rfl ?_|refine GoR.s (by rfl) rfl rfl ?_|refine GoW.s (by rfl) rfl rfl (by exact fun _=>trivial) ?_)
   by_cases hk : ∃ h:i1<l.length,l[i1].k=2
   rotate_left
   ·have hx:kX l true i1 = .error (i1,2):=by
     unfold kX
     rw [if_neg (by decide)]
     cases hq:l[i1]? with
     | none=>rfl
     | some t=>
      obtain ⟨q1,q2⟩:=List.getElem?_eq_some_iff.1 hq
      have:t.k≠2:=fun e=>hk ⟨q1,by rw [q2];exact e⟩
      simp [this]
    refine GoP.cP c82 (by rfl) (by rfl) rfl (i5a.w8a (htn i1 j4f 2 (fun h e=>hk ⟨h,e⟩) _) fun c E => ?_)
    exact Go.pan rfl (.inr ⟨rfl,_,_,hx,rfl,_,_,rfl⟩)
   obtain ⟨hk0,hk2⟩:=hk
   have hgk:l[i1]?=some l[i1]:=List.getElem?_eq_getElem hk0
   refine GoP.c c82 (by rfl) (by rfl) rfl (a3a.b2a (hty i1 hk0 2 hk2 _) ?_)
   simp only [Tok.c]
   generalize hnn:l[i1].n=nn
   have hxk:kX l true i1=if nn<1∨16<nn then .error (i1,1) else match wX l (i1+1) (⟨#[44]⟩:ByteArray) with | .error e=>.error e | .ok j=>.ok (nn,j):=by simp [kX,hgk,hk2,hnn];rfl
   by_cases hr:nn<1∨16<nn
   ·rw [if_pos hr] at hxk
    by_cases hr1:nn<1
    ·repeat' (first|refine Go.a rfl ?_|refine Go.rgP (id:=9) ?_|refine Go.rgP (id:=7) ?_|refine Go.rg ?_|refine GoR.nil ?_|refine Go.ret ?_|refine Go.b rfl ?_|refine Go.rgS dmx (by decide) ?_|refine Go.rgD [1] (fun _=>True) dmx (by decide) 5 (by decide) (by trivial) ?_|refine GoP.nil ?_|refine GoP.p rfl (by rfl) ⟨_,_,rfl⟩ ?_|refine GoP.nil ?_|refine GoP.p rfl (by rfl) ⟨_,_,rfl⟩ ?_|refine GoW.nil rfl ?_|((first|refine GoR.o (by rfl) (by rfl) ?_|refine GoW.o (by rfl) (by rfl) ?_|refine GoW.rd (by rfl) (by rfl) ?_);(conv=>arg 1;simp only [G,Z,Y,Gx,vV,simprocAttr,fb2,fb3,fb9,c2a,b7a,d7a,d9a,c8a,d4a,j2a,d5a,g7a,mm,show decide (nn<1)=true by simpa using hr1,show IntKind.i64.wrap (((i1+1:Nat):Int) - 1)=(i1:Int) by rw [wrap64 (by omega) (by omega)];omega]);first|show GoR ..|(show _∧GoW ..;refine ⟨by exact fun _=>trivial,?_⟩)|(show _∧_∧_∧GoW ..;refine ⟨rfl,by trivial,(fun H _=>by simp only [G,Z,Y,Gx,vV,simprocAttr,fb2,fb3,fb9,c2a,b7a,d7a,d9a,c8a,d4a,j2a,d5a,g7a,mm,show decide (nn<1)=true by simpa using hr1,show IntKind.i64.wrap (((i1+1:Nat):Int) - 1)=(i1:Int) by rw [wrap64 (by omega) (by omega)];omega]),?_⟩))|(refine GoP.o (by rfl) (by rfl) ?_;(conv=>arg 1;simp only [G,Z,Y,Gx,vV,simprocAttr,fb2,fb3,fb9,c2a,b7a,d7a,d9a,c8a,d4a,j2a,d5a,g7a,mm,show decide (nn<1)=true by simpa using hr1,show IntKind.i64.wrap (((i1+1:Nat):Int) - 1)=(i1:Int) by rw [wrap64 (by omega) (by omega)];omega]);show GoP ..)|refine GoP.s (by rfl) rfl rfl ?_|refine GoR.s (by rfl) rfl rfl ?_|refine GoW.s (by rfl) rfl rfl (by exact fun _=>trivial) ?_)
     exact Go.pan rfl (.inr ⟨rfl,_,_,hxk,rfl,_,_,rfl⟩)
    ·repeat' (first|refine Go.a rfl ?_|refine Go.rgP (id:=9) ?_|refine Go.rgP (id:=7) ?_|refine Go.rg ?_|refine GoR.nil ?_|refine Go.ret ?_|refine Go.b rfl ?_|refine Go.rgS dmx (by decide) ?_|refine Go.rgD [1] (fun _=>True) dmx (by decide) 5 (by decide) (by trivial) ?_|refine GoP.nil ?_|refine GoP.p rfl (by rfl) ⟨_,_,rfl⟩ ?_|refine GoP.nil ?_|refine GoP.p rfl (by rfl) ⟨_,_,rfl⟩ ?_|refine GoW.nil rfl ?_|((first|refine GoR.o (by rfl) (by rfl) ?_|refine GoW.o (by rfl) (by rfl) ?_|refine GoW.rd (by rfl) (by rfl) ?_);(conv=>arg 1;simp only [G,Z,Y,Gx,vV,simprocAttr,fb2,fb3,fb9,c2a,b7a,d7a,d9a,c8a,d4a,j2a,d5a,g7a,mm,show decide (nn<1)=false by simpa using hr1,show decide (16<nn)=true by simp;omega,show IntKind.i64.wrap (((i1+1:Nat):Int) - 1)=(i1:Int) by rw [wrap64 (by omega) (by omega)];omega]);first|show GoR ..|(show _∧GoW ..;refine ⟨by exact fun _=>trivial,?_⟩)|(show _∧_∧_∧GoW ..;refine ⟨rfl,by trivial,(fun H _=>by simp only [G,Z,Y,Gx,vV,simprocAttr,fb2,fb3,fb9,c2a,b7a,d7a,d9a,c8a,d4a,j2a,d5a,g7a,mm,show decide (nn<1)=false by simpa using hr1,show decide (16<nn)=true by simp;omega,show IntKind.i64.wrap (((i1+1:Nat):Int) - 1)=(i1:Int) by rw [wrap64 (by omega) (by omega)];omega]),?_⟩))|(refine GoP.o (by rfl) (by rfl) ?_;(conv=>arg 1;simp only [G,Z,Y,Gx,vV,simprocAttr,fb2,fb3,fb9,c2a,b7a,d7a,d9a,c8a,d4a,j2a,d5a,g7a,mm,show decide (nn<1)=false by simpa using hr1,show decide (16<nn)=true by simp;omega,show IntKind.i64.wrap (((i1+1:Nat):Int) - 1)=(i1:Int) by rw [wrap64 (by omega) (by omega)];omega]);show GoP ..)|refine GoP.s (by rfl) rfl rfl ?_|refine GoR.s (by rfl) rfl rfl ?_|refine GoW.s (by rfl) rfl rfl (by exact fun _=>trivial) ?_)
     exact Go.pan rfl (.inr ⟨rfl,_,_,hxk,rfl,_,_,rfl⟩)
   ·rw [if_neg hr] at hxk
    repeat' (first|refine Go.a rfl ?_|refine Go.rgP (id:=10) ?_|refine Go.rgP (id:=7) ?_|refine Go.rg ?_|refine GoR.nil ?_|refine Go.ret ?_|refine Go.b rfl ?_|refine Go.rgS dmx (by decide) ?_|refine Go.rgD [1] (fun _=>True) dmx (by decide) 5 (by decide) (by trivial) ?_|refine GoP.nil ?_|refine GoP.p rfl (by rfl) ⟨_,_,rfl⟩ ?_|refine GoP.nil ?_|refine GoP.p rfl (by rfl) ⟨_,_,rfl⟩ ?_|refine GoW.nil rfl ?_|((first|refine GoR.o (by rfl) (by rfl) ?_|refine GoW.o (by rfl) (by rfl) ?_|refine GoW.rd (by rfl) (by rfl) ?_);(conv=>arg 1;simp only [G,Z,Y,Gx,vV,simprocAttr,fb2,fb3,fb9,c2a,b7a,d7a,d9a,c8a,d4a,j2a,d5a,g7a,mm,show decide (nn<1)=false by simp;omega,show decide (16<nn)=false by simp;omega]);first|show GoR ..|(show _∧GoW ..;refine ⟨by exact fun _=>trivial,?_⟩)|(show _∧_∧_∧GoW ..;refine ⟨rfl,by trivial,(fun H _=>by simp only [G,Z,Y,Gx,vV,simprocAttr,fb2,fb3,fb9,c2a,b7a,d7a,d9a,c8a,d4a,j2a,d5a,g7a,mm,show decide (nn<1)=false by simp;omega,show decide (16<nn)=false by simp;omega]),?_⟩))|(refine GoP.o (by rfl) (by rfl) ?_;(conv=>arg 1;simp only [G,Z,Y,Gx,vV,simprocAttr,fb2,fb3,fb9,c2a,b7a,d7a,d9a,c8a,d4a,j2a,d5a,g7a,mm,show decide (nn<1)=false by simp;omega,show decide (16<nn)=false by simp;omega]);show GoP ..)|refine GoP.s (by rfl) rfl rfl ?_|refine GoR.s (by rfl) rfl rfl ?_|refine GoW.s (by rfl) rfl rfl (by exact fun _=>trivial) ?_)
    cases h2:wX l (i1+1) (⟨#[44]⟩:ByteArray) with
    | error x=>
     obtain ⟨j,e⟩:=x
     rw [h2] at hxk
     refine GoP.cP c83 (by rfl) (by rfl) rfl (i5a.w8a (hwn (i1+1) j e (by omega) _ h2 _) fun c E => ?_)
     exact Go.pan rfl (.inr ⟨rfl,_,_,hxk,rfl,_,_,rfl⟩)
    | ok i2=>
     rw [h2] at hxk
     obtain ⟨hi2,n1e⟩:=p9c h2
     refine GoP.c c83 (by rfl) (by rfl) rfl (a3a.b2a (hwy (i1+1) i2 (by omega) _ h2 _) ?_)
     repeat' (first|refine Go.a rfl ?_|refine Go.rgP (id:=10) ?_|refine Go.rg ?_|refine GoR.nil ?_|refine Go.ret ?_|refine Go.b rfl ?_|refine Go.rgS dmx (by decide) ?_|refine Go.rgD [1] (fun _=>True) dmx (by decide) 5 (by decide) (by trivial) ?_|refine GoP.nil ?_|refine GoP.p rfl (by rfl) ⟨_,_,rfl⟩ ?_|refine GoW.nil rfl ?_|((first|refine GoR.o (by rfl) (by rfl) ?_|refine GoW.o (by rfl) (by rfl) ?_|refine GoW.rd (by rfl) (by rfl) ?_);(conv=>arg 1;simp only [G,Z,Y,Gx,vV,simprocAttr,fb2,fb3,fb9,c2a,b7a,d7a,d9a,c8a,d4a,j2a,d5a,g7a,mm]);first|show GoR ..|(show _∧GoW ..;refine ⟨by exact fun _=>trivial,?_⟩)|(show _∧_∧_∧GoW ..;refine ⟨rfl,by trivial,(fun H _=>by simp only [G,Z,Y,Gx,vV,simprocAttr,fb2,fb3,fb9,c2a,b7a,d7a,d9a,c8a,d4a,j2a,d5a,g7a,mm]),?_⟩))|(refine GoP.o (by rfl) (by rfl) ?_;(conv=>arg 1;simp only [G,Z,Y,Gx,vV,simprocAttr,fb2,fb3,fb9,c2a,b7a,d7a,d9a,c8a,d4a,j2a,d5a,g7a,mm]);show GoP ..)|refine GoP.s (by rfl) rfl rfl ?_|refine GoR.s (by rfl) rfl rfl ?_|refine GoW.s (by rfl) rfl rfl (by exact fun _=>trivial) ?_)
     exact .inl ⟨rfl,nn,i2,hxk,n1e,rfl,rfl,rfl,rfl,rfl,rfl⟩
 ·rintro ρ1 H1 ⟨k,i2,hk,n1e,r0,r2,r3,r5,r6,rfl⟩
  refine Go.keep [(0,.ptr o 0),(2,.ptr n 0),(3,.ptr (n+1) 0),(5,.bool eb),(6,.bool bb)] (.cons (by rw [r0];exact .refl) (.cons (by rw [r2];exact .refl) (.cons (by rw [r3];exact .refl) (.cons (by rw [r5];exact .refl) (.cons (by rw [r6];exact .refl) .nil))))) ?_
  simp only [gC,agL,zA]
  repeat' (first|refine Go.a rfl ?_|refine Go.rg ?_|refine GoR.nil ?_|refine Go.ret ?_|refine Go.b rfl ?_|refine Go.rgS dmx (by decide) ?_|refine Go.rgD [1] (fun _=>True) dmx (by decide) 5 (by decide) (by trivial) ?_|refine GoW.nil rfl ?_|((first|refine GoR.o (by rfl) (by rfl) ?_|refine GoW.o (by rfl) (by rfl) ?_|refine GoW.rd (by rfl) (by rfl) ?_);(conv=>arg 1;simp only [G,Z,Y,Gx,vV,simprocAttr,fb2,fb3,fb9,c2a,b7a,d7a,d9a,c8a,d4a,j2a,d5a,g7a,mm]);first|show GoR ..|(show _∧GoW ..;refine ⟨by exact fun _=>trivial,?_⟩)|(show _∧_∧_∧GoW ..;refine ⟨rfl,by trivial,(fun H _=>by simp only [G,Z,Y,Gx,vV,simprocAttr,fb2,fb3,fb9,c2a,b7a,d7a,d9a,c8a,d4a,j2a,d5a,g7a,mm]),?_⟩))|refine GoR.s (by rfl) rfl rfl ?_|refine GoW.s (by rfl) rfl rfl (by exact fun _=>trivial) ?_)
  refine Go.a2f [_] (RE l M o n fn k eb bb i2 zA) (BE (eX l eb i2) M) ?_ ?_ ?_
  ·cases eb with
   | false=>
    refine Go.k7c rfl ?_
    repeat' (first|refine Go.a rfl ?_|refine Go.rg ?_|refine GoR.nil ?_|refine Go.ret ?_|refine Go.b rfl ?_|refine Go.rgS dmx (by decide) ?_|refine Go.rgD [1] (fun _=>True) dmx (by decide) 5 (by decide) (by trivial) ?_|refine GoW.nil rfl ?_|((first|refine GoR.o (by rfl) (by rfl) ?_|refine GoW.o (by rfl) (by rfl) ?_|refine GoW.rd (by rfl) (by rfl) ?_);(conv=>arg 1;simp only [G,Z,Y,Gx,vV,simprocAttr,fb2,fb3,fb9,c2a,b7a,d7a,d9a,c8a,d4a,j2a,d5a,g7a,mm]);first|show GoR ..|(show _∧GoW ..;refine ⟨by exact fun _=>trivial,?_⟩)|(show _∧_∧_∧GoW ..;refine ⟨rfl,by trivial,(fun H _=>by simp only [G,Z,Y,Gx,vV,simprocAttr,fb2,fb3,fb9,c2a,b7a,d7a,d9a,c8a,d4a,j2a,d5a,g7a,mm]),?_⟩))|refine GoR.s (by rfl) rfl rfl ?_|refine GoW.s (by rfl) rfl rfl (by exact fun _=>trivial) ?_)
    exact .inl ⟨rfl,t6a,i2,_,_,_,_,rfl,n1e,rfl,rfl,rfl,rfl,j7c,rfl,rfl⟩
   | true=>
    refine Go.k8c rfl ?_
    repeat' (first|refine Go.a rfl ?_|refine Go.rgP (id:=12) ?_|refine Go.rg ?_|refine GoR.nil ?_|refine Go.ret ?_|refine Go.b rfl ?_|refine Go.rgS dmx (by decide) ?_|refine Go.rgD [1] (fun _=>True) dmx (by decide) 5 (by decide) (by trivial) ?_|refine GoP.nil ?_|refine GoP.p rfl (by rfl) ⟨_,_,rfl⟩ ?_|refine GoW.nil rfl ?_|((first|refine GoR.o (by rfl) (by rfl) ?_|refine GoW.o (by rfl) (by rfl) ?_|refine GoW.rd (by rfl) (by rfl) ?_);(conv=>arg 1;simp only [G,Z,Y,Gx,vV,simprocAttr,fb2,fb3,fb9,c2a,b7a,d7a,d9a,c8a,d4a,j2a,d5a,g7a,mm]);first|show GoR ..|(show _∧GoW ..;refine ⟨by exact fun _=>trivial,?_⟩)|(show _∧_∧_∧GoW ..;refine ⟨rfl,by trivial,(fun H _=>by simp only [G,Z,Y,Gx,vV,simprocAttr,fb2,fb3,fb9,c2a,b7a,d7a,d9a,c8a,d4a,j2a,d5a,g7a,mm]),?_⟩))|(refine GoP.o (by rfl) (by rfl) ?_;(conv=>arg 1;simp only [G,Z,Y,Gx,vV,simprocAttr,fb2,fb3,fb9,c2a,b7a,d7a,d9a,c8a,d4a,j2a,d5a,g7a,mm]);show GoP ..)|refine GoP.s (by rfl) rfl rfl ?_|refine GoR.s (by rfl) rfl rfl ?_|refine GoW.s (by rfl) rfl rfl (by exact fun _=>trivial) ?_)
    cases he:r0a l i2 with
    | error x=>
     obtain ⟨j,e⟩:=x
     refine GoP.cP c84 (by rfl) (by rfl) rfl (i5a.w8a (hen i2 j e n1e he _) fun c E => ?_)
     exact Go.pan rfl (.inr ⟨rfl,_,_,he,rfl,_,_,rfl⟩)
    | ok x=>
     obtain ⟨⟨op1,nm1,n1,ks1⟩,i3⟩:=x
     obtain ⟨_,t6e⟩:=y2a hw n1e he
     have hq:=hey i2 i3 _ n1e he
     simp only [Nd.k0a] at hq
     refine GoP.c c84 (by rfl) (by rfl) rfl (a3a.b2a (hq _) ?_)
     repeat' (first|refine Go.a rfl ?_|refine Go.rgP (id:=12) ?_|refine Go.rg ?_|refine GoR.nil ?_|refine Go.ret ?_|refine Go.b rfl ?_|refine Go.rgS dmx (by decide) ?_|refine Go.rgD [1] (fun _=>True) dmx (by decide) 5 (by decide) (by trivial) ?_|refine GoP.nil ?_|refine GoP.p rfl (by rfl) ⟨_,_,rfl⟩ ?_|refine GoW.nil rfl ?_|((first|refine GoR.o (by rfl) (by rfl) ?_|refine GoW.o (by rfl) (by rfl) ?_|refine GoW.rd (by rfl) (by rfl) ?_);(conv=>arg 1;simp only [G,Z,Y,Gx,vV,simprocAttr,fb2,fb3,fb9,c2a,b7a,d7a,d9a,c8a,d4a,j2a,d5a,g7a,mm]);first|show GoR ..|(show _∧GoW ..;refine ⟨by exact fun _=>trivial,?_⟩)|(show _∧_∧_∧GoW ..;refine ⟨rfl,by trivial,(fun H _=>by simp only [G,Z,Y,Gx,vV,simprocAttr,fb2,fb3,fb9,c2a,b7a,d7a,d9a,c8a,d4a,j2a,d5a,g7a,mm]),?_⟩))|(refine GoP.o (by rfl) (by rfl) ?_;(conv=>arg 1;simp only [G,Z,Y,Gx,vV,simprocAttr,fb2,fb3,fb9,c2a,b7a,d7a,d9a,c8a,d4a,j2a,d5a,g7a,mm]);show GoP ..)|refine GoP.s (by rfl) rfl rfl ?_|refine GoR.s (by rfl) rfl rfl ?_|refine GoW.s (by rfl) rfl rfl (by exact fun _=>trivial) ?_)
     exact .inl ⟨rfl,.mk op1 nm1 n1 ks1,i3,_,_,_,_,he,t6e,rfl,rfl,rfl,rfl,by rw [Nd.k0a];exact WfL.refl,rfl,rfl⟩
  ·rintro ρ2 H2 ⟨e1,i3,x1,x2,x3,x4,he,t6e,q0,q2,q3,q6,hwx,hox,rfl⟩
   refine Go.keep [(0,.ptr o 0),(2,.ptr n 0),(3,.ptr (n+1) 0),(6,.bool bb)] (.cons (by rw [q0];exact .refl) (.cons (by rw [q2];exact .refl) (.cons (by rw [q3];exact .refl) (.cons (by rw [q6];exact .refl) .nil)))) ?_
   simp only [gC,agL,zA]
   repeat' (first|refine Go.a rfl ?_|refine Go.rg ?_|refine GoR.nil ?_|refine Go.ret ?_|refine Go.b rfl ?_|refine Go.rgS dmx (by decide) ?_|refine Go.rgD [1] (fun _=>True) dmx (by decide) 5 (by decide) (by trivial) ?_|refine GoW.nil rfl ?_|((first|refine GoR.o (by rfl) (by rfl) ?_|refine GoW.o (by rfl) (by rfl) ?_|refine GoW.rd (by rfl) (by rfl) ?_);(conv=>arg 1;simp only [G,Z,Y,Gx,vV,simprocAttr,fb2,fb3,fb9,c2a,b7a,d7a,d9a,c8a,d4a,j2a,d5a,g7a,mm]);first|show GoR ..|(show _∧GoW ..;refine ⟨by exact fun _=>trivial,?_⟩)|(show _∧_∧_∧GoW ..;refine ⟨rfl,by trivial,(fun H _=>by simp only [G,Z,Y,Gx,vV,simprocAttr,fb2,fb3,fb9,c2a,b7a,d7a,d9a,c8a,d4a,j2a,d5a,g7a,mm]),?_⟩))|refine GoR.s (by rfl) rfl rfl ?_|refine GoW.s (by rfl) rfl rfl (by exact fun _=>trivial) ?_)
   refine Go.a2f [_] (RB l M o n fn k x1 x2 x3 x4 bb i3 zA) (BE (byX l bb i3) M) ?_ ?_ ?_
   ·cases bb with
    | false=>
     refine Go.k7c rfl ?_
     repeat' (first|refine Go.a rfl ?_|refine Go.rg ?_|refine GoR.nil ?_|refine Go.ret ?_|refine Go.b rfl ?_|refine Go.rgS dmx (by decide) ?_|refine Go.rgD [1] (fun _=>True) dmx (by decide) 5 (by decide) (by trivial) ?_|refine GoW.nil rfl ?_|((first|refine GoR.o (by rfl) (by rfl) ?_|refine GoW.o (by rfl) (by rfl) ?_|refine GoW.rd (by rfl) (by rfl) ?_);(conv=>arg 1;simp only [G,Z,Y,Gx,vV,simprocAttr,fb2,fb3,fb9,c2a,b7a,d7a,d9a,c8a,d4a,j2a,d5a,g7a,mm]);first|show GoR ..|(show _∧GoW ..;refine ⟨by exact fun _=>trivial,?_⟩)|(show _∧_∧_∧GoW ..;refine ⟨rfl,by trivial,(fun H _=>by simp only [G,Z,Y,Gx,vV,simprocAttr,fb2,fb3,fb9,c2a,b7a,d7a,d9a,c8a,d4a,j2a,d5a,g7a,mm]),?_⟩))|refine GoR.s (by rfl) rfl rfl ?_|refine GoW.s (by rfl) rfl rfl (by exact fun _=>trivial) ?_)
     exact .inl ⟨rfl,t6a,i3,_,_,_,_,rfl,t6e,rfl,rfl,rfl,j7c,rfl,rfl⟩
    | true=>
     refine Go.k8c rfl ?_
     repeat' (first|refine Go.a rfl ?_|refine Go.rgP (id:=14) ?_|refine Go.rg ?_|refine GoR.nil ?_|refine Go.ret ?_|refine Go.b rfl ?_|refine Go.rgS dmx (by decide) ?_|refine Go.rgD [1] (fun _=>True) dmx (by decide) 5 (by decide) (by trivial) ?_|refine GoP.nil ?_|refine GoP.p rfl (by rfl) ⟨_,_,rfl⟩ ?_|refine GoW.nil rfl ?_|((first|refine GoR.o (by rfl) (by rfl) ?_|refine GoW.o (by rfl) (by rfl) ?_|refine GoW.rd (by rfl) (by rfl) ?_);(conv=>arg 1;simp only [G,Z,Y,Gx,vV,simprocAttr,fb2,fb3,fb9,c2a,b7a,d7a,d9a,c8a,d4a,j2a,d5a,g7a,mm]);first|show GoR ..|(show _∧GoW ..;refine ⟨by exact fun _=>trivial,?_⟩)|(show _∧_∧_∧GoW ..;refine ⟨rfl,by trivial,(fun H _=>by simp only [G,Z,Y,Gx,vV,simprocAttr,fb2,fb3,fb9,c2a,b7a,d7a,d9a,c8a,d4a,j2a,d5a,g7a,mm]),?_⟩))|(refine GoP.o (by rfl) (by rfl) ?_;(conv=>arg 1;simp only [G,Z,Y,Gx,vV,simprocAttr,fb2,fb3,fb9,c2a,b7a,d7a,d9a,c8a,d4a,j2a,d5a,g7a,mm]);show GoP ..)|refine GoP.s (by rfl) rfl rfl ?_|refine GoR.s (by rfl) rfl rfl ?_|refine GoW.s (by rfl) rfl rfl (by exact fun _=>trivial) ?_)
     have hbx:byX l true i3=match wX l i3 (⟨#[44]⟩:ByteArray) with | .error e=>.error e | .ok j=>r0a l j:=by simp [byX];rfl
     cases h2:wX l i3 (⟨#[44]⟩:ByteArray) with
     | error x=>
      obtain ⟨j,e⟩:=x
      rw [h2] at hbx
      refine GoP.cP c83 (by rfl) (by rfl) rfl (i5a.w8a (hwn i3 j e t6e _ h2 _) fun c E => ?_)
      exact Go.pan rfl (.inr ⟨rfl,_,_,hbx,rfl,_,_,rfl⟩)
     | ok i4=>
      rw [h2] at hbx
      simp only at hbx
      obtain ⟨_,n2e⟩:=p9c h2
      refine GoP.c c83 (by rfl) (by rfl) rfl (a3a.b2a (hwy i3 i4 t6e _ h2 _) ?_)
      repeat' (first|refine Go.a rfl ?_|refine Go.rgP (id:=15) ?_|refine Go.rgP (id:=14) ?_|refine Go.rg ?_|refine GoR.nil ?_|refine Go.ret ?_|refine Go.b rfl ?_|refine Go.rgS dmx (by decide) ?_|refine Go.rgD [1] (fun _=>True) dmx (by decide) 5 (by decide) (by trivial) ?_|refine GoP.nil ?_|refine GoP.p rfl (by rfl) ⟨_,_,rfl⟩ ?_|refine GoP.nil ?_|refine GoP.p rfl (by rfl) ⟨_,_,rfl⟩ ?_|refine GoW.nil rfl ?_|((first|refine GoR.o (by rfl) (by rfl) ?_|refine GoW.o (by rfl) (by rfl) ?_|refine GoW.rd (by rfl) (by rfl) ?_);(conv=>arg 1;simp only [G,Z,Y,Gx,vV,simprocAttr,fb2,fb3,fb9,c2a,b7a,d7a,d9a,c8a,d4a,j2a,d5a,g7a,mm]);first|show GoR ..|(show _∧GoW ..;refine ⟨by exact fun _=>trivial,?_⟩)|(show _∧_∧_∧GoW ..;refine ⟨rfl,by trivial,(fun H _=>by simp only [G,Z,Y,Gx,vV,simprocAttr,fb2,fb3,fb9,c2a,b7a,d7a,d9a,c8a,d4a,j2a,d5a,g7a,mm]),?_⟩))|(refine GoP.o (by rfl) (by rfl) ?_;(conv=>arg 1;simp only [G,Z,Y,Gx,vV,simprocAttr,fb2,fb3,fb9,c2a,b7a,d7a,d9a,c8a,d4a,j2a,d5a,g7a,mm]);show GoP ..)|refine GoP.s (by rfl) rfl rfl ?_|refine GoR.s (by rfl) rfl rfl ?_|refine GoW.s (by rfl) rfl rfl (by exact fun _=>trivial) ?_)
      cases he2:r0a l i4 with
      | error x=>
       obtain ⟨j,e⟩:=x
       refine GoP.cP c84 (by rfl) (by rfl) rfl (i5a.w8a (hen i4 j e n2e he2 _) fun c E => ?_)
       exact Go.pan rfl (.inr ⟨rfl,_,_,hbx.trans he2,rfl,_,_,rfl⟩)
      | ok x=>
       obtain ⟨⟨op2,nm2,n2,ks2⟩,i5⟩:=x
       obtain ⟨_,f2f⟩:=y2a hw n2e he2
       have hq:=hey i4 i5 _ n2e he2
       simp only [Nd.k0a] at hq
       refine GoP.c c84 (by rfl) (by rfl) rfl (a3a.b2a (hq _) ?_)
       repeat' (first|refine Go.a rfl ?_|refine Go.rgP (id:=15) ?_|refine Go.rg ?_|refine GoR.nil ?_|refine Go.ret ?_|refine Go.b rfl ?_|refine Go.rgS dmx (by decide) ?_|refine Go.rgD [1] (fun _=>True) dmx (by decide) 5 (by decide) (by trivial) ?_|refine GoP.nil ?_|refine GoP.p rfl (by rfl) ⟨_,_,rfl⟩ ?_|refine GoW.nil rfl ?_|((first|refine GoR.o (by rfl) (by rfl) ?_|refine GoW.o (by rfl) (by rfl) ?_|refine GoW.rd (by rfl) (by rfl) ?_);(conv=>arg 1;simp only [G,Z,Y,Gx,vV,simprocAttr,fb2,fb3,fb9,c2a,b7a,d7a,d9a,c8a,d4a,j2a,d5a,g7a,mm]);first|show GoR ..|(show _∧GoW ..;refine ⟨by exact fun _=>trivial,?_⟩)|(show _∧_∧_∧GoW ..;refine ⟨rfl,by trivial,(fun H _=>by simp only [G,Z,Y,Gx,vV,simprocAttr,fb2,fb3,fb9,c2a,b7a,d7a,d9a,c8a,d4a,j2a,d5a,g7a,mm]),?_⟩))|(refine GoP.o (by rfl) (by rfl) ?_;(conv=>arg 1;simp only [G,Z,Y,Gx,vV,simprocAttr,fb2,fb3,fb9,c2a,b7a,d7a,d9a,c8a,d4a,j2a,d5a,g7a,mm]);show GoP ..)|refine GoP.s (by rfl) rfl rfl ?_|refine GoR.s (by rfl) rfl rfl ?_|refine GoW.s (by rfl) rfl rfl (by exact fun _=>trivial) ?_)
       exact .inl ⟨rfl,.mk op2 nm2 n2 ks2,i5,_,_,_,_,hbx.trans he2,f2f,rfl,rfl,rfl,by rw [Nd.k0a];exact WfL.refl,rfl,rfl⟩
   ·rintro ρ3 H3 ⟨b1,i4,y1,y2,y3,y4,hby,n2e,p0,p2,p3,o5f,hoy,rfl⟩
    have hx:a3d l fn (kb,eb,bb,true)=h6b l fn k e1 b1 i4:=by simp [a3d,h1,hk,he,hby]
    rw [hx]
    refine Go.keep [(0,.ptr o 0),(2,.ptr n 0),(3,.ptr (n+1) 0)] (.cons (by rw [p0];exact .refl) (.cons (by rw [p2];exact .refl) (.cons (by rw [p3];exact .refl) .nil))) ?_
    clear hx hx0 hnd
    have n9f:D.one x1=true∧D.one x2=true∧D.one x3=true∧D.one x4=true:=by simpa [List.all_cons,Bool.and_eq_true] using hox
    have o0f:D.one y1=true∧D.one y2=true∧D.one y3=true∧D.one y4=true:=by simpa [List.all_cons,Bool.and_eq_true] using hoy
    obtain ⟨a1,a2,a3,a4⟩:=n9f
    obtain ⟨d1,d2,d3,d4⟩:=o0f
    simp only [gC,agL,zA]
    repeat' (first|refine Go.a rfl ?_|refine Go.rgP (id:=16) ?_|refine Go.rg ?_|refine GoR.nil ?_|refine Go.ret ?_|refine Go.b rfl ?_|refine Go.rgS dmx (by decide) ?_|refine Go.rgD [1] (fun _=>True) dmx (by decide) 5 (by decide) (by trivial) ?_|refine GoP.nil ?_|refine GoP.p rfl (by rfl) ⟨_,_,rfl⟩ ?_|refine GoW.nil rfl ?_|((first|refine GoR.o (by rfl) (by rfl) ?_|refine GoW.o (by rfl) (by rfl) ?_|refine GoW.rd (by rfl) (by rfl) ?_);(conv=>arg 1;simp only [G,Z,Y,Gx,vV,simprocAttr,fb2,fb3,fb9,c2a,b7a,d7a,d9a,c8a,d4a,j2a,d5a,g7a,mm]);first|show GoR ..|(show _∧GoW ..;refine ⟨by exact fun _=>trivial,?_⟩)|(show _∧_∧_∧GoW ..;refine ⟨rfl,by trivial,(fun H _=>by simp only [G,Z,Y,Gx,vV,simprocAttr,fb2,fb3,fb9,c2a,b7a,d7a,d9a,c8a,d4a,j2a,d5a,g7a,mm]),?_⟩))|(refine GoP.o (by rfl) (by rfl) ?_;(conv=>arg 1;simp only [G,Z,Y,Gx,vV,simprocAttr,fb2,fb3,fb9,c2a,b7a,d7a,d9a,c8a,d4a,j2a,d5a,g7a,mm]);show GoP ..)|refine GoP.s (by rfl) rfl rfl ?_|refine GoR.s (by rfl) rfl rfl ?_|refine GoW.s (by rfl) rfl rfl (by exact fun _=>trivial) ?_)
    cases h3:wX l i4 (⟨#[41]⟩:ByteArray) with
    | error x=>
     obtain ⟨j,e⟩:=x
     have hx:h6b l fn k e1 b1 i4 = .error (j,e):=by simp [h6b,h3]
     rw [hx]
     refine GoP.cP c83 (by rfl) (by rfl) rfl (i5a.w8a (hwn i4 j e n2e _ h3 _) fun c E => ?_)
     exact Go.pan rfl ⟨rfl,rfl,_,_,rfl⟩
    | ok i5=>
    obtain ⟨_,f2f⟩:=p9c h3
    refine GoP.c c83 (by rfl) (by rfl) rfl (a3a.b2a (hwy i4 i5 n2e _ h3 _) ?_)
    repeat' (first|refine Go.a rfl ?_|refine Go.rgP (id:=16) ?_|refine Go.rg ?_|refine GoR.nil ?_|refine Go.ret ?_|refine Go.b rfl ?_|refine Go.rgS dmx (by decide) ?_|refine Go.rgD [1] (fun _=>True) dmx (by decide) 5 (by decide) (by trivial) ?_|refine GoP.nil ?_|refine GoP.p rfl (by rfl) ⟨_,_,rfl⟩ ?_|refine GoW.nil rfl ?_|((first|refine GoR.o (by rfl) (by rfl) ?_|refine GoW.o (by rfl) (by rfl) ?_|refine GoW.rd (by rfl) (by rfl) ?_);(conv=>arg 1;simp only [G,Z,Y,Gx,vV,simprocAttr,fb2,fb3,fb9,c2a,b7a,d7a,d9a,c8a,d4a,j2a,d5a,g7a,mm]);first|show GoR ..|(show _∧GoW ..;refine ⟨by exact fun _=>trivial,?_⟩)|(show _∧_∧_∧GoW ..;refine ⟨rfl,by trivial,(fun H _=>by simp only [G,Z,Y,Gx,vV,simprocAttr,fb2,fb3,fb9,c2a,b7a,d7a,d9a,c8a,d4a,j2a,d5a,g7a,mm]),?_⟩))|(refine GoP.o (by rfl) (by rfl) ?_;(conv=>arg 1;simp only [G,Z,Y,Gx,vV,simprocAttr,fb2,fb3,fb9,c2a,b7a,d7a,d9a,c8a,d4a,j2a,d5a,g7a,mm]);show GoP ..)|refine GoP.s (by rfl) rfl rfl ?_|refine GoR.s (by rfl) rfl rfl ?_|refine GoW.s (by rfl) rfl rfl (by exact fun _=>trivial) ?_)
    refine Go.keep [(0,.ptr o 0),(2,.ptr n 0),(3,.ptr (n+1) 0),(8,.str (e8e []))] (.cons .refl (.cons .refl (.cons .refl (.cons .refl (.nil))))) ?_
    refine Go.while (α:=Nat×List Cd×D×Mem) (fun x=>l.length - x.1) (fun x=>[(0,.ptr o 0),(2,.ptr n 0),(3,.ptr (n+1) 0),(8,.str (e8e x.2.1))])
     (fun x=>M (gC l x.1)++(.obj zA :: .obj (agL fn k x1 x2 x3 x4 y1 y2 y3 y4 x.2.2.1)::x.2.2.2))
     (fun x=>x.1≤l.length∧x.2.1.length≤4∧f9d n x.2.2.1 x.2.1 x.2.2.2 ∧ ∃ f,l.length - x.1<f∧r9a l (l.length+1) [] i5=r9a l f x.2.1 x.1) ?_
     (i5,[],.c5a,[]) ⟨f2f,by simp,.inl ⟨rfl,rfl⟩,l.length+1,by omega,rfl⟩
    rintro ⟨i,ws,wD,E⟩ ⟨hi,hws,hacc,f,hf,hcx⟩ next
    dsimp only at hi hws hacc hf hcx next
    obtain ⟨f,rfl⟩ : ∃ g,f=g+1:=⟨f - 1,by omega⟩
    have hwd:=hacc.one
    have his:=fun E=>o7e (l:=l) (hF.app E) i 1 (e8e ws)
    have hbad:=fun E e=>g3c (l:=l) (hF.app E) i e
    have hok:=fun E c e=>a4d (hF.app E) c e
    have hlen : ∀ S:Mem,b8a Tryz.prog .len #[26] [wD] S=some (.int .i64 (ws.length:Int),S):=by
     intro S
     rcases hacc with ⟨rfl,rfl⟩ | ⟨_,q,rfl,_⟩<;>simp [b8a,Tryz.underlying26]
    simp only [gC,agL,zA] at *
    cases hw1:isW l i 1 (e8e ws) with
    | false=>
     clear next
     rw [hw1] at his
     by_cases hend:i=l.length
     ·subst hend
      have hx:h6b l fn k e1 b1 i4 = .ok ⟨fn,k,e1,b1,ws⟩:=by
       simp only [h6b,h3]
       rw [hcx]
       simp [r9a,hw1]
      rw [hx]
      have hwf : ∀ w,Wf w (.sl none 9 ws.length (i7a ws))→Wf (.agg [.str fn,.int .i64 k,x1,x2,x3,x4,y1,y2,y3,y4,w]) (.agg (Ag.c ⟨fn,k,e1,b1,ws⟩)):=fun w h=>.agg' (.cons .refl (.cons .refl (WfL.append hwx (WfL.append o5f (.cons h .nil)))))
      rcases hacc with ⟨rfl,rfl⟩ | ⟨hne,q,rfl,hq⟩
      ·repeat' (first|refine Go.a rfl ?_|refine Go.rg ?_|refine GoR.nil ?_|refine Go.ret ?_|refine Go.b rfl ?_|refine Go.rgS dmx (by decide) ?_|refine Go.rgD [1] (fun _=>True) dmx (by decide) 5 (by decide) (by trivial) ?_|refine GoW.nil rfl ?_|((first|refine GoR.o (by rfl) (by rfl) ?_|refine GoW.o (by rfl) (by rfl) ?_|refine GoW.rd (by rfl) (by rfl) ?_);(conv=>arg 1;simp only [G,Z,Y,Gx,vV,simprocAttr,fb2,fb3,fb9,c2a,b7a,d7a,d9a,c8a,d4a,j2a,d5a,g7a,mm,beq_self_eq_true,a1,a2,a3,a4,d1,d2,d3,d4]);first|show GoR ..|(show _∧GoW ..;refine ⟨by exact fun _=>trivial,?_⟩)|(show _∧_∧_∧GoW ..;refine ⟨rfl,by trivial,(fun H _=>by simp only [G,Z,Y,Gx,vV,simprocAttr,fb2,fb3,fb9,c2a,b7a,d7a,d9a,c8a,d4a,j2a,d5a,g7a,mm,beq_self_eq_true,a1,a2,a3,a4,d1,d2,d3,d4]),?_⟩))|(refine GoW.c c85 (by rfl) (by rfl) rfl ?_;(refine a3a.b2a (his _) ?_);refine ⟨by exact fun _=>trivial,?_⟩)|(refine GoR.c c85 (by rfl) (by rfl) rfl ?_;(refine a3a.b2a (his _) ?_))|(refine GoW.c c88 (by rfl) (by rfl) rfl ?_;(refine a3a.b2a (k5c _) ?_);refine ⟨by exact fun _=>trivial,?_⟩)|(refine GoR.c c88 (by rfl) (by rfl) rfl ?_;(refine a3a.b2a (k5c _) ?_))|(refine GoW.c c86 (by rfl) (by rfl) rfl ?_;(refine a3a.b2a (hok _ _ _) ?_);refine ⟨by exact fun _=>trivial,?_⟩)|(refine GoR.c c86 (by rfl) (by rfl) rfl ?_;(refine a3a.b2a (hok _ _ _) ?_))|refine GoR.s (by rfl) rfl rfl ?_|refine GoW.s (by rfl) rfl rfl (by exact fun _=>trivial) ?_)
       refine ⟨(by first | exact .inl rfl | exact .inr rfl),fin ?_⟩
       rw [g3a (fn:=Tryz.f30) rfl]
       simp only [a0a,a2a,a1a,G,Z,Y,Gx,vV,simprocAttr,fb2,fb3,fb9,c2a,b7a,d7a,d9a,c8a,d4a,j2a,d5a,g7a,mm,a1,a2,a3,a4,d1,d2,d3,d4]
       exact ⟨_,rfl,hwf _ .e1d⟩
      ·have hcl:=fun S=>p9e (orc:=O) (some (n+2+q)) ws.length (i7a ws) (by cases ws with | nil=>exact absurd rfl hne | cons=>simp) (s7b ws) S (r7c ws)
       repeat' (first|refine Go.a rfl ?_|refine Go.rg ?_|refine GoR.nil ?_|refine Go.ret ?_|refine Go.b rfl ?_|refine Go.rgS dmx (by decide) ?_|refine Go.rgD [1] (fun _=>True) dmx (by decide) 5 (by decide) (by trivial) ?_|refine GoW.nil rfl ?_|((first|refine GoR.o (by rfl) (by rfl) ?_|refine GoW.o (by rfl) (by rfl) ?_|refine GoW.rd (by rfl) (by rfl) ?_);(conv=>arg 1;simp only [G,Z,Y,Gx,vV,simprocAttr,fb2,fb3,fb9,c2a,b7a,d7a,d9a,c8a,d4a,j2a,d5a,g7a,mm,beq_self_eq_true,a1,a2,a3,a4,d1,d2,d3,d4]);first|show GoR ..|(show _∧GoW ..;refine ⟨by exact fun _=>trivial,?_⟩)|(show _∧_∧_∧GoW ..;refine ⟨rfl,by trivial,(fun H _=>by simp only [G,Z,Y,Gx,vV,simprocAttr,fb2,fb3,fb9,c2a,b7a,d7a,d9a,c8a,d4a,j2a,d5a,g7a,mm,beq_self_eq_true,a1,a2,a3,a4,d1,d2,d3,d4]),?_⟩))|(refine GoW.c c85 (by rfl) (by rfl) rfl ?_;(refine a3a.b2a (his _) ?_);refine ⟨by exact fun _=>trivial,?_⟩)|(refine GoR.c c85 (by rfl) (by rfl) rfl ?_;(refine a3a.b2a (his _) ?_))|(refine GoW.c c88 (by rfl) (by rfl) rfl ?_;(refine a3a.b2a (hcl _) ?_);refine ⟨by exact fun _=>trivial,?_⟩)|(refine GoR.c c88 (by rfl) (by rfl) rfl ?_;(refine a3a.b2a (hcl _) ?_))|(refine GoW.c c86 (by rfl) (by rfl) rfl ?_;(refine a3a.b2a (hok _ _ _) ?_);refine ⟨by exact fun _=>trivial,?_⟩)|(refine GoR.c c86 (by rfl) (by rfl) rfl ?_;(refine a3a.b2a (hok _ _ _) ?_))|refine GoR.s (by rfl) rfl rfl ?_|refine GoW.s (by rfl) rfl rfl (by exact fun _=>trivial) ?_)
       refine ⟨(by first | exact .inl rfl | exact .inr rfl),fin ?_⟩
       rw [g3a (fn:=Tryz.f30) rfl]
       simp only [a0a,a2a,a1a,G,Z,Y,Gx,vV,simprocAttr,fb2,fb3,fb9,c2a,b7a,d7a,d9a,c8a,d4a,j2a,d5a,g7a,mm,a1,a2,a3,a4,d1,d2,d3,d4]
       exact ⟨_,rfl,hwf _ .refl⟩
     ·have hx:h6b l fn k e1 b1 i4 = .error (i,2):=by
       simp only [h6b,h3]
       rw [hcx]
       simp [r9a,hw1,hend]
      rw [hx]
      have hne2:((i:Int)==(l.length:Int))=false:=by simp;omega
      rcases hacc with ⟨rfl,rfl⟩ | ⟨hne,q,rfl,hq⟩
      ·repeat' (first|refine Go.a rfl ?_|refine Go.m0e (id:=24) 11 dmx (by decide) (by decide) c86 ?_|refine Go.rg ?_|refine GoR.nil ?_|refine Go.ret ?_|refine Go.b rfl ?_|refine Go.rgS dmx (by decide) ?_|refine Go.rgD [1] (fun _=>True) dmx (by decide) 5 (by decide) (by trivial) ?_|refine GoW.nil rfl ?_|((first|refine GoR.o (by rfl) (by rfl) ?_|refine GoW.o (by rfl) (by rfl) ?_|refine GoW.rd (by rfl) (by rfl) ?_);(conv=>arg 1;simp only [G,Z,Y,Gx,vV,simprocAttr,fb2,fb3,fb9,c2a,b7a,d7a,d9a,c8a,d4a,j2a,d5a,g7a,mm,hne2]);first|show GoR ..|(show _∧GoW ..;refine ⟨by exact fun _=>trivial,?_⟩)|(show _∧_∧_∧GoW ..;refine ⟨rfl,by trivial,(fun H _=>by simp only [G,Z,Y,Gx,vV,simprocAttr,fb2,fb3,fb9,c2a,b7a,d7a,d9a,c8a,d4a,j2a,d5a,g7a,mm,hne2]),?_⟩))|(refine GoP.c c85 (by rfl) (by rfl) rfl ?_;(refine a3a.b2a (his _) ?_))|(refine GoW.c c85 (by rfl) (by rfl) rfl ?_;(refine a3a.b2a (his _) ?_);refine ⟨by exact fun _=>trivial,?_⟩)|(refine GoR.c c85 (by rfl) (by rfl) rfl ?_;(refine a3a.b2a (his _) ?_))|(refine GoP.c c88 (by rfl) (by rfl) rfl ?_;(refine a3a.b2a (k5c _) ?_))|(refine GoW.c c88 (by rfl) (by rfl) rfl ?_;(refine a3a.b2a (k5c _) ?_);refine ⟨by exact fun _=>trivial,?_⟩)|(refine GoR.c c88 (by rfl) (by rfl) rfl ?_;(refine a3a.b2a (k5c _) ?_))|(refine GoP.o (by rfl) (by rfl) ?_;(conv=>arg 1;simp only [G,Z,Y,Gx,vV,simprocAttr,fb2,fb3,fb9,c2a,b7a,d7a,d9a,c8a,d4a,j2a,d5a,g7a,mm,hne2]);show GoP ..)|refine GoP.s (by rfl) rfl rfl ?_|refine GoR.s (by rfl) rfl rfl ?_|refine GoW.s (by rfl) rfl rfl (by exact fun _=>trivial) ?_)
       exact ⟨rfl,_,_,rfl,rfl,i5a.b2a (hbad _ _) (Go.pan rfl ⟨rfl,rfl,_,_,rfl⟩)⟩
      ·have hcl:=fun S=>p9e (orc:=O) (some (n+2+q)) ws.length (i7a ws) (by cases ws with | nil=>exact absurd rfl hne | cons=>simp) (s7b ws) S (r7c ws)
       repeat' (first|refine Go.a rfl ?_|refine Go.m0e (id:=24) 11 dmx (by decide) (by decide) c86 ?_|refine Go.rg ?_|refine GoR.nil ?_|refine Go.ret ?_|refine Go.b rfl ?_|refine Go.rgS dmx (by decide) ?_|refine Go.rgD [1] (fun _=>True) dmx (by decide) 5 (by decide) (by trivial) ?_|refine GoW.nil rfl ?_|((first|refine GoR.o (by rfl) (by rfl) ?_|refine GoW.o (by rfl) (by rfl) ?_|refine GoW.rd (by rfl) (by rfl) ?_);(conv=>arg 1;simp only [G,Z,Y,Gx,vV,simprocAttr,fb2,fb3,fb9,c2a,b7a,d7a,d9a,c8a,d4a,j2a,d5a,g7a,mm,hne2]);first|show GoR ..|(show _∧GoW ..;refine ⟨by exact fun _=>trivial,?_⟩)|(show _∧_∧_∧GoW ..;refine ⟨rfl,by trivial,(fun H _=>by simp only [G,Z,Y,Gx,vV,simprocAttr,fb2,fb3,fb9,c2a,b7a,d7a,d9a,c8a,d4a,j2a,d5a,g7a,mm,hne2]),?_⟩))|(refine GoP.c c85 (by rfl) (by rfl) rfl ?_;(refine a3a.b2a (his _) ?_))|(refine GoW.c c85 (by rfl) (by rfl) rfl ?_;(refine a3a.b2a (his _) ?_);refine ⟨by exact fun _=>trivial,?_⟩)|(refine GoR.c c85 (by rfl) (by rfl) rfl ?_;(refine a3a.b2a (his _) ?_))|(refine GoP.c c88 (by rfl) (by rfl) rfl ?_;(refine a3a.b2a (hcl _) ?_))|(refine GoW.c c88 (by rfl) (by rfl) rfl ?_;(refine a3a.b2a (hcl _) ?_);refine ⟨by exact fun _=>trivial,?_⟩)|(refine GoR.c c88 (by rfl) (by rfl) rfl ?_;(refine a3a.b2a (hcl _) ?_))|(refine GoP.o (by rfl) (by rfl) ?_;(conv=>arg 1;simp only [G,Z,Y,Gx,vV,simprocAttr,fb2,fb3,fb9,c2a,b7a,d7a,d9a,c8a,d4a,j2a,d5a,g7a,mm,hne2]);show GoP ..)|refine GoP.s (by rfl) rfl rfl ?_|refine GoR.s (by rfl) rfl rfl ?_|refine GoW.s (by rfl) rfl rfl (by exact fun _=>trivial) ?_)
       exact ⟨rfl,_,_,rfl,rfl,i5a.b2a (hbad _ _) (Go.pan rfl ⟨rfl,rfl,_,_,rfl⟩)⟩
    | true=>
     rw [hw1] at his
     by_cases h4:ws.length<4
     rotate_left
     ·clear next
      have hx:h6b l fn k e1 b1 i4 = .error (i,4):=by
       simp only [h6b,h3]
       rw [hcx]
       simp [r9a,hw1,h4]
      rw [hx]
      repeat' (first|refine Go.a rfl ?_|refine Go.rgP (id:=20) ?_|refine Go.rg ?_|refine GoR.nil ?_|refine Go.ret ?_|refine Go.b rfl ?_|refine Go.rgS dmx (by decide) ?_|refine Go.rgD [1] (fun _=>True) dmx (by decide) 5 (by decide) (by trivial) ?_|refine GoP.nil ?_|refine GoP.p rfl (by rfl) ⟨_,_,rfl⟩ ?_|(refine GoP.cP c86 (by rfl) (by rfl) rfl ?_;(refine i5a.b2a (hbad _ _) ?_))|refine GoW.nil rfl ?_|((first|refine GoR.o (by rfl) (by rfl) ?_|refine GoW.o (by rfl) (by rfl) ?_|refine GoW.rd (by rfl) (by rfl) ?_);(conv=>arg 1;simp only [G,Z,Y,Gx,vV,simprocAttr,fb2,fb3,fb9,c2a,b7a,d7a,d9a,c8a,d4a,j2a,d5a,g7a,mm,hlen,show decide ((ws.length:Int)<4)=false by simp;omega]);first|show GoR ..|(show _∧GoW ..;refine ⟨by exact fun _=>trivial,?_⟩)|(show _∧_∧_∧GoW ..;refine ⟨rfl,by trivial,(fun H _=>by simp only [G,Z,Y,Gx,vV,simprocAttr,fb2,fb3,fb9,c2a,b7a,d7a,d9a,c8a,d4a,j2a,d5a,g7a,mm,hlen,show decide ((ws.length:Int)<4)=false by simp;omega]),?_⟩))|(refine GoP.c c85 (by rfl) (by rfl) rfl ?_;(refine a3a.b2a (his _) ?_))|(refine GoW.c c85 (by rfl) (by rfl) rfl ?_;(refine a3a.b2a (his _) ?_);refine ⟨by exact fun _=>trivial,?_⟩)|(refine GoR.c c85 (by rfl) (by rfl) rfl ?_;(refine a3a.b2a (his _) ?_))|(refine GoP.o (by rfl) (by rfl) ?_;(conv=>arg 1;simp only [G,Z,Y,Gx,vV,simprocAttr,fb2,fb3,fb9,c2a,b7a,d7a,d9a,c8a,d4a,j2a,d5a,g7a,mm,hlen,show decide ((ws.length:Int)<4)=false by simp;omega]);show GoP ..)|refine GoP.s (by rfl) rfl rfl ?_|refine GoR.s (by rfl) rfl rfl ?_|refine GoW.s (by rfl) rfl rfl (by exact fun _=>trivial) ?_)
      exact Go.pan rfl ⟨rfl,rfl,_,_,rfl⟩
     ·have hil:i<l.length:=by
       unfold isW at hw1
       cases hq:l[i]? with
       | none=>rw [hq] at hw1;cases hw1
       | some t=>exact (List.getElem?_eq_some_iff.1 hq).1
      have d4l:decide ((ws.length:Int)<4)=true:=by simp;omega
      have ws1:=b9a (show i<4611686018427387904 by omega)
      cases hc:a3b l (i+1) with
      | error x=>
       clear next
       obtain ⟨j,e⟩:=x
       have hx:h6b l fn k e1 b1 i4 = .error (j,e):=by
        simp only [h6b,h3]
        rw [hcx]
        simp [r9a,hw1,h4,hc]
       rw [hx]
       repeat' (first|refine Go.a rfl ?_|refine Go.m0e (id:=22) 3 dmx (by decide) (by decide) c87 ?_|refine Go.rg ?_|refine GoR.nil ?_|refine Go.ret ?_|refine Go.b rfl ?_|refine Go.rgS dmx (by decide) ?_|(refine GoR.o (by rfl) (by rfl) ?_;(conv=>arg 1;simp only [G,Z,Y,Gx,vV,simprocAttr,fb2,fb3,fb9,c2a,b7a,d7a,d9a,c8a,d4a,j2a,d5a,g7a,mm,hlen,d4l,ws1]);show GoR ..)|(refine GoP.c c85 (by rfl) (by rfl) rfl ?_;(refine a3a.b2a (his _) ?_))|(refine GoR.c c85 (by rfl) (by rfl) rfl ?_;(refine a3a.b2a (his _) ?_))|(refine GoP.c c86 (by rfl) (by rfl) rfl ?_;(refine a3a.b2a (hok _ _ _) ?_))|(refine GoR.c c86 (by rfl) (by rfl) rfl ?_;(refine a3a.b2a (hok _ _ _) ?_))|(refine GoP.o (by rfl) (by rfl) ?_;(conv=>arg 1;simp only [G,Z,Y,Gx,vV,simprocAttr,fb2,fb3,fb9,c2a,b7a,d7a,d9a,c8a,d4a,j2a,d5a,g7a,mm,hlen,d4l,ws1]);show GoP ..)|refine GoP.s (by rfl) rfl rfl ?_|refine GoR.s (by rfl) rfl rfl ?_)
       exact ⟨rfl,_,_,rfl,rfl,i5a.w8a (hcn (i+1) j e hil hc _) (fun c E=>Go.pan rfl ⟨rfl,rfl,_,_,rfl⟩)⟩
      | ok x=>
       obtain ⟨cd,j⟩:=x
       obtain ⟨hjj,hjl⟩:=y0c hw (show i+1≤l.length from hil) hc
       have m6f:r9a l (l.length+1) [] i5=r9a l f (ws++[cd]) j:=by
        rw [hcx]
        simp [r9a,hw1,h4,hc]
       have hsep:e8e (ws++[cd])=(⟨#[97,110,100]⟩:ByteArray):=by cases ws<;>rfl
       have hq:=hcy (i+1) j cd hil hc
       obtain ⟨wD',E',hap,a4b⟩:=hacc.more (by omega) cd (S0:=M (gC l j)++[.obj zA,.obj (agL fn k x1 x2 x3 x4 y1 y2 y3 y4 wD)]) (by simp [m1])
       have hwd2:=a4b.one
       have hn:=next (j,ws++[cd],wD',E') (by dsimp only;omega) ⟨hjl,by simp;omega,a4b,f,by dsimp only;omega,m6f⟩
       clear next
       dsimp only at hn
       rw [hsep] at hn
       obtain ⟨cop,⟨op1,nm1,n1,ks1⟩,⟨op2,nm2,n2,ks2⟩⟩:=cd
       simp only [Cd.c,Nd.k0a,List.cons_append,List.nil_append,List.append_assoc,gC,agL,zA] at hap hq hn
       repeat' (first|refine Go.a rfl ?_|refine Go.rg ?_|refine GoR.nil ?_|refine Go.ret ?_|refine Go.b rfl ?_|refine Go.rgS dmx (by decide) ?_|refine Go.rgD [1] (fun H=>b6a H (n+1)=some [.str fn,.int .i64 k,x1,x2,x3,x4,y1,y2,y3,y4,wD]) dmx (by decide) 5 (by decide) (by (simp only [m6,a5a,a4a])) ?_|refine GoW.nil rfl ?_|((first|refine GoR.o (by rfl) (by rfl) ?_|refine GoW.o (by rfl) (by rfl) ?_|refine GoW.rd (by rfl) (by rfl) ?_);(conv=>arg 1;simp only [G,Z,Y,Gx,vV,simprocAttr,fb2,fb3,fb9,c2a,b7a,d7a,d9a,c8a,d4a,j2a,d5a,g7a,mm,hlen,d4l,ws1,hwd,hwd2,hap,builtin_append,List.append_assoc,List.cons_append,List.nil_append]);first|show GoR ..|(show _∧GoW ..;refine ⟨by (first|exact fun h=>absurd h (by decide)|(intro _;(simp only [m6,a5a,a4a]))),?_⟩)|(show _∧_∧_∧GoW ..;refine ⟨rfl,by (simp only [m6,a5a,a4a]),(fun H hI=>by (try dsimp only at hI);simp only [G,Z,Y,Gx,vV,simprocAttr,fb2,fb3,fb9,c2a,b7a,d7a,d9a,c8a,d4a,j2a,d5a,g7a,mm,hlen,d4l,ws1,hwd,hwd2,hap,builtin_append,List.append_assoc,List.cons_append,List.nil_append,hI]),?_⟩))|(refine GoW.c c85 (by rfl) (by rfl) rfl ?_;(refine a3a.b2a (his _) ?_);refine ⟨by (first|exact fun h=>absurd h (by decide)|(intro _;(simp only [m6,a5a,a4a]))),?_⟩)|(refine GoR.c c85 (by rfl) (by rfl) rfl ?_;(refine a3a.b2a (his _) ?_))|(refine GoW.c c86 (by rfl) (by rfl) rfl ?_;(refine a3a.b2a (hok _ _ _) ?_);refine ⟨by (first|exact fun h=>absurd h (by decide)|(intro _;(simp only [m6,a5a,a4a]))),?_⟩)|(refine GoR.c c86 (by rfl) (by rfl) rfl ?_;(refine a3a.b2a (hok _ _ _) ?_))|(refine GoW.c c87 (by rfl) (by rfl) rfl ?_;(refine a3a.b2a (hq _) ?_);refine ⟨by (first|exact fun h=>absurd h (by decide)|(intro _;(simp only [m6,a5a,a4a]))),?_⟩)|(refine GoR.c c87 (by rfl) (by rfl) rfl ?_;(refine a3a.b2a (hq _) ?_))|refine GoR.s (by rfl) rfl rfl ?_|refine GoW.s (by rfl) rfl rfl (by (first|exact fun h=>absurd h (by decide)|(intro _;(simp only [m6,a5a,a4a])))) ?_)
       refine Go.lpN ?_
       refine Go.keep [(0,.ptr o 0),(2,.ptr n 0),(3,.ptr (n+1) 0),(8,.str (⟨#[97,110,100]⟩:ByteArray))] (.cons .refl (.cons .refl (.cons .refl (.cons .refl (.nil))))) ?_
       exact hn
   ·rintro ρ3 H3 ⟨j,e,hk2,hp,c,E,rfl⟩
    have hx:a3d l fn (kb,eb,bb,true) = .error (j,e):=by simp [a3d,h1,hk,he,hk2]
    rw [hx]
    exact Go.pan rfl ⟨rfl,hp,c,E,rfl⟩
  ·rintro ρ2 H2 ⟨j,e,hk2,hp,c,E,rfl⟩
   have hx:a3d l fn (kb,eb,bb,true) = .error (j,e):=by simp [a3d,h1,hk,hk2]
   rw [hx]
   exact Go.pan rfl ⟨rfl,hp,c,E,rfl⟩
 ·rintro ρ1 H1 ⟨j,e,hk,hp,c,E,rfl⟩
  have hx:a3d l fn (kb,eb,bb,true) = .error (j,e):=by simp [a3d,h1,hk]
  rw [hx]
  exact Go.pan rfl ⟨rfl,hp,c,E,rfl⟩
end Go.Proofs.DgT
