/- Whether two numbers hold by a sign; a condition, by the program. -/
import Derived.Test.YtcdijoaabbjioaaGreatDoorDgG1x
set_option linter.unusedSimpArgs false
set_option linter.unusedVariables false
namespace Go.Proofs.DgT
open Go Go.DM
set_option maxRecDepth 100000
variable {orc:c3a}
def b4b (s:ByteArray) (a b:Int):Bool×Bool:=
 if s=(⟨#[61]⟩:ByteArray) then (a==b,true) else if s=(⟨#[33,61]⟩:ByteArray) then (a != b,true) else if s=(⟨#[60]⟩:ByteArray) then (decide (a<b),true) else if s=(⟨#[60,61]⟩:ByteArray) then (decide (a≤b),true) else if s=(⟨#[62]⟩:ByteArray) then (decide (b<a),true) else if s=(⟨#[62,61]⟩:ByteArray) then (decide (b≤a),true) else (false,false)
def k0b (s:ByteArray):Bool:=(b4b s 0 0).2
theorem j5b {s:ByteArray} {a b:Int} : (b4b s a b).2=k0b s:=by
 unfold k0b b4b
 repeat' split
 all_goals rfl
theorem s6b (s:ByteArray) (a b:Int) (S:Mem):a3a Tryz.prog orc 47 [.str s,.int .i64 a,.int .i64 b] S fun d S'=>S'=S∧d = .tup [.bool (b4b s a b).1,.bool (b4b s a b).2]:=by
 refine a3a.e Tryz.func47 rfl Tryz.ntmps47 (by rfl) ?_
 repeat' (first|refine Go.a rfl ?_|refine Go.rg ?_|refine GoR.nil ?_|refine Go.ret ?_|refine Go.b rfl ?_|(refine GoR.o (by rfl) (by rfl) ?_;(conv=>arg 1;simp only [G,Z,Y,Gx,vV,simprocAttr,fb2,fb9]);show GoR ..)|refine Go.b0a rfl (fun hc => ?_) (fun hc => ?_))
 all_goals
  refine ⟨(by first | exact .inl rfl | exact .inr rfl),fin ?_⟩
  rw [i1a (fn:=Tryz.f47) rfl]
  simp only [a0a,a2a,a1a,G,Z,Y,Gx,vV,simprocAttr,fb2,fb9]
  refine ⟨_,[],by simp,Wk.of_low (.a2b (.cons (.bool _) (.cons (.bool _) .nil))),?_⟩
  simp_all [b4b]
theorem a0e (s:ByteArray) (a b:Int) (S:Mem):a3a Tryz.prog orc 40 [.str s,.int .i64 a,.int .i64 b] S fun d S'=>S'=S∧d = .tup [.bool (b4b s a b).1,.bool (b4b s a b).2]:=by
 refine a3a.e Tryz.func40 rfl Tryz.ntmps40 (by rfl) ?_
 repeat' (first|refine Go.a rfl ?_|refine Go.rg ?_|refine GoR.nil ?_|refine Go.ret ?_|refine Go.b rfl ?_|(refine GoR.o (by rfl) (by rfl) ?_;(conv=>arg 1;simp only [G,Z,Y,Gx,vV,simprocAttr,fb2,fb9]);show GoR ..)|refine Go.b0a rfl (fun hc => ?_) (fun hc => ?_))
 all_goals
  refine ⟨(by first | exact .inl rfl | exact .inr rfl),fin ?_⟩
  rw [i1a (fn:=Tryz.f40) rfl]
  simp only [a0a,a2a,a1a,G,Z,Y,Gx,vV,simprocAttr,fb2,fb9]
  refine ⟨_,[],by simp,Wk.of_low (.a2b (.cons (.bool _) (.cons (.bool _) .nil))),?_⟩
  simp_all [b4b]
structure Cd where
 op:ByteArray
 a:Nd
 b:Nd
def Cd.c (x:Cd):List D:=.str x.op::(x.a.c++x.b.c)
theorem Cd.len (x:Cd):(Cd.c x).length=9:=by simp [Cd.c,Nd.len]
theorem c4e {m:Nat} (x:Cd):e5b m (Cd.c x):=.cons (.str _) (.append (Nd.low _) (Nd.low _))
def a3b (l:List Tok) (i:Nat):Except (Nat×Int) (Cd×Nat):=
 match r0a l i with
 | .error e=>.error e
 | .ok (a,j)=>
  match l[j]? with
  | none=>.error (j,2)
  | some t=>if t.k=3∧k0b t.t=true then (match r0a l (j+1) with | .error e=>.error e | .ok (b,j2)=>.ok (⟨t.t,a,b⟩,j2)) else .error (j,2)
def f6b (l:List Tok) (i:Nat):Except (Nat×Int) (D×Nat):=match a3b l i with | .ok (n,j)=>.ok (.agg (Cd.c n),j) | .error e=>.error e
theorem y2a {l:List Tok} (hw : ∀ t∈l,n6a t) {i:Nat} (hi:i≤l.length) {a:Nd} {j:Nat} (h:r0a l i = .ok (a,j)):i<j∧j≤l.length:=by
 obtain ⟨r,hr,hg⟩:=g6c hw hi
 simp only [r0a,hr] at h
 split at h
 ·rename_i he
  cases h
  exact ⟨(hg.on he).2,hg.hi⟩
 ·cases h
end Go.Proofs.DgT
namespace Go.Proofs.DgT
open Go Go.DM
set_option maxRecDepth 100000
theorem t2c {l:List Tok} (hl:l.length<100000) (hw : ∀ t∈l,n6a t) {M:List D→Mem} {o n:Nat} (hF:Fam M o n) {i j:Nat} (hi:i≤l.length) {a:Nd} (h:r0a l i = .ok (a,j)) (E:Mem) :
  a3a Tryz.prog O 84 [.ptr o 0] (M (gC l i)++E) fun d S'=>S'=M (gC l j)++E∧d = .agg a.c:=by
 have:=g8d hl hw (hF.app E) i hi
 simp only [t1c,h] at this
 exact this
theorem j5d {l:List Tok} (hl:l.length<100000) (hw : ∀ t∈l,n6a t) {M:List D→Mem} {o n:Nat} (hF:Fam M o n) {i j:Nat} (hi:i≤l.length) {e:Int} (h:r0a l i = .error (j,e)) (E:Mem) :
  i5a Tryz.prog O 84 [.ptr o 0] (M (gC l i)++E) fun d S'=>d=g0d j e ∧ ∃ c E,S'=M c++E:=by
 have:=g8d hl hw (hF.app E) i hi
 simp only [t1c,h] at this
 obtain ⟨d,ρ,H,hb,rfl,c,E',rfl⟩:=this
 exact ⟨_,ρ,_,hb,rfl,c,E++E',by simp⟩
theorem t0d {l:List Tok} (hl:l.length<100000) {M:List D→Mem} {o n:Nat} (hF:Fam M o n) {i:Nat} (hi:i<l.length) {k:Int} (hk:l[i].k=k) (E:Mem) :
  a3a Tryz.prog O 82 [.ptr o 0,.int .i64 k] (M (gC l i)++E) fun d S'=>S'=M (gC l (i+1))++E∧d = .agg (Tok.c l[i]):=by
 have:=g9d hl (hF.app E) i (Nat.le_of_lt hi) k
 have e:q6b l i k = .ok (.agg (Tok.c l[i]),i+1):=by simp [q6b,hi,hk]
 rw [e] at this
 exact this
theorem f0e {l:List Tok} (hl:l.length<100000) {M:List D→Mem} {o n:Nat} (hF:Fam M o n) {i:Nat} (hi:i≤l.length) {k:Int} (hk : ∀ h:i<l.length,l[i].k≠k) (E:Mem) :
  i5a Tryz.prog O 82 [.ptr o 0,.int .i64 k] (M (gC l i)++E) fun d S'=>d=g0d i 2 ∧ ∃ c E,S'=M c++E:=by
 have:=g9d hl (hF.app E) i hi k
 have e:q6b l i k = .error (i,2):=by
  by_cases h:i<l.length
  ·simp [q6b,h,hk h]
  ·simp [q6b,show l[i]?=none by simp;omega]
 rw [e] at this
 obtain ⟨d,ρ,H,hb,rfl,c,E',rfl⟩:=this
 exact ⟨_,ρ,_,hb,rfl,c,E++E',by simp⟩
set_option maxHeartbeats 800000 in
theorem g7d {l:List Tok} (hl:l.length<100000) (hw : ∀ t∈l,n6a t) {M:List D→Mem} {o n:Nat} (hF:Fam M o n) (i:Nat) (hi:i≤l.length):c0d 87 [.ptr o 0] l M i (f6b l i):=by
 obtain ⟨m1,m2,m3,m4,m5,m6,m7,m8,m9,m10,m11⟩:=hF.facts
 have mm:=hF.facts
 cases h1:r0a l i with
 | error x=>
  obtain ⟨j,e⟩:=x
  have hx:f6b l i = .error (j,e):=by simp [f6b,a3b,h1]
  rw [hx]
  show i5a _ _ _ _ _ _
  have hno:=j5d hl hw hF hi h1
  simp only [gC] at *
  refine i5a.body Tryz.func87 rfl Tryz.ntmps87 (by rfl) ?_
  repeat' (first|refine Go.a rfl ?_|refine Go.rgP (id:=1) ?_|refine Go.rg ?_|refine GoR.nil ?_|refine Go.ret ?_|refine Go.b rfl ?_|refine Go.rgS dmx (by decide) ?_|refine Go.rgD [1,2] (fun _=>True) dmx (by decide) 6 (by decide) (by trivial) ?_|refine GoP.nil ?_|refine GoP.p rfl (by rfl) ⟨_,_,rfl⟩ ?_|(refine GoP.cP c84 (by rfl) (by rfl) rfl ?_;(refine i5a.w8a (hno _) (fun c E => ?_)))|refine GoW.nil rfl ?_|((first|refine GoR.o (by rfl) (by rfl) ?_|refine GoW.o (by rfl) (by rfl) ?_|refine GoW.rd (by rfl) (by rfl) ?_);(conv=>arg 1;simp only [G,Z,Y,Gx,vV,simprocAttr,fb2,fb3,fb9,c2a,b7a,c8a,d4a,j2a,d5a,g7a,e2a,mm]);first|show GoR ..|(show _∧GoW ..;refine ⟨by exact fun _=>trivial,?_⟩)|(show _∧_∧_∧GoW ..;refine ⟨rfl,by trivial,(fun H _=>by simp only [G,Z,Y,Gx,vV,simprocAttr,fb2,fb3,fb9,c2a,b7a,c8a,d4a,j2a,d5a,g7a,e2a,mm]),?_⟩))|(refine GoP.o (by rfl) (by rfl) ?_;(conv=>arg 1;simp only [G,Z,Y,Gx,vV,simprocAttr,fb2,fb3,fb9,c2a,b7a,c8a,d4a,j2a,d5a,g7a,e2a,mm]);show GoP ..)|refine Go.b0a rfl (fun hc => ?_) (fun hc => ?_))
  exact Go.pan rfl ⟨rfl,rfl,_,_,rfl⟩
 | ok x=>
 obtain ⟨a,j⟩:=x
 obtain ⟨hij,hjl⟩:=y2a hw hi h1
 have hyes:=t2c hl hw hF hi h1
 have i3f:f6b l i = .error (j,2)→(∀ h:j<l.length,l[j].k≠3)→c0d 87 [.ptr o 0] l M i (f6b l i):=by
  intro hx hk
  rw [hx]
  show i5a _ _ _ _ _ _
  have hno:=f0e hl hF hjl hk
  obtain ⟨op1,nm1,n1,ks1⟩:=a
  simp only [gC,Nd.k0a] at *
  refine i5a.body Tryz.func87 rfl Tryz.ntmps87 (by rfl) ?_
  repeat' (first|refine Go.a rfl ?_|refine Go.rgP (id:=2) ?_|refine Go.rg ?_|refine GoR.nil ?_|refine Go.ret ?_|refine Go.b rfl ?_|refine Go.rgS dmx (by decide) ?_|refine Go.rgD [1,2] (fun _=>True) dmx (by decide) 6 (by decide) (by trivial) ?_|refine GoP.nil ?_|refine GoP.p rfl (by rfl) ⟨_,_,rfl⟩ ?_|(refine GoP.cP c82 (by rfl) (by rfl) rfl ?_;(refine i5a.w8a (hno _) (fun c E => ?_)))|refine GoW.nil rfl ?_|((first|refine GoR.o (by rfl) (by rfl) ?_|refine GoW.o (by rfl) (by rfl) ?_|refine GoW.rd (by rfl) (by rfl) ?_);(conv=>arg 1;simp only [G,Z,Y,Gx,vV,simprocAttr,fb2,fb3,fb9,c2a,b7a,c8a,d4a,j2a,d5a,g7a,e2a,mm]);first|show GoR ..|(show _∧GoW ..;refine ⟨by exact fun _=>trivial,?_⟩)|(show _∧_∧_∧GoW ..;refine ⟨rfl,by trivial,(fun H _=>by simp only [G,Z,Y,Gx,vV,simprocAttr,fb2,fb3,fb9,c2a,b7a,c8a,d4a,j2a,d5a,g7a,e2a,mm]),?_⟩))|(refine GoP.c c84 (by rfl) (by rfl) rfl ?_;(refine a3a.b2a (hyes _) ?_))|(refine GoW.c c84 (by rfl) (by rfl) rfl ?_;(refine a3a.b2a (hyes _) ?_);refine ⟨by exact fun _=>trivial,?_⟩)|(refine GoR.c c84 (by rfl) (by rfl) rfl ?_;(refine a3a.b2a (hyes _) ?_))|(refine GoP.o (by rfl) (by rfl) ?_;(conv=>arg 1;simp only [G,Z,Y,Gx,vV,simprocAttr,fb2,fb3,fb9,c2a,b7a,c8a,d4a,j2a,d5a,g7a,e2a,mm]);show GoP ..)|refine Go.b0a rfl (fun hc => ?_) (fun hc => ?_))
  exact Go.pan rfl ⟨rfl,rfl,_,_,rfl⟩
 by_cases hj:j<l.length
 ·by_cases hk:l[j].k=3
  ·have hty:=t0d hl hF hj hk
   have hho:=s6b (orc:=O) l[j].t 0 0
   cases ho:k0b l[j].t with
   | false=>
    have hx:f6b l i = .error (j,2):=by simp [f6b,a3b,h1,hj,ho]
    rw [hx]
    show i5a _ _ _ _ _ _
    rw [j5b,ho] at hho
    obtain ⟨op1,nm1,n1,ks1⟩:=a
    simp only [gC,Nd.k0a,Tok.c] at *
    refine i5a.body Tryz.func87 rfl Tryz.ntmps87 (by rfl) ?_
    repeat' (first|refine Go.a rfl ?_|refine Go.rgP (id:=5) ?_|refine Go.rg ?_|refine GoR.nil ?_|refine Go.ret ?_|refine Go.b rfl ?_|refine Go.rgS dmx (by decide) ?_|refine Go.rgD [1,2] (fun _=>True) dmx (by decide) 6 (by decide) (by trivial) ?_|refine GoP.nil ?_|refine GoP.p rfl (by rfl) ⟨_,_,rfl⟩ ?_|refine GoW.nil rfl ?_|((first|refine GoR.o (by rfl) (by rfl) ?_|refine GoW.o (by rfl) (by rfl) ?_|refine GoW.rd (by rfl) (by rfl) ?_);(conv=>arg 1;simp only [G,Z,Y,Gx,vV,simprocAttr,fb2,fb3,fb9,c2a,b7a,c8a,d4a,j2a,d5a,g7a,e2a,mm,show IntKind.i64.wrap (((j+1:Nat):Int) - 1)=(j:Int) by rw [wrap64 (by omega) (by omega)];omega]);first|show GoR ..|(show _∧GoW ..;refine ⟨by exact fun _=>trivial,?_⟩)|(show _∧_∧_∧GoW ..;refine ⟨rfl,by trivial,(fun H _=>by simp only [G,Z,Y,Gx,vV,simprocAttr,fb2,fb3,fb9,c2a,b7a,c8a,d4a,j2a,d5a,g7a,e2a,mm,show IntKind.i64.wrap (((j+1:Nat):Int) - 1)=(j:Int) by rw [wrap64 (by omega) (by omega)];omega]),?_⟩))|(refine GoP.c c84 (by rfl) (by rfl) rfl ?_;(refine a3a.b2a (hyes _) ?_))|(refine GoW.c c84 (by rfl) (by rfl) rfl ?_;(refine a3a.b2a (hyes _) ?_);refine ⟨by exact fun _=>trivial,?_⟩)|(refine GoR.c c84 (by rfl) (by rfl) rfl ?_;(refine a3a.b2a (hyes _) ?_))|(refine GoP.c c82 (by rfl) (by rfl) rfl ?_;(refine a3a.b2a (hty _) ?_))|(refine GoW.c c82 (by rfl) (by rfl) rfl ?_;(refine a3a.b2a (hty _) ?_);refine ⟨by exact fun _=>trivial,?_⟩)|(refine GoR.c c82 (by rfl) (by rfl) rfl ?_;(refine a3a.b2a (hty _) ?_))|(refine GoP.c c47 (by rfl) (by rfl) rfl ?_;(refine a3a.b2a (hho _) ?_))|(refine GoW.c c47 (by rfl) (by rfl) rfl ?_;(refine a3a.b2a (hho _) ?_);refine ⟨by exact fun _=>trivial,?_⟩)|(refine GoR.c c47 (by rfl) (by rfl) rfl ?_;(refine a3a.b2a (hho _) ?_))|(refine GoP.o (by rfl) (by rfl) ?_;(conv=>arg 1;simp only [G,Z,Y,Gx,vV,simprocAttr,fb2,fb3,fb9,c2a,b7a,c8a,d4a,j2a,d5a,g7a,e2a,mm,show IntKind.i64.wrap (((j+1:Nat):Int) - 1)=(j:Int) by rw [wrap64 (by omega) (by omega)];omega]);show GoP ..)|refine Go.b0a rfl (fun hc => ?_) (fun hc => ?_))
    exact Go.pan rfl ⟨rfl,rfl,_,_,rfl⟩
   | true=>
    rw [j5b,ho] at hho
    cases h2:r0a l (j+1) with
    | error x=>
     obtain ⟨j2,e⟩:=x
     have hx:f6b l i = .error (j2,e):=by simp [f6b,a3b,h1,hj,hk,ho,h2]
     rw [hx]
     show i5a _ _ _ _ _ _
     have hno:=j5d hl hw hF (show j+1≤l.length from hj) h2
     obtain ⟨op1,nm1,n1,ks1⟩:=a
     simp only [gC,Nd.k0a,Tok.c] at *
     refine i5a.body Tryz.func87 rfl Tryz.ntmps87 (by rfl) ?_
     repeat' (first|refine Go.a rfl ?_|refine Go.m0e (id:=6) 4 dmx (by decide) (by decide) c84 ?_|refine Go.rg ?_|refine GoR.nil ?_|refine Go.ret ?_|refine Go.b rfl ?_|refine Go.rgS dmx (by decide) ?_|(refine GoR.o (by rfl) (by rfl) ?_;(conv=>arg 1;simp only [G,Z,Y,Gx,vV,simprocAttr,fb2,fb3,fb9,c2a,b7a,c8a,d4a,j2a,d5a,g7a,e2a,mm]);show GoR ..)|(refine GoP.c c84 (by rfl) (by rfl) rfl ?_;(refine a3a.b2a (hyes _) ?_))|(refine GoR.c c84 (by rfl) (by rfl) rfl ?_;(refine a3a.b2a (hyes _) ?_))|(refine GoP.c c82 (by rfl) (by rfl) rfl ?_;(refine a3a.b2a (hty _) ?_))|(refine GoR.c c82 (by rfl) (by rfl) rfl ?_;(refine a3a.b2a (hty _) ?_))|(refine GoP.c c47 (by rfl) (by rfl) rfl ?_;(refine a3a.b2a (hho _) ?_))|(refine GoR.c c47 (by rfl) (by rfl) rfl ?_;(refine a3a.b2a (hho _) ?_))|(refine GoP.o (by rfl) (by rfl) ?_;(conv=>arg 1;simp only [G,Z,Y,Gx,vV,simprocAttr,fb2,fb3,fb9,c2a,b7a,c8a,d4a,j2a,d5a,g7a,e2a,mm]);show GoP ..)|refine Go.b0a rfl (fun hc => ?_) (fun hc => ?_))
     exact ⟨rfl,_,_,rfl,rfl,i5a.w8a (hno _) (fun c E=>Go.pan rfl ⟨rfl,rfl,_,_,rfl⟩)⟩
    | ok x=>
     obtain ⟨b,j2⟩:=x
     have hx:f6b l i = .ok (.agg (Cd.c ⟨l[j].t,a,b⟩),j2):=by simp [f6b,a3b,h1,hj,hk,ho,h2]
     rw [hx]
     show a3a _ _ _ _ _ _
     refine a3a.b0c hF ?_
     have t9e:=t2c hl hw hF (show j+1≤l.length from hj) h2
     obtain ⟨op1,nm1,n1,ks1⟩:=a
     obtain ⟨op2,nm2,n2,ks2⟩:=b
     simp only [gC,Nd.k0a,Tok.c,Cd.c] at *
     refine a3a.eb Tryz.func87 rfl Tryz.ntmps87 (by rfl) ?_
     repeat' (first|refine Go.a rfl ?_|refine Go.rg ?_|refine GoR.nil ?_|refine Go.ret ?_|refine Go.b rfl ?_|refine Go.rgS dmx (by decide) ?_|refine Go.rgD [1,2] (fun H=>b6a H (n+1)=some [.str op1,.str nm1,.int .i64 n1,.sl none 4 ks1.length (d3a ks1)]∧b6a H (n+2)=some [.int .i64 l[j].k,.str l[j].t,.int .i64 l[j].n,.int .i64 (l[j].a:Int)]) dmx (by decide) 6 (by decide) (by (constructor<;>simp only [m6,a5a,a4a])) ?_|refine GoW.nil rfl ?_|((first|refine GoR.o (by rfl) (by rfl) ?_|refine GoW.o (by rfl) (by rfl) ?_|refine GoW.rd (by rfl) (by rfl) ?_);(conv=>arg 1;simp only [G,Z,Y,Gx,vV,simprocAttr,fb2,fb3,fb9,c2a,b7a,c8a,d4a,j2a,d5a,g7a,e2a,mm]);first|show GoR ..|(show _∧GoW ..;refine ⟨by (first|exact fun h=>absurd h (by decide)|(intro _;(constructor<;>simp only [m6,a5a,a4a]))),?_⟩)|(show _∧_∧_∧GoW ..;refine ⟨rfl,by (constructor<;>simp only [m6,a5a,a4a]),(fun H hI=>by (try dsimp only at hI);simp only [G,Z,Y,Gx,vV,simprocAttr,fb2,fb3,fb9,c2a,b7a,c8a,d4a,j2a,d5a,g7a,e2a,mm,hI]),?_⟩))|(refine GoW.c c84 (by rfl) (by rfl) rfl ?_;(first | refine a3a.b2a (hyes _) ?_ | refine a3a.b2a (t9e _) ?_);refine ⟨by (first|exact fun h=>absurd h (by decide)|(intro _;(constructor<;>simp only [m6,a5a,a4a]))),?_⟩)|(refine GoR.c c84 (by rfl) (by rfl) rfl ?_;(first | refine a3a.b2a (hyes _) ?_ | refine a3a.b2a (t9e _) ?_))|(refine GoW.c c82 (by rfl) (by rfl) rfl ?_;(refine a3a.b2a (hty _) ?_);refine ⟨by (first|exact fun h=>absurd h (by decide)|(intro _;(constructor<;>simp only [m6,a5a,a4a]))),?_⟩)|(refine GoR.c c82 (by rfl) (by rfl) rfl ?_;(refine a3a.b2a (hty _) ?_))|(refine GoW.c c47 (by rfl) (by rfl) rfl ?_;(refine a3a.b2a (hho _) ?_);refine ⟨by (first|exact fun h=>absurd h (by decide)|(intro _;(constructor<;>simp only [m6,a5a,a4a]))),?_⟩)|(refine GoR.c c47 (by rfl) (by rfl) rfl ?_;(refine a3a.b2a (hho _) ?_))|refine Go.b0a rfl (fun hc => ?_) (fun hc => ?_))
     refine ⟨(by first | exact .inl rfl | exact .inr rfl),fin ?_⟩
     rw [g3a (fn:=Tryz.f87) rfl]
     simp only [a0a,a2a,a1a,G,Z,Y,Gx,vV,simprocAttr,fb2,fb3,fb9,c2a,b7a,c8a,d4a,j2a,d5a,g7a,e2a,mm]
     exact ⟨_,rfl,l8c (i:=j2),.refl,by have:=p2a.agg' (c4e (m:=n) ⟨l[j].t,.mk op1 nm1 n1 ks1,.mk op2 nm2 n2 ks2⟩);simpa only [Cd.c,Nd.k0a,List.cons_append,List.nil_append] using this⟩
  ·exact i3f (by simp [f6b,a3b,h1,hj,hk]) fun _=>hk
 ·exact i3f (by simp [f6b,a3b,h1,show l[j]?=none by simp;omega]) fun h=>absurd h hj
end Go.Proofs.DgT
namespace Go.Proofs.DgT
open Go Go.DM
set_option maxRecDepth 100000
variable {orc:c3a}
theorem r3d {P:Program} {fn:Func} {ρ:e1a} {S:Mem} {x y z u:ResultVar} (h:fn.results = #[x,y,z,u]):g9a P fn ρ S=(resultD P ρ S x).bind fun a=>(resultD P ρ S y).bind fun b=>(resultD P ρ S z).bind fun c=>(resultD P ρ S u).bind fun d=>some (.tup [a,b,c,d]):=by
 simp only [g9a,h,t3a]
 cases resultD P ρ S x with
 | none=>rfl
 | some a=>
  cases resultD P ρ S y with
  | none=>rfl
  | some b=>
   cases resultD P ρ S z with
   | none=>rfl
   | some c=>cases resultD P ρ S u<;>rfl
def f6a (s:ByteArray):Bool×Bool×Bool×Bool:=
 if s=(⟨#[99,111,117,110,116]⟩:ByteArray) then (false,false,false,true) else if s=(⟨#[109,105,110]⟩:ByteArray)∨s=(⟨#[109,97,120]⟩:ByteArray)∨s=(⟨#[115,117,109]⟩:ByteArray) then (false,true,false,true) else if s=(⟨#[102,105,114,115,116]⟩:ByteArray) then (false,true,true,true) else if s=(⟨#[116,111,112]⟩:ByteArray) then (true,true,false,true) else (false,false,false,false)
theorem i0b (s:ByteArray) (S:Mem):a3a Tryz.prog orc 44 [.str s] S fun d S'=>S'=S∧d = .tup [.bool (f6a s).1,.bool (f6a s).2.1,.bool (f6a s).2.2.1,.bool (f6a s).2.2.2]:=by
 refine a3a.e Tryz.func44 rfl Tryz.ntmps44 (by rfl) ?_
 repeat' (first|refine Go.a rfl ?_|refine Go.rg ?_|refine GoR.nil ?_|refine Go.ret ?_|refine Go.b rfl ?_|(refine GoR.o (by rfl) (by rfl) ?_;(conv=>arg 1;simp only [G,Z,Y,Gx,vV,simprocAttr,fb9]);show GoR ..)|refine Go.b0a rfl (fun hc => ?_) (fun hc => ?_))
 all_goals
  refine ⟨(by first | exact .inl rfl | exact .inr rfl),fin ?_⟩
  rw [r3d (fn:=Tryz.f44) rfl]
  simp only [a0a,a2a,a1a,G,Z,Y,Gx,vV,simprocAttr,fb9]
  refine ⟨_,[],by simp,Wk.of_low (.a2b (.cons (.bool _) (.cons (.bool _) (.cons (.bool _) (.cons (.bool _) .nil))))),?_⟩
  simp_all [f6a]
def i7a (l:List Cd):List D:=l.flatMap Cd.c
theorem s7b (l:List Cd):(i7a l).length=l.length*9:=flat_length Cd.len l
theorem r7c {n:Nat} (l:List Cd):e5b n (i7a l):=.n7c (by
 intro x hx
 obtain ⟨c,_,hc⟩:=List.mem_flatMap.1 hx
 exact (c4e c).mem x hc)
theorem k5c (S:Mem):a3a Tryz.prog orc 88 [.c5a] S fun d S'=>S'=S∧d = .c5a:=by
 refine a3a.e Tryz.func88 rfl Tryz.ntmps88 (by rfl) ?_
 have c:l0a Tryz.prog 26 .c5a none (some (.int .i64 0)) (some (.int .i64 0))=some .c5a:=by
  simp [l0a,d8a,n4c,Tryz.underlying26,i5b]
 repeat' (first|refine Go.a rfl ?_|refine Go.rg ?_|refine GoR.nil ?_|refine Go.ret ?_|refine Go.b rfl ?_|(refine GoR.o (by rfl) (by rfl) ?_;(conv=>arg 1;simp only [G,Z,Y,Gx,vV,simprocAttr,d7a,c,Option.map_some,Option.map_none]);show GoR ..)|refine Go.b0a rfl (fun hc => ?_) (fun hc => ?_))
 refine ⟨(by first | exact .inl rfl | exact .inr rfl),fin ?_⟩
 rw [a8a (fn:=Tryz.f88) rfl]
 simp only [a0a,a2a,a1a,G,Z,Y,Gx,vV,simprocAttr,d7a]
 exact ⟨_,[],by simp,.of_low .c5a,rfl⟩
theorem p9e (own:Option Nat) (n:Nat) (cells:List D) (hn:0<n) (hl:cells.length=n*9) (S:Mem) (hlow:e5b S.length cells):a3a Tryz.prog orc 88 [.sl own 9 n cells] S fun d S'=>S'=S∧d = .sl none 9 n cells:=by
 refine a3a.e Tryz.func88 rfl Tryz.ntmps88 (by rfl) ?_
 have c : ∃ o',l0a Tryz.prog 26 (.sl own 9 n cells) none (some (.int .i64 (n:Int))) (some (.int .i64 (n:Int)))=some (.sl o' 9 n cells):=by
  refine ⟨own,?_⟩
  have hn0 : ¬ n=0:=by omega
  simp [l0a,d8a,n4c,Tryz.underlying26,i5b,hn0]
  rw [List.take_of_length_le (by omega)]
 obtain ⟨o',c⟩:=c
 repeat' (first|refine Go.a rfl ?_|refine Go.rg ?_|refine GoR.nil ?_|refine Go.ret ?_|refine Go.b rfl ?_|(refine GoR.o (by rfl) (by rfl) ?_;(conv=>arg 1;simp only [G,Z,Y,Gx,vV,simprocAttr,d7a,c,Option.map_some,Option.map_none]);show GoR ..)|refine Go.b0a rfl (fun hc => ?_) (fun hc => ?_))
 refine ⟨(by first | exact .inl rfl | exact .inr rfl),fin ?_⟩
 rw [a8a (fn:=Tryz.f88) rfl]
 simp only [a0a,a2a,a1a,G,Z,Y,Gx,vV,simprocAttr,d7a]
 exact ⟨_,[],by simp,.disown hlow.get,rfl⟩
structure Ag where
 fn:ByteArray
 k:Int
 e:Nd
 by_:Nd
 w:List Cd
def Ag.c (a:Ag):List D:=.str a.fn :: .int .i64 a.k::(a.e.c++(a.by_.c++[.sl none 9 a.w.length (i7a a.w)]))
theorem x2c {m:Nat} (a:Ag):e5b m (Ag.c a):=.cons (.str _) (.cons (.int _ _) (.append (Nd.low _) (.append (Nd.low _) (.cons (.sl none _ _ _ (fun id e=>by cases e) fun j hj=>(r7c a.w).get j hj) .nil))))
abbrev ER (α:Type):=Except (Nat×Int) α
def wX (l:List Tok) (i:Nat) (s:ByteArray):ER Nat:=if isW l i 3 s then .ok (i+1) else .error (i,2)
def kX (l:List Tok) (b:Bool) (i:Nat):ER (Int×Nat):=
 if b=false then .ok (0,i) else
 match l[i]? with
 | none=>.error (i,2)
 | some t=>if t.k=2 then (if t.n<1∨16<t.n then .error (i,1) else match wX l (i+1) (⟨#[44]⟩:ByteArray) with | .error e=>.error e | .ok j=>.ok (t.n,j)) else .error (i,2)
def eX (l:List Tok) (b:Bool) (i:Nat):ER (Nd×Nat):=if b then r0a l i else .ok (t6a,i)
def byX (l:List Tok) (b:Bool) (i:Nat):ER (Nd×Nat):=if b=false then .ok (t6a,i) else match wX l i (⟨#[44]⟩:ByteArray) with | .error e=>.error e | .ok j=>r0a l j
def e8e:List Cd→ByteArray
 | []=>(⟨#[119,104,101,114,101]⟩:ByteArray)
 | _::_=>(⟨#[97,110,100]⟩:ByteArray)
def r9a (l:List Tok):Nat→List Cd→Nat→ER (List Cd×Nat)
 | 0,ws,i=>.ok (ws,i)
 | f+1,ws,i=>
  if isW l i 1 (e8e ws) then (if ws.length<4 then (match a3b l (i+1) with | .error e=>.error e | .ok (c,j)=>r9a l f (ws++[c]) j) else .error (i,4)) else .ok (ws,i)
def h6b (l:List Tok) (fn:ByteArray) (k:Int) (e b:Nd) (i:Nat):ER Ag:=
 match wX l i (⟨#[41]⟩:ByteArray) with
 | .error x=>.error x
 | .ok j=>match r9a l (l.length+1) [] j with
  | .error x=>.error x
  | .ok (ws,j2)=>if j2=l.length then .ok ⟨fn,k,e,b,ws⟩ else .error (j2,2)
def a3d (l:List Tok) (fn:ByteArray) (nd:Bool×Bool×Bool×Bool):ER Ag:=
 match wX l 1 (⟨#[40]⟩:ByteArray) with
 | .error x=>.error x
 | .ok i1=>match kX l nd.1 i1 with
  | .error x=>.error x
  | .ok (k,i2)=>match eX l nd.2.1 i2 with
   | .error x=>.error x
   | .ok (e,i3)=>match byX l nd.2.2.1 i3 with
    | .error x=>.error x
    | .ok (b,i4)=>h6b l fn k e b i4
def x3c (l:List Tok):ER Ag:=
 match l[0]? with
 | none=>.error (0,2)
 | some t=>if t.k=1 then (if (f6a t.t).2.2.2 then a3d l t.t (f6a t.t) else .error (0,5)) else .error (0,2)
end Go.Proofs.DgT
