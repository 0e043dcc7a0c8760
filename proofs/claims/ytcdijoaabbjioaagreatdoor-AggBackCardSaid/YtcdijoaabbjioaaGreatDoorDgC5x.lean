/- Which names may be. -/
import Derived.Test.YtcdijoaabbjioaaGreatDoorDgL6x
set_option linter.unusedSimpArgs false
set_option linter.unusedVariables false
namespace Go.Proofs.DgT
open Go Go.DM
set_option maxRecDepth 10000
variable {orc:c3a}
def c0c (b:UInt8):Bool:=decide (97≤b.toNat)&&decide (b.toNat≤122)
def g1d (b:UInt8):Bool:=decide (48≤b.toNat)&&decide (b.toNat≤57)
def l6a (s:ByteArray):Bool:=decide (1≤s.size)&&decide (s.size≤8)&&s.data[0]?.any c0c&&s.data.toList.all (fun b=>c0c b || g1d b)
theorem s5b {p:UInt8→Bool} {s:ByteArray} {i:Nat} (h:i<s.size) (hp:p (s.data[i]'h)=false):s.data.toList.all p=false:=by
 rw [List.all_eq_false]
 exact ⟨_,List.getElem_mem (l:=s.data.toList) (by simpa using h),by simp [hp]⟩
theorem b5c {p:UInt8→Bool} {s:ByteArray} (h : ∀ i (h:i<s.size),p (s.data[i]'h)=true):s.data.toList.all p=true:=by
 rw [List.all_eq_true]
 intro x hx
 obtain ⟨j,hj,rfl⟩:=List.mem_iff_getElem.1 hx
 simpa using h j (by simpa using hj)
theorem q8d (s:ByteArray) (hs:s.size<4611686018427387904) (S:Mem):a3a Tryz.prog orc 118 [.str s] S fun d S'=>S'=S∧d = .bool (l6a s):=by
 refine a3a.e Tryz.func118 rfl Tryz.ntmps118 (by rfl) ?_
 by_cases h0:s.size=0
 ·repeat' (first|refine Go.a rfl ?_|refine Go.rg ?_|refine GoR.nil ?_|refine Go.ret ?_|refine Go.b rfl ?_|(refine GoR.o (by rfl) (by rfl) ?_;(conv=>arg 1;simp only [G,Z,Y,Gx,vV,simprocAttr,fb3,fb5,fb9,h0,show (decide (((0:Nat):Int)<1))=true by decide]);show GoR ..)|refine GoR.s (by rfl) rfl rfl ?_|(refine GoR.b1a rfl (fun hc => ?_) (fun hc => ?_)<;>simp only [hc])|refine Go.b0a rfl (fun hc => ?_) (fun hc => ?_))
  refine ⟨(by first | exact .inl rfl | exact .inr rfl),fin ?_⟩
  rw [a8a (fn:=Tryz.f118) rfl]
  simp only [a0a,a2a,a1a,G,Z,Y,Gx,vV,simprocAttr,fb3,fb5,fb9]
  exact ⟨_,[],by simp,.bool,by simp [l6a,h0]⟩
 ·have h1:0<s.size:=by omega
  repeat' (first|refine Go.a rfl ?_|refine Go.rg ?_|refine GoR.nil ?_|refine Go.ret ?_|refine Go.b rfl ?_|(refine GoR.o (by rfl) (by rfl) ?_;(conv=>arg 1;simp only [G,Z,Y,Gx,vV,simprocAttr,fb3,fb5,fb9,s9a h1,show (decide ((s.size:Int)<1))=false by simp;omega]);show GoR ..)|refine GoR.s (by rfl) rfl rfl ?_|(refine GoR.b1a rfl (fun hc => ?_) (fun hc => ?_)<;>simp only [hc])|refine Go.b0a rfl (fun hc => ?_) (fun hc => ?_))
  rotate_right
  ·refine Go.keep [(0,.str s),(3,.int .i64 ((0:Nat):Int))] (.cons .refl (.cons .refl (.nil))) ?_
   refine Go.while (α:=Nat) (fun i=>s.size - i) (fun i=>[(0,.str s),(3,.int .i64 (i:Int))]) (fun _=>S) (fun i=>i≤s.size ∧ ∀ j (h:j<s.size),j<i→(c0c (s.data[j]'h) || g1d (s.data[j]'h))=true) ?_ 0 ⟨Nat.zero_le _,by simp⟩
   rintro i ⟨hi,hk⟩ next
   repeat' (first|refine Go.a rfl ?_|refine Go.rg ?_|refine GoR.nil ?_|refine Go.ret ?_|refine Go.b rfl ?_|(refine GoR.o (by rfl) (by rfl) ?_;(conv=>arg 1;simp only [G,Z,Y,Gx,vV,simprocAttr,fb3,fb5,fb9]);show GoR ..)|refine GoR.s (by rfl) rfl rfl ?_|(refine GoR.b1a rfl (fun hc => ?_) (fun hc => ?_)<;>simp only [hc])|refine Go.b0a rfl (fun hc => ?_) (fun hc => ?_))
   ·have h2:i<s.size:=by simpa using hc
    repeat' (first|refine Go.a rfl ?_|refine Go.rg ?_|refine GoR.nil ?_|refine Go.ret ?_|refine Go.b rfl ?_|(refine GoR.o (by rfl) (by rfl) ?_;(conv=>arg 1;simp only [G,Z,Y,Gx,vV,simprocAttr,fb3,fb5,fb9,f4a h2,b9a (show i<4611686018427387904 by omega)]);show GoR ..)|refine GoR.s (by rfl) rfl rfl ?_|(refine GoR.b1a rfl (fun hc => ?_) (fun hc => ?_)<;>simp only [hc])|refine Go.b0a rfl (fun hc => ?_) (fun hc => ?_))
    all_goals first
     | (
       refine Go.lpN ?_
       refine Go.keep [(0,.str s),(3,.int .i64 ((i+1:Nat):Int))] (.cons .refl (.cons .refl (.nil))) ?_
       refine next (i+1) (by omega) ⟨h2,fun j hj hlt => ?_⟩
       clear next
       rcases Nat.lt_or_ge j i with h | h
       ·exact hk j hj h
       ·obtain rfl:j=i:=by omega
        clear hk
        simp [c0c,g1d] at *
        omega)
     | (
       clear next
       refine ⟨(by first | exact .inl rfl | exact .inr rfl),fin ?_⟩
       rw [a8a (fn:=Tryz.f118) rfl]
       simp only [a0a,a2a,a1a,G,Z,Y,Gx,vV,simprocAttr,fb3,fb5,fb9]
       refine ⟨_,[],by simp,.bool,?_⟩
       have hp:(fun b=>c0c b || g1d b) (s.data[i]'h2)=false:=by
        clear hk
        simp [c0c,g1d] at *
        omega
       simp only [l6a,s5b (p:=fun b=>c0c b || g1d b) h2 hp,Bool.and_false])
   ·clear next
    refine ⟨(by first | exact .inl rfl | exact .inr rfl),fin ?_⟩
    rw [a8a (fn:=Tryz.f118) rfl]
    simp only [a0a,a2a,a1a,G,Z,Y,Gx,vV,simprocAttr,fb3,fb5,fb9]
    refine ⟨_,[],by simp,.bool,?_⟩
    rw [l6a,b5c fun j hj=>hk j hj (by simp at hc;omega)]
    have e:s.data[0]?=some (s.data[0]'h1):=Array.getElem?_eq_getElem h1
    simp [c0c,e] at *
    omega
  all_goals
   refine ⟨(by first | exact .inl rfl | exact .inr rfl),fin ?_⟩
   rw [a8a (fn:=Tryz.f118) rfl]
   simp only [a0a,a2a,a1a,G,Z,Y,Gx,vV,simprocAttr,fb3,fb5,fb9]
   refine ⟨_,[],by simp,.bool,?_⟩
   have e:s.data[0]?=some (s.data[0]'h1):=Array.getElem?_eq_getElem h1
   simp [l6a,c0c,e] at *
   omega
end Go.Proofs.DgT
namespace Go.Proofs.DgT
open Go Go.DM
set_option maxRecDepth 100000
variable {orc:c3a}
inductive Nd where
 | mk (op name:ByteArray) (n:Int) (kids:List Nd)
def Nd.op:Nd→ByteArray | .mk o _ _ _=>o
def Nd.name:Nd→ByteArray | .mk _ o _ _=>o
def Nd.n:Nd→Int | .mk _ _ o _=>o
def Nd.kids:Nd→List Nd | .mk _ _ _ o=>o
theorem Nd.p0b {op name:ByteArray} {n:Int} {kids:List Nd} {k:Nd} (h:k∈kids):SizeOf.sizeOf k<SizeOf.sizeOf (Nd.mk op name n kids):=by
 have:=List.sizeOf_lt_of_mem h
 simp only [Nd.mk.sizeOf_spec]
 omega
def Nd.c:Nd→List D
 | .mk op nm n ks=>[.str op,.str nm,.int .i64 n,.sl none 4 ks.length ((ks.attach.map fun ⟨k,_⟩=>Nd.c k).flatten)]
termination_by n=>SizeOf.sizeOf n
decreasing_by exact Nd.p0b ‹_›
def d3a (l:List Nd):List D:=l.flatMap Nd.c
theorem Nd.k0a {op nm:ByteArray} {n:Int} {ks:List Nd} : (Nd.mk op nm n ks).c=[.str op,.str nm,.int .i64 n,.sl none 4 ks.length (d3a ks)]:=by
 rw [Nd.c]
 simp [d3a,List.flatMap]
theorem Nd.len (n:Nd):n.c.length=4:=by cases n;rw [Nd.k0a];rfl
theorem u5a {l:List Nd} {i:Nat} (h:i<l.length) :
  ((0≤(i:Int)∧(i:Int)<(l.length:Int))=True)∧((i*4+4≤(d3a l).length)=True)∧((d3a l).drop (i*4)).take 4=l[i].c:=
 ⟨y0d h,m1b Nd.len l i h,f3c Nd.len l i h⟩
theorem Nd.ind {p:Nd→Prop} (h : ∀ op nm n ks,(∀ k∈ks,p k)→p (.mk op nm n ks)) : ∀ n,p n
 | .mk op nm n ks=>h op nm n ks fun k _=>Nd.ind h k
termination_by n=>SizeOf.sizeOf n
decreasing_by exact Nd.p0b ‹_›
theorem Nd.low {m:Nat} (n:Nd):e5b m n.c:=by
 induction n using Nd.ind with
 | h op nm n ks ih=>
  rw [Nd.k0a]
  refine .cons (.str _) (.cons (.str _) (.cons (.int _ _) (.cons (.sl' (.n7c ?_)) .nil)))
  intro x hx
  simp only [d3a,List.mem_flatMap] at hx
  obtain ⟨k,hk,hx⟩:=hx
  obtain ⟨i,hi,rfl⟩:=List.mem_iff_getElem.1 hx
  exact (ih k hk).get i hi
theorem o2d {m:Nat} (l:List Nd):e5b m (d3a l):=.n7c (by
 intro x hx
 simp only [d3a,List.mem_flatMap] at hx
 obtain ⟨k,_,hx⟩:=hx
 obtain ⟨i,hi,rfl⟩:=List.mem_iff_getElem.1 hx
 exact k.low.get i hi)
theorem Nd.one (n:Nd):n.c.all D.one=true:=by cases n;rw [Nd.k0a];rfl
inductive f3b (m:Nat):Nd→Prop
 | mk {op nm n ks} (hn:nm.size≤100) (h:ks.length≤m) (hk : ∀ k∈ks,f3b m k):f3b m (.mk op nm n ks)
theorem q5c {k:Int} (h1 : -100≤k) (h2:k≤1000):IntKind.i64.wrap (k - 1)=k - 1:=wrap64 (by omega) (by omega)
theorem of9 (n:Nd) (hs:f3b 100 n) : ∀ (S:Mem),a3a Tryz.prog orc 41 [.agg n.c] S fun d S'=>S'=S∧d = .agg n.c:=by
 induction n using Nd.ind with
 | h op nm n ks ih=>
  intro S
  obtain ⟨hnm,hl,hk⟩:=hs
  have hlow:=Nd.low (m:=S.length) (.mk op nm n ks)
  rw [Nd.k0a] at hlow ⊢
  refine a3a.e Tryz.func41 rfl Tryz.ntmps41 (by rfl) ?_
  repeat' (first|refine Go.a rfl ?_|refine Go.rg ?_|refine GoR.nil ?_|refine Go.ret ?_|refine Go.b rfl ?_|refine Go.rgS dmx (by decide) ?_|refine Go.rgD [1] (fun _=>True) dmx (by decide) 9 (by decide) (by trivial) ?_|refine GoW.nil rfl ?_|((first|refine GoR.o (by rfl) (by rfl) ?_|refine GoW.o (by rfl) (by rfl) ?_|refine GoW.rd (by rfl) (by rfl) ?_);(conv=>arg 1;simp only [G,Z,Y,Gx,vV,simprocAttr,fb2,fb3,fb9,c2a,b7a,h4a,g4a]);first|show GoR ..|(show _∧GoW ..;refine ⟨by exact fun _=>trivial,?_⟩)|(show _∧_∧_∧GoW ..;refine ⟨rfl,by trivial,(fun H _=>by simp only [G,Z,Y,Gx,vV,simprocAttr,fb2,fb3,fb9,c2a,b7a,h4a,g4a]),?_⟩))|refine Go.b0a rfl (fun hc => ?_) (fun hc => ?_))
  refine Go.keep [(1,.ptr S.length 0),(2,.ptr (S.length+1) 0),(3,.ptr (S.length+2) 0),(4,.int .i64 ((0:Nat):Int))] (.cons .refl (.cons .refl (.cons .refl (.cons .refl (.nil))))) ?_
  refine Go.while (α:=Nat×D×Mem) (fun a=>ks.length - a.1) (fun a=>[(1,.ptr S.length 0),(2,.ptr (S.length+1) 0),(3,.ptr (S.length+2) 0),(4,.int .i64 (a.1:Int))])
   (fun a=>S++(.obj [.str op,.str nm,.int .i64 n,.sl none 4 ks.length (d3a ks)] :: .obj [.str ⟨#[]⟩,.str ⟨#[]⟩,.int .i64 0,.c5a] :: .obj [.str op,.str nm,.int .i64 n,a.2.1]::a.2.2))
   (fun a=>a.1≤ks.length∧z7b (S.length+3) a.2.1 4 a.1 (d3a (ks.take a.1)) (S++(.obj [.str op,.str nm,.int .i64 n,.sl none 4 ks.length (d3a ks)] :: .obj [.str ⟨#[]⟩,.str ⟨#[]⟩,.int .i64 0,.c5a] :: .obj [.str op,.str nm,.int .i64 n,a.2.1]::a.2.2)))
   ?_ (0,.c5a,[]) ⟨Nat.zero_le _,.inl ⟨rfl,rfl,rfl⟩⟩
  rintro ⟨i,o,E⟩ ⟨hi,hacc⟩ next
  dsimp only at hi hacc next
  by_cases h1:i<ks.length
  ·have hkl:ks[i].c.length=4:=Nd.len _
   have hko:=Nd.one ks[i]
   obtain ⟨o',S2,hap,a4b,hg2⟩:=(hacc.app [.own]).append (P:=Tryz.prog) l7b (own:=some (S.length+(E.length+1+1+1))) (m:=1) (new:=ks[i].c) (by simp) (by omega) ⟨by omega,by omega,by omega,Nd.one _⟩
   obtain ⟨E2,rfl⟩:=hg2.pre (E++[.own]) (S++[.obj [.str op,.str nm,.int .i64 n,.sl none 4 ks.length (d3a ks)],.obj [.str ⟨#[]⟩,.str ⟨#[]⟩,.int .i64 0,.c5a],.obj [.str op,.str nm,.int .i64 n,o]]) (by simp) (by simp)
   simp only [List.append_assoc,List.cons_append,List.nil_append] at hap a4b
   have ho:=hacc.one
   have ho2:=a4b.one
   repeat' (first|refine Go.a rfl ?_|refine Go.rg ?_|refine GoR.nil ?_|refine Go.ret ?_|refine Go.b rfl ?_|refine Go.rgS dmx (by decide) ?_|refine Go.rgD [1] (fun H=>b6a H (S.length+2)=some [.str op,.str nm,.int .i64 n,o]) dmx (by decide) 9 (by decide) (by (simp only [a7a,a5a,a4a])) ?_|refine GoW.nil rfl ?_|((first|refine GoR.o (by rfl) (by rfl) ?_|refine GoW.o (by rfl) (by rfl) ?_|refine GoW.rd (by rfl) (by rfl) ?_);(conv=>arg 1;simp only [G,Z,Y,Gx,vV,simprocAttr,fb2,fb3,fb9,c2a,b7a,h4a,g4a,ho,ho2,hko,j3c,u5a h1,b9a (show i<4611686018427387904 by omega),hap,builtin_append,show decide ((i:Int)<(ks.length:Int))=true by simp;omega,hkl]);first|show GoR ..|(show _∧GoW ..;refine ⟨by (first|exact fun h=>absurd h (by decide)|(intro _;(simp only [a7a,a5a,a4a]))),?_⟩)|(show _∧_∧_∧GoW ..;refine ⟨rfl,by (simp only [a7a,a5a,a4a]),(fun H hI=>by (try dsimp only at hI);simp only [G,Z,Y,Gx,vV,simprocAttr,fb2,fb3,fb9,c2a,b7a,h4a,g4a,ho,ho2,hko,j3c,u5a h1,b9a (show i<4611686018427387904 by omega),hap,builtin_append,show decide ((i:Int)<(ks.length:Int))=true by simp;omega,hkl,hI]),?_⟩))|(refine GoW.c c41 (by rfl) (by rfl) rfl ?_;(refine (ih _ (List.getElem_mem h1) (hk _ (List.getElem_mem h1)) _).ret ?_);refine ⟨by (first|exact fun h=>absurd h (by decide)|(intro _;(simp only [a7a,a5a,a4a]))),?_⟩)|(refine GoR.c c41 (by rfl) (by rfl) rfl ?_;(refine (ih _ (List.getElem_mem h1) (hk _ (List.getElem_mem h1)) _).ret ?_))|refine Go.b0a rfl (fun hc => ?_) (fun hc => ?_))
   refine Go.lpN ?_
   refine Go.keep [(1,.ptr S.length 0),(2,.ptr (S.length+1) 0),(3,.ptr (S.length+2) 0),(4,.int .i64 ((i+1:Nat):Int))] (.cons .refl (.cons .refl (.cons .refl (.cons .refl (.nil))))) ?_
   refine next (i+1,o',E2) (by dsimp only;omega) ⟨h1,?_⟩
   dsimp only
   have e:d3a (ks.take (i+1))=d3a (ks.take i)++ks[i].c:=a4c h1
   rw [e]
   have:=a4b.set (j:=S.length+2) (x:=.obj [.str op,.str nm,.int .i64 n,o']) (by omega)
   simpa using this
  ·clear next
   have ho:=hacc.one
   repeat' (first|refine Go.a rfl ?_|refine Go.rg ?_|refine GoR.nil ?_|refine Go.ret ?_|refine Go.b rfl ?_|refine Go.rgS dmx (by decide) ?_|refine Go.rgD [1] (fun _=>True) dmx (by decide) 9 (by decide) (by trivial) ?_|refine GoW.nil rfl ?_|((first|refine GoR.o (by rfl) (by rfl) ?_|refine GoW.o (by rfl) (by rfl) ?_|refine GoW.rd (by rfl) (by rfl) ?_);(conv=>arg 1;simp only [G,Z,Y,Gx,vV,simprocAttr,fb2,fb3,fb9,c2a,b7a,h4a,g4a,ho,show decide ((i:Int)<(ks.length:Int))=false by simp;omega]);first|show GoR ..|(show _∧GoW ..;refine ⟨by exact fun _=>trivial,?_⟩)|(show _∧_∧_∧GoW ..;refine ⟨rfl,by trivial,(fun H _=>by simp only [G,Z,Y,Gx,vV,simprocAttr,fb2,fb3,fb9,c2a,b7a,h4a,g4a,ho,show decide ((i:Int)<(ks.length:Int))=false by simp;omega]),?_⟩))|refine Go.b0a rfl (fun hc => ?_) (fun hc => ?_))
   refine ⟨(by first | exact .inl rfl | exact .inr rfl),fin ?_⟩
   rw [g3a (fn:=Tryz.f41) rfl]
   simp only [a0a,a2a,a1a,G,Z,Y,Gx,vV,simprocAttr,fb2,fb3,fb9,c2a,b7a,h4a,g4a]
   have hi':i=ks.length:=by omega
   subst hi'
   rw [List.take_length] at hacc
   exact ⟨_,_,rfl,(Wf.agg' (.cons .refl (.cons .refl (.cons .refl (.cons hacc.wf .nil))))).y9b (.agg' hlow),rfl⟩
def arity (op:ByteArray):Int:=if op=(⟨#[110,117,109]⟩:ByteArray)∨op=(⟨#[110,97,109,101]⟩:ByteArray) then 0 else if op=(⟨#[110,101,103]⟩:ByteArray) then 1 else if op=(⟨#[43]⟩:ByteArray)∨op=(⟨#[45]⟩:ByteArray)∨op=(⟨#[42]⟩:ByteArray)∨op=(⟨#[47]⟩:ByteArray)∨op=(⟨#[37]⟩:ByteArray) then 2 else -1
theorem z1c (op:ByteArray) (S:Mem):a3a Tryz.prog orc 129 [.str op] S fun d S'=>S'=S∧d = .int .i64 (arity op):=by
 refine a3a.e Tryz.func129 rfl Tryz.ntmps129 (by rfl) ?_
 repeat' (first|refine Go.a rfl ?_|refine Go.rg ?_|refine GoR.nil ?_|refine Go.ret ?_|refine Go.b rfl ?_|(refine GoR.o (by rfl) (by rfl) ?_;(conv=>arg 1;simp only [G,Z,Y,Gx,vV,simprocAttr,fb9]);show GoR ..)|refine Go.b0a rfl (fun hc => ?_) (fun hc => ?_))
 all_goals
  refine ⟨(by first | exact .inl rfl | exact .inr rfl),fin ?_⟩
  rw [a8a (fn:=Tryz.f129) rfl]
  simp only [a0a,a2a,a1a,G,Z,Y,Gx,vV,simprocAttr,fb9]
  refine ⟨_,[],by simp,.int,?_⟩
  simp_all [arity]
end Go.Proofs.DgT
namespace Go.Proofs.DgT
open Go Go.DM
set_option maxRecDepth 100000
variable {orc:c3a}
def cnt:Nd→Nat
 | .mk _ _ _ ks=>1+(ks.attach.map fun ⟨k,_⟩=>cnt k).sum
termination_by n=>SizeOf.sizeOf n
decreasing_by exact Nd.p0b ‹_›
def cnts (ks:List Nd):Nat:=(ks.map cnt).sum
theorem z9a {op nm:ByteArray} {n:Int} {ks:List Nd} : cnt (.mk op nm n ks)=1+cnts ks:=by
 rw [cnt,cnts]
 simp
theorem t1b {ks:List Nd} {i:Nat} (h:i<ks.length):cnts (ks.take (i+1))=cnts (ks.take i)+cnt ks[i]:=by
 rw [← List.take_append_getElem h]
 simp only [cnts,List.map_append,List.sum_append,List.map_cons,List.map_nil,List.sum_cons,List.sum_nil,Nat.add_zero]
theorem left (n:Nd) : ∀ (k:Int) (_:0≤k) (_:k≤100) (S:Mem),a3a Tryz.prog orc 97 [.agg n.c,.int .i64 k] S fun d S'=>S'=S ∧ ∃ r:Int,d = .int .i64 r ∧ -1≤r∧r≤k - 1∧(0≤r→f3b 100 n∧(cnt n:Int)≤k - r):=by
 induction n using Nd.ind with
 | h op nm n ks ih=>
  intro k hk0 hk1 S
  rw [Nd.k0a]
  refine a3a.e Tryz.func97 rfl Tryz.ntmps97 (by rfl) ?_
  repeat' (first|refine Go.a rfl ?_|refine Go.rg ?_|refine GoR.nil ?_|refine Go.ret ?_|refine Go.b rfl ?_|(refine GoR.o (by rfl) (by rfl) ?_;(conv=>arg 1;simp only [G,Z,Y,Gx,vV,simprocAttr,fb2,fb3,fb9,c2a,b7a,q5c (show -100≤k by omega) (show k≤1000 by omega)]);show GoR ..)|refine GoR.s (by rfl) rfl rfl ?_|(refine GoR.b1a rfl (fun hc => ?_) (fun hc => ?_)<;>simp only [hc])|refine Go.b0a rfl (fun hc => ?_) (fun hc => ?_))
  all_goals first
   | (
     skip
     refine ⟨(by first | exact .inl rfl | exact .inr rfl),fin ?_⟩
     rw [a8a (fn:=Tryz.f97) rfl]
     simp only [a0a,a2a,a1a,G,Z,Y,Gx,vV,simprocAttr,fb2,fb3,fb9,c2a,b7a]
     exact ⟨_,_,rfl,.int,_,rfl,by omega,by omega,by omega⟩)
   | skip
  have hnm:nm.size≤100:=by rename_i hq;simp at hq;omega
  refine Go.keep [(1,.int .i64 (k - 1)),(2,.ptr S.length 0),(5,.int .i64 ((0:Nat):Int))] (.cons .refl (.cons .refl (.cons .refl (.nil)))) ?_
  refine Go.while (α:=Nat×Int) (fun a=>ks.length - a.1) (fun a=>[(1,.int .i64 a.2),(2,.ptr S.length 0),(5,.int .i64 (a.1:Int))]) (fun _=>S++[.obj [.str op,.str nm,.int .i64 n,.sl none 4 ks.length (d3a ks)]])
   (fun a=>a.1≤ks.length ∧ -1≤a.2∧a.2≤k - 1 - a.1∧(0≤a.2→(∀ j (h:j<ks.length),j<a.1→f3b 100 ks[j])∧(cnts (ks.take a.1):Int)≤k - 1 - a.2)) ?_ (0,k - 1) ⟨Nat.zero_le _,by dsimp only;omega,by dsimp only;omega,by simp [cnts]⟩
  rintro ⟨i,c⟩ ⟨hi,hc1,hc2,hs⟩ next
  dsimp only at hi hc1 hc2 hs next
  by_cases hl:i<ks.length
  ·by_cases h0:0≤c
   ·repeat' (first|refine Go.a rfl ?_|refine Go.rg ?_|refine GoR.nil ?_|refine Go.ret ?_|refine Go.b rfl ?_|(refine GoR.o (by rfl) (by rfl) ?_;(conv=>arg 1;simp only [G,Z,Y,Gx,vV,simprocAttr,fb2,fb3,fb9,c2a,b7a,show decide ((i:Int)<(ks.length:Int))=true by simp;omega,show decide (c≥0)=true by simp;omega,show decide (0≤c)=true by simp;omega,u5a hl,b9a (show i<4611686018427387904 by omega)]);show GoR ..)|(refine GoR.c c97 (by rfl) (by rfl) rfl ?_;(refine (ih _ (List.getElem_mem hl) c h0 (by omega) _).w8a ?_;rintro _ ⟨r,rfl,h1,h2,h3⟩))|refine GoR.s (by rfl) rfl rfl ?_|(refine GoR.b1a rfl (fun hc => ?_) (fun hc => ?_)<;>simp only [hc])|refine Go.b0a rfl (fun hc => ?_) (fun hc => ?_))
    refine Go.lpN ?_
    refine Go.keep [(1,.int .i64 r),(2,.ptr S.length 0),(5,.int .i64 ((i+1:Nat):Int))] (.cons .refl (.cons .refl (.cons .refl (.nil)))) ?_
    refine next (i+1,r) (by dsimp only;omega) ⟨hl,h1,by dsimp only;omega,fun hr=>⟨fun j hj hlt => ?_,?_⟩⟩
    all_goals dsimp only at hr
    rotate_left
    ·have:=(hs h0).2
     have:=(h3 hr).2
     rw [t1b hl]
     push_cast
     omega
    dsimp only at hlt
    rcases Nat.lt_or_ge j i with h | h
    ·exact (hs h0).1 j hj h
    ·obtain rfl:j=i:=by omega
     exact (h3 hr).1
   ·clear next
    repeat' (first|refine Go.a rfl ?_|refine Go.rg ?_|refine GoR.nil ?_|refine Go.ret ?_|refine Go.b rfl ?_|(refine GoR.o (by rfl) (by rfl) ?_;(conv=>arg 1;simp only [G,Z,Y,Gx,vV,simprocAttr,fb2,fb3,fb9,c2a,b7a,show decide ((i:Int)<(ks.length:Int))=true by simp;omega,show decide (c≥0)=false by simp;omega,show decide (0≤c)=false by simp;omega]);show GoR ..)|refine GoR.s (by rfl) rfl rfl ?_|(refine GoR.b1a rfl (fun hc => ?_) (fun hc => ?_)<;>simp only [hc])|refine Go.b0a rfl (fun hc => ?_) (fun hc => ?_))
    refine ⟨(by first | exact .inl rfl | exact .inr rfl),fin ?_⟩
    rw [a8a (fn:=Tryz.f97) rfl]
    simp only [a0a,a2a,a1a,G,Z,Y,Gx,vV,simprocAttr,fb2,fb3,fb9,c2a,b7a]
    exact ⟨_,_,rfl,.int,c,rfl,hc1,by omega,fun h=>absurd h h0⟩
  ·clear next
   repeat' (first|refine Go.a rfl ?_|refine Go.rg ?_|refine GoR.nil ?_|refine Go.ret ?_|refine Go.b rfl ?_|(refine GoR.o (by rfl) (by rfl) ?_;(conv=>arg 1;simp only [G,Z,Y,Gx,vV,simprocAttr,fb2,fb3,fb9,c2a,b7a,show decide ((i:Int)<(ks.length:Int))=false by simp;omega]);show GoR ..)|refine GoR.s (by rfl) rfl rfl ?_|(refine GoR.b1a rfl (fun hc => ?_) (fun hc => ?_)<;>simp only [hc])|refine Go.b0a rfl (fun hc => ?_) (fun hc => ?_))
   refine ⟨(by first | exact .inl rfl | exact .inr rfl),fin ?_⟩
   rw [a8a (fn:=Tryz.f97) rfl]
   simp only [a0a,a2a,a1a,G,Z,Y,Gx,vV,simprocAttr,fb2,fb3,fb9,c2a,b7a]
   refine ⟨_,_,rfl,.int,c,rfl,hc1,by omega,fun h=>⟨.mk hnm (by omega) fun x hx => ?_,?_⟩⟩
   rotate_left
   ·have:=(hs h).2
    rw [List.take_of_length_le (by omega)] at this
    rw [z9a]
    push_cast
    omega
   obtain ⟨j,hj,rfl⟩:=List.mem_iff_getElem.1 hx
   exact (hs h).1 j hj (by omega)
theorem y4e (n:Nd) (S:Mem):a3a Tryz.prog orc 43 [.agg n.c] S fun d S'=>S'=S ∧ ∃ b,d = .bool b∧(b=true→f3b 100 n∧cnt n≤60):=by
 obtain ⟨op,nm,n,ks⟩:=n
 have hleft:=fun S=>left (orc:=orc) (.mk op nm n ks) 60 (by omega) (by omega) S
 rw [Nd.k0a] at hleft ⊢
 refine a3a.e Tryz.func43 rfl Tryz.ntmps43 (by rfl) ?_
 repeat' (first|refine Go.a rfl ?_|refine Go.rg ?_|refine GoR.nil ?_|refine Go.ret ?_|refine Go.b rfl ?_|(refine GoR.o (by rfl) (by rfl) ?_;(conv=>arg 1;simp only [G,Z,Y,Gx,vV,simprocAttr,fb2,fb3,fb9,c2a,b7a]);show GoR ..)|(refine GoR.c c97 (by rfl) (by rfl) rfl ?_;(refine (hleft _).w8a ?_;rintro _ ⟨r,rfl,h1,h2,h3⟩))|refine Go.b0a rfl (fun hc => ?_) (fun hc => ?_))
 refine ⟨(by first | exact .inl rfl | exact .inr rfl),fin ?_⟩
 rw [a8a (fn:=Tryz.f43) rfl]
 simp only [a0a,a2a,a1a,G,Z,Y,Gx,vV,simprocAttr,fb2,fb3,fb9,c2a,b7a]
 exact ⟨_,_,rfl,.bool,_,rfl,fun h=>by
  obtain ⟨q1,q2⟩:=h3 (by simpa using h)
  have:(0:Int)≤r:=by simpa using h
  exact ⟨q1,by omega⟩⟩
end Go.Proofs.DgT
