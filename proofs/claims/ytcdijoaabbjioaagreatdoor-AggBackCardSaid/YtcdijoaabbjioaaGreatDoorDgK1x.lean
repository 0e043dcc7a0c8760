/- Whether a tree may be: how many nodes it has, what is wrong first. -/
import Derived.Test.YtcdijoaabbjioaaGreatDoorDgP9x
import Derived.Test.YtcdijoaabbjioaaGreatDoorDgC5x
set_option linter.unusedSimpArgs false
set_option linter.unusedVariables false
namespace Go.Proofs.DgT
open Go Go.DM
set_option maxRecDepth 100000
variable {orc:c3a}
def e9b:List Int→Int
 | []=>0
 | e::l=>if e≠0 then e else e9b l
theorem s1c (n:Nd):1≤cnt n:=by
 cases n
 rw [z9a]
 omega
theorem e7c : ∀ {ks:List Nd} {k:Nd},k∈ks→cnt k≤cnts ks
 | k::ks,x,h=>by
  simp only [cnts,List.map_cons,List.sum_cons]
  rcases List.mem_cons.1 h with rfl | h
  ·omega
  ·have:=e7c h
   simp only [cnts] at this
   omega
theorem u3b : ∀ {l:List Int} {i:Nat} (h:i<l.length),(∀ j (hj:j<l.length),j<i→l[j]=0)→l[i]≠0→e9b l=l[i]
 | e::l,0,_,_,hn=>by
  have hn':e≠0:=hn
  show (if e≠0 then e else e9b l)=e
  rw [if_pos hn']
 | e::l,i+1,h,hz,hn=>by
  have h0:e=0:=hz 0 (by simp) (by omega)
  show (if e≠0 then e else e9b l)=l[i]'(by simpa using h)
  rw [if_neg (fun q=>q h0)]
  exact u3b (by simpa using h) (fun j hj hlt=>hz (j+1) (by simpa using hj) (by omega)) hn
theorem c7b : ∀ {l:List Int},(∀ x∈l,x=0)→e9b l=0
 | [],_=>rfl
 | e::l,h=>by
  show (if e≠0 then e else e9b l)=0
  rw [if_neg (fun q=>q (h e (by simp)))]
  exact c7b fun x hx=>h x (by simp [hx])
theorem u4b : ∀ {l:List Int},e9b l=0 → ∀ x∈l,x=0
 | [],_,x,hx=>by cases hx
 | e::l,h,x,hx=>by
  unfold e9b at h
  by_cases he:e≠0
  ·rw [if_pos he] at h;exact absurd h he
  ·rw [if_neg he] at h
   rcases List.mem_cons.1 hx with rfl | hx
   ·exact Decidable.not_not.1 he
   ·exact u4b h x hx
def m8a:Nd→Int
 | .mk op nm n ks=>if arity op≠ks.length then 2 else if op=(⟨#[110,97,109,101]⟩:ByteArray)∧l6a nm=false then 5 else if op=(⟨#[110,117,109]⟩:ByteArray)∧n<0 then 1 else e9b (ks.attach.map fun ⟨k,_⟩=>m8a k)
termination_by n=>SizeOf.sizeOf n
decreasing_by exact Nd.p0b ‹_›
theorem i2b {op nm:ByteArray} {n:Int} {ks:List Nd} : m8a (.mk op nm n ks)=if arity op≠ks.length then 2 else if op=(⟨#[110,97,109,101]⟩:ByteArray)∧l6a nm=false then 5 else if op=(⟨#[110,117,109]⟩:ByteArray)∧n<0 then 1 else e9b (ks.map m8a):=by
 rw [m8a]
 simp
def checkN (n:Nd):Int:=if 32<cnt n then 4 else m8a n
def x8e (n:Nd) (k r:Int):Prop:=(0≤r∧r=k - cnt n)∨(r<0 ∧ -1≤r∧k<cnt n)
theorem i4d (n:Nd) : ∀ (k:Int) (_:0≤k) (_:k≤100) (S:Mem),a3a Tryz.prog orc 95 [.agg n.c,.int .i64 k] S fun d S'=>S'=S ∧ ∃ r:Int,d = .int .i64 r∧x8e n k r:=by
 induction n using Nd.ind with
 | h op nm n ks ih=>
  intro k hk0 hk1 S
  have hcm:(cnt (.mk op nm n ks):Int)=1+(cnts ks:Int):=by rw [z9a];push_cast;rfl
  rw [Nd.k0a]
  unfold x8e
  rw [hcm]
  refine a3a.e Tryz.func95 rfl Tryz.ntmps95 (by rfl) ?_
  repeat' (first|refine Go.a rfl ?_|refine Go.rg ?_|refine GoR.nil ?_|refine Go.ret ?_|refine Go.b rfl ?_|(refine GoR.o (by rfl) (by rfl) ?_;(conv=>arg 1;simp only [G,Z,Y,Gx,vV,simprocAttr,fb2,fb3,fb9,h4a,g4a,q5c (show -100≤k by omega) (show k≤1000 by omega)]);show GoR ..)|refine GoR.s (by rfl) rfl rfl ?_|(refine GoR.b1a rfl (fun hc => ?_) (fun hc => ?_)<;>simp only [hc])|refine Go.b0a rfl (fun hc => ?_) (fun hc => ?_))
  refine Go.keep [(1,.int .i64 (k - 1)),(2,.ptr S.length 0),(5,.int .i64 ((0:Nat):Int))] (.cons .refl (.cons .refl (.cons .refl (.nil)))) ?_
  refine Go.while (α:=Nat×Int) (fun a=>ks.length - a.1) (fun a=>[(1,.int .i64 a.2),(2,.ptr S.length 0),(5,.int .i64 (a.1:Int))]) (fun _=>S++[.obj [.str op,.str nm,.int .i64 n,.sl none 4 ks.length (d3a ks)]])
   (fun a=>a.1≤ks.length∧((0≤a.2∧a.2=k - 1 - cnts (ks.take a.1)∧a.1<4611686018427387904)∨(a.2<0 ∧ -1≤a.2∧k<1+cnts (ks.take a.1)))) ?_ (0,k - 1) ⟨Nat.zero_le _,by simp only [List.take_zero,cnts,List.map_nil,List.sum_nil];omega⟩
  rintro ⟨i,c⟩ ⟨hi,hc1⟩ next
  dsimp only at hi hc1 next
  have hmono:cnts (ks.take i)≤cnts ks:=by
   have:cnts ks=cnts (ks.take i)+cnts (ks.drop i):=by
    rw [cnts,cnts,cnts,← List.sum_append,← List.map_append,List.take_append_drop]
   omega
  by_cases hl:i<ks.length
  ·by_cases h0:0≤c
   ·obtain ⟨_,hc2,hib⟩:=hc1.resolve_right (by omega)
    have hcs:=t1b hl
    have hcp:=s1c ks[i]
    repeat' (first|refine Go.a rfl ?_|refine Go.rg ?_|refine GoR.nil ?_|refine Go.ret ?_|refine Go.b rfl ?_|(refine GoR.o (by rfl) (by rfl) ?_;(conv=>arg 1;simp only [G,Z,Y,Gx,vV,simprocAttr,fb2,fb3,fb9,h4a,g4a,show decide ((i:Int)<(ks.length:Int))=true by simp;omega,show decide (c≥0)=true by simp;omega,show decide (0≤c)=true by simp;omega,u5a hl,b9a hib]);show GoR ..)|(refine GoR.c c95 (by rfl) (by rfl) rfl ?_;(refine (ih _ (List.getElem_mem hl) c h0 (by omega) _).w8a ?_;rintro _ ⟨r,rfl,h1⟩))|refine GoR.s (by rfl) rfl rfl ?_|(refine GoR.b1a rfl (fun hc => ?_) (fun hc => ?_)<;>simp only [hc])|refine Go.b0a rfl (fun hc => ?_) (fun hc => ?_))
    refine Go.lpN ?_
    refine Go.keep [(1,.int .i64 r),(2,.ptr S.length 0),(5,.int .i64 ((i+1:Nat):Int))] (.cons .refl (.cons .refl (.cons .refl (.nil)))) ?_
    refine next (i+1,r) (by dsimp only;omega) ⟨hl,?_⟩
    dsimp only
    rw [hcs]
    unfold x8e at h1
    push_cast
    have n2f:i≤cnts (ks.take i):=i8c (by omega)
    omega
   ·clear next
    repeat' (first|refine Go.a rfl ?_|refine Go.rg ?_|refine GoR.nil ?_|refine Go.ret ?_|refine Go.b rfl ?_|(refine GoR.o (by rfl) (by rfl) ?_;(conv=>arg 1;simp only [G,Z,Y,Gx,vV,simprocAttr,fb2,fb3,fb9,h4a,g4a,show decide ((i:Int)<(ks.length:Int))=true by simp;omega,show decide (c≥0)=false by simp;omega,show decide (0≤c)=false by simp;omega]);show GoR ..)|refine GoR.s (by rfl) rfl rfl ?_|(refine GoR.b1a rfl (fun hc => ?_) (fun hc => ?_)<;>simp only [hc])|refine Go.b0a rfl (fun hc => ?_) (fun hc => ?_))
    refine ⟨(by first | exact .inl rfl | exact .inr rfl),fin ?_⟩
    rw [a8a (fn:=Tryz.f95) rfl]
    simp only [a0a,a2a,a1a,G,Z,Y,Gx,vV,simprocAttr,fb2,fb3,fb9,h4a,g4a]
    exact ⟨_,_,rfl,.int,c,rfl,by omega⟩
  ·clear next
   have hi':i=ks.length:=by omega
   subst hi'
   rw [List.take_length] at hc1
   repeat' (first|refine Go.a rfl ?_|refine Go.rg ?_|refine GoR.nil ?_|refine Go.ret ?_|refine Go.b rfl ?_|(refine GoR.o (by rfl) (by rfl) ?_;(conv=>arg 1;simp only [G,Z,Y,Gx,vV,simprocAttr,fb2,fb3,fb9,h4a,g4a,show decide ((ks.length:Int)<(ks.length:Int))=false by simp]);show GoR ..)|refine GoR.s (by rfl) rfl rfl ?_|(refine GoR.b1a rfl (fun hc => ?_) (fun hc => ?_)<;>simp only [hc])|refine Go.b0a rfl (fun hc => ?_) (fun hc => ?_))
   refine ⟨(by first | exact .inl rfl | exact .inr rfl),fin ?_⟩
   rw [a8a (fn:=Tryz.f95) rfl]
   simp only [a0a,a2a,a1a,G,Z,Y,Gx,vV,simprocAttr,fb2,fb3,fb9,h4a,g4a]
   exact ⟨_,_,rfl,.int,c,rfl,by omega⟩
where
 i8c : ∀ {ks:List Nd} {i:Nat},i≤ks.length→i≤cnts (ks.take i)
  | _,0,_=>Nat.zero_le _
  | k::ks,i+1,h=>by
   have h1:=i8c (ks:=ks) (i:=i) (by simpa using h)
   have h2:=s1c k
   simp only [List.take_succ_cons,cnts,List.map_cons,List.sum_cons] at h1 ⊢
   omega
def y1e (n:Nd) (m out:Int):Prop:=1≤out∧out≤m+1∧((out≤m∧out=cnt n)∨(out=m+1∧m<cnt n))
theorem h8f (n:Nd) : ∀ (m:Int) (_:0≤m) (_:m≤100) (S:Mem),a3a Tryz.prog orc 130 [.agg n.c,.int .i64 m] S fun d S'=>S'=S ∧ ∃ r:Int,d = .int .i64 r∧y1e n m r:=by
 induction n using Nd.ind with
 | h op nm n ks ih=>
  intro m hm0 hm1 S
  have hcm:(cnt (.mk op nm n ks):Int)=1+(cnts ks:Int):=by rw [z9a];push_cast;rfl
  rw [Nd.k0a]
  unfold y1e
  rw [hcm]
  refine a3a.e Tryz.func130 rfl Tryz.ntmps130 (by rfl) ?_
  repeat' (first|refine Go.a rfl ?_|refine Go.rg ?_|refine GoR.nil ?_|refine Go.ret ?_|refine Go.b rfl ?_|(refine GoR.o (by rfl) (by rfl) ?_;(conv=>arg 1;simp only [G,Z,Y,Gx,vV,simprocAttr,fb2,fb3,fb9,c2a,b7a]);show GoR ..)|refine Go.b0a rfl (fun hc => ?_) (fun hc => ?_))
  refine Go.keep [(1,.int .i64 m),(2,.ptr S.length 0),(5,.int .i64 1),(9,.sl none 4 ks.length (d3a ks)),(10,.int .i64 (ks.length:Int)),(11,.int .i64 ((0:Nat):Int))] (.cons .refl (.cons .refl (.cons .refl (.cons .refl (.cons .refl (.cons .refl (.nil))))))) ?_
  refine Go.while (α:=Nat×Int×Mem) (fun a=>ks.length - a.1) (fun a=>[(1,.int .i64 m),(2,.ptr S.length 0),(5,.int .i64 a.2.1),(9,.sl none 4 ks.length (d3a ks)),(10,.int .i64 (ks.length:Int)),(11,.int .i64 (a.1:Int))]) (fun a=>S++(.obj [.str op,.str nm,.int .i64 n,.sl none 4 ks.length (d3a ks)]::a.2.2))
   (fun a=>a.1≤ks.length∧1≤a.2.1∧((a.2.1≤m∧a.2.1=1+cnts (ks.take a.1))∨(a.2.1=m+1∧m<1+cnts (ks.take a.1)))) ?_ (0,1,[]) ⟨Nat.zero_le _,by decide,by simp only [List.take_zero,cnts,List.map_nil,List.sum_nil];omega⟩
  rintro ⟨i,c,E⟩ ⟨hi,hc0,hc1⟩ next
  dsimp only at hi hc0 hc1 next
  have hmono:cnts (ks.take i)≤cnts ks:=by
   have:cnts ks=cnts (ks.take i)+cnts (ks.drop i):=by
    rw [cnts,cnts,cnts,← List.sum_append,← List.map_append,List.take_append_drop]
   omega
  by_cases hl:i<ks.length
  ·cases hq:ks[i] with
   | mk kop knm kn kks=>
   by_cases h0:c≤m
   ·obtain ⟨_,hc2⟩:=hc1.resolve_right (by omega)
    have hcs:=t1b hl
    have hcp:=s1c ks[i]
    have n2f:i≤cnts (ks.take i):=i4d.i8c (by omega)
    have ihk:=ih _ (List.getElem_mem hl) (m - c) (by omega) (by omega)
    rw [hq] at ihk hcs hcp
    rw [Nd.k0a] at ihk
    repeat' (first|refine Go.a rfl ?_|refine Go.rg ?_|refine GoR.nil ?_|refine Go.ret ?_|refine Go.b rfl ?_|(refine GoR.o (by rfl) (by rfl) ?_;(conv=>arg 1;simp only [G,Z,Y,Gx,vV,simprocAttr,fb2,fb3,fb9,c2a,b7a,show decide ((i:Int)<(ks.length:Int))=true by simp;omega,show decide (c>m)=false by simp;omega,show decide (m<c)=false by simp;omega,show IntKind.i64.wrap (m - c)=m - c from wrap64 (by omega) (by omega),u5a hl,hq,Nd.k0a,b9a (show i<4611686018427387904 by omega)]);show GoR ..)|(refine GoR.c c130 (by rfl) (by rfl) rfl ?_;(refine (ihk _).w8a ?_;rintro _ ⟨r,rfl,h1⟩))|refine Go.b0a rfl (fun hc => ?_) (fun hc => ?_))
    have h1':=h1
    unfold y1e at h1'
    refine Go.lpN ?_
    have hwr:IntKind.i64.wrap (c+r)=c+r:=wrap64 (by omega) (by omega)
    simp only [hwr]
    refine Go.keep [(1,.int .i64 m),(2,.ptr S.length 0),(5,.int .i64 (c+r)),(9,.sl none 4 ks.length (d3a ks)),(10,.int .i64 (ks.length:Int)),(11,.int .i64 ((i+1:Nat):Int))] (.cons .refl (.cons .refl (.cons .refl (.cons .refl (.cons .refl (.cons .refl (.nil))))))) ?_
    refine next (i+1,c+r,_) (by dsimp only;omega) ⟨hl,by dsimp only;omega,?_⟩
    dsimp only
    rw [hcs]
    push_cast
    omega
   ·clear next
    repeat' (first|refine Go.a rfl ?_|refine Go.rg ?_|refine GoR.nil ?_|refine Go.ret ?_|refine Go.b rfl ?_|(refine GoR.o (by rfl) (by rfl) ?_;(conv=>arg 1;simp only [G,Z,Y,Gx,vV,simprocAttr,fb2,fb3,fb9,c2a,b7a,show decide ((i:Int)<(ks.length:Int))=true by simp;omega,show decide (c>m)=true by simp;omega,show decide (m<c)=true by simp;omega,u5a hl,hq,Nd.k0a]);show GoR ..)|refine Go.b0a rfl (fun hc => ?_) (fun hc => ?_))
    refine ⟨(by first | exact .inl rfl | exact .inr rfl),fin ?_⟩
    rw [a8a (fn:=Tryz.f130) rfl]
    simp only [a0a,a2a,a1a,G,Z,Y,Gx,vV,simprocAttr,fb2,fb3,fb9,c2a,b7a]
    exact ⟨_,_,rfl,.int,c,rfl,by omega⟩
  ·clear next
   have hi':i=ks.length:=by omega
   subst hi'
   rw [List.take_length] at hc1
   repeat' (first|refine Go.a rfl ?_|refine Go.rg ?_|refine GoR.nil ?_|refine Go.ret ?_|refine Go.b rfl ?_|(refine GoR.o (by rfl) (by rfl) ?_;(conv=>arg 1;simp only [G,Z,Y,Gx,vV,simprocAttr,fb2,fb3,fb9,c2a,b7a,show decide ((ks.length:Int)<(ks.length:Int))=false by simp]);show GoR ..)|refine Go.b0a rfl (fun hc => ?_) (fun hc => ?_))
   refine ⟨(by first | exact .inl rfl | exact .inr rfl),fin ?_⟩
   rw [a8a (fn:=Tryz.f130) rfl]
   simp only [a0a,a2a,a1a,G,Z,Y,Gx,vV,simprocAttr,fb2,fb3,fb9,c2a,b7a]
   exact ⟨_,_,rfl,.int,c,rfl,by omega⟩
end Go.Proofs.DgT
namespace Go.Proofs.DgT
open Go Go.DM
set_option maxRecDepth 100000
variable {orc:c3a}
theorem q8b (op:ByteArray) (S:Mem):a3a Tryz.prog orc 159 [.str op] S fun d S'=>S'=S∧d = .int .i64 (arity op):=by
 refine a3a.e Tryz.func159 rfl Tryz.ntmps159 (by rfl) ?_
 repeat' (first|refine Go.a rfl ?_|refine Go.rg ?_|refine GoR.nil ?_|refine Go.ret ?_|refine Go.b rfl ?_|(refine GoR.o (by rfl) (by rfl) ?_;(conv=>arg 1;simp only [G,Z,Y,Gx,vV,simprocAttr,fb9]);show GoR ..)|refine Go.b0a rfl (fun hc => ?_) (fun hc => ?_))
 all_goals
  refine ⟨(by first | exact .inl rfl | exact .inr rfl),fin ?_⟩
  rw [a8a (fn:=Tryz.f159) rfl]
  simp only [a0a,a2a,a1a,G,Z,Y,Gx,vV,simprocAttr,fb9]
  refine ⟨_,[],by simp,.int,?_⟩
  simp_all [arity]
theorem r6d (s:ByteArray) (hs:s.size<4611686018427387904) (S:Mem):a3a Tryz.prog orc 160 [.str s] S fun d S'=>S'=S∧d = .bool (l6a s):=by
 refine a3a.e Tryz.func160 rfl Tryz.ntmps160 (by rfl) ?_
 by_cases h0:s.size=0
 ·have e:s=⟨#[]⟩:=by
   obtain ⟨d⟩:=s
   have:d = #[]:=Array.eq_empty_of_size_eq_zero h0
   rw [this]
  subst e
  repeat' (first|refine Go.a rfl ?_|refine Go.rg ?_|refine GoR.nil ?_|refine Go.ret ?_|refine Go.b rfl ?_|(refine GoR.o (by rfl) (by rfl) ?_;(conv=>arg 1;simp only [G,Z,Y,Gx,vV,simprocAttr,fb3,fb5,fb9]);show GoR ..)|refine GoR.s (by rfl) rfl rfl ?_|(refine GoR.b1a rfl (fun hc => ?_) (fun hc => ?_)<;>simp only [hc])|refine Go.b0a rfl (fun hc => ?_) (fun hc => ?_))
  refine ⟨(by first | exact .inl rfl | exact .inr rfl),fin ?_⟩
  rw [a8a (fn:=Tryz.f160) rfl]
  simp only [a0a,a2a,a1a,G,Z,Y,Gx,vV,simprocAttr,fb3,fb5,fb9]
  exact ⟨_,[],by simp,.bool,rfl⟩
 ·have h1:0<s.size:=by omega
  have hne:decide (s=(⟨#[]⟩:ByteArray))=false:=by
   rw [decide_eq_false_iff_not]
   rintro rfl
   exact h0 rfl
  have e0:s.data[0]?=some (s.data[0]'h1):=Array.getElem?_eq_getElem h1
  by_cases h8:8<s.size
  ·repeat' (first|refine Go.a rfl ?_|refine Go.rg ?_|refine GoR.nil ?_|refine Go.ret ?_|refine Go.b rfl ?_|(refine GoR.o (by rfl) (by rfl) ?_;(conv=>arg 1;simp only [G,Z,Y,Gx,vV,simprocAttr,fb3,fb5,fb9,hne,show decide ((s.size:Int)>8)=true by simp;omega,show decide ((8:Int)<(s.size:Int))=true by simp;omega]);show GoR ..)|refine GoR.s (by rfl) rfl rfl ?_|(refine GoR.b1a rfl (fun hc => ?_) (fun hc => ?_)<;>simp only [hc])|refine Go.b0a rfl (fun hc => ?_) (fun hc => ?_))
   refine ⟨(by first | exact .inl rfl | exact .inr rfl),fin ?_⟩
   rw [a8a (fn:=Tryz.f160) rfl]
   simp only [a0a,a2a,a1a,G,Z,Y,Gx,vV,simprocAttr,fb3,fb5,fb9]
   refine ⟨_,[],by simp,.bool,?_⟩
   have:decide (s.size≤8)=false:=by simp;omega
   simp only [l6a,this,Bool.and_false,Bool.false_and]
  ·have g8:decide ((s.size:Int)>8)=false:=by simp;omega
   have g8':decide ((8:Int)<(s.size:Int))=false:=by simp;omega
   by_cases h97:((s.data[0]'h1).toNat:Int)<97
   ·repeat' (first|refine Go.a rfl ?_|refine Go.rg ?_|refine GoR.nil ?_|refine Go.ret ?_|refine Go.b rfl ?_|(refine GoR.o (by rfl) (by rfl) ?_;(conv=>arg 1;simp only [G,Z,Y,Gx,vV,simprocAttr,fb3,fb5,fb9,hne,g8,g8',s9a h1,decide_eq_true h97]);show GoR ..)|refine GoR.s (by rfl) rfl rfl ?_|(refine GoR.b1a rfl (fun hc => ?_) (fun hc => ?_)<;>simp only [hc])|refine Go.b0a rfl (fun hc => ?_) (fun hc => ?_))
    refine ⟨(by first | exact .inl rfl | exact .inr rfl),fin ?_⟩
    rw [a8a (fn:=Tryz.f160) rfl]
    simp only [a0a,a2a,a1a,G,Z,Y,Gx,vV,simprocAttr,fb3,fb5,fb9]
    refine ⟨_,[],by simp,.bool,?_⟩
    have:c0c (s.data[0]'h1)=false:=by
     unfold c0c
     rw [decide_eq_false (by omega),Bool.false_and]
    simp only [l6a,e0,Option.any_some,this,Bool.and_false,Bool.false_and]
   ·repeat' (first|refine Go.a rfl ?_|refine Go.rg ?_|refine GoR.nil ?_|refine Go.ret ?_|refine Go.b rfl ?_|(refine GoR.o (by rfl) (by rfl) ?_;(conv=>arg 1;simp only [G,Z,Y,Gx,vV,simprocAttr,fb3,fb5,fb9,hne,g8,g8',s9a h1,decide_eq_false h97]);show GoR ..)|refine GoR.s (by rfl) rfl rfl ?_|(refine GoR.b1a rfl (fun hc => ?_) (fun hc => ?_)<;>simp only [hc])|refine Go.b0a rfl (fun hc => ?_) (fun hc => ?_))
    refine Go.keep [(0,.str s),(17,.int .i64 (s.size:Int)),(18,.int .i64 ((0:Nat):Int))] (.cons .refl (.cons .refl (.cons .refl (.nil)))) ?_
    refine Go.while (α:=Nat) (fun i=>s.size - i) (fun i=>[(0,.str s),(17,.int .i64 (s.size:Int)),(18,.int .i64 (i:Int))]) (fun _=>S) (fun i=>i≤s.size ∧ ∀ j (h:j<s.size),j<i→(c0c (s.data[j]'h) || g1d (s.data[j]'h))=true) ?_ 0 ⟨Nat.zero_le _,by simp⟩
    rintro i ⟨hi,hk⟩ next
    repeat' (first|refine Go.a rfl ?_|refine Go.rg ?_|refine GoR.nil ?_|refine Go.ret ?_|refine Go.b rfl ?_|(refine GoR.o (by rfl) (by rfl) ?_;(conv=>arg 1;simp only [G,Z,Y,Gx,vV,simprocAttr,fb3,fb5,fb9]);show GoR ..)|refine GoR.s (by rfl) rfl rfl ?_|(refine GoR.b1a rfl (fun hc => ?_) (fun hc => ?_)<;>simp only [hc])|refine Go.b0a rfl (fun hc => ?_) (fun hc => ?_))
    ·have h2:i<s.size:=by simpa using hc
     repeat' (first|refine Go.a rfl ?_|refine Go.rg ?_|refine GoR.nil ?_|refine Go.ret ?_|refine Go.b rfl ?_|(refine GoR.o (by rfl) (by rfl) ?_;(conv=>arg 1;simp only [G,Z,Y,Gx,vV,simprocAttr,fb3,fb5,fb9,f4a h2,b9a (show i<4611686018427387904 by omega)]);show GoR ..)|refine GoR.s (by rfl) rfl rfl ?_|(refine GoR.b1a rfl (fun hc => ?_) (fun hc => ?_)<;>simp only [hc])|refine Go.b0a rfl (fun hc => ?_) (fun hc => ?_))
     all_goals first
      | (
        refine Go.lpN ?_
        refine Go.keep [(0,.str s),(17,.int .i64 (s.size:Int)),(18,.int .i64 ((i+1:Nat):Int))] (.cons .refl (.cons .refl (.cons .refl (.nil)))) ?_
        refine next (i+1) (by omega) ⟨h2,fun j hj hlt => ?_⟩
        clear next
        rcases Nat.lt_or_ge j i with h | h
        ·exact hk j hj h
        ·obtain rfl:j=i:=by omega
         clear hk
         simp [c0c,g1d] at *
         omega)
      | (
        clear next
        refine ⟨(by first | exact .inl rfl | exact .inr rfl),fin ?_⟩
        rw [a8a (fn:=Tryz.f160) rfl]
        simp only [a0a,a2a,a1a,G,Z,Y,Gx,vV,simprocAttr,fb3,fb5,fb9]
        refine ⟨_,[],by simp,.bool,?_⟩
        have hp:(fun b=>c0c b || g1d b) (s.data[i]'h2)=false:=by
         clear hk
         simp [c0c,g1d] at *
         omega
        simp only [l6a,s5b (p:=fun b=>c0c b || g1d b) h2 hp,Bool.and_false])
    ·clear next
     refine ⟨(by first | exact .inl rfl | exact .inr rfl),fin ?_⟩
     rw [a8a (fn:=Tryz.f160) rfl]
     simp only [a0a,a2a,a1a,G,Z,Y,Gx,vV,simprocAttr,fb3,fb5,fb9]
     refine ⟨_,[],by simp,.bool,?_⟩
     have hall:=fun j hj=>hk j hj (by simp at hc;omega)
     rw [l6a,b5c hall]
     have h3:=hall 0 h1
     have hl:c0c (s.data[0]'h1)=true:=by
      clear hk hall
      simp [c0c,g1d] at *
      omega
     have h4:decide (1≤s.size)=true:=by simp;omega
     have h5:decide (s.size≤8)=true:=by simp;omega
     simp only [e0,Option.any_some,hl,h4,h5,Bool.and_true]
set_option maxHeartbeats 4000000 in
theorem q7d (n:Nd) (hs:f3b 100 n) : ∀ (S:Mem),a3a Tryz.prog orc 96 [.agg n.c] S fun d S'=>S'=S∧d = .int .i64 (m8a n):=by
 induction n using Nd.ind with
 | h op nm n ks ih=>
  intro S
  obtain ⟨hnm,hl,hk⟩:=hs
  rw [Nd.k0a,i2b]
  by_cases har:arity op=ks.length
  rotate_left
  ·have hb:(arity op != (ks.length:Int))=true:=by simpa using har
   rw [if_pos har]
   refine a3a.e Tryz.func96 rfl Tryz.ntmps96 (by rfl) ?_
   repeat' (first|refine Go.a rfl ?_|refine Go.rg ?_|refine GoR.nil ?_|refine Go.ret ?_|refine Go.b rfl ?_|refine Go.rgS dmx (by decide) ?_|refine Go.rgD [4] (fun H=>b6a H S.length=some [.str op,.str nm,.int .i64 n,.sl none 4 ks.length (d3a ks)]) dmx (by decide) 8 (by decide) (by (simp only [a6a,a4a])) ?_|refine GoW.nil rfl ?_|((first|refine GoR.o (by rfl) (by rfl) ?_|refine GoW.o (by rfl) (by rfl) ?_|refine GoW.rd (by rfl) (by rfl) ?_);(conv=>arg 1;simp only [G,Z,Y,Gx,vV,simprocAttr,fb2,fb3,fb9,h4a,g4a,hb]);first|show GoR ..|(show _∧GoW ..;refine ⟨by (first|exact fun h=>absurd h (by decide)|(intro _;(simp only [a6a,a4a]))),?_⟩)|(show _∧_∧_∧GoW ..;refine ⟨rfl,by (simp only [a6a,a4a]),(fun H hI=>by (try dsimp only at hI);simp only [G,Z,Y,Gx,vV,simprocAttr,fb2,fb3,fb9,h4a,g4a,hb,hI]),?_⟩))|(refine GoW.c y2e (by rfl) (by rfl) rfl ?_;(refine (z1c _ _).ret ?_);refine ⟨by (first|exact fun h=>absurd h (by decide)|(intro _;(simp only [a6a,a4a]))),?_⟩)|(refine GoR.c y2e (by rfl) (by rfl) rfl ?_;(refine (z1c _ _).ret ?_))|refine GoR.s (by rfl) rfl rfl ?_|refine GoW.s (by rfl) rfl rfl (by (first|exact fun h=>absurd h (by decide)|(intro _;(simp only [a6a,a4a])))) ?_|(refine GoR.b1a rfl (fun hc => ?_) (fun hc => ?_)<;>simp only [hc])|refine Go.b0a rfl (fun hc => ?_) (fun hc => ?_))
   refine ⟨(by first | exact .inl rfl | exact .inr rfl),fin ?_⟩
   rw [a8a (fn:=Tryz.f96) rfl]
   simp only [a0a,a2a,a1a,G,Z,Y,Gx,vV,simprocAttr,fb2,fb3,fb9,h4a,g4a]
   exact ⟨_,_,rfl,.int,rfl⟩
  rw [if_neg (fun h=>h har)]
  cases hb1:decide (op=(⟨#[110,97,109,101]⟩:ByteArray))<;>cases hb2:l6a nm<;>cases hb3:decide (op=(⟨#[110,117,109]⟩:ByteArray))<;>cases hb4:decide (n<0)
  all_goals first
   | (exfalso;have h1:=of_decide_eq_true hb1;have h3:=of_decide_eq_true hb3;rw [h1] at h3;exact absurd h3 (by decide))
   | skip
  all_goals
   refine a3a.e Tryz.func96 rfl Tryz.ntmps96 (by rfl) ?_
   repeat' (first|refine Go.a rfl ?_|refine Go.rg ?_|refine GoR.nil ?_|refine Go.ret ?_|refine Go.b rfl ?_|refine Go.rgS dmx (by decide) ?_|refine Go.rgD [4] (fun H=>b6a H S.length=some [.str op,.str nm,.int .i64 n,.sl none 4 ks.length (d3a ks)]) dmx (by decide) 8 (by decide) (by (simp only [a6a,a4a])) ?_|refine GoW.nil rfl ?_|((first|refine GoR.o (by rfl) (by rfl) ?_|refine GoW.o (by rfl) (by rfl) ?_|refine GoW.rd (by rfl) (by rfl) ?_);(conv=>arg 1;simp only [G,Z,Y,Gx,vV,simprocAttr,fb2,fb3,fb9,h4a,g4a,har,hb1,hb2,hb3,hb4,bne_self_eq_false,Bool.not_true,Bool.not_false]);first|show GoR ..|(show _∧GoW ..;refine ⟨by (first|exact fun h=>absurd h (by decide)|(intro _;(simp only [a6a,a4a]))),?_⟩)|(show _∧_∧_∧GoW ..;refine ⟨rfl,by (simp only [a6a,a4a]),(fun H hI=>by (try dsimp only at hI);simp only [G,Z,Y,Gx,vV,simprocAttr,fb2,fb3,fb9,h4a,g4a,har,hb1,hb2,hb3,hb4,bne_self_eq_false,Bool.not_true,Bool.not_false,hI]),?_⟩))|(refine GoW.c y2e (by rfl) (by rfl) rfl ?_;(refine (z1c _ _).ret ?_);refine ⟨by (first|exact fun h=>absurd h (by decide)|(intro _;(simp only [a6a,a4a]))),?_⟩)|(refine GoR.c y2e (by rfl) (by rfl) rfl ?_;(refine (z1c _ _).ret ?_))|(refine GoW.c i5f (by rfl) (by rfl) rfl ?_;(refine (q8d _ (by omega) _).ret ?_);refine ⟨by (first|exact fun h=>absurd h (by decide)|(intro _;(simp only [a6a,a4a]))),?_⟩)|(refine GoR.c i5f (by rfl) (by rfl) rfl ?_;(refine (q8d _ (by omega) _).ret ?_))|refine GoR.s (by rfl) rfl rfl ?_|refine GoW.s (by rfl) rfl rfl (by (first|exact fun h=>absurd h (by decide)|(intro _;(simp only [a6a,a4a])))) ?_|(refine GoR.b1a rfl (fun hc => ?_) (fun hc => ?_)<;>simp only [hc])|refine Go.b0a rfl (fun hc => ?_) (fun hc => ?_))
  all_goals first
   | (
     skip
     refine ⟨(by first | exact .inl rfl | exact .inr rfl),fin ?_⟩
     rw [a8a (fn:=Tryz.f96) rfl]
     simp only [a0a,a2a,a1a,G,Z,Y,Gx,vV,simprocAttr,fb2,fb3,fb9,h4a,g4a]
     refine ⟨_,_,rfl,.int,?_⟩
     simp only [decide_eq_true_eq,decide_eq_false_iff_not] at hb1 hb3 hb4
     simp [hb1,hb3,hb4]
     done)
   | skip
  all_goals
   rw [if_neg (by
    rintro ⟨h,h'⟩
    first
     | (have:=decide_eq_true h;rw [hb1] at this;cases this;done)
     | (cases h';done)
     | (rw [hb2] at h';cases h';done)),if_neg (by
    rintro ⟨h,h'⟩
    first
     | (have:=decide_eq_true h;rw [hb3] at this;cases this;done)
     | (have:=decide_eq_true h';rw [hb4] at this;cases this;done))]
   clear hb1 hb2 hb3 hb4
   refine Go.keep [(1,.ptr S.length 0),(3,.int .i64 ((0:Nat):Int))] (.cons .refl (.cons .refl (.nil))) ?_
   refine Go.while (α:=Nat) (fun i=>ks.length - i) (fun i=>[(1,.ptr S.length 0),(3,.int .i64 (i:Int))]) (fun _=>S++[.obj [.str op,.str nm,.int .i64 n,.sl none 4 ks.length (d3a ks)]]) (fun i=>i≤ks.length ∧ ∀ j (h:j<ks.length),j<i→m8a ks[j]=0) ?_ 0 ⟨Nat.zero_le _,by simp⟩
   rintro i ⟨hi,hf⟩ next
   by_cases h1:i<ks.length
   ·have ihk:=ih _ (List.getElem_mem h1) (hk _ (List.getElem_mem h1))
    by_cases he:m8a ks[i]=0
    ·rw [he] at ihk
     repeat' (first|refine Go.a rfl ?_|refine Go.rg ?_|refine GoR.nil ?_|refine Go.ret ?_|refine Go.b rfl ?_|refine Go.rgS dmx (by decide) ?_|refine Go.rgD [4] (fun _=>True) dmx (by decide) 8 (by decide) (by trivial) ?_|refine GoW.nil rfl ?_|((first|refine GoR.o (by rfl) (by rfl) ?_|refine GoW.o (by rfl) (by rfl) ?_|refine GoW.rd (by rfl) (by rfl) ?_);(conv=>arg 1;simp only [G,Z,Y,Gx,vV,simprocAttr,fb2,fb3,fb9,h4a,g4a,show decide ((i:Int)<(ks.length:Int))=true by simp;omega,u5a h1,b9a (show i<4611686018427387904 by omega)]);first|show GoR ..|(show _∧GoW ..;refine ⟨by exact fun _=>trivial,?_⟩)|(show _∧_∧_∧GoW ..;refine ⟨rfl,by trivial,(fun H _=>by simp only [G,Z,Y,Gx,vV,simprocAttr,fb2,fb3,fb9,h4a,g4a,show decide ((i:Int)<(ks.length:Int))=true by simp;omega,u5a h1,b9a (show i<4611686018427387904 by omega)]),?_⟩))|(refine GoW.c c96 (by rfl) (by rfl) rfl ?_;(refine (ihk _).ret ?_);refine ⟨by exact fun _=>trivial,?_⟩)|(refine GoR.c c96 (by rfl) (by rfl) rfl ?_;(refine (ihk _).ret ?_))|refine GoR.s (by rfl) rfl rfl ?_|refine GoW.s (by rfl) rfl rfl (by exact fun _=>trivial) ?_|(refine GoR.b1a rfl (fun hc => ?_) (fun hc => ?_)<;>simp only [hc])|refine Go.b0a rfl (fun hc => ?_) (fun hc => ?_))
     refine Go.lpN ?_
     refine Go.keep [(1,.ptr S.length 0),(3,.int .i64 ((i+1:Nat):Int))] (.cons .refl (.cons .refl (.nil))) ?_
     refine next (i+1) (by omega) ⟨h1,fun j hj hlt => ?_⟩
     rcases Nat.lt_or_ge j i with h | h
     ·exact hf j hj h
     ·obtain rfl:j=i:=by omega
      exact he
    ·clear next
     repeat' (first|refine Go.a rfl ?_|refine Go.rg ?_|refine GoR.nil ?_|refine Go.ret ?_|refine Go.b rfl ?_|refine Go.rgS dmx (by decide) ?_|refine Go.rgD [4] (fun _=>True) dmx (by decide) 8 (by decide) (by trivial) ?_|refine GoW.nil rfl ?_|((first|refine GoR.o (by rfl) (by rfl) ?_|refine GoW.o (by rfl) (by rfl) ?_|refine GoW.rd (by rfl) (by rfl) ?_);(conv=>arg 1;simp only [G,Z,Y,Gx,vV,simprocAttr,fb2,fb3,fb9,h4a,g4a,show decide ((i:Int)<(ks.length:Int))=true by simp;omega,u5a h1,show (m8a ks[i] != 0)=true by simpa using he,show (m8a ks[i]==0)=false by simpa using he]);first|show GoR ..|(show _∧GoW ..;refine ⟨by exact fun _=>trivial,?_⟩)|(show _∧_∧_∧GoW ..;refine ⟨rfl,by trivial,(fun H _=>by simp only [G,Z,Y,Gx,vV,simprocAttr,fb2,fb3,fb9,h4a,g4a,show decide ((i:Int)<(ks.length:Int))=true by simp;omega,u5a h1,show (m8a ks[i] != 0)=true by simpa using he,show (m8a ks[i]==0)=false by simpa using he]),?_⟩))|(refine GoW.c c96 (by rfl) (by rfl) rfl ?_;(refine (ihk _).ret ?_);refine ⟨by exact fun _=>trivial,?_⟩)|(refine GoR.c c96 (by rfl) (by rfl) rfl ?_;(refine (ihk _).ret ?_))|refine GoR.s (by rfl) rfl rfl ?_|refine GoW.s (by rfl) rfl rfl (by exact fun _=>trivial) ?_|(refine GoR.b1a rfl (fun hc => ?_) (fun hc => ?_)<;>simp only [hc])|refine Go.b0a rfl (fun hc => ?_) (fun hc => ?_))
     refine ⟨(by first | exact .inl rfl | exact .inr rfl),fin ?_⟩
     rw [a8a (fn:=Tryz.f96) rfl]
     simp only [a0a,a2a,a1a,G,Z,Y,Gx,vV,simprocAttr,fb2,fb3,fb9,h4a,g4a]
     refine ⟨_,_,rfl,.int,?_⟩
     rw [u3b (l:=ks.map m8a) (i:=i) (by simpa using h1) (fun j hj hlt=>by simpa using hf j (by simpa using hj) hlt) (by simpa using he)]
     simp
   ·clear next
    repeat' (first|refine Go.a rfl ?_|refine Go.rg ?_|refine GoR.nil ?_|refine Go.ret ?_|refine Go.b rfl ?_|refine Go.rgS dmx (by decide) ?_|refine Go.rgD [4] (fun _=>True) dmx (by decide) 8 (by decide) (by trivial) ?_|refine GoW.nil rfl ?_|((first|refine GoR.o (by rfl) (by rfl) ?_|refine GoW.o (by rfl) (by rfl) ?_|refine GoW.rd (by rfl) (by rfl) ?_);(conv=>arg 1;simp only [G,Z,Y,Gx,vV,simprocAttr,fb2,fb3,fb9,h4a,g4a,show decide ((i:Int)<(ks.length:Int))=false by simp;omega]);first|show GoR ..|(show _∧GoW ..;refine ⟨by exact fun _=>trivial,?_⟩)|(show _∧_∧_∧GoW ..;refine ⟨rfl,by trivial,(fun H _=>by simp only [G,Z,Y,Gx,vV,simprocAttr,fb2,fb3,fb9,h4a,g4a,show decide ((i:Int)<(ks.length:Int))=false by simp;omega]),?_⟩))|refine GoR.s (by rfl) rfl rfl ?_|refine GoW.s (by rfl) rfl rfl (by exact fun _=>trivial) ?_|(refine GoR.b1a rfl (fun hc => ?_) (fun hc => ?_)<;>simp only [hc])|refine Go.b0a rfl (fun hc => ?_) (fun hc => ?_))
    refine ⟨(by first | exact .inl rfl | exact .inr rfl),fin ?_⟩
    rw [a8a (fn:=Tryz.f96) rfl]
    simp only [a0a,a2a,a1a,G,Z,Y,Gx,vV,simprocAttr,fb2,fb3,fb9,h4a,g4a]
    refine ⟨_,_,rfl,.int,?_⟩
    rw [c7b]
    intro x hx
    obtain ⟨y,hy,rfl⟩:=List.mem_map.1 hx
    obtain ⟨j,hj,rfl⟩:=List.mem_iff_getElem.1 hy
    exact hf j hj (by omega)
set_option maxHeartbeats 4000000 in
theorem j6d (n:Nd) (hs:f3b 100 n) : ∀ (S:Mem),a3a Tryz.prog orc 131 [.agg n.c] S fun d S'=>S'=S∧d = .int .i64 (m8a n):=by
 induction n using Nd.ind with
 | h op nm n ks ih=>
  intro S
  obtain ⟨hnm,hl,hk⟩:=hs
  rw [Nd.k0a,i2b]
  by_cases har:arity op=ks.length
  rotate_left
  ·have hb:(arity op != (ks.length:Int))=true:=by simpa using har
   rw [if_pos har]
   refine a3a.e Tryz.func131 rfl Tryz.ntmps131 (by rfl) ?_
   repeat' (first|refine Go.a rfl ?_|refine Go.rg ?_|refine GoR.nil ?_|refine Go.ret ?_|refine Go.b rfl ?_|refine Go.rgS dmx (by decide) ?_|refine Go.rgD [4] (fun H=>b6a H S.length=some [.str op,.str nm,.int .i64 n,.sl none 4 ks.length (d3a ks)]) dmx (by decide) 8 (by decide) (by (simp only [a6a,a4a])) ?_|refine GoW.nil rfl ?_|((first|refine GoR.o (by rfl) (by rfl) ?_|refine GoW.o (by rfl) (by rfl) ?_|refine GoW.rd (by rfl) (by rfl) ?_);(conv=>arg 1;simp only [G,Z,Y,Gx,vV,simprocAttr,fb2,fb3,fb9,c2a,b7a,c8a,hb]);first|show GoR ..|(show _∧GoW ..;refine ⟨by (first|exact fun h=>absurd h (by decide)|(intro _;(simp only [a6a,a4a]))),?_⟩)|(show _∧_∧_∧GoW ..;refine ⟨rfl,by (simp only [a6a,a4a]),(fun H hI=>by (try dsimp only at hI);simp only [G,Z,Y,Gx,vV,simprocAttr,fb2,fb3,fb9,c2a,b7a,c8a,hb,hI]),?_⟩))|(refine GoW.c c159 (by rfl) (by rfl) rfl ?_;(refine (q8b _ _).ret ?_);refine ⟨by (first|exact fun h=>absurd h (by decide)|(intro _;(simp only [a6a,a4a]))),?_⟩)|(refine GoR.c c159 (by rfl) (by rfl) rfl ?_;(refine (q8b _ _).ret ?_))|refine GoR.s (by rfl) rfl rfl ?_|refine GoW.s (by rfl) rfl rfl (by (first|exact fun h=>absurd h (by decide)|(intro _;(simp only [a6a,a4a])))) ?_|(refine GoR.b1a rfl (fun hc => ?_) (fun hc => ?_)<;>simp only [hc])|refine Go.b0a rfl (fun hc => ?_) (fun hc => ?_))
   refine ⟨(by first | exact .inl rfl | exact .inr rfl),fin ?_⟩
   rw [a8a (fn:=Tryz.f131) rfl]
   simp only [a0a,a2a,a1a,G,Z,Y,Gx,vV,simprocAttr,fb2,fb3,fb9,c2a,b7a,c8a]
   exact ⟨_,_,rfl,.int,rfl⟩
  rw [if_neg (fun h=>h har)]
  cases hb1:decide (op=(⟨#[110,97,109,101]⟩:ByteArray))<;>cases hb2:l6a nm<;>cases hb3:decide (op=(⟨#[110,117,109]⟩:ByteArray))<;>cases hb4:decide (n<0)
  all_goals first
   | (exfalso;have h1:=of_decide_eq_true hb1;have h3:=of_decide_eq_true hb3;rw [h1] at h3;exact absurd h3 (by decide))
   | skip
  all_goals
   refine a3a.e Tryz.func131 rfl Tryz.ntmps131 (by rfl) ?_
   repeat' (first|refine Go.a rfl ?_|refine Go.rg ?_|refine GoR.nil ?_|refine Go.ret ?_|refine Go.b rfl ?_|refine Go.rgS dmx (by decide) ?_|refine Go.rgD [4] (fun H=>b6a H S.length=some [.str op,.str nm,.int .i64 n,.sl none 4 ks.length (d3a ks)]) dmx (by decide) 8 (by decide) (by (simp only [a6a,a4a])) ?_|refine GoW.nil rfl ?_|((first|refine GoR.o (by rfl) (by rfl) ?_|refine GoW.o (by rfl) (by rfl) ?_|refine GoW.rd (by rfl) (by rfl) ?_);(conv=>arg 1;simp only [G,Z,Y,Gx,vV,simprocAttr,fb2,fb3,fb9,c2a,b7a,c8a,har,hb1,hb2,hb3,hb4,bne_self_eq_false,Bool.not_true,Bool.not_false]);first|show GoR ..|(show _∧GoW ..;refine ⟨by (first|exact fun h=>absurd h (by decide)|(intro _;(simp only [a6a,a4a]))),?_⟩)|(show _∧_∧_∧GoW ..;refine ⟨rfl,by (simp only [a6a,a4a]),(fun H hI=>by (try dsimp only at hI);simp only [G,Z,Y,Gx,vV,simprocAttr,fb2,fb3,fb9,c2a,b7a,c8a,har,hb1,hb2,hb3,hb4,bne_self_eq_false,Bool.not_true,Bool.not_false,hI]),?_⟩))|(refine GoW.c c159 (by rfl) (by rfl) rfl ?_;(refine (q8b _ _).ret ?_);refine ⟨by (first|exact fun h=>absurd h (by decide)|(intro _;(simp only [a6a,a4a]))),?_⟩)|(refine GoR.c c159 (by rfl) (by rfl) rfl ?_;(refine (q8b _ _).ret ?_))|(refine GoW.c c160 (by rfl) (by rfl) rfl ?_;(refine (r6d _ (by omega) _).ret ?_);refine ⟨by (first|exact fun h=>absurd h (by decide)|(intro _;(simp only [a6a,a4a]))),?_⟩)|(refine GoR.c c160 (by rfl) (by rfl) rfl ?_;(refine (r6d _ (by omega) _).ret ?_))|refine GoR.s (by rfl) rfl rfl ?_|refine GoW.s (by rfl) rfl rfl (by (first|exact fun h=>absurd h (by decide)|(intro _;(simp only [a6a,a4a])))) ?_|(refine GoR.b1a rfl (fun hc => ?_) (fun hc => ?_)<;>simp only [hc])|refine Go.b0a rfl (fun hc => ?_) (fun hc => ?_))
  all_goals first
   | (
     skip
     refine ⟨(by first | exact .inl rfl | exact .inr rfl),fin ?_⟩
     rw [a8a (fn:=Tryz.f131) rfl]
     simp only [a0a,a2a,a1a,G,Z,Y,Gx,vV,simprocAttr,fb2,fb3,fb9,c2a,b7a,c8a]
     refine ⟨_,_,rfl,.int,?_⟩
     simp only [decide_eq_true_eq,decide_eq_false_iff_not] at hb1 hb3 hb4
     simp [hb1,hb3,hb4]
     done)
   | skip
  all_goals
   rw [if_neg (by
    rintro ⟨h,h'⟩
    first
     | (have:=decide_eq_true h;rw [hb1] at this;cases this;done)
     | (cases h';done)
     | (rw [hb2] at h';cases h';done)),if_neg (by
    rintro ⟨h,h'⟩
    first
     | (have:=decide_eq_true h;rw [hb3] at this;cases this;done)
     | (have:=decide_eq_true h';rw [hb4] at this;cases this;done))]
   clear hb1 hb2 hb3 hb4
   refine Go.keep [(1,.ptr S.length 0),(34,.sl none 4 ks.length (d3a ks)),(35,.int .i64 (ks.length:Int)),(36,.int .i64 ((0:Nat):Int))] (.cons .refl (.cons .refl (.cons .refl (.cons .refl (.nil))))) ?_
   refine Go.while (α:=Nat×Mem) (fun a=>ks.length - a.1) (fun a=>[(1,.ptr S.length 0),(34,.sl none 4 ks.length (d3a ks)),(35,.int .i64 (ks.length:Int)),(36,.int .i64 (a.1:Int))]) (fun a=>S++(.obj [.str op,.str nm,.int .i64 n,.sl none 4 ks.length (d3a ks)]::a.2)) (fun a=>a.1≤ks.length ∧ ∀ j (h:j<ks.length),j<a.1→m8a ks[j]=0) ?_ (0,[]) ⟨Nat.zero_le _,by simp⟩
   rintro ⟨i,E⟩ ⟨hi,hf⟩ next
   dsimp only at hi hf next
   by_cases h1:i<ks.length
   ·have ihk:=ih _ (List.getElem_mem h1) (hk _ (List.getElem_mem h1))
    by_cases he:m8a ks[i]=0
    ·rw [he] at ihk
     cases hq:ks[i] with
     | mk kop knm kn kks=>
     rw [hq] at ihk he
     rw [Nd.k0a] at ihk
     repeat' (first|refine Go.a rfl ?_|refine Go.rg ?_|refine GoR.nil ?_|refine Go.ret ?_|refine Go.b rfl ?_|refine Go.rgS dmx (by decide) ?_|refine Go.rgD [4] (fun _=>True) dmx (by decide) 8 (by decide) (by trivial) ?_|refine GoW.nil rfl ?_|((first|refine GoR.o (by rfl) (by rfl) ?_|refine GoW.o (by rfl) (by rfl) ?_|refine GoW.rd (by rfl) (by rfl) ?_);(conv=>arg 1;simp only [G,Z,Y,Gx,vV,simprocAttr,fb2,fb3,fb9,c2a,b7a,c8a,show decide ((i:Int)<(ks.length:Int))=true by simp;omega,u5a h1,hq,Nd.k0a,b9a (show i<4611686018427387904 by omega)]);first|show GoR ..|(show _∧GoW ..;refine ⟨by exact fun _=>trivial,?_⟩)|(show _∧_∧_∧GoW ..;refine ⟨rfl,by trivial,(fun H _=>by simp only [G,Z,Y,Gx,vV,simprocAttr,fb2,fb3,fb9,c2a,b7a,c8a,show decide ((i:Int)<(ks.length:Int))=true by simp;omega,u5a h1,hq,Nd.k0a,b9a (show i<4611686018427387904 by omega)]),?_⟩))|(refine GoW.c c131 (by rfl) (by rfl) rfl ?_;(refine (ihk _).ret ?_);refine ⟨by exact fun _=>trivial,?_⟩)|(refine GoR.c c131 (by rfl) (by rfl) rfl ?_;(refine (ihk _).ret ?_))|refine GoR.s (by rfl) rfl rfl ?_|refine GoW.s (by rfl) rfl rfl (by exact fun _=>trivial) ?_|(refine GoR.b1a rfl (fun hc => ?_) (fun hc => ?_)<;>simp only [hc])|refine Go.b0a rfl (fun hc => ?_) (fun hc => ?_))
     refine Go.lpN ?_
     refine Go.keep [(1,.ptr S.length 0),(34,.sl none 4 ks.length (d3a ks)),(35,.int .i64 (ks.length:Int)),(36,.int .i64 ((i+1:Nat):Int))] (.cons .refl (.cons .refl (.cons .refl (.cons .refl (.nil))))) ?_
     refine next (i+1,_) (by dsimp only;omega) ⟨h1,fun j hj hlt => ?_⟩
     dsimp only at hlt
     rcases Nat.lt_or_ge j i with h | h
     ·exact hf j hj h
     ·obtain rfl:j=i:=by omega
      rw [hq];exact he
    ·clear next
     have hfirst:=u3b (l:=ks.map m8a) (i:=i) (by simpa using h1) (fun j hj hlt=>by simpa using hf j (by simpa using hj) hlt) (by simpa using he)
     simp only [List.getElem_map] at hfirst
     cases hq:ks[i] with
     | mk kop knm kn kks=>
     rw [hq] at ihk he hfirst
     rw [Nd.k0a] at ihk
     repeat' (first|refine Go.a rfl ?_|refine Go.rg ?_|refine GoR.nil ?_|refine Go.ret ?_|refine Go.b rfl ?_|refine Go.rgS dmx (by decide) ?_|refine Go.rgD [4] (fun _=>True) dmx (by decide) 8 (by decide) (by trivial) ?_|refine GoW.nil rfl ?_|((first|refine GoR.o (by rfl) (by rfl) ?_|refine GoW.o (by rfl) (by rfl) ?_|refine GoW.rd (by rfl) (by rfl) ?_);(conv=>arg 1;simp only [G,Z,Y,Gx,vV,simprocAttr,fb2,fb3,fb9,c2a,b7a,c8a,show decide ((i:Int)<(ks.length:Int))=true by simp;omega,u5a h1,hq,Nd.k0a,show (m8a (.mk kop knm kn kks) != 0)=true by simpa using he,show (m8a (.mk kop knm kn kks)==0)=false by simpa using he]);first|show GoR ..|(show _∧GoW ..;refine ⟨by exact fun _=>trivial,?_⟩)|(show _∧_∧_∧GoW ..;refine ⟨rfl,by trivial,(fun H _=>by simp only [G,Z,Y,Gx,vV,simprocAttr,fb2,fb3,fb9,c2a,b7a,c8a,show decide ((i:Int)<(ks.length:Int))=true by simp;omega,u5a h1,hq,Nd.k0a,show (m8a (.mk kop knm kn kks) != 0)=true by simpa using he,show (m8a (.mk kop knm kn kks)==0)=false by simpa using he]),?_⟩))|(refine GoW.c c131 (by rfl) (by rfl) rfl ?_;(refine (ihk _).ret ?_);refine ⟨by exact fun _=>trivial,?_⟩)|(refine GoR.c c131 (by rfl) (by rfl) rfl ?_;(refine (ihk _).ret ?_))|refine GoR.s (by rfl) rfl rfl ?_|refine GoW.s (by rfl) rfl rfl (by exact fun _=>trivial) ?_|(refine GoR.b1a rfl (fun hc => ?_) (fun hc => ?_)<;>simp only [hc])|refine Go.b0a rfl (fun hc => ?_) (fun hc => ?_))
     refine ⟨(by first | exact .inl rfl | exact .inr rfl),fin ?_⟩
     rw [a8a (fn:=Tryz.f131) rfl]
     simp only [a0a,a2a,a1a,G,Z,Y,Gx,vV,simprocAttr,fb2,fb3,fb9,c2a,b7a,c8a]
     refine ⟨_,_,rfl,.int,?_⟩
     rw [hfirst]
   ·clear next
    repeat' (first|refine Go.a rfl ?_|refine Go.rg ?_|refine GoR.nil ?_|refine Go.ret ?_|refine Go.b rfl ?_|refine Go.rgS dmx (by decide) ?_|refine Go.rgD [4] (fun _=>True) dmx (by decide) 8 (by decide) (by trivial) ?_|refine GoW.nil rfl ?_|((first|refine GoR.o (by rfl) (by rfl) ?_|refine GoW.o (by rfl) (by rfl) ?_|refine GoW.rd (by rfl) (by rfl) ?_);(conv=>arg 1;simp only [G,Z,Y,Gx,vV,simprocAttr,fb2,fb3,fb9,c2a,b7a,c8a,show decide ((i:Int)<(ks.length:Int))=false by simp;omega]);first|show GoR ..|(show _∧GoW ..;refine ⟨by exact fun _=>trivial,?_⟩)|(show _∧_∧_∧GoW ..;refine ⟨rfl,by trivial,(fun H _=>by simp only [G,Z,Y,Gx,vV,simprocAttr,fb2,fb3,fb9,c2a,b7a,c8a,show decide ((i:Int)<(ks.length:Int))=false by simp;omega]),?_⟩))|refine GoR.s (by rfl) rfl rfl ?_|refine GoW.s (by rfl) rfl rfl (by exact fun _=>trivial) ?_|(refine GoR.b1a rfl (fun hc => ?_) (fun hc => ?_)<;>simp only [hc])|refine Go.b0a rfl (fun hc => ?_) (fun hc => ?_))
    refine ⟨(by first | exact .inl rfl | exact .inr rfl),fin ?_⟩
    rw [a8a (fn:=Tryz.f131) rfl]
    simp only [a0a,a2a,a1a,G,Z,Y,Gx,vV,simprocAttr,fb2,fb3,fb9,c2a,b7a,c8a]
    refine ⟨_,_,rfl,.int,?_⟩
    rw [c7b]
    intro x hx
    obtain ⟨y,hy,rfl⟩:=List.mem_map.1 hx
    obtain ⟨j,hj,rfl⟩:=List.mem_iff_getElem.1 hy
    exact hf j hj (by omega)
theorem k3b (n:Nd) (hs:f3b 100 n) (S:Mem):a3a Tryz.prog orc 39 [.agg n.c] S fun d S'=>S'=S∧d = .int .i64 (checkN n):=by
 have hcount:=fun S=>i4d (orc:=orc) n 32 (by omega) (by omega) S
 have m0c:=fun S=>q7d (orc:=orc) n hs S
 unfold checkN
 obtain ⟨op,nm,n,ks⟩:=n
 rw [Nd.k0a] at hcount m0c ⊢
 refine a3a.e Tryz.func39 rfl Tryz.ntmps39 (by rfl) ?_
 repeat' (first|refine Go.a rfl ?_|refine Go.rg ?_|refine GoR.nil ?_|refine Go.ret ?_|refine Go.b rfl ?_|(refine GoR.o (by rfl) (by rfl) ?_;(conv=>arg 1;simp only [G,Z,Y,Gx,vV,simprocAttr,fb2,fb3,fb9,h4a,g4a]);show GoR ..)|(refine GoR.c c95 (by rfl) (by rfl) rfl ?_;(refine (hcount _).w8a ?_;rintro _ ⟨r,rfl,h1⟩;unfold x8e at h1))|(refine GoR.c c96 (by rfl) (by rfl) rfl ?_;(refine (m0c _).ret ?_))|refine Go.b0a rfl (fun hc => ?_) (fun hc => ?_))
 ·refine ⟨(by first | exact .inl rfl | exact .inr rfl),fin ?_⟩
  rw [a8a (fn:=Tryz.f39) rfl]
  simp only [a0a,a2a,a1a,G,Z,Y,Gx,vV,simprocAttr,fb2,fb3,fb9,h4a,g4a]
  refine ⟨_,_,rfl,.int,?_⟩
  have:r<0:=by simpa using hc
  rw [if_pos (by omega)]
 ·refine ⟨(by first | exact .inl rfl | exact .inr rfl),fin ?_⟩
  rw [a8a (fn:=Tryz.f39) rfl]
  simp only [a0a,a2a,a1a,G,Z,Y,Gx,vV,simprocAttr,fb2,fb3,fb9,h4a,g4a]
  refine ⟨_,_,rfl,.int,?_⟩
  have : ¬ r<0:=by simpa using hc
  rw [if_neg (by omega)]
theorem j4d (n:Nd) (hs:f3b 100 n) (S:Mem):a3a Tryz.prog orc 98 [.agg n.c] S fun d S'=>S'=S∧d = .int .i64 (checkN n):=by
 have hcount:=fun S=>h8f (orc:=orc) n 32 (by omega) (by omega) S
 have m0c:=fun S=>j6d (orc:=orc) n hs S
 unfold checkN
 obtain ⟨op,nm,n,ks⟩:=n
 rw [Nd.k0a] at hcount m0c ⊢
 refine a3a.e Tryz.func98 rfl Tryz.ntmps98 (by rfl) ?_
 repeat' (first|refine Go.a rfl ?_|refine Go.rg ?_|refine GoR.nil ?_|refine Go.ret ?_|refine Go.b rfl ?_|(refine GoR.o (by rfl) (by rfl) ?_;(conv=>arg 1;simp only [G,Z,Y,Gx,vV,simprocAttr,fb2,fb3,fb9,c2a,b7a]);show GoR ..)|(refine GoR.c c130 (by rfl) (by rfl) rfl ?_;(refine (hcount _).w8a ?_;rintro _ ⟨r,rfl,h1⟩;unfold y1e at h1))|(refine GoR.c c131 (by rfl) (by rfl) rfl ?_;(refine (m0c _).ret ?_))|refine Go.b0a rfl (fun hc => ?_) (fun hc => ?_))
 ·refine ⟨(by first | exact .inl rfl | exact .inr rfl),fin ?_⟩
  rw [a8a (fn:=Tryz.f98) rfl]
  simp only [a0a,a2a,a1a,G,Z,Y,Gx,vV,simprocAttr,fb2,fb3,fb9,c2a,b7a]
  refine ⟨_,_,rfl,.int,?_⟩
  have:32<r:=by simpa using hc
  rw [if_pos (by omega)]
 ·refine ⟨(by first | exact .inl rfl | exact .inr rfl),fin ?_⟩
  rw [a8a (fn:=Tryz.f98) rfl]
  simp only [a0a,a2a,a1a,G,Z,Y,Gx,vV,simprocAttr,fb2,fb3,fb9,c2a,b7a]
  refine ⟨_,_,rfl,.int,?_⟩
  have : ¬ 32<r:=by simpa using hc
  rw [if_neg (by omega)]
end Go.Proofs.DgT
