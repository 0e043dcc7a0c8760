/- Whether a tree may be: how many nodes it has, what is wrong first. -/
import Derived.Test.YtcdijoaabbjioaaGreatDoorDgP9x
import Derived.Test.YtcdijoaabbjioaaGreatDoorDgC5x
set_option linter.unusedSimpArgs false
set_option linter.unusedVariables false
namespace Go.Proofs.DgT
open Go Go.DM
set_option maxRecDepth 100000
variable {orc:DOracle}
def firstE:List Int→Int
 | []=>0
 | e::l=>if e≠0 then e else firstE l
theorem cnt_pos (n:Nd):1≤cnt n:=by
 cases n
 rw [cnt_mk]
 omega
theorem firstE_at : ∀ {l:List Int} {i:Nat} (h:i<l.length),(∀ j (hj:j<l.length),j<i→l[j]=0)→l[i]≠0→firstE l=l[i]
 | e::l,0,_,_,hn=>by
  have hn':e≠0:=hn
  show (if e≠0 then e else firstE l)=e
  rw [if_pos hn']
 | e::l,i+1,h,hz,hn=>by
  have h0:e=0:=hz 0 (by simp) (by omega)
  show (if e≠0 then e else firstE l)=l[i]'(by simpa using h)
  rw [if_neg (fun q=>q h0)]
  exact firstE_at (by simpa using h) (fun j hj hlt=>hz (j+1) (by simpa using hj) (by omega)) hn
theorem firstE_all : ∀ {l:List Int},(∀ x∈l,x=0)→firstE l=0
 | [],_=>rfl
 | e::l,h=>by
  show (if e≠0 then e else firstE l)=0
  rw [if_neg (fun q=>q (h e (by simp)))]
  exact firstE_all fun x hx=>h x (by simp [hx])
def checkS:Nd→Int
 | .mk op nm n ks=>if arity op≠ks.length then 2 else if op=(⟨#[110,97,109,101]⟩:ByteArray)∧nameOk nm=false then 5 else if op=(⟨#[110,117,109]⟩:ByteArray)∧n<0 then 1 else firstE (ks.attach.map fun ⟨k,_⟩=>checkS k)
termination_by n=>SizeOf.sizeOf n
decreasing_by exact Nd.kid_lt ‹_›
theorem checkS_mk {op nm:ByteArray} {n:Int} {ks:List Nd} : checkS (.mk op nm n ks)=if arity op≠ks.length then 2 else if op=(⟨#[110,97,109,101]⟩:ByteArray)∧nameOk nm=false then 5 else if op=(⟨#[110,117,109]⟩:ByteArray)∧n<0 then 1 else firstE (ks.map checkS):=by
 rw [checkS]
 simp
def checkN (n:Nd):Int:=if 32<cnt n then 4 else checkS n
def CntR (n:Nd) (k r:Int):Prop:=(0≤r∧r=k - cnt n)∨(r<0 ∧ -1≤r∧k<cnt n)
theorem countX (n:Nd) : ∀ (k:Int) (_:0≤k) (_:k≤100) (S:Mem),CallD Tryz.prog orc 95 [.agg n.c,.int .i64 k] S fun d S'=>S'=S ∧ ∃ r:Int,d = .int .i64 r∧CntR n k r:=by
 induction n using Nd.ind with
 | h op nm n ks ih=>
  intro k hk0 hk1 S
  have hcm:(cnt (.mk op nm n ks):Int)=1+(cnts ks:Int):=by rw [cnt_mk];push_cast;rfl
  rw [Nd.c_mk]
  unfold CntR
  rw [hcm]
  refine CallD.e Tryz.func95 rfl Tryz.ntmps95 (by rfl) ?_
  repeat' (first|refine Go.a rfl ?_|refine Go.rg ?_|refine GoR.nil ?_|refine Go.ret ?_|refine Go.b rfl ?_|(refine GoR.o (by rfl) (by rfl) ?_;(conv=>arg 1;simp only [G,Z,Y,Gx,vV,simprocAttr,fb2,fb3,fb9,fb32,fb34,wrap_pred (show -100≤k by omega) (show k≤1000 by omega)]);show GoR ..)|refine GoR.s (by rfl) rfl rfl ?_|(refine GoR.splitG rfl (fun hc => ?_) (fun hc => ?_)<;>simp only [hc])|refine Go.condB rfl (fun hc => ?_) (fun hc => ?_))
  refine Go.keep [(1,.int .i64 (k - 1)),(2,.ptr S.length 0),(5,.int .i64 ((0:Nat):Int))] (.cons .refl (.cons .refl (.cons .refl (.nil)))) ?_
  refine Go.while (α:=Nat×Int) (fun a=>ks.length - a.1) (fun a=>[(1,.int .i64 a.2),(2,.ptr S.length 0),(5,.int .i64 (a.1:Int))]) (fun _=>S++[.obj [.str op,.str nm,.int .i64 n,.sl none 4 ks.length (ndsC ks)]])
   (fun a=>a.1≤ks.length∧((0≤a.2∧a.2=k - 1 - cnts (ks.take a.1)∧a.1<4611686018427387904)∨(a.2<0 ∧ -1≤a.2∧k<1+cnts (ks.take a.1)))) ?_ (0,k - 1) ⟨Nat.zero_le _,by simp only [List.take_zero,cnts,List.map_nil,List.sum_nil];omega⟩
  rintro ⟨i,c⟩ ⟨hi,hc1⟩ next
  dsimp only at hi hc1 next
  have hmono:cnts (ks.take i)≤cnts ks:=by
   have:cnts ks=cnts (ks.take i)+cnts (ks.drop i):=by
    rw [cnts,cnts,cnts,← List.sum_append,← List.map_append,List.take_append_drop]
   omega
  by_cases hl:i<ks.length
  ·by_cases h0:0≤c
   ·obtain ⟨_,hc2,hib⟩:=hc1.resolve_right (by omega)
    have hcs:=cnts_succ hl
    have hcp:=cnt_pos ks[i]
    repeat' (first|refine Go.a rfl ?_|refine Go.rg ?_|refine GoR.nil ?_|refine Go.ret ?_|refine Go.b rfl ?_|(refine GoR.o (by rfl) (by rfl) ?_;(conv=>arg 1;simp only [G,Z,Y,Gx,vV,simprocAttr,fb2,fb3,fb9,fb32,fb34,show decide ((i:Int)<(ks.length:Int))=true by simp;omega,show decide (c≥0)=true by simp;omega,show decide (0≤c)=true by simp;omega,ndsAt hl,wrap_succ hib]);show GoR ..)|(refine GoR.c c95 (by rfl) (by rfl) rfl ?_;(refine (ih _ (List.getElem_mem hl) c h0 (by omega) _).retE ?_;rintro _ ⟨r,rfl,h1⟩))|refine GoR.s (by rfl) rfl rfl ?_|(refine GoR.splitG rfl (fun hc => ?_) (fun hc => ?_)<;>simp only [hc])|refine Go.condB rfl (fun hc => ?_) (fun hc => ?_))
    refine Go.lpN ?_
    refine Go.keep [(1,.int .i64 r),(2,.ptr S.length 0),(5,.int .i64 ((i+1:Nat):Int))] (.cons .refl (.cons .refl (.cons .refl (.nil)))) ?_
    refine next (i+1,r) (by dsimp only;omega) ⟨hl,?_⟩
    dsimp only
    rw [hcs]
    unfold CntR at h1
    push_cast
    have hi60:i≤cnts (ks.take i):=take_le (by omega)
    omega
   ·clear next
    repeat' (first|refine Go.a rfl ?_|refine Go.rg ?_|refine GoR.nil ?_|refine Go.ret ?_|refine Go.b rfl ?_|(refine GoR.o (by rfl) (by rfl) ?_;(conv=>arg 1;simp only [G,Z,Y,Gx,vV,simprocAttr,fb2,fb3,fb9,fb32,fb34,show decide ((i:Int)<(ks.length:Int))=true by simp;omega,show decide (c≥0)=false by simp;omega,show decide (0≤c)=false by simp;omega]);show GoR ..)|refine GoR.s (by rfl) rfl rfl ?_|(refine GoR.splitG rfl (fun hc => ?_) (fun hc => ?_)<;>simp only [hc])|refine Go.condB rfl (fun hc => ?_) (fun hc => ?_))
    refine ⟨(by first | exact .inl rfl | exact .inr rfl),fin ?_⟩
    rw [resD_tmp (fn:=Tryz.f95) rfl]
    simp only [optThen_some,resultD_tmp,resultD_cell,G,Z,Y,Gx,vV,simprocAttr,fb2,fb3,fb9,fb32,fb34]
    exact ⟨_,_,rfl,.int,c,rfl,by omega⟩
  ·clear next
   have hi':i=ks.length:=by omega
   subst hi'
   rw [List.take_length] at hc1
   repeat' (first|refine Go.a rfl ?_|refine Go.rg ?_|refine GoR.nil ?_|refine Go.ret ?_|refine Go.b rfl ?_|(refine GoR.o (by rfl) (by rfl) ?_;(conv=>arg 1;simp only [G,Z,Y,Gx,vV,simprocAttr,fb2,fb3,fb9,fb32,fb34,show decide ((ks.length:Int)<(ks.length:Int))=false by simp]);show GoR ..)|refine GoR.s (by rfl) rfl rfl ?_|(refine GoR.splitG rfl (fun hc => ?_) (fun hc => ?_)<;>simp only [hc])|refine Go.condB rfl (fun hc => ?_) (fun hc => ?_))
   refine ⟨(by first | exact .inl rfl | exact .inr rfl),fin ?_⟩
   rw [resD_tmp (fn:=Tryz.f95) rfl]
   simp only [optThen_some,resultD_tmp,resultD_cell,G,Z,Y,Gx,vV,simprocAttr,fb2,fb3,fb9,fb32,fb34]
   exact ⟨_,_,rfl,.int,c,rfl,by omega⟩
where
 take_le : ∀ {ks:List Nd} {i:Nat},i≤ks.length→i≤cnts (ks.take i)
  | _,0,_=>Nat.zero_le _
  | k::ks,i+1,h=>by
   have h1:=take_le (ks:=ks) (i:=i) (by simpa using h)
   have h2:=cnt_pos k
   simp only [List.take_succ_cons,cnts,List.map_cons,List.sum_cons] at h1 ⊢
   omega
end Go.Proofs.DgT
namespace Go.Proofs.DgT
open Go Go.DM
set_option maxRecDepth 100000
variable {orc:DOracle}
theorem exprKids (op:ByteArray) (S:Mem):CallD Tryz.prog orc 159 [.str op] S fun d S'=>S'=S∧d = .int .i64 (arity op):=by
 refine CallD.e Tryz.func159 rfl Tryz.ntmps159 (by rfl) ?_
 repeat' (first|refine Go.a rfl ?_|refine Go.rg ?_|refine GoR.nil ?_|refine Go.ret ?_|refine Go.b rfl ?_|(refine GoR.o (by rfl) (by rfl) ?_;(conv=>arg 1;simp only [G,Z,Y,Gx,vV,simprocAttr,fb9]);show GoR ..)|refine Go.condB rfl (fun hc => ?_) (fun hc => ?_))
 all_goals
  refine ⟨(by first | exact .inl rfl | exact .inr rfl),fin ?_⟩
  rw [resD_tmp (fn:=Tryz.f159) rfl]
  simp only [optThen_some,resultD_tmp,resultD_cell,G,Z,Y,Gx,vV,simprocAttr,fb9]
  refine ⟨_,[],by simp,.int,?_⟩
  simp_all [arity]
set_option maxHeartbeats 4000000 in
theorem refCheckS (n:Nd) (hs:Slim 100 n) : ∀ (S:Mem),CallD Tryz.prog orc 96 [.agg n.c] S fun d S'=>S'=S∧d = .int .i64 (checkS n):=by
 induction n using Nd.ind with
 | h op nm n ks ih=>
  intro S
  obtain ⟨hnm,hl,hk⟩:=hs
  rw [Nd.c_mk,checkS_mk]
  by_cases har:arity op=ks.length
  rotate_left
  ·have hb:(arity op != (ks.length:Int))=true:=by simpa using har
   rw [if_pos har]
   refine CallD.e Tryz.func96 rfl Tryz.ntmps96 (by rfl) ?_
   repeat' (first|refine Go.a rfl ?_|refine Go.rg ?_|refine GoR.nil ?_|refine Go.ret ?_|refine Go.b rfl ?_|refine Go.rgS dmx (by decide) ?_|refine Go.rgD [4] (fun H=>objAt H S.length=some [.str op,.str nm,.int .i64 n,.sl none 4 ks.length (ndsC ks)]) dmx (by decide) 8 (by decide) (by (simp only [objAt_app0,objAt_zero])) ?_|refine GoW.nil rfl ?_|((first|refine GoR.o (by rfl) (by rfl) ?_|refine GoW.o (by rfl) (by rfl) ?_|refine GoW.rd (by rfl) (by rfl) ?_);(conv=>arg 1;simp only [G,Z,Y,Gx,vV,simprocAttr,fb2,fb3,fb9,fb32,fb34,hb]);first|show GoR ..|(show _∧GoW ..;refine ⟨by (first|exact fun h=>absurd h (by decide)|(intro _;(simp only [objAt_app0,objAt_zero]))),?_⟩)|(show _∧_∧_∧GoW ..;refine ⟨rfl,by (simp only [objAt_app0,objAt_zero]),(fun H hI=>by (try dsimp only at hI);simp only [G,Z,Y,Gx,vV,simprocAttr,fb2,fb3,fb9,fb32,fb34,hb,hI]),?_⟩))|(refine GoW.c c129 (by rfl) (by rfl) rfl ?_;(refine (kids12 _ _).ret ?_);refine ⟨by (first|exact fun h=>absurd h (by decide)|(intro _;(simp only [objAt_app0,objAt_zero]))),?_⟩)|(refine GoR.c c129 (by rfl) (by rfl) rfl ?_;(refine (kids12 _ _).ret ?_))|refine GoR.s (by rfl) rfl rfl ?_|refine GoW.s (by rfl) rfl rfl (by (first|exact fun h=>absurd h (by decide)|(intro _;(simp only [objAt_app0,objAt_zero])))) ?_|(refine GoR.splitG rfl (fun hc => ?_) (fun hc => ?_)<;>simp only [hc])|refine Go.condB rfl (fun hc => ?_) (fun hc => ?_))
   refine ⟨(by first | exact .inl rfl | exact .inr rfl),fin ?_⟩
   rw [resD_tmp (fn:=Tryz.f96) rfl]
   simp only [optThen_some,resultD_tmp,resultD_cell,G,Z,Y,Gx,vV,simprocAttr,fb2,fb3,fb9,fb32,fb34]
   exact ⟨_,_,rfl,.int,rfl⟩
  rw [if_neg (fun h=>h har)]
  cases hb1:decide (op=(⟨#[110,97,109,101]⟩:ByteArray))<;>cases hb2:nameOk nm<;>cases hb3:decide (op=(⟨#[110,117,109]⟩:ByteArray))<;>cases hb4:decide (n<0)
  all_goals first
   | (exfalso;have h1:=of_decide_eq_true hb1;have h3:=of_decide_eq_true hb3;rw [h1] at h3;exact absurd h3 (by decide))
   | skip
  all_goals
   refine CallD.e Tryz.func96 rfl Tryz.ntmps96 (by rfl) ?_
   repeat' (first|refine Go.a rfl ?_|refine Go.rg ?_|refine GoR.nil ?_|refine Go.ret ?_|refine Go.b rfl ?_|refine Go.rgS dmx (by decide) ?_|refine Go.rgD [4] (fun H=>objAt H S.length=some [.str op,.str nm,.int .i64 n,.sl none 4 ks.length (ndsC ks)]) dmx (by decide) 8 (by decide) (by (simp only [objAt_app0,objAt_zero])) ?_|refine GoW.nil rfl ?_|((first|refine GoR.o (by rfl) (by rfl) ?_|refine GoW.o (by rfl) (by rfl) ?_|refine GoW.rd (by rfl) (by rfl) ?_);(conv=>arg 1;simp only [G,Z,Y,Gx,vV,simprocAttr,fb2,fb3,fb9,fb32,fb34,har,hb1,hb2,hb3,hb4,bne_self_eq_false,Bool.not_true,Bool.not_false]);first|show GoR ..|(show _∧GoW ..;refine ⟨by (first|exact fun h=>absurd h (by decide)|(intro _;(simp only [objAt_app0,objAt_zero]))),?_⟩)|(show _∧_∧_∧GoW ..;refine ⟨rfl,by (simp only [objAt_app0,objAt_zero]),(fun H hI=>by (try dsimp only at hI);simp only [G,Z,Y,Gx,vV,simprocAttr,fb2,fb3,fb9,fb32,fb34,har,hb1,hb2,hb3,hb4,bne_self_eq_false,Bool.not_true,Bool.not_false,hI]),?_⟩))|(refine GoW.c c129 (by rfl) (by rfl) rfl ?_;(refine (kids12 _ _).ret ?_);refine ⟨by (first|exact fun h=>absurd h (by decide)|(intro _;(simp only [objAt_app0,objAt_zero]))),?_⟩)|(refine GoR.c c129 (by rfl) (by rfl) rfl ?_;(refine (kids12 _ _).ret ?_))|(refine GoW.c c118 (by rfl) (by rfl) rfl ?_;(refine (refName _ (by omega) _).ret ?_);refine ⟨by (first|exact fun h=>absurd h (by decide)|(intro _;(simp only [objAt_app0,objAt_zero]))),?_⟩)|(refine GoR.c c118 (by rfl) (by rfl) rfl ?_;(refine (refName _ (by omega) _).ret ?_))|refine GoR.s (by rfl) rfl rfl ?_|refine GoW.s (by rfl) rfl rfl (by (first|exact fun h=>absurd h (by decide)|(intro _;(simp only [objAt_app0,objAt_zero])))) ?_|(refine GoR.splitG rfl (fun hc => ?_) (fun hc => ?_)<;>simp only [hc])|refine Go.condB rfl (fun hc => ?_) (fun hc => ?_))
  all_goals first
   | (
     skip
     refine ⟨(by first | exact .inl rfl | exact .inr rfl),fin ?_⟩
     rw [resD_tmp (fn:=Tryz.f96) rfl]
     simp only [optThen_some,resultD_tmp,resultD_cell,G,Z,Y,Gx,vV,simprocAttr,fb2,fb3,fb9,fb32,fb34]
     refine ⟨_,_,rfl,.int,?_⟩
     simp only [decide_eq_true_eq,decide_eq_false_iff_not] at hb1 hb3 hb4
     simp [hb1,hb3,hb4]
     done)
   | skip
  all_goals
   rw [if_neg (by
    rintro ⟨h,h'⟩
    first
     | (have:=decide_eq_true h;rw [hb1] at this;cases this;done)
     | (cases h';done)
     | (rw [hb2] at h';cases h';done)),if_neg (by
    rintro ⟨h,h'⟩
    first
     | (have:=decide_eq_true h;rw [hb3] at this;cases this;done)
     | (have:=decide_eq_true h';rw [hb4] at this;cases this;done))]
   clear hb1 hb2 hb3 hb4
   refine Go.keep [(1,.ptr S.length 0),(3,.int .i64 ((0:Nat):Int))] (.cons .refl (.cons .refl (.nil))) ?_
   refine Go.while (α:=Nat) (fun i=>ks.length - i) (fun i=>[(1,.ptr S.length 0),(3,.int .i64 (i:Int))]) (fun _=>S++[.obj [.str op,.str nm,.int .i64 n,.sl none 4 ks.length (ndsC ks)]]) (fun i=>i≤ks.length ∧ ∀ j (h:j<ks.length),j<i→checkS ks[j]=0) ?_ 0 ⟨Nat.zero_le _,by simp⟩
   rintro i ⟨hi,hf⟩ next
   by_cases h1:i<ks.length
   ·have ihk:=ih _ (List.getElem_mem h1) (hk _ (List.getElem_mem h1))
    by_cases he:checkS ks[i]=0
    ·rw [he] at ihk
     repeat' (first|refine Go.a rfl ?_|refine Go.rg ?_|refine GoR.nil ?_|refine Go.ret ?_|refine Go.b rfl ?_|refine Go.rgS dmx (by decide) ?_|refine Go.rgD [4] (fun _=>True) dmx (by decide) 8 (by decide) (by trivial) ?_|refine GoW.nil rfl ?_|((first|refine GoR.o (by rfl) (by rfl) ?_|refine GoW.o (by rfl) (by rfl) ?_|refine GoW.rd (by rfl) (by rfl) ?_);(conv=>arg 1;simp only [G,Z,Y,Gx,vV,simprocAttr,fb2,fb3,fb9,fb32,fb34,show decide ((i:Int)<(ks.length:Int))=true by simp;omega,ndsAt h1,wrap_succ (show i<4611686018427387904 by omega)]);first|show GoR ..|(show _∧GoW ..;refine ⟨by exact fun _=>trivial,?_⟩)|(show _∧_∧_∧GoW ..;refine ⟨rfl,by trivial,(fun H _=>by simp only [G,Z,Y,Gx,vV,simprocAttr,fb2,fb3,fb9,fb32,fb34,show decide ((i:Int)<(ks.length:Int))=true by simp;omega,ndsAt h1,wrap_succ (show i<4611686018427387904 by omega)]),?_⟩))|(refine GoW.c c96 (by rfl) (by rfl) rfl ?_;(refine (ihk _).ret ?_);refine ⟨by exact fun _=>trivial,?_⟩)|(refine GoR.c c96 (by rfl) (by rfl) rfl ?_;(refine (ihk _).ret ?_))|refine GoR.s (by rfl) rfl rfl ?_|refine GoW.s (by rfl) rfl rfl (by exact fun _=>trivial) ?_|(refine GoR.splitG rfl (fun hc => ?_) (fun hc => ?_)<;>simp only [hc])|refine Go.condB rfl (fun hc => ?_) (fun hc => ?_))
     refine Go.lpN ?_
     refine Go.keep [(1,.ptr S.length 0),(3,.int .i64 ((i+1:Nat):Int))] (.cons .refl (.cons .refl (.nil))) ?_
     refine next (i+1) (by omega) ⟨h1,fun j hj hlt => ?_⟩
     rcases Nat.lt_or_ge j i with h | h
     ·exact hf j hj h
     ·obtain rfl:j=i:=by omega
      exact he
    ·clear next
     repeat' (first|refine Go.a rfl ?_|refine Go.rg ?_|refine GoR.nil ?_|refine Go.ret ?_|refine Go.b rfl ?_|refine Go.rgS dmx (by decide) ?_|refine Go.rgD [4] (fun _=>True) dmx (by decide) 8 (by decide) (by trivial) ?_|refine GoW.nil rfl ?_|((first|refine GoR.o (by rfl) (by rfl) ?_|refine GoW.o (by rfl) (by rfl) ?_|refine GoW.rd (by rfl) (by rfl) ?_);(conv=>arg 1;simp only [G,Z,Y,Gx,vV,simprocAttr,fb2,fb3,fb9,fb32,fb34,show decide ((i:Int)<(ks.length:Int))=true by simp;omega,ndsAt h1,show (checkS ks[i] != 0)=true by simpa using he,show (checkS ks[i]==0)=false by simpa using he]);first|show GoR ..|(show _∧GoW ..;refine ⟨by exact fun _=>trivial,?_⟩)|(show _∧_∧_∧GoW ..;refine ⟨rfl,by trivial,(fun H _=>by simp only [G,Z,Y,Gx,vV,simprocAttr,fb2,fb3,fb9,fb32,fb34,show decide ((i:Int)<(ks.length:Int))=true by simp;omega,ndsAt h1,show (checkS ks[i] != 0)=true by simpa using he,show (checkS ks[i]==0)=false by simpa using he]),?_⟩))|(refine GoW.c c96 (by rfl) (by rfl) rfl ?_;(refine (ihk _).ret ?_);refine ⟨by exact fun _=>trivial,?_⟩)|(refine GoR.c c96 (by rfl) (by rfl) rfl ?_;(refine (ihk _).ret ?_))|refine GoR.s (by rfl) rfl rfl ?_|refine GoW.s (by rfl) rfl rfl (by exact fun _=>trivial) ?_|(refine GoR.splitG rfl (fun hc => ?_) (fun hc => ?_)<;>simp only [hc])|refine Go.condB rfl (fun hc => ?_) (fun hc => ?_))
     refine ⟨(by first | exact .inl rfl | exact .inr rfl),fin ?_⟩
     rw [resD_tmp (fn:=Tryz.f96) rfl]
     simp only [optThen_some,resultD_tmp,resultD_cell,G,Z,Y,Gx,vV,simprocAttr,fb2,fb3,fb9,fb32,fb34]
     refine ⟨_,_,rfl,.int,?_⟩
     rw [firstE_at (l:=ks.map checkS) (i:=i) (by simpa using h1) (fun j hj hlt=>by simpa using hf j (by simpa using hj) hlt) (by simpa using he)]
     simp
   ·clear next
    repeat' (first|refine Go.a rfl ?_|refine Go.rg ?_|refine GoR.nil ?_|refine Go.ret ?_|refine Go.b rfl ?_|refine Go.rgS dmx (by decide) ?_|refine Go.rgD [4] (fun _=>True) dmx (by decide) 8 (by decide) (by trivial) ?_|refine GoW.nil rfl ?_|((first|refine GoR.o (by rfl) (by rfl) ?_|refine GoW.o (by rfl) (by rfl) ?_|refine GoW.rd (by rfl) (by rfl) ?_);(conv=>arg 1;simp only [G,Z,Y,Gx,vV,simprocAttr,fb2,fb3,fb9,fb32,fb34,show decide ((i:Int)<(ks.length:Int))=false by simp;omega]);first|show GoR ..|(show _∧GoW ..;refine ⟨by exact fun _=>trivial,?_⟩)|(show _∧_∧_∧GoW ..;refine ⟨rfl,by trivial,(fun H _=>by simp only [G,Z,Y,Gx,vV,simprocAttr,fb2,fb3,fb9,fb32,fb34,show decide ((i:Int)<(ks.length:Int))=false by simp;omega]),?_⟩))|refine GoR.s (by rfl) rfl rfl ?_|refine GoW.s (by rfl) rfl rfl (by exact fun _=>trivial) ?_|(refine GoR.splitG rfl (fun hc => ?_) (fun hc => ?_)<;>simp only [hc])|refine Go.condB rfl (fun hc => ?_) (fun hc => ?_))
    refine ⟨(by first | exact .inl rfl | exact .inr rfl),fin ?_⟩
    rw [resD_tmp (fn:=Tryz.f96) rfl]
    simp only [optThen_some,resultD_tmp,resultD_cell,G,Z,Y,Gx,vV,simprocAttr,fb2,fb3,fb9,fb32,fb34]
    refine ⟨_,_,rfl,.int,?_⟩
    rw [firstE_all]
    intro x hx
    obtain ⟨y,hy,rfl⟩:=List.mem_map.1 hx
    obtain ⟨j,hj,rfl⟩:=List.mem_iff_getElem.1 hy
    exact hf j hj (by omega)
theorem refCheckN (n:Nd) (hs:Slim 100 n) (S:Mem):CallD Tryz.prog orc 39 [.agg n.c] S fun d S'=>S'=S∧d = .int .i64 (checkN n):=by
 have hcount:=fun S=>countX (orc:=orc) n 32 (by omega) (by omega) S
 have hcheck:=fun S=>refCheckS (orc:=orc) n hs S
 unfold checkN
 obtain ⟨op,nm,n,ks⟩:=n
 rw [Nd.c_mk] at hcount hcheck ⊢
 refine CallD.e Tryz.func39 rfl Tryz.ntmps39 (by rfl) ?_
 repeat' (first|refine Go.a rfl ?_|refine Go.rg ?_|refine GoR.nil ?_|refine Go.ret ?_|refine Go.b rfl ?_|(refine GoR.o (by rfl) (by rfl) ?_;(conv=>arg 1;simp only [G,Z,Y,Gx,vV,simprocAttr,fb2,fb3,fb9,fb32,fb34]);show GoR ..)|(refine GoR.c c95 (by rfl) (by rfl) rfl ?_;(refine (hcount _).retE ?_;rintro _ ⟨r,rfl,h1⟩;unfold CntR at h1))|(refine GoR.c c96 (by rfl) (by rfl) rfl ?_;(refine (hcheck _).ret ?_))|refine Go.condB rfl (fun hc => ?_) (fun hc => ?_))
 ·refine ⟨(by first | exact .inl rfl | exact .inr rfl),fin ?_⟩
  rw [resD_tmp (fn:=Tryz.f39) rfl]
  simp only [optThen_some,resultD_tmp,resultD_cell,G,Z,Y,Gx,vV,simprocAttr,fb2,fb3,fb9,fb32,fb34]
  refine ⟨_,_,rfl,.int,?_⟩
  have:r<0:=by simpa using hc
  rw [if_pos (by omega)]
 ·refine ⟨(by first | exact .inl rfl | exact .inr rfl),fin ?_⟩
  rw [resD_tmp (fn:=Tryz.f39) rfl]
  simp only [optThen_some,resultD_tmp,resultD_cell,G,Z,Y,Gx,vV,simprocAttr,fb2,fb3,fb9,fb32,fb34]
  refine ⟨_,_,rfl,.int,?_⟩
  have : ¬ r<0:=by simpa using hc
  rw [if_neg (by omega)]
end Go.Proofs.DgT
