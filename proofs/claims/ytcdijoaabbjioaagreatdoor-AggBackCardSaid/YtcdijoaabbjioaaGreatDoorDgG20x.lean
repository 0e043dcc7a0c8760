/- What is wrong with a fold, by the document: any fold. -/
import Derived.Test.YtcdijoaabbjioaaGreatDoorDgG16x
import Derived.Test.YtcdijoaabbjioaaGreatDoorDgC5x
set_option linter.unusedSimpArgs false
set_option linter.unusedVariables false
namespace Go.Proofs.DgT
open Go Go.DM
set_option maxRecDepth 100000
def l1b (c:Cd):Int:=if k0b c.op=false then 5 else if checkN c.a≠0 then checkN c.a else checkN c.b
def a2c:List Cd→Int
 | []=>0
 | c::r=>if l1b c≠0 then l1b c else a2c r
def v5d (a:Ag):Int:=if a.fn=(⟨#[99,111,117,110,116]⟩:ByteArray) then 0 else if checkN a.e≠0 then checkN a.e else if a.fn=(⟨#[102,105,114,115,116]⟩:ByteArray) then checkN a.by_ else 0
def h8b (a:Ag):Int:=if (f6a a.fn).2.2.2=false then 5 else if a.fn=(⟨#[116,111,112]⟩:ByteArray)∧(a.k<1∨16<a.k) then 1 else if v5d a≠0 then v5d a else if 4<a.w.length then 4 else a2c a.w
theorem x3d {P:Program} {orc:c3a} {fl sz fl' sz':Nat} {k k':List AM.K} {e e':AM.h6a} {ρ ρ':e1a} {H':Mem} {Q Q':AM.h6a→e1a→Mem→Prop} (S:Mem) (h1:(∀ E,Go P orc fl sz k e ρ (S++E) Q)→Go P orc fl' sz' k' e' ρ' H' Q') (h2 : ∀ E,Go P orc fl sz k e ρ (S++E) Q):Go P orc fl' sz' k' e' ρ' H' Q':=h1 h2
theorem t4c {P:Program} {orc:c3a} {fl sz fl' sz':Nat} {k k':List AM.K} {e e':AM.h6a} {ρ ρ':e1a} {H H':Mem} {Q Q':AM.h6a→e1a→Mem→Prop} (R:Prop) (h1:(R→Go P orc fl sz k e ρ H Q)→Go P orc fl' sz' k' e' ρ' H' Q') (h2:R→Go P orc fl sz k e ρ H Q):Go P orc fl' sz' k' e' ρ' H' Q':=h1 h2
theorem s9b {w:List Cd} {i:Nat} (h:i<w.length):a2c (w.drop i)=if l1b w[i]≠0 then l1b w[i] else a2c (w.drop (i+1)):=by
 rw [List.drop_eq_getElem_cons h,a2c]
set_option maxHeartbeats 4000000 in
theorem h0b (a:Ag) (hs:z8b a) (hl:a.w.length<1000) (S:Mem):a3a Tryz.prog O 11 [.agg (Ag.c a)] S fun d S'=>S'=S∧d = .int .i64 (h8b a):=by
 obtain ⟨fn,k,⟨op1,nm1,n1,ks1⟩,⟨op2,nm2,n2,ks2⟩,w⟩:=a
 obtain ⟨h1,h2,h3⟩:=hs
 dsimp only at h1 h2 h3
 dsimp only at hl
 have hfu:=l8e (orc:=O) fn
 cases g1:(f6a fn).2.2.2 with
 | false=>
  have hv:h8b ⟨fn,k,.mk op1 nm1 n1 ks1,.mk op2 nm2 n2 ks2,w⟩=5:=by simp [h8b,g1]
  rw [hv]
  rw [g1] at hfu
  simp only [Ag.c,Nd.k0a,List.cons_append,List.nil_append]
  refine a3a.e Tryz.func11 rfl Tryz.ntmps11 (by rfl) ?_
  repeat' (first|refine Go.a rfl ?_|refine Go.rg ?_|refine GoR.nil ?_|refine Go.ret ?_|refine Go.b rfl ?_|(refine GoR.o (by rfl) (by rfl) ?_;(conv=>arg 1;simp only [G,Z,Y,Gx,vV,simprocAttr,fb2,fb3,fb9,h4a,g4a,k4a,k5a,k6a]);show GoR ..)|(refine GoR.c c33 (by rfl) (by rfl) rfl ?_;(refine a3a.b2a (hfu _) ?_))|refine GoR.s (by rfl) rfl rfl ?_|(refine GoR.b1a rfl (fun hc => ?_) (fun hc => ?_)<;>simp only [hc])|refine Go.b0a rfl (fun hc => ?_) (fun hc => ?_))
  refine ⟨(by first | exact .inl rfl | exact .inr rfl),fin ?_⟩
  rw [a8a (fn:=Tryz.f11) rfl]
  simp only [a0a,a2a,a1a,G,Z,Y,Gx,vV,simprocAttr,fb2,fb3,fb9,h4a,g4a,k4a,k5a,k6a]
  exact ⟨_,_,rfl,.of_low (.int _ _),rfl⟩
 | true=>
 rw [g1] at hfu
 have hc1:=k3b (orc:=O) _ h1
 have hc2:=k3b (orc:=O) _ h2
 simp only [Nd.k0a] at hc1 hc2
 generalize hA:(⟨fn,k,.mk op1 nm1 n1 ks1,.mk op2 nm2 n2 ks2,w⟩:Ag)=A0
 have hAc:Ag.c A0=[.str fn,.int .i64 k,.str op1,.str nm1,.int .i64 n1,.sl none 4 ks1.length (d3a ks1),.str op2,.str nm2,.int .i64 n2,.sl none 4 ks2.length (d3a ks2),.sl none 9 w.length (i7a w)]:=by
  rw [← hA]
  simp only [Ag.c,Nd.k0a,List.cons_append,List.nil_append]
 have hv:h8b A0=if fn=(⟨#[116,111,112]⟩:ByteArray)∧(k<1∨16<k) then 1 else if fn≠(⟨#[99,111,117,110,116]⟩:ByteArray)∧checkN (.mk op1 nm1 n1 ks1)≠0 then checkN (.mk op1 nm1 n1 ks1) else if fn=(⟨#[102,105,114,115,116]⟩:ByteArray)∧checkN (.mk op2 nm2 n2 ks2)≠0 then checkN (.mk op2 nm2 n2 ks2) else if 4<w.length then 4 else a2c w:=by
  rw [← hA]
  simp only [h8b,v5d,g1,reduceIte,Bool.true_eq_false]
  by_cases q1:fn=(⟨#[99,111,117,110,116]⟩:ByteArray)
  ·subst q1
   simp
  ·by_cases q2:checkN (.mk op1 nm1 n1 ks1)=0
   ·by_cases q3:fn=(⟨#[102,105,114,115,116]⟩:ByteArray)
    ·by_cases q4:checkN (.mk op2 nm2 n2 ks2)=0<;>simp [q1,q2,q3,q4]
    ·simp [q1,q2,q3]
   ·simp [q1,q2]
 rw [hAc]
 clear hA hAc h1 h2
 have br:=l9a g1
 refine a3a.e Tryz.func11 rfl Tryz.ntmps11 (by rfl) ?_
 apply t4c True
 ·intro hl
  rcases br with hf | hf | hf | ⟨f1,f2,f3,_⟩
  ·have fc:(fn=(⟨#[99,111,117,110,116]⟩:ByteArray))=True:=eq_true hf
   have ff:(fn=(⟨#[102,105,114,115,116]⟩:ByteArray))=False:=eq_false (by rw [hf];decide)
   have ft:(fn=(⟨#[116,111,112]⟩:ByteArray))=False:=eq_false (by rw [hf];decide)
   simp only [fc,ff,ft,ne_eq,not_true_eq_false,not_false_eq_true,true_and,false_and,if_false,reduceIte] at hv
   by_cases q4:4<w.length
   ·rw [hv,if_pos q4]
    repeat' (first|refine Go.a rfl ?_|refine Go.rg ?_|refine GoR.nil ?_|refine Go.ret ?_|refine Go.b rfl ?_|(refine GoR.o (by rfl) (by rfl) ?_;(conv=>arg 1;simp only [G,Z,Y,Gx,vV,simprocAttr,fb2,fb3,fb9,h4a,g4a,k4a,k5a,k6a,fc,ff,ft,decide_true,decide_false,Bool.not_true,Bool.not_false,not_false_eq_true,not_true_eq_false,eq_self_iff_true,ne_eq,bne_self_eq_false,beq_self_eq_true,show decide ((w.length:Int)>4)=true by simp;omega,show decide (4<(w.length:Int))=true by simp;omega]);show GoR ..)|(refine GoR.c c33 (by rfl) (by rfl) rfl ?_;(refine a3a.b2a (hfu _) ?_))|(refine GoR.c c39 (by rfl) (by rfl) rfl ?_;(first | refine a3a.b2a (hc1 _) ?_ | refine a3a.b2a (hc2 _) ?_))|refine GoR.s (by rfl) rfl rfl ?_|(refine GoR.b1a rfl (fun hc => ?_) (fun hc => ?_)<;>simp only [hc])|refine Go.b0a rfl (fun hc => ?_) (fun hc => ?_))
    refine ⟨(by first | exact .inl rfl | exact .inr rfl),fin ?_⟩
    rw [a8a (fn:=Tryz.f11) rfl]
    simp only [a0a,a2a,a1a,G,Z,Y,Gx,vV,simprocAttr,fb2,fb3,fb9,h4a,g4a,k4a,k5a,k6a]
    exact ⟨_,_,rfl,.of_low (.int _ _),rfl⟩
   rw [if_neg q4] at hv
   rw [hv]
   have d4:decide ((w.length:Int)>4)=false:=by simp;omega
   have d5:decide (4<(w.length:Int))=false:=by simp;omega
   repeat' (first|refine Go.a rfl ?_|refine Go.rg ?_|refine GoR.nil ?_|refine Go.ret ?_|refine Go.b rfl ?_|(refine GoR.o (by rfl) (by rfl) ?_;(conv=>arg 1;simp only [G,Z,Y,Gx,vV,simprocAttr,fb2,fb3,fb9,h4a,g4a,k4a,k5a,k6a,fc,ff,ft,decide_true,decide_false,Bool.not_true,Bool.not_false,not_false_eq_true,not_true_eq_false,eq_self_iff_true,ne_eq,bne_self_eq_false,beq_self_eq_true,d4,d5]);show GoR ..)|(refine GoR.c c33 (by rfl) (by rfl) rfl ?_;(refine a3a.b2a (hfu _) ?_))|(refine GoR.c c39 (by rfl) (by rfl) rfl ?_;(first | refine a3a.b2a (hc1 _) ?_ | refine a3a.b2a (hc2 _) ?_))|refine GoR.s (by rfl) rfl rfl ?_|(refine GoR.b1a rfl (fun hc => ?_) (fun hc => ?_)<;>simp only [hc])|refine Go.b0a rfl (fun hc => ?_) (fun hc => ?_))
   refine Go.keep [(1,.ptr S.length 0),(4,.int .i64 (((0:Nat):Int):Int))] (.cons .refl (.cons .refl (.nil))) ?_
   exact hl trivial
  ·have fc:(fn=(⟨#[99,111,117,110,116]⟩:ByteArray))=False:=eq_false (by rw [hf];decide)
   have ff:(fn=(⟨#[102,105,114,115,116]⟩:ByteArray))=True:=eq_true hf
   have ft:(fn=(⟨#[116,111,112]⟩:ByteArray))=False:=eq_false (by rw [hf];decide)
   simp only [fc,ff,ft,ne_eq,not_true_eq_false,not_false_eq_true,true_and,false_and,if_false,reduceIte] at hv
   by_cases e1:checkN (.mk op1 nm1 n1 ks1)=0
   rotate_left
   ·rw [hv,if_pos e1]
    repeat' (first|refine Go.a rfl ?_|refine Go.rg ?_|refine GoR.nil ?_|refine Go.ret ?_|refine Go.b rfl ?_|(refine GoR.o (by rfl) (by rfl) ?_;(conv=>arg 1;simp only [G,Z,Y,Gx,vV,simprocAttr,fb2,fb3,fb9,h4a,g4a,k4a,k5a,k6a,fc,ff,ft,decide_true,decide_false,Bool.not_true,Bool.not_false,not_false_eq_true,not_true_eq_false,eq_self_iff_true,ne_eq,bne_self_eq_false,beq_self_eq_true,show (checkN (.mk op1 nm1 n1 ks1)==0)=false by simpa using e1,show (checkN (.mk op1 nm1 n1 ks1) != 0)=true by simpa using e1]);show GoR ..)|(refine GoR.c c33 (by rfl) (by rfl) rfl ?_;(refine a3a.b2a (hfu _) ?_))|(refine GoR.c c39 (by rfl) (by rfl) rfl ?_;(first | refine a3a.b2a (hc1 _) ?_ | refine a3a.b2a (hc2 _) ?_))|refine GoR.s (by rfl) rfl rfl ?_|(refine GoR.b1a rfl (fun hc => ?_) (fun hc => ?_)<;>simp only [hc])|refine Go.b0a rfl (fun hc => ?_) (fun hc => ?_))
    refine ⟨(by first | exact .inl rfl | exact .inr rfl),fin ?_⟩
    rw [a8a (fn:=Tryz.f11) rfl]
    simp only [a0a,a2a,a1a,G,Z,Y,Gx,vV,simprocAttr,fb2,fb3,fb9,h4a,g4a,k4a,k5a,k6a]
    exact ⟨_,_,rfl,.of_low (.int _ _),rfl⟩
   rw [if_neg (by simpa using e1)] at hv
   rw [e1] at hc1
   by_cases e2:checkN (.mk op2 nm2 n2 ks2)=0
   rotate_left
   ·rw [hv,if_pos e2]
    repeat' (first|refine Go.a rfl ?_|refine Go.rg ?_|refine GoR.nil ?_|refine Go.ret ?_|refine Go.b rfl ?_|(refine GoR.o (by rfl) (by rfl) ?_;(conv=>arg 1;simp only [G,Z,Y,Gx,vV,simprocAttr,fb2,fb3,fb9,h4a,g4a,k4a,k5a,k6a,fc,ff,ft,decide_true,decide_false,Bool.not_true,Bool.not_false,not_false_eq_true,not_true_eq_false,eq_self_iff_true,ne_eq,bne_self_eq_false,beq_self_eq_true,show (checkN (.mk op2 nm2 n2 ks2) != 0)=true by simpa using e2]);show GoR ..)|(refine GoR.c c33 (by rfl) (by rfl) rfl ?_;(refine a3a.b2a (hfu _) ?_))|(refine GoR.c c39 (by rfl) (by rfl) rfl ?_;(first | refine a3a.b2a (hc1 _) ?_ | refine a3a.b2a (hc2 _) ?_))|refine GoR.s (by rfl) rfl rfl ?_|(refine GoR.b1a rfl (fun hc => ?_) (fun hc => ?_)<;>simp only [hc])|refine Go.b0a rfl (fun hc => ?_) (fun hc => ?_))
    refine ⟨(by first | exact .inl rfl | exact .inr rfl),fin ?_⟩
    rw [a8a (fn:=Tryz.f11) rfl]
    simp only [a0a,a2a,a1a,G,Z,Y,Gx,vV,simprocAttr,fb2,fb3,fb9,h4a,g4a,k4a,k5a,k6a]
    exact ⟨_,_,rfl,.of_low (.int _ _),rfl⟩
   rw [if_neg (by simpa using e2)] at hv
   rw [e2] at hc2
   by_cases q4:4<w.length
   ·rw [hv,if_pos q4]
    repeat' (first|refine Go.a rfl ?_|refine Go.rg ?_|refine GoR.nil ?_|refine Go.ret ?_|refine Go.b rfl ?_|(refine GoR.o (by rfl) (by rfl) ?_;(conv=>arg 1;simp only [G,Z,Y,Gx,vV,simprocAttr,fb2,fb3,fb9,h4a,g4a,k4a,k5a,k6a,fc,ff,ft,decide_true,decide_false,Bool.not_true,Bool.not_false,not_false_eq_true,not_true_eq_false,eq_self_iff_true,ne_eq,bne_self_eq_false,beq_self_eq_true,show decide ((w.length:Int)>4)=true by simp;omega,show decide (4<(w.length:Int))=true by simp;omega]);show GoR ..)|(refine GoR.c c33 (by rfl) (by rfl) rfl ?_;(refine a3a.b2a (hfu _) ?_))|(refine GoR.c c39 (by rfl) (by rfl) rfl ?_;(first | refine a3a.b2a (hc1 _) ?_ | refine a3a.b2a (hc2 _) ?_))|refine GoR.s (by rfl) rfl rfl ?_|(refine GoR.b1a rfl (fun hc => ?_) (fun hc => ?_)<;>simp only [hc])|refine Go.b0a rfl (fun hc => ?_) (fun hc => ?_))
    refine ⟨(by first | exact .inl rfl | exact .inr rfl),fin ?_⟩
    rw [a8a (fn:=Tryz.f11) rfl]
    simp only [a0a,a2a,a1a,G,Z,Y,Gx,vV,simprocAttr,fb2,fb3,fb9,h4a,g4a,k4a,k5a,k6a]
    exact ⟨_,_,rfl,.of_low (.int _ _),rfl⟩
   rw [if_neg q4] at hv
   rw [hv]
   have d4:decide ((w.length:Int)>4)=false:=by simp;omega
   have d5:decide (4<(w.length:Int))=false:=by simp;omega
   repeat' (first|refine Go.a rfl ?_|refine Go.rg ?_|refine GoR.nil ?_|refine Go.ret ?_|refine Go.b rfl ?_|(refine GoR.o (by rfl) (by rfl) ?_;(conv=>arg 1;simp only [G,Z,Y,Gx,vV,simprocAttr,fb2,fb3,fb9,h4a,g4a,k4a,k5a,k6a,fc,ff,ft,decide_true,decide_false,Bool.not_true,Bool.not_false,not_false_eq_true,not_true_eq_false,eq_self_iff_true,ne_eq,bne_self_eq_false,beq_self_eq_true,d4,d5]);show GoR ..)|(refine GoR.c c33 (by rfl) (by rfl) rfl ?_;(refine a3a.b2a (hfu _) ?_))|(refine GoR.c c39 (by rfl) (by rfl) rfl ?_;(first | refine a3a.b2a (hc1 _) ?_ | refine a3a.b2a (hc2 _) ?_))|refine GoR.s (by rfl) rfl rfl ?_|(refine GoR.b1a rfl (fun hc => ?_) (fun hc => ?_)<;>simp only [hc])|refine Go.b0a rfl (fun hc => ?_) (fun hc => ?_))
   refine Go.keep [(1,.ptr S.length 0),(4,.int .i64 (((0:Nat):Int):Int))] (.cons .refl (.cons .refl (.nil))) ?_
   exact hl trivial
  ·have fc:(fn=(⟨#[99,111,117,110,116]⟩:ByteArray))=False:=eq_false (by rw [hf];decide)
   have ff:(fn=(⟨#[102,105,114,115,116]⟩:ByteArray))=False:=eq_false (by rw [hf];decide)
   have ft:(fn=(⟨#[116,111,112]⟩:ByteArray))=True:=eq_true hf
   simp only [fc,ff,ft,ne_eq,not_true_eq_false,not_false_eq_true,true_and,false_and,if_false,reduceIte] at hv
   by_cases k1:k<1
   ·rw [hv,if_pos (.inl k1)]
    repeat' (first|refine Go.a rfl ?_|refine Go.rg ?_|refine GoR.nil ?_|refine Go.ret ?_|refine Go.b rfl ?_|(refine GoR.o (by rfl) (by rfl) ?_;(conv=>arg 1;simp only [G,Z,Y,Gx,vV,simprocAttr,fb2,fb3,fb9,h4a,g4a,k4a,k5a,k6a,fc,ff,ft,decide_true,decide_false,Bool.not_true,Bool.not_false,not_false_eq_true,not_true_eq_false,eq_self_iff_true,ne_eq,bne_self_eq_false,beq_self_eq_true,show decide (k<1)=true by simpa using k1]);show GoR ..)|(refine GoR.c c33 (by rfl) (by rfl) rfl ?_;(refine a3a.b2a (hfu _) ?_))|refine GoR.s (by rfl) rfl rfl ?_|(refine GoR.b1a rfl (fun hc => ?_) (fun hc => ?_)<;>simp only [hc])|refine Go.b0a rfl (fun hc => ?_) (fun hc => ?_))
    refine ⟨(by first | exact .inl rfl | exact .inr rfl),fin ?_⟩
    rw [a8a (fn:=Tryz.f11) rfl]
    simp only [a0a,a2a,a1a,G,Z,Y,Gx,vV,simprocAttr,fb2,fb3,fb9,h4a,g4a,k4a,k5a,k6a]
    exact ⟨_,_,rfl,.of_low (.int _ _),rfl⟩
   by_cases k2:16<k
   ·rw [hv,if_pos (.inr k2)]
    repeat' (first|refine Go.a rfl ?_|refine Go.rg ?_|refine GoR.nil ?_|refine Go.ret ?_|refine Go.b rfl ?_|(refine GoR.o (by rfl) (by rfl) ?_;(conv=>arg 1;simp only [G,Z,Y,Gx,vV,simprocAttr,fb2,fb3,fb9,h4a,g4a,k4a,k5a,k6a,fc,ff,ft,decide_true,decide_false,Bool.not_true,Bool.not_false,not_false_eq_true,not_true_eq_false,eq_self_iff_true,ne_eq,bne_self_eq_false,beq_self_eq_true,show decide (k<1)=false by simpa using k1,show decide (16<k)=true by simpa using k2,show decide (k>16)=true by simpa using k2]);show GoR ..)|(refine GoR.c c33 (by rfl) (by rfl) rfl ?_;(refine a3a.b2a (hfu _) ?_))|refine GoR.s (by rfl) rfl rfl ?_|(refine GoR.b1a rfl (fun hc => ?_) (fun hc => ?_)<;>simp only [hc])|refine Go.b0a rfl (fun hc => ?_) (fun hc => ?_))
    refine ⟨(by first | exact .inl rfl | exact .inr rfl),fin ?_⟩
    rw [a8a (fn:=Tryz.f11) rfl]
    simp only [a0a,a2a,a1a,G,Z,Y,Gx,vV,simprocAttr,fb2,fb3,fb9,h4a,g4a,k4a,k5a,k6a]
    exact ⟨_,_,rfl,.of_low (.int _ _),rfl⟩
   rw [if_neg (by omega)] at hv
   have k3:decide (k<1)=false:=by simpa using k1
   have k4:decide (16<k)=false:=by simpa using k2
   have k5:decide (k>16)=false:=by simpa using k2
   by_cases e1:checkN (.mk op1 nm1 n1 ks1)=0
   rotate_left
   ·rw [hv,if_pos e1]
    repeat' (first|refine Go.a rfl ?_|refine Go.rg ?_|refine GoR.nil ?_|refine Go.ret ?_|refine Go.b rfl ?_|(refine GoR.o (by rfl) (by rfl) ?_;(conv=>arg 1;simp only [G,Z,Y,Gx,vV,simprocAttr,fb2,fb3,fb9,h4a,g4a,k4a,k5a,k6a,fc,ff,ft,decide_true,decide_false,Bool.not_true,Bool.not_false,not_false_eq_true,not_true_eq_false,eq_self_iff_true,ne_eq,bne_self_eq_false,beq_self_eq_true,k3,k4,k5,show (checkN (.mk op1 nm1 n1 ks1)==0)=false by simpa using e1,show (checkN (.mk op1 nm1 n1 ks1) != 0)=true by simpa using e1]);show GoR ..)|(refine GoR.c c33 (by rfl) (by rfl) rfl ?_;(refine a3a.b2a (hfu _) ?_))|(refine GoR.c c39 (by rfl) (by rfl) rfl ?_;(first | refine a3a.b2a (hc1 _) ?_ | refine a3a.b2a (hc2 _) ?_))|refine GoR.s (by rfl) rfl rfl ?_|(refine GoR.b1a rfl (fun hc => ?_) (fun hc => ?_)<;>simp only [hc])|refine Go.b0a rfl (fun hc => ?_) (fun hc => ?_))
    refine ⟨(by first | exact .inl rfl | exact .inr rfl),fin ?_⟩
    rw [a8a (fn:=Tryz.f11) rfl]
    simp only [a0a,a2a,a1a,G,Z,Y,Gx,vV,simprocAttr,fb2,fb3,fb9,h4a,g4a,k4a,k5a,k6a]
    exact ⟨_,_,rfl,.of_low (.int _ _),rfl⟩
   rw [if_neg (by simpa using e1)] at hv
   rw [e1] at hc1
   by_cases q4:4<w.length
   ·rw [hv,if_pos q4]
    repeat' (first|refine Go.a rfl ?_|refine Go.rg ?_|refine GoR.nil ?_|refine Go.ret ?_|refine Go.b rfl ?_|(refine GoR.o (by rfl) (by rfl) ?_;(conv=>arg 1;simp only [G,Z,Y,Gx,vV,simprocAttr,fb2,fb3,fb9,h4a,g4a,k4a,k5a,k6a,fc,ff,ft,decide_true,decide_false,Bool.not_true,Bool.not_false,not_false_eq_true,not_true_eq_false,eq_self_iff_true,ne_eq,bne_self_eq_false,beq_self_eq_true,k3,k4,k5,show decide ((w.length:Int)>4)=true by simp;omega,show decide (4<(w.length:Int))=true by simp;omega]);show GoR ..)|(refine GoR.c c33 (by rfl) (by rfl) rfl ?_;(refine a3a.b2a (hfu _) ?_))|(refine GoR.c c39 (by rfl) (by rfl) rfl ?_;(first | refine a3a.b2a (hc1 _) ?_ | refine a3a.b2a (hc2 _) ?_))|refine GoR.s (by rfl) rfl rfl ?_|(refine GoR.b1a rfl (fun hc => ?_) (fun hc => ?_)<;>simp only [hc])|refine Go.b0a rfl (fun hc => ?_) (fun hc => ?_))
    refine ⟨(by first | exact .inl rfl | exact .inr rfl),fin ?_⟩
    rw [a8a (fn:=Tryz.f11) rfl]
    simp only [a0a,a2a,a1a,G,Z,Y,Gx,vV,simprocAttr,fb2,fb3,fb9,h4a,g4a,k4a,k5a,k6a]
    exact ⟨_,_,rfl,.of_low (.int _ _),rfl⟩
   rw [if_neg q4] at hv
   rw [hv]
   have d4:decide ((w.length:Int)>4)=false:=by simp;omega
   have d5:decide (4<(w.length:Int))=false:=by simp;omega
   repeat' (first|refine Go.a rfl ?_|refine Go.rg ?_|refine GoR.nil ?_|refine Go.ret ?_|refine Go.b rfl ?_|(refine GoR.o (by rfl) (by rfl) ?_;(conv=>arg 1;simp only [G,Z,Y,Gx,vV,simprocAttr,fb2,fb3,fb9,h4a,g4a,k4a,k5a,k6a,fc,ff,ft,decide_true,decide_false,Bool.not_true,Bool.not_false,not_false_eq_true,not_true_eq_false,eq_self_iff_true,ne_eq,bne_self_eq_false,beq_self_eq_true,d4,d5,k3,k4,k5]);show GoR ..)|(refine GoR.c c33 (by rfl) (by rfl) rfl ?_;(refine a3a.b2a (hfu _) ?_))|(refine GoR.c c39 (by rfl) (by rfl) rfl ?_;(first | refine a3a.b2a (hc1 _) ?_ | refine a3a.b2a (hc2 _) ?_))|refine GoR.s (by rfl) rfl rfl ?_|(refine GoR.b1a rfl (fun hc => ?_) (fun hc => ?_)<;>simp only [hc])|refine Go.b0a rfl (fun hc => ?_) (fun hc => ?_))
   refine Go.keep [(1,.ptr S.length 0),(4,.int .i64 (((0:Nat):Int):Int))] (.cons .refl (.cons .refl (.nil))) ?_
   exact hl trivial
  ·have fc:(fn=(⟨#[99,111,117,110,116]⟩:ByteArray))=False:=eq_false f1
   have ff:(fn=(⟨#[102,105,114,115,116]⟩:ByteArray))=False:=eq_false f3
   have ft:(fn=(⟨#[116,111,112]⟩:ByteArray))=False:=eq_false f2
   simp only [fc,ff,ft,ne_eq,not_true_eq_false,not_false_eq_true,true_and,false_and,if_false,reduceIte] at hv
   by_cases e1:checkN (.mk op1 nm1 n1 ks1)=0
   rotate_left
   ·rw [hv,if_pos e1]
    repeat' (first|refine Go.a rfl ?_|refine Go.rg ?_|refine GoR.nil ?_|refine Go.ret ?_|refine Go.b rfl ?_|(refine GoR.o (by rfl) (by rfl) ?_;(conv=>arg 1;simp only [G,Z,Y,Gx,vV,simprocAttr,fb2,fb3,fb9,h4a,g4a,k4a,k5a,k6a,fc,ff,ft,decide_true,decide_false,Bool.not_true,Bool.not_false,not_false_eq_true,not_true_eq_false,eq_self_iff_true,ne_eq,bne_self_eq_false,beq_self_eq_true,show (checkN (.mk op1 nm1 n1 ks1)==0)=false by simpa using e1,show (checkN (.mk op1 nm1 n1 ks1) != 0)=true by simpa using e1]);show GoR ..)|(refine GoR.c c33 (by rfl) (by rfl) rfl ?_;(refine a3a.b2a (hfu _) ?_))|(refine GoR.c c39 (by rfl) (by rfl) rfl ?_;(first | refine a3a.b2a (hc1 _) ?_ | refine a3a.b2a (hc2 _) ?_))|refine GoR.s (by rfl) rfl rfl ?_|(refine GoR.b1a rfl (fun hc => ?_) (fun hc => ?_)<;>simp only [hc])|refine Go.b0a rfl (fun hc => ?_) (fun hc => ?_))
    refine ⟨(by first | exact .inl rfl | exact .inr rfl),fin ?_⟩
    rw [a8a (fn:=Tryz.f11) rfl]
    simp only [a0a,a2a,a1a,G,Z,Y,Gx,vV,simprocAttr,fb2,fb3,fb9,h4a,g4a,k4a,k5a,k6a]
    exact ⟨_,_,rfl,.of_low (.int _ _),rfl⟩
   rw [if_neg (by simpa using e1)] at hv
   rw [e1] at hc1
   by_cases q4:4<w.length
   ·rw [hv,if_pos q4]
    repeat' (first|refine Go.a rfl ?_|refine Go.rg ?_|refine GoR.nil ?_|refine Go.ret ?_|refine Go.b rfl ?_|(refine GoR.o (by rfl) (by rfl) ?_;(conv=>arg 1;simp only [G,Z,Y,Gx,vV,simprocAttr,fb2,fb3,fb9,h4a,g4a,k4a,k5a,k6a,fc,ff,ft,decide_true,decide_false,Bool.not_true,Bool.not_false,not_false_eq_true,not_true_eq_false,eq_self_iff_true,ne_eq,bne_self_eq_false,beq_self_eq_true,show decide ((w.length:Int)>4)=true by simp;omega,show decide (4<(w.length:Int))=true by simp;omega]);show GoR ..)|(refine GoR.c c33 (by rfl) (by rfl) rfl ?_;(refine a3a.b2a (hfu _) ?_))|(refine GoR.c c39 (by rfl) (by rfl) rfl ?_;(first | refine a3a.b2a (hc1 _) ?_ | refine a3a.b2a (hc2 _) ?_))|refine GoR.s (by rfl) rfl rfl ?_|(refine GoR.b1a rfl (fun hc => ?_) (fun hc => ?_)<;>simp only [hc])|refine Go.b0a rfl (fun hc => ?_) (fun hc => ?_))
    refine ⟨(by first | exact .inl rfl | exact .inr rfl),fin ?_⟩
    rw [a8a (fn:=Tryz.f11) rfl]
    simp only [a0a,a2a,a1a,G,Z,Y,Gx,vV,simprocAttr,fb2,fb3,fb9,h4a,g4a,k4a,k5a,k6a]
    exact ⟨_,_,rfl,.of_low (.int _ _),rfl⟩
   rw [if_neg q4] at hv
   rw [hv]
   have d4:decide ((w.length:Int)>4)=false:=by simp;omega
   have d5:decide (4<(w.length:Int))=false:=by simp;omega
   repeat' (first|refine Go.a rfl ?_|refine Go.rg ?_|refine GoR.nil ?_|refine Go.ret ?_|refine Go.b rfl ?_|(refine GoR.o (by rfl) (by rfl) ?_;(conv=>arg 1;simp only [G,Z,Y,Gx,vV,simprocAttr,fb2,fb3,fb9,h4a,g4a,k4a,k5a,k6a,fc,ff,ft,decide_true,decide_false,Bool.not_true,Bool.not_false,not_false_eq_true,not_true_eq_false,eq_self_iff_true,ne_eq,bne_self_eq_false,beq_self_eq_true,d4,d5]);show GoR ..)|(refine GoR.c c33 (by rfl) (by rfl) rfl ?_;(refine a3a.b2a (hfu _) ?_))|(refine GoR.c c39 (by rfl) (by rfl) rfl ?_;(first | refine a3a.b2a (hc1 _) ?_ | refine a3a.b2a (hc2 _) ?_))|refine GoR.s (by rfl) rfl rfl ?_|(refine GoR.b1a rfl (fun hc => ?_) (fun hc => ?_)<;>simp only [hc])|refine Go.b0a rfl (fun hc => ?_) (fun hc => ?_))
   refine Go.keep [(1,.ptr S.length 0),(4,.int .i64 (((0:Nat):Int):Int))] (.cons .refl (.cons .refl (.nil))) ?_
   exact hl trivial
 ·intro _
  refine Go.while (α:=Nat) (fun i=>w.length - i) (fun i=>[(1,.ptr S.length 0),(4,.int .i64 ((i:Int):Int))]) (fun _=>S++[.obj [.str fn,.int .i64 k,.str op1,.str nm1,.int .i64 n1,.sl none 4 ks1.length (d3a ks1),.str op2,.str nm2,.int .i64 n2,.sl none 4 ks2.length (d3a ks2),.sl none 9 w.length (i7a w)]]) (fun i=>i≤w.length∧a2c w=a2c (w.drop i)) ?_ 0 ⟨Nat.zero_le _,rfl⟩
  rintro i ⟨hi,hcw⟩ next
  by_cases hil:i<w.length
  ·obtain ⟨t1,t2,t3,t4,t5,t6⟩:=c5d hil
   obtain ⟨hs1,hs2⟩:=h3 _ (List.getElem_mem hil)
   have n1:=k3b (orc:=O) _ hs1
   have n2:=k3b (orc:=O) _ hs2
   have hho:=a0e (orc:=O) w[i].op 0 0
   rw [j5b] at hho
   rw [s9b hil] at hcw
   have hn:=fun e=>next (i+1) (by omega) ⟨hil,e⟩
   clear next hs1 hs2 h3
   generalize w[i]=cd at *
   obtain ⟨cop,⟨op3,nm3,n3,ks3⟩,⟨op4,nm4,n4,ks4⟩⟩:=cd
   simp only [Nd.k0a] at n1 n2 t2 t4 t6 hho
   cases ho:k0b cop with
   | false=>
    rw [ho] at hho
    rw [hcw,show l1b ⟨cop,(.mk op3 nm3 n3 ks3),(.mk op4 nm4 n4 ks4)⟩=5 by simp [l1b,ho]]
    repeat' (first|refine Go.a rfl ?_|refine Go.rg ?_|refine GoR.nil ?_|refine Go.ret ?_|refine Go.b rfl ?_|(refine GoR.o (by rfl) (by rfl) ?_;(conv=>arg 1;simp only [G,Z,Y,Gx,vV,simprocAttr,fb2,fb3,fb9,h4a,g4a,k4a,k5a,k6a,t1,t2,t3,t4,t5,t6,beq_self_eq_true,bne_self_eq_false,b9a (show i<4611686018427387904 by omega),show decide ((i:Int)<(w.length:Int))=true by simp;omega]);show GoR ..)|(refine GoR.c c40 (by rfl) (by rfl) rfl ?_;(refine a3a.b2a (hho _) ?_))|(refine GoR.c c39 (by rfl) (by rfl) rfl ?_;(first | refine a3a.b2a (n1 _) ?_ | refine a3a.b2a (n2 _) ?_))|refine GoR.s (by rfl) rfl rfl ?_|(refine GoR.b1a rfl (fun hc => ?_) (fun hc => ?_)<;>simp only [hc])|refine Go.b0a rfl (fun hc => ?_) (fun hc => ?_))
    refine ⟨(by first | exact .inl rfl | exact .inr rfl),fin ?_⟩
    rw [a8a (fn:=Tryz.f11) rfl]
    simp only [a0a,a2a,a1a,G,Z,Y,Gx,vV,simprocAttr,fb2,fb3,fb9,h4a,g4a,k4a,k5a,k6a]
    exact ⟨_,_,rfl,.of_low (.int _ _),rfl⟩
   | true=>
   rw [ho] at hho
   by_cases x1:checkN (.mk op3 nm3 n3 ks3)=0
   rotate_left
   ·rw [hcw,show l1b ⟨cop,(.mk op3 nm3 n3 ks3),(.mk op4 nm4 n4 ks4)⟩=checkN (.mk op3 nm3 n3 ks3) by simp [l1b,ho,x1],if_pos x1]
    repeat' (first|refine Go.a rfl ?_|refine Go.rg ?_|refine GoR.nil ?_|refine Go.ret ?_|refine Go.b rfl ?_|(refine GoR.o (by rfl) (by rfl) ?_;(conv=>arg 1;simp only [G,Z,Y,Gx,vV,simprocAttr,fb2,fb3,fb9,h4a,g4a,k4a,k5a,k6a,t1,t2,t3,t4,t5,t6,beq_self_eq_true,bne_self_eq_false,b9a (show i<4611686018427387904 by omega),show decide ((i:Int)<(w.length:Int))=true by simp;omega,show (checkN (.mk op3 nm3 n3 ks3)==0)=false by simpa using x1,show (checkN (.mk op3 nm3 n3 ks3) != 0)=true by simpa using x1]);show GoR ..)|(refine GoR.c c40 (by rfl) (by rfl) rfl ?_;(refine a3a.b2a (hho _) ?_))|(refine GoR.c c39 (by rfl) (by rfl) rfl ?_;(first | refine a3a.b2a (n1 _) ?_ | refine a3a.b2a (n2 _) ?_))|refine GoR.s (by rfl) rfl rfl ?_|(refine GoR.b1a rfl (fun hc => ?_) (fun hc => ?_)<;>simp only [hc])|refine Go.b0a rfl (fun hc => ?_) (fun hc => ?_))
    refine ⟨(by first | exact .inl rfl | exact .inr rfl),fin ?_⟩
    rw [a8a (fn:=Tryz.f11) rfl]
    simp only [a0a,a2a,a1a,G,Z,Y,Gx,vV,simprocAttr,fb2,fb3,fb9,h4a,g4a,k4a,k5a,k6a]
    exact ⟨_,_,rfl,.of_low (.int _ _),rfl⟩
   rw [x1] at n1
   by_cases x2:checkN (.mk op4 nm4 n4 ks4)=0
   rotate_left
   ·rw [hcw,show l1b ⟨cop,(.mk op3 nm3 n3 ks3),(.mk op4 nm4 n4 ks4)⟩=checkN (.mk op4 nm4 n4 ks4) by simp [l1b,ho,x1],if_pos x2]
    repeat' (first|refine Go.a rfl ?_|refine Go.rg ?_|refine GoR.nil ?_|refine Go.ret ?_|refine Go.b rfl ?_|(refine GoR.o (by rfl) (by rfl) ?_;(conv=>arg 1;simp only [G,Z,Y,Gx,vV,simprocAttr,fb2,fb3,fb9,h4a,g4a,k4a,k5a,k6a,t1,t2,t3,t4,t5,t6,beq_self_eq_true,bne_self_eq_false,b9a (show i<4611686018427387904 by omega),show decide ((i:Int)<(w.length:Int))=true by simp;omega,show (checkN (.mk op4 nm4 n4 ks4) != 0)=true by simpa using x2]);show GoR ..)|(refine GoR.c c40 (by rfl) (by rfl) rfl ?_;(refine a3a.b2a (hho _) ?_))|(refine GoR.c c39 (by rfl) (by rfl) rfl ?_;(first | refine a3a.b2a (n1 _) ?_ | refine a3a.b2a (n2 _) ?_))|refine GoR.s (by rfl) rfl rfl ?_|(refine GoR.b1a rfl (fun hc => ?_) (fun hc => ?_)<;>simp only [hc])|refine Go.b0a rfl (fun hc => ?_) (fun hc => ?_))
    refine ⟨(by first | exact .inl rfl | exact .inr rfl),fin ?_⟩
    rw [a8a (fn:=Tryz.f11) rfl]
    simp only [a0a,a2a,a1a,G,Z,Y,Gx,vV,simprocAttr,fb2,fb3,fb9,h4a,g4a,k4a,k5a,k6a]
    exact ⟨_,_,rfl,.of_low (.int _ _),rfl⟩
   rw [x2] at n2
   rw [show l1b ⟨cop,(.mk op3 nm3 n3 ks3),(.mk op4 nm4 n4 ks4)⟩=0 by simp [l1b,ho,x1,x2],if_neg (by decide)] at hcw
   replace hn:=hn hcw
   repeat' (first|refine Go.a rfl ?_|refine Go.rg ?_|refine GoR.nil ?_|refine Go.ret ?_|refine Go.b rfl ?_|(refine GoR.o (by rfl) (by rfl) ?_;(conv=>arg 1;simp only [G,Z,Y,Gx,vV,simprocAttr,fb2,fb3,fb9,h4a,g4a,k4a,k5a,k6a,t1,t2,t3,t4,t5,t6,beq_self_eq_true,bne_self_eq_false,b9a (show i<4611686018427387904 by omega),show decide ((i:Int)<(w.length:Int))=true by simp;omega]);show GoR ..)|(refine GoR.c c40 (by rfl) (by rfl) rfl ?_;(refine a3a.b2a (hho _) ?_))|(refine GoR.c c39 (by rfl) (by rfl) rfl ?_;(first | refine a3a.b2a (n1 _) ?_ | refine a3a.b2a (n2 _) ?_))|refine GoR.s (by rfl) rfl rfl ?_|(refine GoR.b1a rfl (fun hc => ?_) (fun hc => ?_)<;>simp only [hc])|refine Go.b0a rfl (fun hc => ?_) (fun hc => ?_))
   refine Go.lpN ?_
   refine Go.keep [(1,.ptr S.length 0),(4,.int .i64 (((i+1:Nat):Int):Int))] (.cons .refl (.cons .refl (.nil))) ?_
   exact hn
  ·clear next
   rw [hcw,List.drop_of_length_le (by omega)]
   repeat' (first|refine Go.a rfl ?_|refine Go.rg ?_|refine GoR.nil ?_|refine Go.ret ?_|refine Go.b rfl ?_|(refine GoR.o (by rfl) (by rfl) ?_;(conv=>arg 1;simp only [G,Z,Y,Gx,vV,simprocAttr,fb2,fb3,fb9,h4a,g4a,k4a,k5a,k6a,show decide ((i:Int)<(w.length:Int))=false by simp;omega]);show GoR ..)|refine GoR.s (by rfl) rfl rfl ?_|(refine GoR.b1a rfl (fun hc => ?_) (fun hc => ?_)<;>simp only [hc])|refine Go.b0a rfl (fun hc => ?_) (fun hc => ?_))
   refine ⟨(by first | exact .inl rfl | exact .inr rfl),fin ?_⟩
   rw [a8a (fn:=Tryz.f11) rfl]
   simp only [a0a,a2a,a1a,G,Z,Y,Gx,vV,simprocAttr,fb2,fb3,fb9,h4a,g4a,k4a,k5a,k6a]
   exact ⟨_,_,rfl,.of_low (.int _ _),rfl⟩
end Go.Proofs.DgT
namespace Go.Proofs.DgT
open Go Go.DM
set_option maxRecDepth 100000
def Short (n:Nd):Prop:=f3b 100 n∧cnt n≤60
structure o0b (a:Ag):Prop where
 fn:a.fn.size≤20
 e:Short a.e
 by_:Short a.by_
 w:a.w.length≤8
 ws : ∀ c∈a.w,c.op.size≤20∧Short c.a∧Short c.b
theorem o0b.f0d {a:Ag} (h:o0b a):z8b a:=⟨h.e.1,h.by_.1,fun c hc=>⟨(h.ws c hc).2.1.1,(h.ws c hc).2.2.1⟩⟩
set_option maxHeartbeats 1600000 in
theorem s7e (a:Ag) (S:Mem):a3a Tryz.prog O 14 [.agg (Ag.c a)] S fun d S'=>S'=S ∧ ∃ b,d = .bool b∧(b=true→o0b a):=by
 obtain ⟨fn,k,⟨op1,nm1,n1,ks1⟩,⟨op2,nm2,n2,ks2⟩,w⟩:=a
 have he:=y4e (orc:=O) (.mk op1 nm1 n1 ks1)
 have hb:=y4e (orc:=O) (.mk op2 nm2 n2 ks2)
 simp only [Ag.c,Nd.k0a,List.cons_append,List.nil_append] at he hb ⊢
 refine a3a.e Tryz.func14 rfl Tryz.ntmps14 (by rfl) ?_
 by_cases hf:20<fn.size
 ·repeat' (first|refine Go.a rfl ?_|refine Go.rg ?_|refine GoR.nil ?_|refine Go.ret ?_|refine Go.b rfl ?_|(refine GoR.o (by rfl) (by rfl) ?_;(conv=>arg 1;simp only [G,Z,Y,Gx,vV,simprocAttr,fb2,fb3,fb9,c2a,b7a,d7a,d9a,e2a,show decide ((fn.size:Int)>20)=true by simp;omega,show decide (20<(fn.size:Int))=true by simp;omega]);show GoR ..)|refine GoR.s (by rfl) rfl rfl ?_|(refine GoR.b1a rfl (fun hc => ?_) (fun hc => ?_)<;>simp only [hc])|refine Go.b0a rfl (fun hc => ?_) (fun hc => ?_))
  refine ⟨(by first | exact .inl rfl | exact .inr rfl),fin ?_⟩
  rw [a8a (fn:=Tryz.f14) rfl]
  simp only [a0a,a2a,a1a,G,Z,Y,Gx,vV,simprocAttr,fb2,fb3,fb9,c2a,b7a,d7a,d9a,e2a]
  exact ⟨_,_,rfl,.of_low (.bool _),_,rfl,fun e=>by cases e⟩
 have f1:decide ((fn.size:Int)>20)=false:=by simp;omega
 have f2:decide (20<(fn.size:Int))=false:=by simp;omega
 by_cases h8:8<w.length
 ·repeat' (first|refine Go.a rfl ?_|refine Go.rg ?_|refine GoR.nil ?_|refine Go.ret ?_|refine Go.b rfl ?_|(refine GoR.o (by rfl) (by rfl) ?_;(conv=>arg 1;simp only [G,Z,Y,Gx,vV,simprocAttr,fb2,fb3,fb9,c2a,b7a,d7a,d9a,e2a,f1,f2,show decide ((w.length:Int)>8)=true by simp;omega,show decide (8<(w.length:Int))=true by simp;omega]);show GoR ..)|(refine GoR.c c43 (by rfl) (by rfl) rfl ?_;(first | (refine (he _).w8a ?_;rintro _ ⟨b1,rfl,hb1⟩;cases b1) | (refine (hb _).w8a ?_;rintro _ ⟨b2,rfl,hb2⟩;cases b2)))|refine GoR.s (by rfl) rfl rfl ?_|(refine GoR.b1a rfl (fun hc => ?_) (fun hc => ?_)<;>simp only [hc])|refine Go.b0a rfl (fun hc => ?_) (fun hc => ?_))
  ·refine ⟨(by first | exact .inl rfl | exact .inr rfl),fin ?_⟩
   rw [a8a (fn:=Tryz.f14) rfl]
   simp only [a0a,a2a,a1a,G,Z,Y,Gx,vV,simprocAttr,fb2,fb3,fb9,c2a,b7a,d7a,d9a,e2a]
   exact ⟨_,_,rfl,.of_low (.bool _),_,rfl,fun e=>by cases e⟩
  ·refine ⟨(by first | exact .inl rfl | exact .inr rfl),fin ?_⟩
   rw [a8a (fn:=Tryz.f14) rfl]
   simp only [a0a,a2a,a1a,G,Z,Y,Gx,vV,simprocAttr,fb2,fb3,fb9,c2a,b7a,d7a,d9a,e2a]
   exact ⟨_,_,rfl,.of_low (.bool _),_,rfl,fun e=>by cases e⟩
  ·refine ⟨(by first | exact .inl rfl | exact .inr rfl),fin ?_⟩
   rw [a8a (fn:=Tryz.f14) rfl]
   simp only [a0a,a2a,a1a,G,Z,Y,Gx,vV,simprocAttr,fb2,fb3,fb9,c2a,b7a,d7a,d9a,e2a]
   exact ⟨_,_,rfl,.of_low (.bool _),_,rfl,fun e=>by cases e⟩
 have w1:decide ((w.length:Int)>8)=false:=by simp;omega
 have w2:decide (8<(w.length:Int))=false:=by simp;omega
 repeat' (first|refine Go.a rfl ?_|refine Go.rg ?_|refine GoR.nil ?_|refine Go.ret ?_|refine Go.b rfl ?_|(refine GoR.o (by rfl) (by rfl) ?_;(conv=>arg 1;simp only [G,Z,Y,Gx,vV,simprocAttr,fb2,fb3,fb9,c2a,b7a,d7a,d9a,e2a,f1,f2,w1,w2]);show GoR ..)|(refine GoR.c c43 (by rfl) (by rfl) rfl ?_;(first | (refine (he _).w8a ?_;rintro _ ⟨b1,rfl,hb1⟩;cases b1) | (refine (hb _).w8a ?_;rintro _ ⟨b2,rfl,hb2⟩;cases b2)))|refine GoR.s (by rfl) rfl rfl ?_|(refine GoR.b1a rfl (fun hc => ?_) (fun hc => ?_)<;>simp only [hc])|refine Go.b0a rfl (fun hc => ?_) (fun hc => ?_))
 ·refine ⟨(by first | exact .inl rfl | exact .inr rfl),fin ?_⟩
  rw [a8a (fn:=Tryz.f14) rfl]
  simp only [a0a,a2a,a1a,G,Z,Y,Gx,vV,simprocAttr,fb2,fb3,fb9,c2a,b7a,d7a,d9a,e2a]
  exact ⟨_,_,rfl,.of_low (.bool _),_,rfl,fun e=>by cases e⟩
 ·refine ⟨(by first | exact .inl rfl | exact .inr rfl),fin ?_⟩
  rw [a8a (fn:=Tryz.f14) rfl]
  simp only [a0a,a2a,a1a,G,Z,Y,Gx,vV,simprocAttr,fb2,fb3,fb9,c2a,b7a,d7a,d9a,e2a]
  exact ⟨_,_,rfl,.of_low (.bool _),_,rfl,fun e=>by cases e⟩
 have s1:=hb1 rfl
 have s2:=hb2 rfl
 refine Go.keep [(1,.ptr S.length 0),(3,.int .i64 (((0:Nat):Int):Int))] (.cons .refl (.cons .refl (.nil))) ?_
 refine Go.while (α:=Nat) (fun i=>w.length - i) (fun i=>[(1,.ptr S.length 0),(3,.int .i64 ((i:Int):Int))]) (fun _=>S++[.obj [.str fn,.int .i64 k,.str op1,.str nm1,.int .i64 n1,.sl none 4 ks1.length (d3a ks1),.str op2,.str nm2,.int .i64 n2,.sl none 4 ks2.length (d3a ks2),.sl none 9 w.length (i7a w)]]) (fun i=>i≤w.length ∧ ∀ c∈w.take i,c.op.size≤20∧Short c.a∧Short c.b) ?_ 0 ⟨Nat.zero_le _,by simp⟩
 rintro i ⟨hi,hpr⟩ next
 by_cases hil:i<w.length
 ·obtain ⟨t1,t2,t3,t4,t5,t6⟩:=c5d hil
  have na:=y4e (orc:=O) w[i].a
  have nb:=y4e (orc:=O) w[i].b
  have hn:=fun (e:w[i].op.size≤20∧Short w[i].a∧Short w[i].b)=>next (i+1) (by omega) ⟨hil,by
   rw [List.take_succ_eq_append_getElem hil]
   intro c hc
   rcases List.mem_append.1 hc with hc | hc
   ·exact hpr c hc
   ·rw [List.mem_singleton.1 hc];exact e⟩
  clear next
  generalize w[i]=cd at *
  obtain ⟨cop,⟨op3,nm3,n3,ks3⟩,⟨op4,nm4,n4,ks4⟩⟩:=cd
  simp only [Nd.k0a] at na nb t2 t4 t6
  have dl:decide ((i:Int)<(w.length:Int))=true:=by simp;omega
  have ws1:=b9a (show i<4611686018427387904 by omega)
  by_cases ho:20<cop.size
  ·repeat' (first|refine Go.a rfl ?_|refine Go.rg ?_|refine GoR.nil ?_|refine Go.ret ?_|refine Go.b rfl ?_|(refine GoR.o (by rfl) (by rfl) ?_;(conv=>arg 1;simp only [G,Z,Y,Gx,vV,simprocAttr,fb2,fb3,fb9,c2a,b7a,d7a,d9a,e2a,t1,t2,t3,t4,t5,t6,dl,ws1,show decide ((cop.size:Int)>20)=true by simp;omega,show decide (20<(cop.size:Int))=true by simp;omega]);show GoR ..)|refine GoR.s (by rfl) rfl rfl ?_|(refine GoR.b1a rfl (fun hc => ?_) (fun hc => ?_)<;>simp only [hc])|refine Go.b0a rfl (fun hc => ?_) (fun hc => ?_))
   refine ⟨(by first | exact .inl rfl | exact .inr rfl),fin ?_⟩
   rw [a8a (fn:=Tryz.f14) rfl]
   simp only [a0a,a2a,a1a,G,Z,Y,Gx,vV,simprocAttr,fb2,fb3,fb9,c2a,b7a,d7a,d9a,e2a]
   exact ⟨_,_,rfl,.of_low (.bool _),_,rfl,fun e=>by cases e⟩
  have o1:decide ((cop.size:Int)>20)=false:=by simp;omega
  have o2:decide (20<(cop.size:Int))=false:=by simp;omega
  repeat' (first|refine Go.a rfl ?_|refine Go.rg ?_|refine GoR.nil ?_|refine Go.ret ?_|refine Go.b rfl ?_|(refine GoR.o (by rfl) (by rfl) ?_;(conv=>arg 1;simp only [G,Z,Y,Gx,vV,simprocAttr,fb2,fb3,fb9,c2a,b7a,d7a,d9a,e2a,t1,t2,t3,t4,t5,t6,dl,ws1,o1,o2]);show GoR ..)|(refine GoR.c c43 (by rfl) (by rfl) rfl ?_;(first | (refine (na _).w8a ?_;rintro _ ⟨b3,rfl,hb3⟩;cases b3) | (refine (nb _).w8a ?_;rintro _ ⟨b4,rfl,hb4⟩;cases b4)))|refine GoR.s (by rfl) rfl rfl ?_|(refine GoR.b1a rfl (fun hc => ?_) (fun hc => ?_)<;>simp only [hc])|refine Go.b0a rfl (fun hc => ?_) (fun hc => ?_))
  ·refine ⟨(by first | exact .inl rfl | exact .inr rfl),fin ?_⟩
   rw [a8a (fn:=Tryz.f14) rfl]
   simp only [a0a,a2a,a1a,G,Z,Y,Gx,vV,simprocAttr,fb2,fb3,fb9,c2a,b7a,d7a,d9a,e2a]
   exact ⟨_,_,rfl,.of_low (.bool _),_,rfl,fun e=>by cases e⟩
  ·refine ⟨(by first | exact .inl rfl | exact .inr rfl),fin ?_⟩
   rw [a8a (fn:=Tryz.f14) rfl]
   simp only [a0a,a2a,a1a,G,Z,Y,Gx,vV,simprocAttr,fb2,fb3,fb9,c2a,b7a,d7a,d9a,e2a]
   exact ⟨_,_,rfl,.of_low (.bool _),_,rfl,fun e=>by cases e⟩
  refine Go.lpN ?_
  refine Go.keep [(1,.ptr S.length 0),(3,.int .i64 (((i+1:Nat):Int):Int))] (.cons .refl (.cons .refl (.nil))) ?_
  exact hn ⟨Nat.le_of_not_lt ho,hb3 rfl,hb4 rfl⟩
 ·clear next
  rw [List.take_of_length_le (by omega)] at hpr
  repeat' (first|refine Go.a rfl ?_|refine Go.rg ?_|refine GoR.nil ?_|refine Go.ret ?_|refine Go.b rfl ?_|(refine GoR.o (by rfl) (by rfl) ?_;(conv=>arg 1;simp only [G,Z,Y,Gx,vV,simprocAttr,fb2,fb3,fb9,c2a,b7a,d7a,d9a,e2a,show decide ((i:Int)<(w.length:Int))=false by simp;omega]);show GoR ..)|refine GoR.s (by rfl) rfl rfl ?_|(refine GoR.b1a rfl (fun hc => ?_) (fun hc => ?_)<;>simp only [hc])|refine Go.b0a rfl (fun hc => ?_) (fun hc => ?_))
  refine ⟨(by first | exact .inl rfl | exact .inr rfl),fin ?_⟩
  rw [a8a (fn:=Tryz.f14) rfl]
  simp only [a0a,a2a,a1a,G,Z,Y,Gx,vV,simprocAttr,fb2,fb3,fb9,c2a,b7a,d7a,d9a,e2a]
  exact ⟨_,_,rfl,.of_low (.bool _),_,rfl,fun _=>⟨by dsimp only;omega,s1,s2,by dsimp only;omega,hpr⟩⟩
end Go.Proofs.DgT
namespace Go.Proofs.DgT
open Go Go.DM
set_option maxRecDepth 100000
variable {orc:c3a}
def exF:List Nd→Int
 | []=>0
 | n::r=>if checkN n≠0 then checkN n else exF r
theorem w7d {w:List Nd} {i:Nat} (h:i<w.length):exF (w.drop i)=if checkN w[i]≠0 then checkN w[i] else exF (w.drop (i+1)):=by
 rw [List.drop_eq_getElem_cons h,exF]
theorem o6e (S:Mem):a3a Tryz.prog orc 45 [.c5a] S fun d S'=>S'=S∧d = .int .i64 0:=by
 refine a3a.e Tryz.func45 rfl Tryz.ntmps45 (by rfl) ?_
 repeat' (first|refine Go.a rfl ?_|refine Go.rg ?_|refine GoR.nil ?_|refine Go.ret ?_|refine Go.b rfl ?_|(refine GoR.o (by rfl) (by rfl) ?_;(conv=>arg 1;simp only [G,Z,Y,Gx,vV,simprocAttr,fb2,fb3,fb9,c2a,b7a,c8a]);show GoR ..)|refine Go.b0a rfl (fun hc => ?_) (fun hc => ?_))
 refine Go.loop ?_
 repeat' (first|refine Go.a rfl ?_|refine Go.rg ?_|refine GoR.nil ?_|refine Go.ret ?_|refine Go.b rfl ?_|(refine GoR.o (by rfl) (by rfl) ?_;(conv=>arg 1;simp only [G,Z,Y,Gx,vV,simprocAttr,fb2,fb3,fb9,c2a,b7a,c8a]);show GoR ..)|refine Go.b0a rfl (fun hc => ?_) (fun hc => ?_))
 refine ⟨(by first | exact .inl rfl | exact .inr rfl),fin ?_⟩
 rw [a8a (fn:=Tryz.f45) rfl]
 simp only [a0a,a2a,a1a,G,Z,Y,Gx,vV,simprocAttr,fb2,fb3,fb9,c2a,b7a,c8a]
 exact ⟨_,[],by simp,.of_low (.int _ _),rfl⟩
theorem d9c (o:Option Nat) (l:List Nd) (hl:l.length<1000) (hs : ∀ n∈l,f3b 100 n) (S:Mem):a3a Tryz.prog orc 45 [.sl o 4 l.length (d3a l)] S fun d S'=>S'=S∧d = .int .i64 (exF l):=by
 refine a3a.e Tryz.func45 rfl Tryz.ntmps45 (by rfl) ?_
 repeat' (first|refine Go.a rfl ?_|refine Go.rg ?_|refine GoR.nil ?_|refine Go.ret ?_|refine Go.b rfl ?_|(refine GoR.o (by rfl) (by rfl) ?_;(conv=>arg 1;simp only [G,Z,Y,Gx,vV,simprocAttr,fb2,fb3,fb9,c2a,b7a,c8a]);show GoR ..)|refine Go.b0a rfl (fun hc => ?_) (fun hc => ?_))
 refine Go.keep [(6,.sl o 4 l.length (d3a l)),(7,.int .i64 (l.length:Int)),(8,.int .i64 ((0:Nat):Int))] (.cons .refl (.cons .refl (.cons .refl (.nil)))) ?_
 refine Go.while (α:=Nat×Mem) (fun x=>l.length - x.1) (fun x=>[(6,.sl o 4 l.length (d3a l)),(7,.int .i64 (l.length:Int)),(8,.int .i64 (x.1:Int))]) (fun x=>x.2) (fun x=>x.1≤l.length∧exF l=exF (l.drop x.1) ∧ ∃ E,x.2=S++E) ?_ (0,S) ⟨Nat.zero_le _,rfl,[],by simp⟩
 rintro ⟨i,H⟩ ⟨hi,hx,E,hE⟩ next
 dsimp only at hi hx hE next
 subst hE
 by_cases hil:i<l.length
 ·obtain ⟨t1,t2,t3⟩:=u5a hil
  have hc:=j4d (orc:=orc) _ (hs _ (List.getElem_mem hil))
  rw [w7d hil] at hx
  have hn:=fun E' (e:exF l=exF (l.drop (i+1)))=>next (i+1,S++E') (by dsimp only;omega) ⟨hil,e,E',rfl⟩
  clear next
  generalize l[i]=nd at *
  obtain ⟨op,nm,n,ks⟩:=nd
  simp only [Nd.k0a] at hc t3
  have dl:decide ((i:Int)<(l.length:Int))=true:=by simp;omega
  have ws1:=b9a (show i<4611686018427387904 by omega)
  by_cases e:checkN (.mk op nm n ks)=0
  ·rw [e] at hc hx
   rw [if_neg (by decide)] at hx
   replace hn:=fun E'=>hn E' hx
   dsimp only at hn
   repeat' (first|refine Go.a rfl ?_|refine Go.rg ?_|refine GoR.nil ?_|refine Go.ret ?_|refine Go.b rfl ?_|(refine GoR.o (by rfl) (by rfl) ?_;(conv=>arg 1;simp only [G,Z,Y,Gx,vV,simprocAttr,fb2,fb3,fb9,c2a,b7a,c8a,t1,t2,t3,dl,ws1,bne_self_eq_false]);show GoR ..)|(refine GoR.c c98 (by rfl) (by rfl) rfl ?_;(refine a3a.b2a (hc _) ?_))|refine Go.b0a rfl (fun hc => ?_) (fun hc => ?_))
   refine Go.lpN ?_
   refine Go.keep [(6,.sl o 4 l.length (d3a l)),(7,.int .i64 (l.length:Int)),(8,.int .i64 ((i+1:Nat):Int))] (.cons .refl (.cons .refl (.cons .refl (.nil)))) ?_
   exact hn _
  ·rw [if_pos e] at hx
   rw [hx]
   repeat' (first|refine Go.a rfl ?_|refine Go.rg ?_|refine GoR.nil ?_|refine Go.ret ?_|refine Go.b rfl ?_|(refine GoR.o (by rfl) (by rfl) ?_;(conv=>arg 1;simp only [G,Z,Y,Gx,vV,simprocAttr,fb2,fb3,fb9,c2a,b7a,c8a,t1,t2,t3,dl,show (checkN (.mk op nm n ks) != 0)=true by simpa using e]);show GoR ..)|(refine GoR.c c98 (by rfl) (by rfl) rfl ?_;(refine a3a.b2a (hc _) ?_))|refine Go.b0a rfl (fun hc => ?_) (fun hc => ?_))
   refine ⟨(by first | exact .inl rfl | exact .inr rfl),fin ?_⟩
   rw [a8a (fn:=Tryz.f45) rfl]
   simp only [a0a,a2a,a1a,G,Z,Y,Gx,vV,simprocAttr,fb2,fb3,fb9,c2a,b7a,c8a]
   exact ⟨_,_,rfl,.of_low (.int _ _),rfl⟩
 ·clear next
  rw [hx,List.drop_of_length_le (by omega)]
  repeat' (first|refine Go.a rfl ?_|refine Go.rg ?_|refine GoR.nil ?_|refine Go.ret ?_|refine Go.b rfl ?_|(refine GoR.o (by rfl) (by rfl) ?_;(conv=>arg 1;simp only [G,Z,Y,Gx,vV,simprocAttr,fb2,fb3,fb9,c2a,b7a,c8a,show decide ((i:Int)<(l.length:Int))=false by simp;omega]);show GoR ..)|refine Go.b0a rfl (fun hc => ?_) (fun hc => ?_))
  refine ⟨(by first | exact .inl rfl | exact .inr rfl),fin ?_⟩
  rw [a8a (fn:=Tryz.f45) rfl]
  simp only [a0a,a2a,a1a,G,Z,Y,Gx,vV,simprocAttr,fb2,fb3,fb9,c2a,b7a,c8a]
  exact ⟨_,_,rfl,.of_low (.int _ _),rfl⟩
end Go.Proofs.DgT
namespace Go.Proofs.DgT
open Go Go.DM
set_option maxRecDepth 100000
def l3a (a:Ag):List Nd:=(if (f6a a.fn).2.1 then [a.e] else [])++(if (f6a a.fn).2.2.1 then [a.by_] else [])
theorem k9e {fn:ByteArray} : (f6a fn).2.2.1=true→(f6a fn).2.1=true:=by
 intro h
 unfold f6a at h ⊢
 repeat' (split at h)
 all_goals simp_all
theorem e0c (a:Ag) (S:Mem):a3a Tryz.prog O 46 [.agg (Ag.c a)] S fun d S'=>S'=S∧d = .sl none 4 (l3a a).length (d3a (l3a a)):=by
 obtain ⟨fn,k,⟨op1,nm1,n1,ks1⟩,⟨op2,nm2,n2,ks2⟩,w⟩:=a
 have hnd:=i0b (orc:=O) fn
 have hb:=k9e (fn:=fn)
 unfold l3a
 rcases hN:f6a fn with ⟨kb,eb,bb,ob⟩
 simp only [hN] at hnd hb ⊢
 simp only [Ag.c,Nd.k0a,List.cons_append,List.nil_append]
 refine a3a.e Tryz.func46 rfl Tryz.ntmps46 (by rfl) ?_
 cases eb with
 | false=>
  cases bb with
  | true=>exact absurd (hb rfl) (by decide)
  | false=>
   repeat' (first|refine Go.a rfl ?_|refine Go.rg ?_|refine GoR.nil ?_|refine Go.ret ?_|refine Go.b rfl ?_|(refine GoR.o (by rfl) (by rfl) ?_;(conv=>arg 1;simp only [G,Z,Y,Gx,vV,simprocAttr,fb2,fb9,c2a,b7a,d7a,d9a]);show GoR ..)|(refine GoR.c c44 (by rfl) (by rfl) rfl ?_;(refine a3a.b2a (hnd _) ?_))|refine Go.b0a rfl (fun hc => ?_) (fun hc => ?_))
   refine ⟨(by first | exact .inl rfl | exact .inr rfl),fin ?_⟩
   rw [a8a (fn:=Tryz.f46) rfl]
   simp only [a0a,a2a,a1a,G,Z,Y,Gx,vV,simprocAttr,fb2,fb9,c2a,b7a,d7a,d9a]
   exact ⟨_,_,rfl,.e1d,rfl⟩
 | true=>
  have a0:z7b (S.length+1) .c5a 4 0 [] (S++[.obj [.str fn,.int .i64 k,.str op1,.str nm1,.int .i64 n1,.sl none 4 ks1.length (d3a ks1),.str op2,.str nm2,.int .i64 n2,.sl none 4 ks2.length (d3a ks2),.sl none 9 w.length (i7a w)]]):=.inl ⟨rfl,rfl,rfl⟩
  obtain ⟨o1,S1,hap,ha1,hg⟩:=(a0.app [.own]).append (P:=Tryz.prog) i4b (own:=none) (m:=1) (new:=[.str op1,.str nm1,.int .i64 n1,.sl none 4 ks1.length (d3a ks1)]) (by simp) (by decide) ⟨by omega,by omega,by simp,rfl⟩
  obtain ⟨X1,hX⟩:=hg.pre [.own] (S++[.obj [.str fn,.int .i64 k,.str op1,.str nm1,.int .i64 n1,.sl none 4 ks1.length (d3a ks1),.str op2,.str nm2,.int .i64 n2,.sl none 4 ks2.length (d3a ks2),.sl none 9 w.length (i7a w)]]) (by simp) rfl
  subst hX
  have hp1:=fun own=>n4a (o:=own).trans hap
  cases bb with
  | false=>
   have hwf:Wf o1 (.sl none 4 1 [.str op1,.str nm1,.int .i64 n1,.sl none 4 ks1.length (d3a ks1)]):=by
    rcases ha1 with ⟨_,h,_⟩ | ⟨_,h,_⟩ | ⟨id,_,rfl,_⟩
    ·omega
    ·omega
    ·exact .disown
   simp only [List.append_assoc,List.cons_append,List.nil_append] at hp1
   repeat' (first|refine Go.a rfl ?_|refine Go.rg ?_|refine GoR.nil ?_|refine Go.ret ?_|refine Go.b rfl ?_|(refine GoR.o (by rfl) (by rfl) ?_;(conv=>arg 1;simp only [G,Z,Y,Gx,vV,simprocAttr,fb2,fb9,c2a,b7a,d7a,d9a,hp1,builtin_append,List.append_assoc,List.cons_append,List.nil_append]);show GoR ..)|(refine GoR.c c44 (by rfl) (by rfl) rfl ?_;(refine a3a.b2a (hnd _) ?_))|refine Go.b0a rfl (fun hc => ?_) (fun hc => ?_))
   refine ⟨(by first | exact .inl rfl | exact .inr rfl),fin ?_⟩
   rw [a8a (fn:=Tryz.f46) rfl]
   simp only [a0a,a2a,a1a,G,Z,Y,Gx,vV,simprocAttr,fb2,fb9,c2a,b7a,d7a,d9a]
   exact ⟨_,_,rfl,Wf.y9b (by simpa [d3a,Nd.k0a] using hwf) (.sl' (o2d _)),rfl⟩
  | true=>
   obtain ⟨o2,S2,t0e,ha2,hg2⟩:=(ha1.app [.own]).append (P:=Tryz.prog) i4b (own:=none) (m:=1) (new:=[.str op2,.str nm2,.int .i64 n2,.sl none 4 ks2.length (d3a ks2)]) (by simp) (by decide) ⟨by omega,by omega,by simp,rfl⟩
   obtain ⟨X2,hX2⟩:=hg2.pre (X1++[.own]) (S++[.obj [.str fn,.int .i64 k,.str op1,.str nm1,.int .i64 n1,.sl none 4 ks1.length (d3a ks1),.str op2,.str nm2,.int .i64 n2,.sl none 4 ks2.length (d3a ks2),.sl none 9 w.length (i7a w)]]) (by simp) (by first | rfl | simp)
   subst hX2
   have hp2:=fun own=>n4a (o:=own).trans t0e
   have hwf:Wf o2 (.sl none 4 2 ([.str op1,.str nm1,.int .i64 n1,.sl none 4 ks1.length (d3a ks1)]++[.str op2,.str nm2,.int .i64 n2,.sl none 4 ks2.length (d3a ks2)])):=by
    rcases ha2 with ⟨_,h,_⟩ | ⟨_,h,_⟩ | ⟨id,_,rfl,_⟩
    ·omega
    ·omega
    ·exact .disown
   simp only [List.append_assoc,List.cons_append,List.nil_append] at hp1 hp2 hwf
   repeat' (first|refine Go.a rfl ?_|refine Go.rg ?_|refine GoR.nil ?_|refine Go.ret ?_|refine Go.b rfl ?_|(refine GoR.o (by rfl) (by rfl) ?_;(conv=>arg 1;simp only [G,Z,Y,Gx,vV,simprocAttr,fb2,fb9,c2a,b7a,d7a,d9a,hp1,hp2,builtin_append,List.append_assoc,List.cons_append,List.nil_append]);show GoR ..)|(refine GoR.c c44 (by rfl) (by rfl) rfl ?_;(refine a3a.b2a (hnd _) ?_))|refine Go.b0a rfl (fun hc => ?_) (fun hc => ?_))
   refine ⟨(by first | exact .inl rfl | exact .inr rfl),fin ?_⟩
   rw [a8a (fn:=Tryz.f46) rfl]
   simp only [a0a,a2a,a1a,G,Z,Y,Gx,vV,simprocAttr,fb2,fb9,c2a,b7a,d7a,d9a]
   exact ⟨_,_,rfl,Wf.y9b (by simpa [d3a,Nd.k0a] using hwf) (.sl' (o2d _)),rfl⟩
end Go.Proofs.DgT
namespace Go.Proofs.DgT
open Go Go.DM
set_option maxRecDepth 100000
theorem w1b {fn:ByteArray} (h:(f6a fn).2.2.2=true):fn=(⟨#[99,111,117,110,116]⟩:ByteArray)∨fn=(⟨#[115,117,109]⟩:ByteArray)∨fn=(⟨#[116,111,112]⟩:ByteArray)∨fn=(⟨#[109,105,110]⟩:ByteArray)∨fn=(⟨#[109,97,120]⟩:ByteArray)∨fn=(⟨#[102,105,114,115,116]⟩:ByteArray):=by
 unfold f6a at h
 by_cases h1:fn=(⟨#[99,111,117,110,116]⟩:ByteArray)
 ·exact .inl h1
 rw [if_neg h1] at h
 by_cases h2:fn=(⟨#[109,105,110]⟩:ByteArray)∨fn=(⟨#[109,97,120]⟩:ByteArray)∨fn=(⟨#[115,117,109]⟩:ByteArray)
 ·rcases h2 with h | h | h
  ·exact .inr (.inr (.inr (.inl h)))
  ·exact .inr (.inr (.inr (.inr (.inl h))))
  ·exact .inr (.inl h)
 rw [if_neg h2] at h
 by_cases h3:fn=(⟨#[102,105,114,115,116]⟩:ByteArray)
 ·exact .inr (.inr (.inr (.inr (.inr h3))))
 rw [if_neg h3] at h
 by_cases h4:fn=(⟨#[116,111,112]⟩:ByteArray)
 ·exact .inr (.inr (.inl h4))
 rw [if_neg h4] at h
 cases h
theorem t0c {a b:Nd} : exF [a,b]=if checkN a≠0 then checkN a else checkN b:=by
 by_cases h1:checkN a=0<;>by_cases h2:checkN b=0<;>simp [exF,h1,h2]
theorem h1e (a:Ag):h8b a=if (f6a a.fn).2.2.2=false then 5 else if (f6a a.fn).1=true∧(a.k<1∨16<a.k) then 1 else if exF (l3a a)≠0 then exF (l3a a) else if 4<a.w.length then 4 else a2c a.w:=by
 cases h:(f6a a.fn).2.2.2 with
 | false=>simp [h8b,h]
 | true=>
  simp only [h8b,h,reduceIte,Bool.true_eq_false]
  have e1:v5d a=exF (l3a a):=by
   unfold v5d l3a
   rcases l9a h with e | e | e | ⟨h1,h2,h3,hn⟩
   ·rw [e];rfl
   ·have n1:a.fn≠(⟨#[99,111,117,110,116]⟩:ByteArray):=by rw [e];decide
    have hN:f6a a.fn=(false,true,true,true):=by rw [e];rfl
    rw [if_neg n1,if_pos e,hN]
    exact t0c.symm
   ·have n1:a.fn≠(⟨#[99,111,117,110,116]⟩:ByteArray):=by rw [e];decide
    have n2:a.fn≠(⟨#[102,105,114,115,116]⟩:ByteArray):=by rw [e];decide
    have hN:f6a a.fn=(true,true,false,true):=by rw [e];rfl
    rw [if_neg n1,if_neg n2,hN]
    show _=exF [a.e]
    by_cases q:checkN a.e=0<;>simp [exF,q]
   ·rw [if_neg h1,if_neg h3,hn]
    show _=exF [a.e]
    by_cases q:checkN a.e=0<;>simp [exF,q]
  have e2:a.fn=(⟨#[116,111,112]⟩:ByteArray)↔(f6a a.fn).1=true:=by
   rcases l9a h with e | e | e | ⟨h1,h2,h3,hn⟩
   ·rw [e];exact ⟨fun h=>absurd h (by decide),fun h=>absurd h (by decide)⟩
   ·rw [e];exact ⟨fun h=>absurd h (by decide),fun h=>absurd h (by decide)⟩
   ·rw [e];exact ⟨fun _=>rfl,fun _=>rfl⟩
   ·rw [hn];exact ⟨fun h=>absurd h h2,fun h=>absurd h (by decide)⟩
  rw [e1]
  generalize (f6a a.fn).1=kb at *
  cases kb with
  | true=>
   have t':=e2.2 rfl
   by_cases p:a.k<1∨16<a.k<;>simp [t',p]
  | false=>
   have t' : ¬ a.fn=(⟨#[116,111,112]⟩:ByteArray):=fun h=>absurd (e2.1 h) (by decide)
   simp [t']
theorem k3c {l:List Cd} {i:Nat} (h:i<l.length):((0≤(i:Int)∧(i:Int)<(l.length:Int))=True)∧((i*9+9≤(i7a l).length)=True)∧((i7a l).drop (i*9)).take 9=Cd.c l[i]:=⟨y0d h,m1b Cd.len l i h,f3c Cd.len l i h⟩
set_option maxHeartbeats 1600000 in
theorem u8d (a:Ag) (hs:z8b a) (hl:a.w.length<1000) (S:Mem):a3a Tryz.prog O 15 [.agg (Ag.c a)] S fun d S'=>S'=S∧d = .int .i64 (h8b a):=by
 have hpt:=e0c a
 have hpl : ∀ n∈l3a a,f3b 100 n:=by
  intro n hn
  unfold l3a at hn
  rcases List.mem_append.1 hn with h | h
  ·split at h
   ·rw [List.mem_singleton.1 h];exact hs.1
   ·cases h
  ·split at h
   ·rw [List.mem_singleton.1 h];exact hs.2.1
   ·cases h
 have hex:=d9c (orc:=O) none (l3a a) (by unfold l3a;split<;>split<;>simp) hpl
 rw [h1e]
 generalize hx:exF (l3a a)=x at *
 generalize l3a a=pl at *
 obtain ⟨fn,k,⟨op1,nm1,n1,ks1⟩,⟨op2,nm2,n2,ks2⟩,w⟩:=a
 obtain ⟨-,-,h3⟩:=hs
 dsimp only at h3 hl
 have hnd:=i0b (orc:=O) fn
 rcases hN:f6a fn with ⟨kb,eb,bb,ob⟩
 simp only [hN] at hnd ⊢
 simp only [Ag.c,Nd.k0a,List.cons_append,List.nil_append] at hpt ⊢
 clear hx hpl
 refine a3a.e Tryz.func15 rfl Tryz.ntmps15 (by rfl) ?_
 cases ob with
 | false=>
  rw [if_pos rfl]
  repeat' (first|refine Go.a rfl ?_|refine Go.rg ?_|refine GoR.nil ?_|refine Go.ret ?_|refine Go.b rfl ?_|(refine GoR.o (by rfl) (by rfl) ?_;(conv=>arg 1;simp only [G,Z,Y,Gx,vV,simprocAttr,fb2,fb3,fb9,c2a,b7a,d7a,d9a,c8a,e2a]);show GoR ..)|(refine GoR.c c44 (by rfl) (by rfl) rfl ?_;(refine a3a.b2a (hnd _) ?_))|(refine GoR.c c46 (by rfl) (by rfl) rfl ?_;(refine a3a.b2a (hpt _) ?_))|(refine GoR.c c45 (by rfl) (by rfl) rfl ?_;(refine a3a.b2a (hex _) ?_))|refine GoR.s (by rfl) rfl rfl ?_|(refine GoR.b1a rfl (fun hc => ?_) (fun hc => ?_)<;>simp only [hc])|refine Go.b0a rfl (fun hc => ?_) (fun hc => ?_))
  refine ⟨(by first | exact .inl rfl | exact .inr rfl),fin ?_⟩
  rw [a8a (fn:=Tryz.f15) rfl]
  simp only [a0a,a2a,a1a,G,Z,Y,Gx,vV,simprocAttr,fb2,fb3,fb9,c2a,b7a,d7a,d9a,c8a,e2a]
  exact ⟨_,_,rfl,.of_low (.int _ _),rfl⟩
 | true=>
 rw [if_neg (by decide)]
 by_cases hk:kb=true∧(k<1∨16<k)
 ·rw [if_pos hk]
  obtain ⟨rfl,hk⟩:=hk
  by_cases k1:k<1
  ·repeat' (first|refine Go.a rfl ?_|refine Go.rg ?_|refine GoR.nil ?_|refine Go.ret ?_|refine Go.b rfl ?_|(refine GoR.o (by rfl) (by rfl) ?_;(conv=>arg 1;simp only [G,Z,Y,Gx,vV,simprocAttr,fb2,fb3,fb9,c2a,b7a,d7a,d9a,c8a,e2a,show decide (k<1)=true by simpa using k1]);show GoR ..)|(refine GoR.c c44 (by rfl) (by rfl) rfl ?_;(refine a3a.b2a (hnd _) ?_))|(refine GoR.c c46 (by rfl) (by rfl) rfl ?_;(refine a3a.b2a (hpt _) ?_))|(refine GoR.c c45 (by rfl) (by rfl) rfl ?_;(refine a3a.b2a (hex _) ?_))|refine GoR.s (by rfl) rfl rfl ?_|(refine GoR.b1a rfl (fun hc => ?_) (fun hc => ?_)<;>simp only [hc])|refine Go.b0a rfl (fun hc => ?_) (fun hc => ?_))
   refine ⟨(by first | exact .inl rfl | exact .inr rfl),fin ?_⟩
   rw [a8a (fn:=Tryz.f15) rfl]
   simp only [a0a,a2a,a1a,G,Z,Y,Gx,vV,simprocAttr,fb2,fb3,fb9,c2a,b7a,d7a,d9a,c8a,e2a]
   exact ⟨_,_,rfl,.of_low (.int _ _),rfl⟩
  ·repeat' (first|refine Go.a rfl ?_|refine Go.rg ?_|refine GoR.nil ?_|refine Go.ret ?_|refine Go.b rfl ?_|(refine GoR.o (by rfl) (by rfl) ?_;(conv=>arg 1;simp only [G,Z,Y,Gx,vV,simprocAttr,fb2,fb3,fb9,c2a,b7a,d7a,d9a,c8a,e2a,show decide (k<1)=false by simpa using k1,show decide (16<k)=true by simp;omega,show decide (k>16)=true by simp;omega]);show GoR ..)|(refine GoR.c c44 (by rfl) (by rfl) rfl ?_;(refine a3a.b2a (hnd _) ?_))|(refine GoR.c c46 (by rfl) (by rfl) rfl ?_;(refine a3a.b2a (hpt _) ?_))|(refine GoR.c c45 (by rfl) (by rfl) rfl ?_;(refine a3a.b2a (hex _) ?_))|refine GoR.s (by rfl) rfl rfl ?_|(refine GoR.b1a rfl (fun hc => ?_) (fun hc => ?_)<;>simp only [hc])|refine Go.b0a rfl (fun hc => ?_) (fun hc => ?_))
   refine ⟨(by first | exact .inl rfl | exact .inr rfl),fin ?_⟩
   rw [a8a (fn:=Tryz.f15) rfl]
   simp only [a0a,a2a,a1a,G,Z,Y,Gx,vV,simprocAttr,fb2,fb3,fb9,c2a,b7a,d7a,d9a,c8a,e2a]
   exact ⟨_,_,rfl,.of_low (.int _ _),rfl⟩
 rw [if_neg hk]
 have hkk:kb=false∨(kb=true∧decide (k<1)=false∧decide (16<k)=false∧decide (k>16)=false):=by
  cases kb with
  | false=>exact .inl rfl
  | true=>
   have : ¬ (k<1∨16<k):=fun h=>hk ⟨rfl,h⟩
   exact .inr ⟨rfl,by simp;omega,by simp;omega,by simp;omega⟩
 by_cases hx0:x=0
 rotate_left
 ·rw [if_pos hx0]
  have x1:(x != 0)=true:=by simpa using hx0
  rcases hkk with rfl | ⟨rfl,k1,k2,k3⟩
  ·repeat' (first|refine Go.a rfl ?_|refine Go.rg ?_|refine GoR.nil ?_|refine Go.ret ?_|refine Go.b rfl ?_|(refine GoR.o (by rfl) (by rfl) ?_;(conv=>arg 1;simp only [G,Z,Y,Gx,vV,simprocAttr,fb2,fb3,fb9,c2a,b7a,d7a,d9a,c8a,e2a,x1]);show GoR ..)|(refine GoR.c c44 (by rfl) (by rfl) rfl ?_;(refine a3a.b2a (hnd _) ?_))|(refine GoR.c c46 (by rfl) (by rfl) rfl ?_;(refine a3a.b2a (hpt _) ?_))|(refine GoR.c c45 (by rfl) (by rfl) rfl ?_;(refine a3a.b2a (hex _) ?_))|refine GoR.s (by rfl) rfl rfl ?_|(refine GoR.b1a rfl (fun hc => ?_) (fun hc => ?_)<;>simp only [hc])|refine Go.b0a rfl (fun hc => ?_) (fun hc => ?_))
   refine ⟨(by first | exact .inl rfl | exact .inr rfl),fin ?_⟩
   rw [a8a (fn:=Tryz.f15) rfl]
   simp only [a0a,a2a,a1a,G,Z,Y,Gx,vV,simprocAttr,fb2,fb3,fb9,c2a,b7a,d7a,d9a,c8a,e2a]
   exact ⟨_,_,rfl,.of_low (.int _ _),rfl⟩
  ·repeat' (first|refine Go.a rfl ?_|refine Go.rg ?_|refine GoR.nil ?_|refine Go.ret ?_|refine Go.b rfl ?_|(refine GoR.o (by rfl) (by rfl) ?_;(conv=>arg 1;simp only [G,Z,Y,Gx,vV,simprocAttr,fb2,fb3,fb9,c2a,b7a,d7a,d9a,c8a,e2a,x1,k1,k2,k3]);show GoR ..)|(refine GoR.c c44 (by rfl) (by rfl) rfl ?_;(refine a3a.b2a (hnd _) ?_))|(refine GoR.c c46 (by rfl) (by rfl) rfl ?_;(refine a3a.b2a (hpt _) ?_))|(refine GoR.c c45 (by rfl) (by rfl) rfl ?_;(refine a3a.b2a (hex _) ?_))|refine GoR.s (by rfl) rfl rfl ?_|(refine GoR.b1a rfl (fun hc => ?_) (fun hc => ?_)<;>simp only [hc])|refine Go.b0a rfl (fun hc => ?_) (fun hc => ?_))
   refine ⟨(by first | exact .inl rfl | exact .inr rfl),fin ?_⟩
   rw [a8a (fn:=Tryz.f15) rfl]
   simp only [a0a,a2a,a1a,G,Z,Y,Gx,vV,simprocAttr,fb2,fb3,fb9,c2a,b7a,d7a,d9a,c8a,e2a]
   exact ⟨_,_,rfl,.of_low (.int _ _),rfl⟩
 subst hx0
 rw [if_neg (by decide)]
 by_cases q4:4<w.length
 ·rw [if_pos q4]
  have d4:decide ((w.length:Int)>4)=true:=by simp;omega
  have d5:decide (4<(w.length:Int))=true:=by simp;omega
  rcases hkk with rfl | ⟨rfl,k1,k2,k3⟩
  ·repeat' (first|refine Go.a rfl ?_|refine Go.rg ?_|refine GoR.nil ?_|refine Go.ret ?_|refine Go.b rfl ?_|(refine GoR.o (by rfl) (by rfl) ?_;(conv=>arg 1;simp only [G,Z,Y,Gx,vV,simprocAttr,fb2,fb3,fb9,c2a,b7a,d7a,d9a,c8a,e2a,bne_self_eq_false,d4,d5]);show GoR ..)|(refine GoR.c c44 (by rfl) (by rfl) rfl ?_;(refine a3a.b2a (hnd _) ?_))|(refine GoR.c c46 (by rfl) (by rfl) rfl ?_;(refine a3a.b2a (hpt _) ?_))|(refine GoR.c c45 (by rfl) (by rfl) rfl ?_;(refine a3a.b2a (hex _) ?_))|refine GoR.s (by rfl) rfl rfl ?_|(refine GoR.b1a rfl (fun hc => ?_) (fun hc => ?_)<;>simp only [hc])|refine Go.b0a rfl (fun hc => ?_) (fun hc => ?_))
   refine ⟨(by first | exact .inl rfl | exact .inr rfl),fin ?_⟩
   rw [a8a (fn:=Tryz.f15) rfl]
   simp only [a0a,a2a,a1a,G,Z,Y,Gx,vV,simprocAttr,fb2,fb3,fb9,c2a,b7a,d7a,d9a,c8a,e2a]
   exact ⟨_,_,rfl,.of_low (.int _ _),rfl⟩
  ·repeat' (first|refine Go.a rfl ?_|refine Go.rg ?_|refine GoR.nil ?_|refine Go.ret ?_|refine Go.b rfl ?_|(refine GoR.o (by rfl) (by rfl) ?_;(conv=>arg 1;simp only [G,Z,Y,Gx,vV,simprocAttr,fb2,fb3,fb9,c2a,b7a,d7a,d9a,c8a,e2a,bne_self_eq_false,k1,k2,k3,d4,d5]);show GoR ..)|(refine GoR.c c44 (by rfl) (by rfl) rfl ?_;(refine a3a.b2a (hnd _) ?_))|(refine GoR.c c46 (by rfl) (by rfl) rfl ?_;(refine a3a.b2a (hpt _) ?_))|(refine GoR.c c45 (by rfl) (by rfl) rfl ?_;(refine a3a.b2a (hex _) ?_))|refine GoR.s (by rfl) rfl rfl ?_|(refine GoR.b1a rfl (fun hc => ?_) (fun hc => ?_)<;>simp only [hc])|refine Go.b0a rfl (fun hc => ?_) (fun hc => ?_))
   refine ⟨(by first | exact .inl rfl | exact .inr rfl),fin ?_⟩
   rw [a8a (fn:=Tryz.f15) rfl]
   simp only [a0a,a2a,a1a,G,Z,Y,Gx,vV,simprocAttr,fb2,fb3,fb9,c2a,b7a,d7a,d9a,c8a,e2a]
   exact ⟨_,_,rfl,.of_low (.int _ _),rfl⟩
 rw [if_neg q4]
 have d4:decide ((w.length:Int)>4)=false:=by simp;omega
 have d5:decide (4<(w.length:Int))=false:=by simp;omega
 rcases hkk with rfl | ⟨rfl,k1,k2,k3⟩
 ·repeat' (first|refine Go.a rfl ?_|refine Go.rg ?_|refine GoR.nil ?_|refine Go.ret ?_|refine Go.b rfl ?_|(refine GoR.o (by rfl) (by rfl) ?_;(conv=>arg 1;simp only [G,Z,Y,Gx,vV,simprocAttr,fb2,fb3,fb9,c2a,b7a,d7a,d9a,c8a,e2a,bne_self_eq_false,d4,d5]);show GoR ..)|(refine GoR.c c44 (by rfl) (by rfl) rfl ?_;(refine a3a.b2a (hnd _) ?_))|(refine GoR.c c46 (by rfl) (by rfl) rfl ?_;(refine a3a.b2a (hpt _) ?_))|(refine GoR.c c45 (by rfl) (by rfl) rfl ?_;(refine a3a.b2a (hex _) ?_))|refine GoR.s (by rfl) rfl rfl ?_|(refine GoR.b1a rfl (fun hc => ?_) (fun hc => ?_)<;>simp only [hc])|refine Go.b0a rfl (fun hc => ?_) (fun hc => ?_))
  refine Go.keep [(47,.sl none 9 w.length (i7a w)),(48,.int .i64 (w.length:Int)),(49,.int .i64 (((0:Nat):Int):Int))] (.cons .refl (.cons .refl (.cons .refl (.nil)))) ?_
  refine Go.while (α:=Nat×Mem) (fun x=>w.length - x.1) (fun x=>[(47,.sl none 9 w.length (i7a w)),(48,.int .i64 (w.length:Int)),(49,.int .i64 (x.1:Int))]) (fun x=>x.2) (fun x=>x.1≤w.length∧a2c w=a2c (w.drop x.1) ∧ ∃ E,x.2=S++E) ?_ (0,S++[.obj [.str fn,.int .i64 k,.str op1,.str nm1,.int .i64 n1,.sl none 4 ks1.length (d3a ks1),.str op2,.str nm2,.int .i64 n2,.sl none 4 ks2.length (d3a ks2),.sl none 9 w.length (i7a w)]]) ⟨Nat.zero_le _,rfl,_,rfl⟩
  rintro ⟨i,H⟩ ⟨hi,hcw,E,hE⟩ next
  dsimp only at hi hcw hE next
  subst hE
  by_cases hil:i<w.length
  ·obtain ⟨t1,t2,t3⟩:=k3c hil
   obtain ⟨hs1,hs2⟩:=h3 _ (List.getElem_mem hil)
   have hho:=s6b (orc:=O) w[i].op 0 0
   rw [j5b] at hho
   have hxx:=fun o=>d9c (orc:=O) o [w[i].a,w[i].b] (by simp) (by
    intro n hn
    rcases List.mem_cons.1 hn with rfl | hn
    ·exact hs1
    ·rw [List.mem_singleton.1 hn];exact hs2)
   rw [s9b hil] at hcw
   have hn:=fun E' (e:a2c w=a2c (w.drop (i+1)))=>next (i+1,S++E') (by dsimp only;omega) ⟨hil,e,E',rfl⟩
   clear next hs1 hs2 h3
   have dl:decide ((i:Int)<(w.length:Int))=true:=by simp;omega
   have ws1:=b9a (show i<4611686018427387904 by omega)
   generalize w[i]=cd at *
   have hcc:k0b cd.op=true→l1b cd=exF [cd.a,cd.b]:=fun h=>by simp [l1b,h,t0c]
   have hc5:k0b cd.op=false→l1b cd=5:=fun h=>by simp [l1b,h]
   generalize f1f:exF [cd.a,cd.b]=y at *
   generalize l1b cd=z at *
   obtain ⟨cop,⟨op3,nm3,n3,ks3⟩,⟨op4,nm4,n4,ks4⟩⟩:=cd
   simp only [Cd.c,Nd.k0a,d3a,List.flatMap_cons,List.flatMap_nil,List.append_nil,List.length_cons,List.length_nil,List.cons_append,List.nil_append,Nat.zero_add,Nat.reduceAdd] at t3 hho hxx hcc hc5
   clear f1f
   cases ho:k0b cop with
   | false=>
    rw [ho] at hho
    rw [hc5 ho,if_pos (by decide)] at hcw
    rw [hcw]
    repeat' (first|refine Go.a rfl ?_|refine Go.rg ?_|refine GoR.nil ?_|refine Go.ret ?_|refine Go.b rfl ?_|(refine GoR.o (by rfl) (by rfl) ?_;(conv=>arg 1;simp only [G,Z,Y,Gx,vV,simprocAttr,fb2,fb3,fb9,c2a,b7a,d7a,d9a,c8a,e2a,t1,t2,t3,dl]);show GoR ..)|(refine GoR.c c47 (by rfl) (by rfl) rfl ?_;(refine a3a.b2a (hho _) ?_))|refine GoR.s (by rfl) rfl rfl ?_|(refine GoR.b1a rfl (fun hc => ?_) (fun hc => ?_)<;>simp only [hc])|refine Go.b0a rfl (fun hc => ?_) (fun hc => ?_))
    refine ⟨(by first | exact .inl rfl | exact .inr rfl),fin ?_⟩
    rw [a8a (fn:=Tryz.f15) rfl]
    simp only [a0a,a2a,a1a,G,Z,Y,Gx,vV,simprocAttr,fb2,fb3,fb9,c2a,b7a,d7a,d9a,c8a,e2a]
    exact ⟨_,_,rfl,.of_low (.int _ _),rfl⟩
   | true=>
   rw [ho] at hho
   rw [hcc ho] at hcw
   by_cases y0:y=0
   ·subst y0
    rw [if_neg (by decide)] at hcw
    replace hn:=fun E'=>hn E' hcw
    dsimp only at hn
    repeat' (first|refine Go.a rfl ?_|refine Go.rg ?_|refine GoR.nil ?_|refine Go.ret ?_|refine Go.b rfl ?_|(refine GoR.o (by rfl) (by rfl) ?_;(conv=>arg 1;simp only [G,Z,Y,Gx,vV,simprocAttr,fb2,fb3,fb9,c2a,b7a,d7a,d9a,c8a,e2a,t1,t2,t3,dl,ws1,bne_self_eq_false]);show GoR ..)|(refine GoR.c c47 (by rfl) (by rfl) rfl ?_;(refine a3a.b2a (hho _) ?_))|(refine GoR.c c45 (by rfl) (by rfl) rfl ?_;(refine a3a.b2a (hxx _ _) ?_))|refine GoR.s (by rfl) rfl rfl ?_|(refine GoR.b1a rfl (fun hc => ?_) (fun hc => ?_)<;>simp only [hc])|refine Go.b0a rfl (fun hc => ?_) (fun hc => ?_))
    refine Go.lpN ?_
    refine Go.keep [(47,.sl none 9 w.length (i7a w)),(48,.int .i64 (w.length:Int)),(49,.int .i64 (((i+1:Nat):Int):Int))] (.cons .refl (.cons .refl (.cons .refl (.nil)))) ?_
    exact hn _
   ·rw [if_pos y0] at hcw
    rw [hcw]
    repeat' (first|refine Go.a rfl ?_|refine Go.rg ?_|refine GoR.nil ?_|refine Go.ret ?_|refine Go.b rfl ?_|(refine GoR.o (by rfl) (by rfl) ?_;(conv=>arg 1;simp only [G,Z,Y,Gx,vV,simprocAttr,fb2,fb3,fb9,c2a,b7a,d7a,d9a,c8a,e2a,t1,t2,t3,dl,show (y != 0)=true by simpa using y0]);show GoR ..)|(refine GoR.c c47 (by rfl) (by rfl) rfl ?_;(refine a3a.b2a (hho _) ?_))|(refine GoR.c c45 (by rfl) (by rfl) rfl ?_;(refine a3a.b2a (hxx _ _) ?_))|refine GoR.s (by rfl) rfl rfl ?_|(refine GoR.b1a rfl (fun hc => ?_) (fun hc => ?_)<;>simp only [hc])|refine Go.b0a rfl (fun hc => ?_) (fun hc => ?_))
    refine ⟨(by first | exact .inl rfl | exact .inr rfl),fin ?_⟩
    rw [a8a (fn:=Tryz.f15) rfl]
    simp only [a0a,a2a,a1a,G,Z,Y,Gx,vV,simprocAttr,fb2,fb3,fb9,c2a,b7a,d7a,d9a,c8a,e2a]
    exact ⟨_,_,rfl,.of_low (.int _ _),rfl⟩
  ·clear next
   rw [hcw,List.drop_of_length_le (by omega)]
   repeat' (first|refine Go.a rfl ?_|refine Go.rg ?_|refine GoR.nil ?_|refine Go.ret ?_|refine Go.b rfl ?_|(refine GoR.o (by rfl) (by rfl) ?_;(conv=>arg 1;simp only [G,Z,Y,Gx,vV,simprocAttr,fb2,fb3,fb9,c2a,b7a,d7a,d9a,c8a,e2a,show decide ((i:Int)<(w.length:Int))=false by simp;omega]);show GoR ..)|refine GoR.s (by rfl) rfl rfl ?_|(refine GoR.b1a rfl (fun hc => ?_) (fun hc => ?_)<;>simp only [hc])|refine Go.b0a rfl (fun hc => ?_) (fun hc => ?_))
   refine ⟨(by first | exact .inl rfl | exact .inr rfl),fin ?_⟩
   rw [a8a (fn:=Tryz.f15) rfl]
   simp only [a0a,a2a,a1a,G,Z,Y,Gx,vV,simprocAttr,fb2,fb3,fb9,c2a,b7a,d7a,d9a,c8a,e2a]
   exact ⟨_,_,rfl,.of_low (.int _ _),rfl⟩
 ·repeat' (first|refine Go.a rfl ?_|refine Go.rg ?_|refine GoR.nil ?_|refine Go.ret ?_|refine Go.b rfl ?_|(refine GoR.o (by rfl) (by rfl) ?_;(conv=>arg 1;simp only [G,Z,Y,Gx,vV,simprocAttr,fb2,fb3,fb9,c2a,b7a,d7a,d9a,c8a,e2a,bne_self_eq_false,k1,k2,k3,d4,d5]);show GoR ..)|(refine GoR.c c44 (by rfl) (by rfl) rfl ?_;(refine a3a.b2a (hnd _) ?_))|(refine GoR.c c46 (by rfl) (by rfl) rfl ?_;(refine a3a.b2a (hpt _) ?_))|(refine GoR.c c45 (by rfl) (by rfl) rfl ?_;(refine a3a.b2a (hex _) ?_))|refine GoR.s (by rfl) rfl rfl ?_|(refine GoR.b1a rfl (fun hc => ?_) (fun hc => ?_)<;>simp only [hc])|refine Go.b0a rfl (fun hc => ?_) (fun hc => ?_))
  refine Go.keep [(47,.sl none 9 w.length (i7a w)),(48,.int .i64 (w.length:Int)),(49,.int .i64 (((0:Nat):Int):Int))] (.cons .refl (.cons .refl (.cons .refl (.nil)))) ?_
  refine Go.while (α:=Nat×Mem) (fun x=>w.length - x.1) (fun x=>[(47,.sl none 9 w.length (i7a w)),(48,.int .i64 (w.length:Int)),(49,.int .i64 (x.1:Int))]) (fun x=>x.2) (fun x=>x.1≤w.length∧a2c w=a2c (w.drop x.1) ∧ ∃ E,x.2=S++E) ?_ (0,S++[.obj [.str fn,.int .i64 k,.str op1,.str nm1,.int .i64 n1,.sl none 4 ks1.length (d3a ks1),.str op2,.str nm2,.int .i64 n2,.sl none 4 ks2.length (d3a ks2),.sl none 9 w.length (i7a w)]]) ⟨Nat.zero_le _,rfl,_,rfl⟩
  rintro ⟨i,H⟩ ⟨hi,hcw,E,hE⟩ next
  dsimp only at hi hcw hE next
  subst hE
  by_cases hil:i<w.length
  ·obtain ⟨t1,t2,t3⟩:=k3c hil
   obtain ⟨hs1,hs2⟩:=h3 _ (List.getElem_mem hil)
   have hho:=s6b (orc:=O) w[i].op 0 0
   rw [j5b] at hho
   have hxx:=fun o=>d9c (orc:=O) o [w[i].a,w[i].b] (by simp) (by
    intro n hn
    rcases List.mem_cons.1 hn with rfl | hn
    ·exact hs1
    ·rw [List.mem_singleton.1 hn];exact hs2)
   rw [s9b hil] at hcw
   have hn:=fun E' (e:a2c w=a2c (w.drop (i+1)))=>next (i+1,S++E') (by dsimp only;omega) ⟨hil,e,E',rfl⟩
   clear next hs1 hs2 h3
   have dl:decide ((i:Int)<(w.length:Int))=true:=by simp;omega
   have ws1:=b9a (show i<4611686018427387904 by omega)
   generalize w[i]=cd at *
   have hcc:k0b cd.op=true→l1b cd=exF [cd.a,cd.b]:=fun h=>by simp [l1b,h,t0c]
   have hc5:k0b cd.op=false→l1b cd=5:=fun h=>by simp [l1b,h]
   generalize f1f:exF [cd.a,cd.b]=y at *
   generalize l1b cd=z at *
   obtain ⟨cop,⟨op3,nm3,n3,ks3⟩,⟨op4,nm4,n4,ks4⟩⟩:=cd
   simp only [Cd.c,Nd.k0a,d3a,List.flatMap_cons,List.flatMap_nil,List.append_nil,List.length_cons,List.length_nil,List.cons_append,List.nil_append,Nat.zero_add,Nat.reduceAdd] at t3 hho hxx hcc hc5
   clear f1f
   cases ho:k0b cop with
   | false=>
    rw [ho] at hho
    rw [hc5 ho,if_pos (by decide)] at hcw
    rw [hcw]
    repeat' (first|refine Go.a rfl ?_|refine Go.rg ?_|refine GoR.nil ?_|refine Go.ret ?_|refine Go.b rfl ?_|(refine GoR.o (by rfl) (by rfl) ?_;(conv=>arg 1;simp only [G,Z,Y,Gx,vV,simprocAttr,fb2,fb3,fb9,c2a,b7a,d7a,d9a,c8a,e2a,t1,t2,t3,dl]);show GoR ..)|(refine GoR.c c47 (by rfl) (by rfl) rfl ?_;(refine a3a.b2a (hho _) ?_))|refine GoR.s (by rfl) rfl rfl ?_|(refine GoR.b1a rfl (fun hc => ?_) (fun hc => ?_)<;>simp only [hc])|refine Go.b0a rfl (fun hc => ?_) (fun hc => ?_))
    refine ⟨(by first | exact .inl rfl | exact .inr rfl),fin ?_⟩
    rw [a8a (fn:=Tryz.f15) rfl]
    simp only [a0a,a2a,a1a,G,Z,Y,Gx,vV,simprocAttr,fb2,fb3,fb9,c2a,b7a,d7a,d9a,c8a,e2a]
    exact ⟨_,_,rfl,.of_low (.int _ _),rfl⟩
   | true=>
   rw [ho] at hho
   rw [hcc ho] at hcw
   by_cases y0:y=0
   ·subst y0
    rw [if_neg (by decide)] at hcw
    replace hn:=fun E'=>hn E' hcw
    dsimp only at hn
    repeat' (first|refine Go.a rfl ?_|refine Go.rg ?_|refine GoR.nil ?_|refine Go.ret ?_|refine Go.b rfl ?_|(refine GoR.o (by rfl) (by rfl) ?_;(conv=>arg 1;simp only [G,Z,Y,Gx,vV,simprocAttr,fb2,fb3,fb9,c2a,b7a,d7a,d9a,c8a,e2a,t1,t2,t3,dl,ws1,bne_self_eq_false]);show GoR ..)|(refine GoR.c c47 (by rfl) (by rfl) rfl ?_;(refine a3a.b2a (hho _) ?_))|(refine GoR.c c45 (by rfl) (by rfl) rfl ?_;(refine a3a.b2a (hxx _ _) ?_))|refine GoR.s (by rfl) rfl rfl ?_|(refine GoR.b1a rfl (fun hc => ?_) (fun hc => ?_)<;>simp only [hc])|refine Go.b0a rfl (fun hc => ?_) (fun hc => ?_))
    refine Go.lpN ?_
    refine Go.keep [(47,.sl none 9 w.length (i7a w)),(48,.int .i64 (w.length:Int)),(49,.int .i64 (((i+1:Nat):Int):Int))] (.cons .refl (.cons .refl (.cons .refl (.nil)))) ?_
    exact hn _
   ·rw [if_pos y0] at hcw
    rw [hcw]
    repeat' (first|refine Go.a rfl ?_|refine Go.rg ?_|refine GoR.nil ?_|refine Go.ret ?_|refine Go.b rfl ?_|(refine GoR.o (by rfl) (by rfl) ?_;(conv=>arg 1;simp only [G,Z,Y,Gx,vV,simprocAttr,fb2,fb3,fb9,c2a,b7a,d7a,d9a,c8a,e2a,t1,t2,t3,dl,show (y != 0)=true by simpa using y0]);show GoR ..)|(refine GoR.c c47 (by rfl) (by rfl) rfl ?_;(refine a3a.b2a (hho _) ?_))|(refine GoR.c c45 (by rfl) (by rfl) rfl ?_;(refine a3a.b2a (hxx _ _) ?_))|refine GoR.s (by rfl) rfl rfl ?_|(refine GoR.b1a rfl (fun hc => ?_) (fun hc => ?_)<;>simp only [hc])|refine Go.b0a rfl (fun hc => ?_) (fun hc => ?_))
    refine ⟨(by first | exact .inl rfl | exact .inr rfl),fin ?_⟩
    rw [a8a (fn:=Tryz.f15) rfl]
    simp only [a0a,a2a,a1a,G,Z,Y,Gx,vV,simprocAttr,fb2,fb3,fb9,c2a,b7a,d7a,d9a,c8a,e2a]
    exact ⟨_,_,rfl,.of_low (.int _ _),rfl⟩
  ·clear next
   rw [hcw,List.drop_of_length_le (by omega)]
   repeat' (first|refine Go.a rfl ?_|refine Go.rg ?_|refine GoR.nil ?_|refine Go.ret ?_|refine Go.b rfl ?_|(refine GoR.o (by rfl) (by rfl) ?_;(conv=>arg 1;simp only [G,Z,Y,Gx,vV,simprocAttr,fb2,fb3,fb9,c2a,b7a,d7a,d9a,c8a,e2a,show decide ((i:Int)<(w.length:Int))=false by simp;omega]);show GoR ..)|refine GoR.s (by rfl) rfl rfl ?_|(refine GoR.b1a rfl (fun hc => ?_) (fun hc => ?_)<;>simp only [hc])|refine Go.b0a rfl (fun hc => ?_) (fun hc => ?_))
   refine ⟨(by first | exact .inl rfl | exact .inr rfl),fin ?_⟩
   rw [a8a (fn:=Tryz.f15) rfl]
   simp only [a0a,a2a,a1a,G,Z,Y,Gx,vV,simprocAttr,fb2,fb3,fb9,c2a,b7a,d7a,d9a,c8a,e2a]
   exact ⟨_,_,rfl,.of_low (.int _ _),rfl⟩
end Go.Proofs.DgT
