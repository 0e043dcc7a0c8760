/- What is wrong with a fold, by the document: any fold. -/
import Derived.Test.YtcdijoaabbjioaaGreatDoorDgG16x
import Derived.Test.YtcdijoaabbjioaaGreatDoorDgC5x
set_option linter.unusedSimpArgs false
set_option linter.unusedVariables false
namespace Go.Proofs.DgT
open Go Go.DM
set_option maxRecDepth 100000
def chkC (c:Cd):Int:=if opOk c.op=false then 5 else if checkN c.a≠0 then checkN c.a else checkN c.b
def chkW:List Cd→Int
 | []=>0
 | c::r=>if chkC c≠0 then chkC c else chkW r
def chkE (a:Ag):Int:=if a.fn=(⟨#[99,111,117,110,116]⟩:ByteArray) then 0 else if checkN a.e≠0 then checkN a.e else if a.fn=(⟨#[102,105,114,115,116]⟩:ByteArray) then checkN a.by_ else 0
def chkA (a:Ag):Int:=if (needsF a.fn).2.2.2=false then 5 else if a.fn=(⟨#[116,111,112]⟩:ByteArray)∧(a.k<1∨16<a.k) then 1 else if chkE a≠0 then chkE a else if 4<a.w.length then 4 else chkW a.w
theorem chkW_drop {w:List Cd} {i:Nat} (h:i<w.length):chkW (w.drop i)=if chkC w[i]≠0 then chkC w[i] else chkW (w.drop (i+1)):=by
 rw [List.drop_eq_getElem_cons h,chkW]
set_option maxHeartbeats 4000000 in
theorem refCheckAgg (a:Ag) (hs:SlimA a) (hl:a.w.length<1000) (S:Mem):CallD Tryz.prog O 11 [.agg (Ag.c a)] S fun d S'=>S'=S∧d = .int .i64 (chkA a):=by
 obtain ⟨fn,k,⟨op1,nm1,n1,ks1⟩,⟨op2,nm2,n2,ks2⟩,w⟩:=a
 obtain ⟨h1,h2,h3⟩:=hs
 dsimp only at h1 h2 h3
 dsimp only at hl
 have hfu:=refFunc (orc:=O) fn
 cases g1:(needsF fn).2.2.2 with
 | false=>
  have hv:chkA ⟨fn,k,.mk op1 nm1 n1 ks1,.mk op2 nm2 n2 ks2,w⟩=5:=by simp [chkA,g1]
  rw [hv]
  rw [g1] at hfu
  simp only [Ag.c,Nd.c_mk,List.cons_append,List.nil_append]
  refine CallD.e Tryz.func11 rfl Tryz.ntmps11 (by rfl) ?_
  repeat' (first|refine Go.a rfl ?_|refine Go.rg ?_|refine GoR.nil ?_|refine Go.ret ?_|refine Go.b rfl ?_|(refine GoR.o (by rfl) (by rfl) ?_;(conv=>arg 1;simp only [G,Z,Y,Gx,vV,simprocAttr,fb2,fb3,fb9,fb32,fb34,fb35,fb37,fb93]);show GoR ..)|(refine GoR.c c33 (by rfl) (by rfl) rfl ?_;(refine CallD.ret2 (hfu _) ?_))|refine GoR.s (by rfl) rfl rfl ?_|(refine GoR.splitG rfl (fun hc => ?_) (fun hc => ?_)<;>simp only [hc])|refine Go.condB rfl (fun hc => ?_) (fun hc => ?_))
  refine ⟨(by first | exact .inl rfl | exact .inr rfl),fin ?_⟩
  rw [resD_tmp (fn:=Tryz.f11) rfl]
  simp only [optThen_some,resultD_tmp,resultD_cell,G,Z,Y,Gx,vV,simprocAttr,fb2,fb3,fb9,fb32,fb34,fb35,fb37,fb93]
  exact ⟨_,_,rfl,.of_low (.int _ _),rfl⟩
 | true=>
 rw [g1] at hfu
 have hc1:=refCheckN (orc:=O) _ h1
 have hc2:=refCheckN (orc:=O) _ h2
 simp only [Nd.c_mk] at hc1 hc2
 generalize hA:(⟨fn,k,.mk op1 nm1 n1 ks1,.mk op2 nm2 n2 ks2,w⟩:Ag)=A0
 have hAc:Ag.c A0=[.str fn,.int .i64 k,.str op1,.str nm1,.int .i64 n1,.sl none 4 ks1.length (ndsC ks1),.str op2,.str nm2,.int .i64 n2,.sl none 4 ks2.length (ndsC ks2),.sl none 9 w.length (cdsC w)]:=by
  rw [← hA]
  simp only [Ag.c,Nd.c_mk,List.cons_append,List.nil_append]
 have hv:chkA A0=if fn=(⟨#[116,111,112]⟩:ByteArray)∧(k<1∨16<k) then 1 else if fn≠(⟨#[99,111,117,110,116]⟩:ByteArray)∧checkN (.mk op1 nm1 n1 ks1)≠0 then checkN (.mk op1 nm1 n1 ks1) else if fn=(⟨#[102,105,114,115,116]⟩:ByteArray)∧checkN (.mk op2 nm2 n2 ks2)≠0 then checkN (.mk op2 nm2 n2 ks2) else if 4<w.length then 4 else chkW w:=by
  rw [← hA]
  simp only [chkA,chkE,g1,reduceIte,Bool.true_eq_false]
  by_cases q1:fn=(⟨#[99,111,117,110,116]⟩:ByteArray)
  ·subst q1
   simp
  ·by_cases q2:checkN (.mk op1 nm1 n1 ks1)=0
   ·by_cases q3:fn=(⟨#[102,105,114,115,116]⟩:ByteArray)
    ·by_cases q4:checkN (.mk op2 nm2 n2 ks2)=0<;>simp [q1,q2,q3,q4]
    ·simp [q1,q2,q3]
   ·simp [q1,q2]
 rw [hAc]
 clear hA hAc h1 h2
 have br:=needs_cases g1
 rcases br with hf | hf | hf | ⟨f1,f2,f3,_⟩
 ·have fc:(fn=(⟨#[99,111,117,110,116]⟩:ByteArray))=True:=eq_true hf
  have ff:(fn=(⟨#[102,105,114,115,116]⟩:ByteArray))=False:=eq_false (by rw [hf];decide)
  have ft:(fn=(⟨#[116,111,112]⟩:ByteArray))=False:=eq_false (by rw [hf];decide)
  simp only [fc,ff,ft,ne_eq,not_true_eq_false,not_false_eq_true,true_and,false_and,if_false,reduceIte] at hv
  by_cases q4:4<w.length
  ·rw [hv,if_pos q4]
   refine CallD.e Tryz.func11 rfl Tryz.ntmps11 (by rfl) ?_
   repeat' (first|refine Go.a rfl ?_|refine Go.rg ?_|refine GoR.nil ?_|refine Go.ret ?_|refine Go.b rfl ?_|(refine GoR.o (by rfl) (by rfl) ?_;(conv=>arg 1;simp only [G,Z,Y,Gx,vV,simprocAttr,fb2,fb3,fb9,fb32,fb34,fb35,fb37,fb93,fc,ff,ft,decide_true,decide_false,Bool.not_true,Bool.not_false,not_false_eq_true,not_true_eq_false,eq_self_iff_true,ne_eq,bne_self_eq_false,beq_self_eq_true,show decide ((w.length:Int)>4)=true by simp;omega,show decide (4<(w.length:Int))=true by simp;omega]);show GoR ..)|(refine GoR.c c33 (by rfl) (by rfl) rfl ?_;(refine CallD.ret2 (hfu _) ?_))|(refine GoR.c c39 (by rfl) (by rfl) rfl ?_;(first | refine CallD.ret2 (hc1 _) ?_ | refine CallD.ret2 (hc2 _) ?_))|refine GoR.s (by rfl) rfl rfl ?_|(refine GoR.splitG rfl (fun hc => ?_) (fun hc => ?_)<;>simp only [hc])|refine Go.condB rfl (fun hc => ?_) (fun hc => ?_))
   refine ⟨(by first | exact .inl rfl | exact .inr rfl),fin ?_⟩
   rw [resD_tmp (fn:=Tryz.f11) rfl]
   simp only [optThen_some,resultD_tmp,resultD_cell,G,Z,Y,Gx,vV,simprocAttr,fb2,fb3,fb9,fb32,fb34,fb35,fb37,fb93]
   exact ⟨_,_,rfl,.of_low (.int _ _),rfl⟩
  rw [if_neg q4] at hv
  rw [hv]
  have d4:decide ((w.length:Int)>4)=false:=by simp;omega
  have d5:decide (4<(w.length:Int))=false:=by simp;omega
  refine CallD.e Tryz.func11 rfl Tryz.ntmps11 (by rfl) ?_
  repeat' (first|refine Go.a rfl ?_|refine Go.rg ?_|refine GoR.nil ?_|refine Go.ret ?_|refine Go.b rfl ?_|(refine GoR.o (by rfl) (by rfl) ?_;(conv=>arg 1;simp only [G,Z,Y,Gx,vV,simprocAttr,fb2,fb3,fb9,fb32,fb34,fb35,fb37,fb93,fc,ff,ft,decide_true,decide_false,Bool.not_true,Bool.not_false,not_false_eq_true,not_true_eq_false,eq_self_iff_true,ne_eq,bne_self_eq_false,beq_self_eq_true,d4,d5]);show GoR ..)|(refine GoR.c c33 (by rfl) (by rfl) rfl ?_;(refine CallD.ret2 (hfu _) ?_))|(refine GoR.c c39 (by rfl) (by rfl) rfl ?_;(first | refine CallD.ret2 (hc1 _) ?_ | refine CallD.ret2 (hc2 _) ?_))|refine GoR.s (by rfl) rfl rfl ?_|(refine GoR.splitG rfl (fun hc => ?_) (fun hc => ?_)<;>simp only [hc])|refine Go.condB rfl (fun hc => ?_) (fun hc => ?_))
  refine Go.keep [(1,.ptr S.length 0),(4,.int .i64 (((0:Nat):Int):Int))] (.cons .refl (.cons .refl (.nil))) ?_
  refine Go.while (α:=Nat) (fun i=>w.length - i) (fun i=>[(1,.ptr S.length 0),(4,.int .i64 ((i:Int):Int))]) (fun _=>S++[.obj [.str fn,.int .i64 k,.str op1,.str nm1,.int .i64 n1,.sl none 4 ks1.length (ndsC ks1),.str op2,.str nm2,.int .i64 n2,.sl none 4 ks2.length (ndsC ks2),.sl none 9 w.length (cdsC w)]]) (fun i=>i≤w.length∧chkW w=chkW (w.drop i)) ?_ 0 ⟨Nat.zero_le _,rfl⟩
  rintro i ⟨hi,hcw⟩ next
  by_cases hil:i<w.length
  ·obtain ⟨t1,t2,t3,t4,t5,t6⟩:=cdsAt hil
   obtain ⟨hs1,hs2⟩:=h3 _ (List.getElem_mem hil)
   have n1:=refCheckN (orc:=O) _ hs1
   have n2:=refCheckN (orc:=O) _ hs2
   have hho:=refHolds (orc:=O) w[i].op 0 0
   rw [holds_ok] at hho
   rw [chkW_drop hil] at hcw
   have hn:=fun e=>next (i+1) (by omega) ⟨hil,e⟩
   clear next hs1 hs2 h3
   generalize w[i]=cd at *
   obtain ⟨cop,⟨op3,nm3,n3,ks3⟩,⟨op4,nm4,n4,ks4⟩⟩:=cd
   simp only [Nd.c_mk] at n1 n2 t2 t4 t6 hho
   cases ho:opOk cop with
   | false=>
    rw [ho] at hho
    rw [hcw,show chkC ⟨cop,(.mk op3 nm3 n3 ks3),(.mk op4 nm4 n4 ks4)⟩=5 by simp [chkC,ho]]
    repeat' (first|refine Go.a rfl ?_|refine Go.rg ?_|refine GoR.nil ?_|refine Go.ret ?_|refine Go.b rfl ?_|(refine GoR.o (by rfl) (by rfl) ?_;(conv=>arg 1;simp only [G,Z,Y,Gx,vV,simprocAttr,fb2,fb3,fb9,fb32,fb34,fb35,fb37,fb93,t1,t2,t3,t4,t5,t6,beq_self_eq_true,bne_self_eq_false,wrap_succ (show i<4611686018427387904 by omega),show decide ((i:Int)<(w.length:Int))=true by simp;omega]);show GoR ..)|(refine GoR.c c40 (by rfl) (by rfl) rfl ?_;(refine CallD.ret2 (hho _) ?_))|(refine GoR.c c39 (by rfl) (by rfl) rfl ?_;(first | refine CallD.ret2 (n1 _) ?_ | refine CallD.ret2 (n2 _) ?_))|refine GoR.s (by rfl) rfl rfl ?_|(refine GoR.splitG rfl (fun hc => ?_) (fun hc => ?_)<;>simp only [hc])|refine Go.condB rfl (fun hc => ?_) (fun hc => ?_))
    refine ⟨(by first | exact .inl rfl | exact .inr rfl),fin ?_⟩
    rw [resD_tmp (fn:=Tryz.f11) rfl]
    simp only [optThen_some,resultD_tmp,resultD_cell,G,Z,Y,Gx,vV,simprocAttr,fb2,fb3,fb9,fb32,fb34,fb35,fb37,fb93]
    exact ⟨_,_,rfl,.of_low (.int _ _),rfl⟩
   | true=>
   rw [ho] at hho
   by_cases x1:checkN (.mk op3 nm3 n3 ks3)=0
   rotate_left
   ·rw [hcw,show chkC ⟨cop,(.mk op3 nm3 n3 ks3),(.mk op4 nm4 n4 ks4)⟩=checkN (.mk op3 nm3 n3 ks3) by simp [chkC,ho,x1],if_pos x1]
    repeat' (first|refine Go.a rfl ?_|refine Go.rg ?_|refine GoR.nil ?_|refine Go.ret ?_|refine Go.b rfl ?_|(refine GoR.o (by rfl) (by rfl) ?_;(conv=>arg 1;simp only [G,Z,Y,Gx,vV,simprocAttr,fb2,fb3,fb9,fb32,fb34,fb35,fb37,fb93,t1,t2,t3,t4,t5,t6,beq_self_eq_true,bne_self_eq_false,wrap_succ (show i<4611686018427387904 by omega),show decide ((i:Int)<(w.length:Int))=true by simp;omega,show (checkN (.mk op3 nm3 n3 ks3)==0)=false by simpa using x1,show (checkN (.mk op3 nm3 n3 ks3) != 0)=true by simpa using x1]);show GoR ..)|(refine GoR.c c40 (by rfl) (by rfl) rfl ?_;(refine CallD.ret2 (hho _) ?_))|(refine GoR.c c39 (by rfl) (by rfl) rfl ?_;(first | refine CallD.ret2 (n1 _) ?_ | refine CallD.ret2 (n2 _) ?_))|refine GoR.s (by rfl) rfl rfl ?_|(refine GoR.splitG rfl (fun hc => ?_) (fun hc => ?_)<;>simp only [hc])|refine Go.condB rfl (fun hc => ?_) (fun hc => ?_))
    refine ⟨(by first | exact .inl rfl | exact .inr rfl),fin ?_⟩
    rw [resD_tmp (fn:=Tryz.f11) rfl]
    simp only [optThen_some,resultD_tmp,resultD_cell,G,Z,Y,Gx,vV,simprocAttr,fb2,fb3,fb9,fb32,fb34,fb35,fb37,fb93]
    exact ⟨_,_,rfl,.of_low (.int _ _),rfl⟩
   rw [x1] at n1
   by_cases x2:checkN (.mk op4 nm4 n4 ks4)=0
   rotate_left
   ·rw [hcw,show chkC ⟨cop,(.mk op3 nm3 n3 ks3),(.mk op4 nm4 n4 ks4)⟩=checkN (.mk op4 nm4 n4 ks4) by simp [chkC,ho,x1],if_pos x2]
    repeat' (first|refine Go.a rfl ?_|refine Go.rg ?_|refine GoR.nil ?_|refine Go.ret ?_|refine Go.b rfl ?_|(refine GoR.o (by rfl) (by rfl) ?_;(conv=>arg 1;simp only [G,Z,Y,Gx,vV,simprocAttr,fb2,fb3,fb9,fb32,fb34,fb35,fb37,fb93,t1,t2,t3,t4,t5,t6,beq_self_eq_true,bne_self_eq_false,wrap_succ (show i<4611686018427387904 by omega),show decide ((i:Int)<(w.length:Int))=true by simp;omega,show (checkN (.mk op4 nm4 n4 ks4) != 0)=true by simpa using x2]);show GoR ..)|(refine GoR.c c40 (by rfl) (by rfl) rfl ?_;(refine CallD.ret2 (hho _) ?_))|(refine GoR.c c39 (by rfl) (by rfl) rfl ?_;(first | refine CallD.ret2 (n1 _) ?_ | refine CallD.ret2 (n2 _) ?_))|refine GoR.s (by rfl) rfl rfl ?_|(refine GoR.splitG rfl (fun hc => ?_) (fun hc => ?_)<;>simp only [hc])|refine Go.condB rfl (fun hc => ?_) (fun hc => ?_))
    refine ⟨(by first | exact .inl rfl | exact .inr rfl),fin ?_⟩
    rw [resD_tmp (fn:=Tryz.f11) rfl]
    simp only [optThen_some,resultD_tmp,resultD_cell,G,Z,Y,Gx,vV,simprocAttr,fb2,fb3,fb9,fb32,fb34,fb35,fb37,fb93]
    exact ⟨_,_,rfl,.of_low (.int _ _),rfl⟩
   rw [x2] at n2
   rw [show chkC ⟨cop,(.mk op3 nm3 n3 ks3),(.mk op4 nm4 n4 ks4)⟩=0 by simp [chkC,ho,x1,x2],if_neg (by decide)] at hcw
   replace hn:=hn hcw
   repeat' (first|refine Go.a rfl ?_|refine Go.rg ?_|refine GoR.nil ?_|refine Go.ret ?_|refine Go.b rfl ?_|(refine GoR.o (by rfl) (by rfl) ?_;(conv=>arg 1;simp only [G,Z,Y,Gx,vV,simprocAttr,fb2,fb3,fb9,fb32,fb34,fb35,fb37,fb93,t1,t2,t3,t4,t5,t6,beq_self_eq_true,bne_self_eq_false,wrap_succ (show i<4611686018427387904 by omega),show decide ((i:Int)<(w.length:Int))=true by simp;omega]);show GoR ..)|(refine GoR.c c40 (by rfl) (by rfl) rfl ?_;(refine CallD.ret2 (hho _) ?_))|(refine GoR.c c39 (by rfl) (by rfl) rfl ?_;(first | refine CallD.ret2 (n1 _) ?_ | refine CallD.ret2 (n2 _) ?_))|refine GoR.s (by rfl) rfl rfl ?_|(refine GoR.splitG rfl (fun hc => ?_) (fun hc => ?_)<;>simp only [hc])|refine Go.condB rfl (fun hc => ?_) (fun hc => ?_))
   refine Go.lpN ?_
   refine Go.keep [(1,.ptr S.length 0),(4,.int .i64 (((i+1:Nat):Int):Int))] (.cons .refl (.cons .refl (.nil))) ?_
   exact hn
  ·clear next
   rw [hcw,List.drop_of_length_le (by omega)]
   repeat' (first|refine Go.a rfl ?_|refine Go.rg ?_|refine GoR.nil ?_|refine Go.ret ?_|refine Go.b rfl ?_|(refine GoR.o (by rfl) (by rfl) ?_;(conv=>arg 1;simp only [G,Z,Y,Gx,vV,simprocAttr,fb2,fb3,fb9,fb32,fb34,fb35,fb37,fb93,show decide ((i:Int)<(w.length:Int))=false by simp;omega]);show GoR ..)|refine GoR.s (by rfl) rfl rfl ?_|(refine GoR.splitG rfl (fun hc => ?_) (fun hc => ?_)<;>simp only [hc])|refine Go.condB rfl (fun hc => ?_) (fun hc => ?_))
   refine ⟨(by first | exact .inl rfl | exact .inr rfl),fin ?_⟩
   rw [resD_tmp (fn:=Tryz.f11) rfl]
   simp only [optThen_some,resultD_tmp,resultD_cell,G,Z,Y,Gx,vV,simprocAttr,fb2,fb3,fb9,fb32,fb34,fb35,fb37,fb93]
   exact ⟨_,_,rfl,.of_low (.int _ _),rfl⟩
 ·have fc:(fn=(⟨#[99,111,117,110,116]⟩:ByteArray))=False:=eq_false (by rw [hf];decide)
  have ff:(fn=(⟨#[102,105,114,115,116]⟩:ByteArray))=True:=eq_true hf
  have ft:(fn=(⟨#[116,111,112]⟩:ByteArray))=False:=eq_false (by rw [hf];decide)
  simp only [fc,ff,ft,ne_eq,not_true_eq_false,not_false_eq_true,true_and,false_and,if_false,reduceIte] at hv
  by_cases e1:checkN (.mk op1 nm1 n1 ks1)=0
  rotate_left
  ·rw [hv,if_pos e1]
   refine CallD.e Tryz.func11 rfl Tryz.ntmps11 (by rfl) ?_
   repeat' (first|refine Go.a rfl ?_|refine Go.rg ?_|refine GoR.nil ?_|refine Go.ret ?_|refine Go.b rfl ?_|(refine GoR.o (by rfl) (by rfl) ?_;(conv=>arg 1;simp only [G,Z,Y,Gx,vV,simprocAttr,fb2,fb3,fb9,fb32,fb34,fb35,fb37,fb93,fc,ff,ft,decide_true,decide_false,Bool.not_true,Bool.not_false,not_false_eq_true,not_true_eq_false,eq_self_iff_true,ne_eq,bne_self_eq_false,beq_self_eq_true,show (checkN (.mk op1 nm1 n1 ks1)==0)=false by simpa using e1,show (checkN (.mk op1 nm1 n1 ks1) != 0)=true by simpa using e1]);show GoR ..)|(refine GoR.c c33 (by rfl) (by rfl) rfl ?_;(refine CallD.ret2 (hfu _) ?_))|(refine GoR.c c39 (by rfl) (by rfl) rfl ?_;(first | refine CallD.ret2 (hc1 _) ?_ | refine CallD.ret2 (hc2 _) ?_))|refine GoR.s (by rfl) rfl rfl ?_|(refine GoR.splitG rfl (fun hc => ?_) (fun hc => ?_)<;>simp only [hc])|refine Go.condB rfl (fun hc => ?_) (fun hc => ?_))
   refine ⟨(by first | exact .inl rfl | exact .inr rfl),fin ?_⟩
   rw [resD_tmp (fn:=Tryz.f11) rfl]
   simp only [optThen_some,resultD_tmp,resultD_cell,G,Z,Y,Gx,vV,simprocAttr,fb2,fb3,fb9,fb32,fb34,fb35,fb37,fb93]
   exact ⟨_,_,rfl,.of_low (.int _ _),rfl⟩
  rw [if_neg (by simpa using e1)] at hv
  rw [e1] at hc1
  by_cases e2:checkN (.mk op2 nm2 n2 ks2)=0
  rotate_left
  ·rw [hv,if_pos e2]
   refine CallD.e Tryz.func11 rfl Tryz.ntmps11 (by rfl) ?_
   repeat' (first|refine Go.a rfl ?_|refine Go.rg ?_|refine GoR.nil ?_|refine Go.ret ?_|refine Go.b rfl ?_|(refine GoR.o (by rfl) (by rfl) ?_;(conv=>arg 1;simp only [G,Z,Y,Gx,vV,simprocAttr,fb2,fb3,fb9,fb32,fb34,fb35,fb37,fb93,fc,ff,ft,decide_true,decide_false,Bool.not_true,Bool.not_false,not_false_eq_true,not_true_eq_false,eq_self_iff_true,ne_eq,bne_self_eq_false,beq_self_eq_true,show (checkN (.mk op2 nm2 n2 ks2) != 0)=true by simpa using e2]);show GoR ..)|(refine GoR.c c33 (by rfl) (by rfl) rfl ?_;(refine CallD.ret2 (hfu _) ?_))|(refine GoR.c c39 (by rfl) (by rfl) rfl ?_;(first | refine CallD.ret2 (hc1 _) ?_ | refine CallD.ret2 (hc2 _) ?_))|refine GoR.s (by rfl) rfl rfl ?_|(refine GoR.splitG rfl (fun hc => ?_) (fun hc => ?_)<;>simp only [hc])|refine Go.condB rfl (fun hc => ?_) (fun hc => ?_))
   refine ⟨(by first | exact .inl rfl | exact .inr rfl),fin ?_⟩
   rw [resD_tmp (fn:=Tryz.f11) rfl]
   simp only [optThen_some,resultD_tmp,resultD_cell,G,Z,Y,Gx,vV,simprocAttr,fb2,fb3,fb9,fb32,fb34,fb35,fb37,fb93]
   exact ⟨_,_,rfl,.of_low (.int _ _),rfl⟩
  rw [if_neg (by simpa using e2)] at hv
  rw [e2] at hc2
  by_cases q4:4<w.length
  ·rw [hv,if_pos q4]
   refine CallD.e Tryz.func11 rfl Tryz.ntmps11 (by rfl) ?_
   repeat' (first|refine Go.a rfl ?_|refine Go.rg ?_|refine GoR.nil ?_|refine Go.ret ?_|refine Go.b rfl ?_|(refine GoR.o (by rfl) (by rfl) ?_;(conv=>arg 1;simp only [G,Z,Y,Gx,vV,simprocAttr,fb2,fb3,fb9,fb32,fb34,fb35,fb37,fb93,fc,ff,ft,decide_true,decide_false,Bool.not_true,Bool.not_false,not_false_eq_true,not_true_eq_false,eq_self_iff_true,ne_eq,bne_self_eq_false,beq_self_eq_true,show decide ((w.length:Int)>4)=true by simp;omega,show decide (4<(w.length:Int))=true by simp;omega]);show GoR ..)|(refine GoR.c c33 (by rfl) (by rfl) rfl ?_;(refine CallD.ret2 (hfu _) ?_))|(refine GoR.c c39 (by rfl) (by rfl) rfl ?_;(first | refine CallD.ret2 (hc1 _) ?_ | refine CallD.ret2 (hc2 _) ?_))|refine GoR.s (by rfl) rfl rfl ?_|(refine GoR.splitG rfl (fun hc => ?_) (fun hc => ?_)<;>simp only [hc])|refine Go.condB rfl (fun hc => ?_) (fun hc => ?_))
   refine ⟨(by first | exact .inl rfl | exact .inr rfl),fin ?_⟩
   rw [resD_tmp (fn:=Tryz.f11) rfl]
   simp only [optThen_some,resultD_tmp,resultD_cell,G,Z,Y,Gx,vV,simprocAttr,fb2,fb3,fb9,fb32,fb34,fb35,fb37,fb93]
   exact ⟨_,_,rfl,.of_low (.int _ _),rfl⟩
  rw [if_neg q4] at hv
  rw [hv]
  have d4:decide ((w.length:Int)>4)=false:=by simp;omega
  have d5:decide (4<(w.length:Int))=false:=by simp;omega
  refine CallD.e Tryz.func11 rfl Tryz.ntmps11 (by rfl) ?_
  repeat' (first|refine Go.a rfl ?_|refine Go.rg ?_|refine GoR.nil ?_|refine Go.ret ?_|refine Go.b rfl ?_|(refine GoR.o (by rfl) (by rfl) ?_;(conv=>arg 1;simp only [G,Z,Y,Gx,vV,simprocAttr,fb2,fb3,fb9,fb32,fb34,fb35,fb37,fb93,fc,ff,ft,decide_true,decide_false,Bool.not_true,Bool.not_false,not_false_eq_true,not_true_eq_false,eq_self_iff_true,ne_eq,bne_self_eq_false,beq_self_eq_true,d4,d5]);show GoR ..)|(refine GoR.c c33 (by rfl) (by rfl) rfl ?_;(refine CallD.ret2 (hfu _) ?_))|(refine GoR.c c39 (by rfl) (by rfl) rfl ?_;(first | refine CallD.ret2 (hc1 _) ?_ | refine CallD.ret2 (hc2 _) ?_))|refine GoR.s (by rfl) rfl rfl ?_|(refine GoR.splitG rfl (fun hc => ?_) (fun hc => ?_)<;>simp only [hc])|refine Go.condB rfl (fun hc => ?_) (fun hc => ?_))
  refine Go.keep [(1,.ptr S.length 0),(4,.int .i64 (((0:Nat):Int):Int))] (.cons .refl (.cons .refl (.nil))) ?_
  refine Go.while (α:=Nat) (fun i=>w.length - i) (fun i=>[(1,.ptr S.length 0),(4,.int .i64 ((i:Int):Int))]) (fun _=>S++[.obj [.str fn,.int .i64 k,.str op1,.str nm1,.int .i64 n1,.sl none 4 ks1.length (ndsC ks1),.str op2,.str nm2,.int .i64 n2,.sl none 4 ks2.length (ndsC ks2),.sl none 9 w.length (cdsC w)]]) (fun i=>i≤w.length∧chkW w=chkW (w.drop i)) ?_ 0 ⟨Nat.zero_le _,rfl⟩
  rintro i ⟨hi,hcw⟩ next
  by_cases hil:i<w.length
  ·obtain ⟨t1,t2,t3,t4,t5,t6⟩:=cdsAt hil
   obtain ⟨hs1,hs2⟩:=h3 _ (List.getElem_mem hil)
   have n1:=refCheckN (orc:=O) _ hs1
   have n2:=refCheckN (orc:=O) _ hs2
   have hho:=refHolds (orc:=O) w[i].op 0 0
   rw [holds_ok] at hho
   rw [chkW_drop hil] at hcw
   have hn:=fun e=>next (i+1) (by omega) ⟨hil,e⟩
   clear next hs1 hs2 h3
   generalize w[i]=cd at *
   obtain ⟨cop,⟨op3,nm3,n3,ks3⟩,⟨op4,nm4,n4,ks4⟩⟩:=cd
   simp only [Nd.c_mk] at n1 n2 t2 t4 t6 hho
   cases ho:opOk cop with
   | false=>
    rw [ho] at hho
    rw [hcw,show chkC ⟨cop,(.mk op3 nm3 n3 ks3),(.mk op4 nm4 n4 ks4)⟩=5 by simp [chkC,ho]]
    repeat' (first|refine Go.a rfl ?_|refine Go.rg ?_|refine GoR.nil ?_|refine Go.ret ?_|refine Go.b rfl ?_|(refine GoR.o (by rfl) (by rfl) ?_;(conv=>arg 1;simp only [G,Z,Y,Gx,vV,simprocAttr,fb2,fb3,fb9,fb32,fb34,fb35,fb37,fb93,t1,t2,t3,t4,t5,t6,beq_self_eq_true,bne_self_eq_false,wrap_succ (show i<4611686018427387904 by omega),show decide ((i:Int)<(w.length:Int))=true by simp;omega]);show GoR ..)|(refine GoR.c c40 (by rfl) (by rfl) rfl ?_;(refine CallD.ret2 (hho _) ?_))|(refine GoR.c c39 (by rfl) (by rfl) rfl ?_;(first | refine CallD.ret2 (n1 _) ?_ | refine CallD.ret2 (n2 _) ?_))|refine GoR.s (by rfl) rfl rfl ?_|(refine GoR.splitG rfl (fun hc => ?_) (fun hc => ?_)<;>simp only [hc])|refine Go.condB rfl (fun hc => ?_) (fun hc => ?_))
    refine ⟨(by first | exact .inl rfl | exact .inr rfl),fin ?_⟩
    rw [resD_tmp (fn:=Tryz.f11) rfl]
    simp only [optThen_some,resultD_tmp,resultD_cell,G,Z,Y,Gx,vV,simprocAttr,fb2,fb3,fb9,fb32,fb34,fb35,fb37,fb93]
    exact ⟨_,_,rfl,.of_low (.int _ _),rfl⟩
   | true=>
   rw [ho] at hho
   by_cases x1:checkN (.mk op3 nm3 n3 ks3)=0
   rotate_left
   ·rw [hcw,show chkC ⟨cop,(.mk op3 nm3 n3 ks3),(.mk op4 nm4 n4 ks4)⟩=checkN (.mk op3 nm3 n3 ks3) by simp [chkC,ho,x1],if_pos x1]
    repeat' (first|refine Go.a rfl ?_|refine Go.rg ?_|refine GoR.nil ?_|refine Go.ret ?_|refine Go.b rfl ?_|(refine GoR.o (by rfl) (by rfl) ?_;(conv=>arg 1;simp only [G,Z,Y,Gx,vV,simprocAttr,fb2,fb3,fb9,fb32,fb34,fb35,fb37,fb93,t1,t2,t3,t4,t5,t6,beq_self_eq_true,bne_self_eq_false,wrap_succ (show i<4611686018427387904 by omega),show decide ((i:Int)<(w.length:Int))=true by simp;omega,show (checkN (.mk op3 nm3 n3 ks3)==0)=false by simpa using x1,show (checkN (.mk op3 nm3 n3 ks3) != 0)=true by simpa using x1]);show GoR ..)|(refine GoR.c c40 (by rfl) (by rfl) rfl ?_;(refine CallD.ret2 (hho _) ?_))|(refine GoR.c c39 (by rfl) (by rfl) rfl ?_;(first | refine CallD.ret2 (n1 _) ?_ | refine CallD.ret2 (n2 _) ?_))|refine GoR.s (by rfl) rfl rfl ?_|(refine GoR.splitG rfl (fun hc => ?_) (fun hc => ?_)<;>simp only [hc])|refine Go.condB rfl (fun hc => ?_) (fun hc => ?_))
    refine ⟨(by first | exact .inl rfl | exact .inr rfl),fin ?_⟩
    rw [resD_tmp (fn:=Tryz.f11) rfl]
    simp only [optThen_some,resultD_tmp,resultD_cell,G,Z,Y,Gx,vV,simprocAttr,fb2,fb3,fb9,fb32,fb34,fb35,fb37,fb93]
    exact ⟨_,_,rfl,.of_low (.int _ _),rfl⟩
   rw [x1] at n1
   by_cases x2:checkN (.mk op4 nm4 n4 ks4)=0
   rotate_left
   ·rw [hcw,show chkC ⟨cop,(.mk op3 nm3 n3 ks3),(.mk op4 nm4 n4 ks4)⟩=checkN (.mk op4 nm4 n4 ks4) by simp [chkC,ho,x1],if_pos x2]
    repeat' (first|refine Go.a rfl ?_|refine Go.rg ?_|refine GoR.nil ?_|refine Go.ret ?_|refine Go.b rfl ?_|(refine GoR.o (by rfl) (by rfl) ?_;(conv=>arg 1;simp only [G,Z,Y,Gx,vV,simprocAttr,fb2,fb3,fb9,fb32,fb34,fb35,fb37,fb93,t1,t2,t3,t4,t5,t6,beq_self_eq_true,bne_self_eq_false,wrap_succ (show i<4611686018427387904 by omega),show decide ((i:Int)<(w.length:Int))=true by simp;omega,show (checkN (.mk op4 nm4 n4 ks4) != 0)=true by simpa using x2]);show GoR ..)|(refine GoR.c c40 (by rfl) (by rfl) rfl ?_;(refine CallD.ret2 (hho _) ?_))|(refine GoR.c c39 (by rfl) (by rfl) rfl ?_;(first | refine CallD.ret2 (n1 _) ?_ | refine CallD.ret2 (n2 _) ?_))|refine GoR.s (by rfl) rfl rfl ?_|(refine GoR.splitG rfl (fun hc => ?_) (fun hc => ?_)<;>simp only [hc])|refine Go.condB rfl (fun hc => ?_) (fun hc => ?_))
    refine ⟨(by first | exact .inl rfl | exact .inr rfl),fin ?_⟩
    rw [resD_tmp (fn:=Tryz.f11) rfl]
    simp only [optThen_some,resultD_tmp,resultD_cell,G,Z,Y,Gx,vV,simprocAttr,fb2,fb3,fb9,fb32,fb34,fb35,fb37,fb93]
    exact ⟨_,_,rfl,.of_low (.int _ _),rfl⟩
   rw [x2] at n2
   rw [show chkC ⟨cop,(.mk op3 nm3 n3 ks3),(.mk op4 nm4 n4 ks4)⟩=0 by simp [chkC,ho,x1,x2],if_neg (by decide)] at hcw
   replace hn:=hn hcw
   repeat' (first|refine Go.a rfl ?_|refine Go.rg ?_|refine GoR.nil ?_|refine Go.ret ?_|refine Go.b rfl ?_|(refine GoR.o (by rfl) (by rfl) ?_;(conv=>arg 1;simp only [G,Z,Y,Gx,vV,simprocAttr,fb2,fb3,fb9,fb32,fb34,fb35,fb37,fb93,t1,t2,t3,t4,t5,t6,beq_self_eq_true,bne_self_eq_false,wrap_succ (show i<4611686018427387904 by omega),show decide ((i:Int)<(w.length:Int))=true by simp;omega]);show GoR ..)|(refine GoR.c c40 (by rfl) (by rfl) rfl ?_;(refine CallD.ret2 (hho _) ?_))|(refine GoR.c c39 (by rfl) (by rfl) rfl ?_;(first | refine CallD.ret2 (n1 _) ?_ | refine CallD.ret2 (n2 _) ?_))|refine GoR.s (by rfl) rfl rfl ?_|(refine GoR.splitG rfl (fun hc => ?_) (fun hc => ?_)<;>simp only [hc])|refine Go.condB rfl (fun hc => ?_) (fun hc => ?_))
   refine Go.lpN ?_
   refine Go.keep [(1,.ptr S.length 0),(4,.int .i64 (((i+1:Nat):Int):Int))] (.cons .refl (.cons .refl (.nil))) ?_
   exact hn
  ·clear next
   rw [hcw,List.drop_of_length_le (by omega)]
   repeat' (first|refine Go.a rfl ?_|refine Go.rg ?_|refine GoR.nil ?_|refine Go.ret ?_|refine Go.b rfl ?_|(refine GoR.o (by rfl) (by rfl) ?_;(conv=>arg 1;simp only [G,Z,Y,Gx,vV,simprocAttr,fb2,fb3,fb9,fb32,fb34,fb35,fb37,fb93,show decide ((i:Int)<(w.length:Int))=false by simp;omega]);show GoR ..)|refine GoR.s (by rfl) rfl rfl ?_|(refine GoR.splitG rfl (fun hc => ?_) (fun hc => ?_)<;>simp only [hc])|refine Go.condB rfl (fun hc => ?_) (fun hc => ?_))
   refine ⟨(by first | exact .inl rfl | exact .inr rfl),fin ?_⟩
   rw [resD_tmp (fn:=Tryz.f11) rfl]
   simp only [optThen_some,resultD_tmp,resultD_cell,G,Z,Y,Gx,vV,simprocAttr,fb2,fb3,fb9,fb32,fb34,fb35,fb37,fb93]
   exact ⟨_,_,rfl,.of_low (.int _ _),rfl⟩
 ·have fc:(fn=(⟨#[99,111,117,110,116]⟩:ByteArray))=False:=eq_false (by rw [hf];decide)
  have ff:(fn=(⟨#[102,105,114,115,116]⟩:ByteArray))=False:=eq_false (by rw [hf];decide)
  have ft:(fn=(⟨#[116,111,112]⟩:ByteArray))=True:=eq_true hf
  simp only [fc,ff,ft,ne_eq,not_true_eq_false,not_false_eq_true,true_and,false_and,if_false,reduceIte] at hv
  by_cases k1:k<1
  ·rw [hv,if_pos (.inl k1)]
   refine CallD.e Tryz.func11 rfl Tryz.ntmps11 (by rfl) ?_
   repeat' (first|refine Go.a rfl ?_|refine Go.rg ?_|refine GoR.nil ?_|refine Go.ret ?_|refine Go.b rfl ?_|(refine GoR.o (by rfl) (by rfl) ?_;(conv=>arg 1;simp only [G,Z,Y,Gx,vV,simprocAttr,fb2,fb3,fb9,fb32,fb34,fb35,fb37,fb93,fc,ff,ft,decide_true,decide_false,Bool.not_true,Bool.not_false,not_false_eq_true,not_true_eq_false,eq_self_iff_true,ne_eq,bne_self_eq_false,beq_self_eq_true,show decide (k<1)=true by simpa using k1]);show GoR ..)|(refine GoR.c c33 (by rfl) (by rfl) rfl ?_;(refine CallD.ret2 (hfu _) ?_))|refine GoR.s (by rfl) rfl rfl ?_|(refine GoR.splitG rfl (fun hc => ?_) (fun hc => ?_)<;>simp only [hc])|refine Go.condB rfl (fun hc => ?_) (fun hc => ?_))
   refine ⟨(by first | exact .inl rfl | exact .inr rfl),fin ?_⟩
   rw [resD_tmp (fn:=Tryz.f11) rfl]
   simp only [optThen_some,resultD_tmp,resultD_cell,G,Z,Y,Gx,vV,simprocAttr,fb2,fb3,fb9,fb32,fb34,fb35,fb37,fb93]
   exact ⟨_,_,rfl,.of_low (.int _ _),rfl⟩
  by_cases k2:16<k
  ·rw [hv,if_pos (.inr k2)]
   refine CallD.e Tryz.func11 rfl Tryz.ntmps11 (by rfl) ?_
   repeat' (first|refine Go.a rfl ?_|refine Go.rg ?_|refine GoR.nil ?_|refine Go.ret ?_|refine Go.b rfl ?_|(refine GoR.o (by rfl) (by rfl) ?_;(conv=>arg 1;simp only [G,Z,Y,Gx,vV,simprocAttr,fb2,fb3,fb9,fb32,fb34,fb35,fb37,fb93,fc,ff,ft,decide_true,decide_false,Bool.not_true,Bool.not_false,not_false_eq_true,not_true_eq_false,eq_self_iff_true,ne_eq,bne_self_eq_false,beq_self_eq_true,show decide (k<1)=false by simpa using k1,show decide (16<k)=true by simpa using k2,show decide (k>16)=true by simpa using k2]);show GoR ..)|(refine GoR.c c33 (by rfl) (by rfl) rfl ?_;(refine CallD.ret2 (hfu _) ?_))|refine GoR.s (by rfl) rfl rfl ?_|(refine GoR.splitG rfl (fun hc => ?_) (fun hc => ?_)<;>simp only [hc])|refine Go.condB rfl (fun hc => ?_) (fun hc => ?_))
   refine ⟨(by first | exact .inl rfl | exact .inr rfl),fin ?_⟩
   rw [resD_tmp (fn:=Tryz.f11) rfl]
   simp only [optThen_some,resultD_tmp,resultD_cell,G,Z,Y,Gx,vV,simprocAttr,fb2,fb3,fb9,fb32,fb34,fb35,fb37,fb93]
   exact ⟨_,_,rfl,.of_low (.int _ _),rfl⟩
  rw [if_neg (by omega)] at hv
  have k3:decide (k<1)=false:=by simpa using k1
  have k4:decide (16<k)=false:=by simpa using k2
  have k5:decide (k>16)=false:=by simpa using k2
  by_cases e1:checkN (.mk op1 nm1 n1 ks1)=0
  rotate_left
  ·rw [hv,if_pos e1]
   refine CallD.e Tryz.func11 rfl Tryz.ntmps11 (by rfl) ?_
   repeat' (first|refine Go.a rfl ?_|refine Go.rg ?_|refine GoR.nil ?_|refine Go.ret ?_|refine Go.b rfl ?_|(refine GoR.o (by rfl) (by rfl) ?_;(conv=>arg 1;simp only [G,Z,Y,Gx,vV,simprocAttr,fb2,fb3,fb9,fb32,fb34,fb35,fb37,fb93,fc,ff,ft,decide_true,decide_false,Bool.not_true,Bool.not_false,not_false_eq_true,not_true_eq_false,eq_self_iff_true,ne_eq,bne_self_eq_false,beq_self_eq_true,k3,k4,k5,show (checkN (.mk op1 nm1 n1 ks1)==0)=false by simpa using e1,show (checkN (.mk op1 nm1 n1 ks1) != 0)=true by simpa using e1]);show GoR ..)|(refine GoR.c c33 (by rfl) (by rfl) rfl ?_;(refine CallD.ret2 (hfu _) ?_))|(refine GoR.c c39 (by rfl) (by rfl) rfl ?_;(first | refine CallD.ret2 (hc1 _) ?_ | refine CallD.ret2 (hc2 _) ?_))|refine GoR.s (by rfl) rfl rfl ?_|(refine GoR.splitG rfl (fun hc => ?_) (fun hc => ?_)<;>simp only [hc])|refine Go.condB rfl (fun hc => ?_) (fun hc => ?_))
   refine ⟨(by first | exact .inl rfl | exact .inr rfl),fin ?_⟩
   rw [resD_tmp (fn:=Tryz.f11) rfl]
   simp only [optThen_some,resultD_tmp,resultD_cell,G,Z,Y,Gx,vV,simprocAttr,fb2,fb3,fb9,fb32,fb34,fb35,fb37,fb93]
   exact ⟨_,_,rfl,.of_low (.int _ _),rfl⟩
  rw [if_neg (by simpa using e1)] at hv
  rw [e1] at hc1
  by_cases q4:4<w.length
  ·rw [hv,if_pos q4]
   refine CallD.e Tryz.func11 rfl Tryz.ntmps11 (by rfl) ?_
   repeat' (first|refine Go.a rfl ?_|refine Go.rg ?_|refine GoR.nil ?_|refine Go.ret ?_|refine Go.b rfl ?_|(refine GoR.o (by rfl) (by rfl) ?_;(conv=>arg 1;simp only [G,Z,Y,Gx,vV,simprocAttr,fb2,fb3,fb9,fb32,fb34,fb35,fb37,fb93,fc,ff,ft,decide_true,decide_false,Bool.not_true,Bool.not_false,not_false_eq_true,not_true_eq_false,eq_self_iff_true,ne_eq,bne_self_eq_false,beq_self_eq_true,k3,k4,k5,show decide ((w.length:Int)>4)=true by simp;omega,show decide (4<(w.length:Int))=true by simp;omega]);show GoR ..)|(refine GoR.c c33 (by rfl) (by rfl) rfl ?_;(refine CallD.ret2 (hfu _) ?_))|(refine GoR.c c39 (by rfl) (by rfl) rfl ?_;(first | refine CallD.ret2 (hc1 _) ?_ | refine CallD.ret2 (hc2 _) ?_))|refine GoR.s (by rfl) rfl rfl ?_|(refine GoR.splitG rfl (fun hc => ?_) (fun hc => ?_)<;>simp only [hc])|refine Go.condB rfl (fun hc => ?_) (fun hc => ?_))
   refine ⟨(by first | exact .inl rfl | exact .inr rfl),fin ?_⟩
   rw [resD_tmp (fn:=Tryz.f11) rfl]
   simp only [optThen_some,resultD_tmp,resultD_cell,G,Z,Y,Gx,vV,simprocAttr,fb2,fb3,fb9,fb32,fb34,fb35,fb37,fb93]
   exact ⟨_,_,rfl,.of_low (.int _ _),rfl⟩
  rw [if_neg q4] at hv
  rw [hv]
  have d4:decide ((w.length:Int)>4)=false:=by simp;omega
  have d5:decide (4<(w.length:Int))=false:=by simp;omega
  refine CallD.e Tryz.func11 rfl Tryz.ntmps11 (by rfl) ?_
  repeat' (first|refine Go.a rfl ?_|refine Go.rg ?_|refine GoR.nil ?_|refine Go.ret ?_|refine Go.b rfl ?_|(refine GoR.o (by rfl) (by rfl) ?_;(conv=>arg 1;simp only [G,Z,Y,Gx,vV,simprocAttr,fb2,fb3,fb9,fb32,fb34,fb35,fb37,fb93,fc,ff,ft,decide_true,decide_false,Bool.not_true,Bool.not_false,not_false_eq_true,not_true_eq_false,eq_self_iff_true,ne_eq,bne_self_eq_false,beq_self_eq_true,d4,d5,k3,k4,k5]);show GoR ..)|(refine GoR.c c33 (by rfl) (by rfl) rfl ?_;(refine CallD.ret2 (hfu _) ?_))|(refine GoR.c c39 (by rfl) (by rfl) rfl ?_;(first | refine CallD.ret2 (hc1 _) ?_ | refine CallD.ret2 (hc2 _) ?_))|refine GoR.s (by rfl) rfl rfl ?_|(refine GoR.splitG rfl (fun hc => ?_) (fun hc => ?_)<;>simp only [hc])|refine Go.condB rfl (fun hc => ?_) (fun hc => ?_))
  refine Go.keep [(1,.ptr S.length 0),(4,.int .i64 (((0:Nat):Int):Int))] (.cons .refl (.cons .refl (.nil))) ?_
  refine Go.while (α:=Nat) (fun i=>w.length - i) (fun i=>[(1,.ptr S.length 0),(4,.int .i64 ((i:Int):Int))]) (fun _=>S++[.obj [.str fn,.int .i64 k,.str op1,.str nm1,.int .i64 n1,.sl none 4 ks1.length (ndsC ks1),.str op2,.str nm2,.int .i64 n2,.sl none 4 ks2.length (ndsC ks2),.sl none 9 w.length (cdsC w)]]) (fun i=>i≤w.length∧chkW w=chkW (w.drop i)) ?_ 0 ⟨Nat.zero_le _,rfl⟩
  rintro i ⟨hi,hcw⟩ next
  by_cases hil:i<w.length
  ·obtain ⟨t1,t2,t3,t4,t5,t6⟩:=cdsAt hil
   obtain ⟨hs1,hs2⟩:=h3 _ (List.getElem_mem hil)
   have n1:=refCheckN (orc:=O) _ hs1
   have n2:=refCheckN (orc:=O) _ hs2
   have hho:=refHolds (orc:=O) w[i].op 0 0
   rw [holds_ok] at hho
   rw [chkW_drop hil] at hcw
   have hn:=fun e=>next (i+1) (by omega) ⟨hil,e⟩
   clear next hs1 hs2 h3
   generalize w[i]=cd at *
   obtain ⟨cop,⟨op3,nm3,n3,ks3⟩,⟨op4,nm4,n4,ks4⟩⟩:=cd
   simp only [Nd.c_mk] at n1 n2 t2 t4 t6 hho
   cases ho:opOk cop with
   | false=>
    rw [ho] at hho
    rw [hcw,show chkC ⟨cop,(.mk op3 nm3 n3 ks3),(.mk op4 nm4 n4 ks4)⟩=5 by simp [chkC,ho]]
    repeat' (first|refine Go.a rfl ?_|refine Go.rg ?_|refine GoR.nil ?_|refine Go.ret ?_|refine Go.b rfl ?_|(refine GoR.o (by rfl) (by rfl) ?_;(conv=>arg 1;simp only [G,Z,Y,Gx,vV,simprocAttr,fb2,fb3,fb9,fb32,fb34,fb35,fb37,fb93,t1,t2,t3,t4,t5,t6,beq_self_eq_true,bne_self_eq_false,wrap_succ (show i<4611686018427387904 by omega),show decide ((i:Int)<(w.length:Int))=true by simp;omega]);show GoR ..)|(refine GoR.c c40 (by rfl) (by rfl) rfl ?_;(refine CallD.ret2 (hho _) ?_))|(refine GoR.c c39 (by rfl) (by rfl) rfl ?_;(first | refine CallD.ret2 (n1 _) ?_ | refine CallD.ret2 (n2 _) ?_))|refine GoR.s (by rfl) rfl rfl ?_|(refine GoR.splitG rfl (fun hc => ?_) (fun hc => ?_)<;>simp only [hc])|refine Go.condB rfl (fun hc => ?_) (fun hc => ?_))
    refine ⟨(by first | exact .inl rfl | exact .inr rfl),fin ?_⟩
    rw [resD_tmp (fn:=Tryz.f11) rfl]
    simp only [optThen_some,resultD_tmp,resultD_cell,G,Z,Y,Gx,vV,simprocAttr,fb2,fb3,fb9,fb32,fb34,fb35,fb37,fb93]
    exact ⟨_,_,rfl,.of_low (.int _ _),rfl⟩
   | true=>
   rw [ho] at hho
   by_cases x1:checkN (.mk op3 nm3 n3 ks3)=0
   rotate_left
   ·rw [hcw,show chkC ⟨cop,(.mk op3 nm3 n3 ks3),(.mk op4 nm4 n4 ks4)⟩=checkN (.mk op3 nm3 n3 ks3) by simp [chkC,ho,x1],if_pos x1]
    repeat' (first|refine Go.a rfl ?_|refine Go.rg ?_|refine GoR.nil ?_|refine Go.ret ?_|refine Go.b rfl ?_|(refine GoR.o (by rfl) (by rfl) ?_;(conv=>arg 1;simp only [G,Z,Y,Gx,vV,simprocAttr,fb2,fb3,fb9,fb32,fb34,fb35,fb37,fb93,t1,t2,t3,t4,t5,t6,beq_self_eq_true,bne_self_eq_false,wrap_succ (show i<4611686018427387904 by omega),show decide ((i:Int)<(w.length:Int))=true by simp;omega,show (checkN (.mk op3 nm3 n3 ks3)==0)=false by simpa using x1,show (checkN (.mk op3 nm3 n3 ks3) != 0)=true by simpa using x1]);show GoR ..)|(refine GoR.c c40 (by rfl) (by rfl) rfl ?_;(refine CallD.ret2 (hho _) ?_))|(refine GoR.c c39 (by rfl) (by rfl) rfl ?_;(first | refine CallD.ret2 (n1 _) ?_ | refine CallD.ret2 (n2 _) ?_))|refine GoR.s (by rfl) rfl rfl ?_|(refine GoR.splitG rfl (fun hc => ?_) (fun hc => ?_)<;>simp only [hc])|refine Go.condB rfl (fun hc => ?_) (fun hc => ?_))
    refine ⟨(by first | exact .inl rfl | exact .inr rfl),fin ?_⟩
    rw [resD_tmp (fn:=Tryz.f11) rfl]
    simp only [optThen_some,resultD_tmp,resultD_cell,G,Z,Y,Gx,vV,simprocAttr,fb2,fb3,fb9,fb32,fb34,fb35,fb37,fb93]
    exact ⟨_,_,rfl,.of_low (.int _ _),rfl⟩
   rw [x1] at n1
   by_cases x2:checkN (.mk op4 nm4 n4 ks4)=0
   rotate_left
   ·rw [hcw,show chkC ⟨cop,(.mk op3 nm3 n3 ks3),(.mk op4 nm4 n4 ks4)⟩=checkN (.mk op4 nm4 n4 ks4) by simp [chkC,ho,x1],if_pos x2]
    repeat' (first|refine Go.a rfl ?_|refine Go.rg ?_|refine GoR.nil ?_|refine Go.ret ?_|refine Go.b rfl ?_|(refine GoR.o (by rfl) (by rfl) ?_;(conv=>arg 1;simp only [G,Z,Y,Gx,vV,simprocAttr,fb2,fb3,fb9,fb32,fb34,fb35,fb37,fb93,t1,t2,t3,t4,t5,t6,beq_self_eq_true,bne_self_eq_false,wrap_succ (show i<4611686018427387904 by omega),show decide ((i:Int)<(w.length:Int))=true by simp;omega,show (checkN (.mk op4 nm4 n4 ks4) != 0)=true by simpa using x2]);show GoR ..)|(refine GoR.c c40 (by rfl) (by rfl) rfl ?_;(refine CallD.ret2 (hho _) ?_))|(refine GoR.c c39 (by rfl) (by rfl) rfl ?_;(first | refine CallD.ret2 (n1 _) ?_ | refine CallD.ret2 (n2 _) ?_))|refine GoR.s (by rfl) rfl rfl ?_|(refine GoR.splitG rfl (fun hc => ?_) (fun hc => ?_)<;>simp only [hc])|refine Go.condB rfl (fun hc => ?_) (fun hc => ?_))
    refine ⟨(by first | exact .inl rfl | exact .inr rfl),fin ?_⟩
    rw [resD_tmp (fn:=Tryz.f11) rfl]
    simp only [optThen_some,resultD_tmp,resultD_cell,G,Z,Y,Gx,vV,simprocAttr,fb2,fb3,fb9,fb32,fb34,fb35,fb37,fb93]
    exact ⟨_,_,rfl,.of_low (.int _ _),rfl⟩
   rw [x2] at n2
   rw [show chkC ⟨cop,(.mk op3 nm3 n3 ks3),(.mk op4 nm4 n4 ks4)⟩=0 by simp [chkC,ho,x1,x2],if_neg (by decide)] at hcw
   replace hn:=hn hcw
   repeat' (first|refine Go.a rfl ?_|refine Go.rg ?_|refine GoR.nil ?_|refine Go.ret ?_|refine Go.b rfl ?_|(refine GoR.o (by rfl) (by rfl) ?_;(conv=>arg 1;simp only [G,Z,Y,Gx,vV,simprocAttr,fb2,fb3,fb9,fb32,fb34,fb35,fb37,fb93,t1,t2,t3,t4,t5,t6,beq_self_eq_true,bne_self_eq_false,wrap_succ (show i<4611686018427387904 by omega),show decide ((i:Int)<(w.length:Int))=true by simp;omega]);show GoR ..)|(refine GoR.c c40 (by rfl) (by rfl) rfl ?_;(refine CallD.ret2 (hho _) ?_))|(refine GoR.c c39 (by rfl) (by rfl) rfl ?_;(first | refine CallD.ret2 (n1 _) ?_ | refine CallD.ret2 (n2 _) ?_))|refine GoR.s (by rfl) rfl rfl ?_|(refine GoR.splitG rfl (fun hc => ?_) (fun hc => ?_)<;>simp only [hc])|refine Go.condB rfl (fun hc => ?_) (fun hc => ?_))
   refine Go.lpN ?_
   refine Go.keep [(1,.ptr S.length 0),(4,.int .i64 (((i+1:Nat):Int):Int))] (.cons .refl (.cons .refl (.nil))) ?_
   exact hn
  ·clear next
   rw [hcw,List.drop_of_length_le (by omega)]
   repeat' (first|refine Go.a rfl ?_|refine Go.rg ?_|refine GoR.nil ?_|refine Go.ret ?_|refine Go.b rfl ?_|(refine GoR.o (by rfl) (by rfl) ?_;(conv=>arg 1;simp only [G,Z,Y,Gx,vV,simprocAttr,fb2,fb3,fb9,fb32,fb34,fb35,fb37,fb93,show decide ((i:Int)<(w.length:Int))=false by simp;omega]);show GoR ..)|refine GoR.s (by rfl) rfl rfl ?_|(refine GoR.splitG rfl (fun hc => ?_) (fun hc => ?_)<;>simp only [hc])|refine Go.condB rfl (fun hc => ?_) (fun hc => ?_))
   refine ⟨(by first | exact .inl rfl | exact .inr rfl),fin ?_⟩
   rw [resD_tmp (fn:=Tryz.f11) rfl]
   simp only [optThen_some,resultD_tmp,resultD_cell,G,Z,Y,Gx,vV,simprocAttr,fb2,fb3,fb9,fb32,fb34,fb35,fb37,fb93]
   exact ⟨_,_,rfl,.of_low (.int _ _),rfl⟩
 ·have fc:(fn=(⟨#[99,111,117,110,116]⟩:ByteArray))=False:=eq_false f1
  have ff:(fn=(⟨#[102,105,114,115,116]⟩:ByteArray))=False:=eq_false f3
  have ft:(fn=(⟨#[116,111,112]⟩:ByteArray))=False:=eq_false f2
  simp only [fc,ff,ft,ne_eq,not_true_eq_false,not_false_eq_true,true_and,false_and,if_false,reduceIte] at hv
  by_cases e1:checkN (.mk op1 nm1 n1 ks1)=0
  rotate_left
  ·rw [hv,if_pos e1]
   refine CallD.e Tryz.func11 rfl Tryz.ntmps11 (by rfl) ?_
   repeat' (first|refine Go.a rfl ?_|refine Go.rg ?_|refine GoR.nil ?_|refine Go.ret ?_|refine Go.b rfl ?_|(refine GoR.o (by rfl) (by rfl) ?_;(conv=>arg 1;simp only [G,Z,Y,Gx,vV,simprocAttr,fb2,fb3,fb9,fb32,fb34,fb35,fb37,fb93,fc,ff,ft,decide_true,decide_false,Bool.not_true,Bool.not_false,not_false_eq_true,not_true_eq_false,eq_self_iff_true,ne_eq,bne_self_eq_false,beq_self_eq_true,show (checkN (.mk op1 nm1 n1 ks1)==0)=false by simpa using e1,show (checkN (.mk op1 nm1 n1 ks1) != 0)=true by simpa using e1]);show GoR ..)|(refine GoR.c c33 (by rfl) (by rfl) rfl ?_;(refine CallD.ret2 (hfu _) ?_))|(refine GoR.c c39 (by rfl) (by rfl) rfl ?_;(first | refine CallD.ret2 (hc1 _) ?_ | refine CallD.ret2 (hc2 _) ?_))|refine GoR.s (by rfl) rfl rfl ?_|(refine GoR.splitG rfl (fun hc => ?_) (fun hc => ?_)<;>simp only [hc])|refine Go.condB rfl (fun hc => ?_) (fun hc => ?_))
   refine ⟨(by first | exact .inl rfl | exact .inr rfl),fin ?_⟩
   rw [resD_tmp (fn:=Tryz.f11) rfl]
   simp only [optThen_some,resultD_tmp,resultD_cell,G,Z,Y,Gx,vV,simprocAttr,fb2,fb3,fb9,fb32,fb34,fb35,fb37,fb93]
   exact ⟨_,_,rfl,.of_low (.int _ _),rfl⟩
  rw [if_neg (by simpa using e1)] at hv
  rw [e1] at hc1
  by_cases q4:4<w.length
  ·rw [hv,if_pos q4]
   refine CallD.e Tryz.func11 rfl Tryz.ntmps11 (by rfl) ?_
   repeat' (first|refine Go.a rfl ?_|refine Go.rg ?_|refine GoR.nil ?_|refine Go.ret ?_|refine Go.b rfl ?_|(refine GoR.o (by rfl) (by rfl) ?_;(conv=>arg 1;simp only [G,Z,Y,Gx,vV,simprocAttr,fb2,fb3,fb9,fb32,fb34,fb35,fb37,fb93,fc,ff,ft,decide_true,decide_false,Bool.not_true,Bool.not_false,not_false_eq_true,not_true_eq_false,eq_self_iff_true,ne_eq,bne_self_eq_false,beq_self_eq_true,show decide ((w.length:Int)>4)=true by simp;omega,show decide (4<(w.length:Int))=true by simp;omega]);show GoR ..)|(refine GoR.c c33 (by rfl) (by rfl) rfl ?_;(refine CallD.ret2 (hfu _) ?_))|(refine GoR.c c39 (by rfl) (by rfl) rfl ?_;(first | refine CallD.ret2 (hc1 _) ?_ | refine CallD.ret2 (hc2 _) ?_))|refine GoR.s (by rfl) rfl rfl ?_|(refine GoR.splitG rfl (fun hc => ?_) (fun hc => ?_)<;>simp only [hc])|refine Go.condB rfl (fun hc => ?_) (fun hc => ?_))
   refine ⟨(by first | exact .inl rfl | exact .inr rfl),fin ?_⟩
   rw [resD_tmp (fn:=Tryz.f11) rfl]
   simp only [optThen_some,resultD_tmp,resultD_cell,G,Z,Y,Gx,vV,simprocAttr,fb2,fb3,fb9,fb32,fb34,fb35,fb37,fb93]
   exact ⟨_,_,rfl,.of_low (.int _ _),rfl⟩
  rw [if_neg q4] at hv
  rw [hv]
  have d4:decide ((w.length:Int)>4)=false:=by simp;omega
  have d5:decide (4<(w.length:Int))=false:=by simp;omega
  refine CallD.e Tryz.func11 rfl Tryz.ntmps11 (by rfl) ?_
  repeat' (first|refine Go.a rfl ?_|refine Go.rg ?_|refine GoR.nil ?_|refine Go.ret ?_|refine Go.b rfl ?_|(refine GoR.o (by rfl) (by rfl) ?_;(conv=>arg 1;simp only [G,Z,Y,Gx,vV,simprocAttr,fb2,fb3,fb9,fb32,fb34,fb35,fb37,fb93,fc,ff,ft,decide_true,decide_false,Bool.not_true,Bool.not_false,not_false_eq_true,not_true_eq_false,eq_self_iff_true,ne_eq,bne_self_eq_false,beq_self_eq_true,d4,d5]);show GoR ..)|(refine GoR.c c33 (by rfl) (by rfl) rfl ?_;(refine CallD.ret2 (hfu _) ?_))|(refine GoR.c c39 (by rfl) (by rfl) rfl ?_;(first | refine CallD.ret2 (hc1 _) ?_ | refine CallD.ret2 (hc2 _) ?_))|refine GoR.s (by rfl) rfl rfl ?_|(refine GoR.splitG rfl (fun hc => ?_) (fun hc => ?_)<;>simp only [hc])|refine Go.condB rfl (fun hc => ?_) (fun hc => ?_))
  refine Go.keep [(1,.ptr S.length 0),(4,.int .i64 (((0:Nat):Int):Int))] (.cons .refl (.cons .refl (.nil))) ?_
  refine Go.while (α:=Nat) (fun i=>w.length - i) (fun i=>[(1,.ptr S.length 0),(4,.int .i64 ((i:Int):Int))]) (fun _=>S++[.obj [.str fn,.int .i64 k,.str op1,.str nm1,.int .i64 n1,.sl none 4 ks1.length (ndsC ks1),.str op2,.str nm2,.int .i64 n2,.sl none 4 ks2.length (ndsC ks2),.sl none 9 w.length (cdsC w)]]) (fun i=>i≤w.length∧chkW w=chkW (w.drop i)) ?_ 0 ⟨Nat.zero_le _,rfl⟩
  rintro i ⟨hi,hcw⟩ next
  by_cases hil:i<w.length
  ·obtain ⟨t1,t2,t3,t4,t5,t6⟩:=cdsAt hil
   obtain ⟨hs1,hs2⟩:=h3 _ (List.getElem_mem hil)
   have n1:=refCheckN (orc:=O) _ hs1
   have n2:=refCheckN (orc:=O) _ hs2
   have hho:=refHolds (orc:=O) w[i].op 0 0
   rw [holds_ok] at hho
   rw [chkW_drop hil] at hcw
   have hn:=fun e=>next (i+1) (by omega) ⟨hil,e⟩
   clear next hs1 hs2 h3
   generalize w[i]=cd at *
   obtain ⟨cop,⟨op3,nm3,n3,ks3⟩,⟨op4,nm4,n4,ks4⟩⟩:=cd
   simp only [Nd.c_mk] at n1 n2 t2 t4 t6 hho
   cases ho:opOk cop with
   | false=>
    rw [ho] at hho
    rw [hcw,show chkC ⟨cop,(.mk op3 nm3 n3 ks3),(.mk op4 nm4 n4 ks4)⟩=5 by simp [chkC,ho]]
    repeat' (first|refine Go.a rfl ?_|refine Go.rg ?_|refine GoR.nil ?_|refine Go.ret ?_|refine Go.b rfl ?_|(refine GoR.o (by rfl) (by rfl) ?_;(conv=>arg 1;simp only [G,Z,Y,Gx,vV,simprocAttr,fb2,fb3,fb9,fb32,fb34,fb35,fb37,fb93,t1,t2,t3,t4,t5,t6,beq_self_eq_true,bne_self_eq_false,wrap_succ (show i<4611686018427387904 by omega),show decide ((i:Int)<(w.length:Int))=true by simp;omega]);show GoR ..)|(refine GoR.c c40 (by rfl) (by rfl) rfl ?_;(refine CallD.ret2 (hho _) ?_))|(refine GoR.c c39 (by rfl) (by rfl) rfl ?_;(first | refine CallD.ret2 (n1 _) ?_ | refine CallD.ret2 (n2 _) ?_))|refine GoR.s (by rfl) rfl rfl ?_|(refine GoR.splitG rfl (fun hc => ?_) (fun hc => ?_)<;>simp only [hc])|refine Go.condB rfl (fun hc => ?_) (fun hc => ?_))
    refine ⟨(by first | exact .inl rfl | exact .inr rfl),fin ?_⟩
    rw [resD_tmp (fn:=Tryz.f11) rfl]
    simp only [optThen_some,resultD_tmp,resultD_cell,G,Z,Y,Gx,vV,simprocAttr,fb2,fb3,fb9,fb32,fb34,fb35,fb37,fb93]
    exact ⟨_,_,rfl,.of_low (.int _ _),rfl⟩
   | true=>
   rw [ho] at hho
   by_cases x1:checkN (.mk op3 nm3 n3 ks3)=0
   rotate_left
   ·rw [hcw,show chkC ⟨cop,(.mk op3 nm3 n3 ks3),(.mk op4 nm4 n4 ks4)⟩=checkN (.mk op3 nm3 n3 ks3) by simp [chkC,ho,x1],if_pos x1]
    repeat' (first|refine Go.a rfl ?_|refine Go.rg ?_|refine GoR.nil ?_|refine Go.ret ?_|refine Go.b rfl ?_|(refine GoR.o (by rfl) (by rfl) ?_;(conv=>arg 1;simp only [G,Z,Y,Gx,vV,simprocAttr,fb2,fb3,fb9,fb32,fb34,fb35,fb37,fb93,t1,t2,t3,t4,t5,t6,beq_self_eq_true,bne_self_eq_false,wrap_succ (show i<4611686018427387904 by omega),show decide ((i:Int)<(w.length:Int))=true by simp;omega,show (checkN (.mk op3 nm3 n3 ks3)==0)=false by simpa using x1,show (checkN (.mk op3 nm3 n3 ks3) != 0)=true by simpa using x1]);show GoR ..)|(refine GoR.c c40 (by rfl) (by rfl) rfl ?_;(refine CallD.ret2 (hho _) ?_))|(refine GoR.c c39 (by rfl) (by rfl) rfl ?_;(first | refine CallD.ret2 (n1 _) ?_ | refine CallD.ret2 (n2 _) ?_))|refine GoR.s (by rfl) rfl rfl ?_|(refine GoR.splitG rfl (fun hc => ?_) (fun hc => ?_)<;>simp only [hc])|refine Go.condB rfl (fun hc => ?_) (fun hc => ?_))
    refine ⟨(by first | exact .inl rfl | exact .inr rfl),fin ?_⟩
    rw [resD_tmp (fn:=Tryz.f11) rfl]
    simp only [optThen_some,resultD_tmp,resultD_cell,G,Z,Y,Gx,vV,simprocAttr,fb2,fb3,fb9,fb32,fb34,fb35,fb37,fb93]
    exact ⟨_,_,rfl,.of_low (.int _ _),rfl⟩
   rw [x1] at n1
   by_cases x2:checkN (.mk op4 nm4 n4 ks4)=0
   rotate_left
   ·rw [hcw,show chkC ⟨cop,(.mk op3 nm3 n3 ks3),(.mk op4 nm4 n4 ks4)⟩=checkN (.mk op4 nm4 n4 ks4) by simp [chkC,ho,x1],if_pos x2]
    repeat' (first|refine Go.a rfl ?_|refine Go.rg ?_|refine GoR.nil ?_|refine Go.ret ?_|refine Go.b rfl ?_|(refine GoR.o (by rfl) (by rfl) ?_;(conv=>arg 1;simp only [G,Z,Y,Gx,vV,simprocAttr,fb2,fb3,fb9,fb32,fb34,fb35,fb37,fb93,t1,t2,t3,t4,t5,t6,beq_self_eq_true,bne_self_eq_false,wrap_succ (show i<4611686018427387904 by omega),show decide ((i:Int)<(w.length:Int))=true by simp;omega,show (checkN (.mk op4 nm4 n4 ks4) != 0)=true by simpa using x2]);show GoR ..)|(refine GoR.c c40 (by rfl) (by rfl) rfl ?_;(refine CallD.ret2 (hho _) ?_))|(refine GoR.c c39 (by rfl) (by rfl) rfl ?_;(first | refine CallD.ret2 (n1 _) ?_ | refine CallD.ret2 (n2 _) ?_))|refine GoR.s (by rfl) rfl rfl ?_|(refine GoR.splitG rfl (fun hc => ?_) (fun hc => ?_)<;>simp only [hc])|refine Go.condB rfl (fun hc => ?_) (fun hc => ?_))
    refine ⟨(by first | exact .inl rfl | exact .inr rfl),fin ?_⟩
    rw [resD_tmp (fn:=Tryz.f11) rfl]
    simp only [optThen_some,resultD_tmp,resultD_cell,G,Z,Y,Gx,vV,simprocAttr,fb2,fb3,fb9,fb32,fb34,fb35,fb37,fb93]
    exact ⟨_,_,rfl,.of_low (.int _ _),rfl⟩
   rw [x2] at n2
   rw [show chkC ⟨cop,(.mk op3 nm3 n3 ks3),(.mk op4 nm4 n4 ks4)⟩=0 by simp [chkC,ho,x1,x2],if_neg (by decide)] at hcw
   replace hn:=hn hcw
   repeat' (first|refine Go.a rfl ?_|refine Go.rg ?_|refine GoR.nil ?_|refine Go.ret ?_|refine Go.b rfl ?_|(refine GoR.o (by rfl) (by rfl) ?_;(conv=>arg 1;simp only [G,Z,Y,Gx,vV,simprocAttr,fb2,fb3,fb9,fb32,fb34,fb35,fb37,fb93,t1,t2,t3,t4,t5,t6,beq_self_eq_true,bne_self_eq_false,wrap_succ (show i<4611686018427387904 by omega),show decide ((i:Int)<(w.length:Int))=true by simp;omega]);show GoR ..)|(refine GoR.c c40 (by rfl) (by rfl) rfl ?_;(refine CallD.ret2 (hho _) ?_))|(refine GoR.c c39 (by rfl) (by rfl) rfl ?_;(first | refine CallD.ret2 (n1 _) ?_ | refine CallD.ret2 (n2 _) ?_))|refine GoR.s (by rfl) rfl rfl ?_|(refine GoR.splitG rfl (fun hc => ?_) (fun hc => ?_)<;>simp only [hc])|refine Go.condB rfl (fun hc => ?_) (fun hc => ?_))
   refine Go.lpN ?_
   refine Go.keep [(1,.ptr S.length 0),(4,.int .i64 (((i+1:Nat):Int):Int))] (.cons .refl (.cons .refl (.nil))) ?_
   exact hn
  ·clear next
   rw [hcw,List.drop_of_length_le (by omega)]
   repeat' (first|refine Go.a rfl ?_|refine Go.rg ?_|refine GoR.nil ?_|refine Go.ret ?_|refine Go.b rfl ?_|(refine GoR.o (by rfl) (by rfl) ?_;(conv=>arg 1;simp only [G,Z,Y,Gx,vV,simprocAttr,fb2,fb3,fb9,fb32,fb34,fb35,fb37,fb93,show decide ((i:Int)<(w.length:Int))=false by simp;omega]);show GoR ..)|refine GoR.s (by rfl) rfl rfl ?_|(refine GoR.splitG rfl (fun hc => ?_) (fun hc => ?_)<;>simp only [hc])|refine Go.condB rfl (fun hc => ?_) (fun hc => ?_))
   refine ⟨(by first | exact .inl rfl | exact .inr rfl),fin ?_⟩
   rw [resD_tmp (fn:=Tryz.f11) rfl]
   simp only [optThen_some,resultD_tmp,resultD_cell,G,Z,Y,Gx,vV,simprocAttr,fb2,fb3,fb9,fb32,fb34,fb35,fb37,fb93]
   exact ⟨_,_,rfl,.of_low (.int _ _),rfl⟩
end Go.Proofs.DgT
namespace Go.Proofs.DgT
open Go Go.DM
set_option maxRecDepth 100000
def Short (n:Nd):Prop:=Slim 100 n∧cnt n≤60
structure FewA (a:Ag):Prop where
 fn:a.fn.size≤20
 e:Short a.e
 by_:Short a.by_
 w:a.w.length≤8
 ws : ∀ c∈a.w,c.op.size≤20∧Short c.a∧Short c.b
theorem FewA.slim {a:Ag} (h:FewA a):SlimA a:=⟨h.e.1,h.by_.1,fun c hc=>⟨(h.ws c hc).2.1.1,(h.ws c hc).2.2.1⟩⟩
set_option maxHeartbeats 1600000 in
theorem few11 (a:Ag) (S:Mem):CallD Tryz.prog O 14 [.agg (Ag.c a)] S fun d S'=>S'=S ∧ ∃ b,d = .bool b∧(b=true→FewA a):=by
 obtain ⟨fn,k,⟨op1,nm1,n1,ks1⟩,⟨op2,nm2,n2,ks2⟩,w⟩:=a
 have he:=few9 (orc:=O) (.mk op1 nm1 n1 ks1)
 have hb:=few9 (orc:=O) (.mk op2 nm2 n2 ks2)
 simp only [Ag.c,Nd.c_mk,List.cons_append,List.nil_append] at he hb ⊢
 refine CallD.e Tryz.func14 rfl Tryz.ntmps14 (by rfl) ?_
 by_cases hf:20<fn.size
 ·repeat' (first|refine Go.a rfl ?_|refine Go.rg ?_|refine GoR.nil ?_|refine Go.ret ?_|refine Go.b rfl ?_|(refine GoR.o (by rfl) (by rfl) ?_;(conv=>arg 1;simp only [G,Z,Y,Gx,vV,simprocAttr,fb2,fb3,fb9,fb23,fb25,fb26,fb28,fb101,show decide ((fn.size:Int)>20)=true by simp;omega,show decide (20<(fn.size:Int))=true by simp;omega]);show GoR ..)|refine GoR.s (by rfl) rfl rfl ?_|(refine GoR.splitG rfl (fun hc => ?_) (fun hc => ?_)<;>simp only [hc])|refine Go.condB rfl (fun hc => ?_) (fun hc => ?_))
  refine ⟨(by first | exact .inl rfl | exact .inr rfl),fin ?_⟩
  rw [resD_tmp (fn:=Tryz.f14) rfl]
  simp only [optThen_some,resultD_tmp,resultD_cell,G,Z,Y,Gx,vV,simprocAttr,fb2,fb3,fb9,fb23,fb25,fb26,fb28,fb101]
  exact ⟨_,_,rfl,.of_low (.bool _),_,rfl,fun e=>by cases e⟩
 have f1:decide ((fn.size:Int)>20)=false:=by simp;omega
 have f2:decide (20<(fn.size:Int))=false:=by simp;omega
 by_cases h8:8<w.length
 ·repeat' (first|refine Go.a rfl ?_|refine Go.rg ?_|refine GoR.nil ?_|refine Go.ret ?_|refine Go.b rfl ?_|(refine GoR.o (by rfl) (by rfl) ?_;(conv=>arg 1;simp only [G,Z,Y,Gx,vV,simprocAttr,fb2,fb3,fb9,fb23,fb25,fb26,fb28,fb101,f1,f2,show decide ((w.length:Int)>8)=true by simp;omega,show decide (8<(w.length:Int))=true by simp;omega]);show GoR ..)|(refine GoR.c c43 (by rfl) (by rfl) rfl ?_;(first | (refine (he _).retE ?_;rintro _ ⟨b1,rfl,hb1⟩;cases b1) | (refine (hb _).retE ?_;rintro _ ⟨b2,rfl,hb2⟩;cases b2)))|refine GoR.s (by rfl) rfl rfl ?_|(refine GoR.splitG rfl (fun hc => ?_) (fun hc => ?_)<;>simp only [hc])|refine Go.condB rfl (fun hc => ?_) (fun hc => ?_))
  ·refine ⟨(by first | exact .inl rfl | exact .inr rfl),fin ?_⟩
   rw [resD_tmp (fn:=Tryz.f14) rfl]
   simp only [optThen_some,resultD_tmp,resultD_cell,G,Z,Y,Gx,vV,simprocAttr,fb2,fb3,fb9,fb23,fb25,fb26,fb28,fb101]
   exact ⟨_,_,rfl,.of_low (.bool _),_,rfl,fun e=>by cases e⟩
  ·refine ⟨(by first | exact .inl rfl | exact .inr rfl),fin ?_⟩
   rw [resD_tmp (fn:=Tryz.f14) rfl]
   simp only [optThen_some,resultD_tmp,resultD_cell,G,Z,Y,Gx,vV,simprocAttr,fb2,fb3,fb9,fb23,fb25,fb26,fb28,fb101]
   exact ⟨_,_,rfl,.of_low (.bool _),_,rfl,fun e=>by cases e⟩
  ·refine ⟨(by first | exact .inl rfl | exact .inr rfl),fin ?_⟩
   rw [resD_tmp (fn:=Tryz.f14) rfl]
   simp only [optThen_some,resultD_tmp,resultD_cell,G,Z,Y,Gx,vV,simprocAttr,fb2,fb3,fb9,fb23,fb25,fb26,fb28,fb101]
   exact ⟨_,_,rfl,.of_low (.bool _),_,rfl,fun e=>by cases e⟩
 have w1:decide ((w.length:Int)>8)=false:=by simp;omega
 have w2:decide (8<(w.length:Int))=false:=by simp;omega
 repeat' (first|refine Go.a rfl ?_|refine Go.rg ?_|refine GoR.nil ?_|refine Go.ret ?_|refine Go.b rfl ?_|(refine GoR.o (by rfl) (by rfl) ?_;(conv=>arg 1;simp only [G,Z,Y,Gx,vV,simprocAttr,fb2,fb3,fb9,fb23,fb25,fb26,fb28,fb101,f1,f2,w1,w2]);show GoR ..)|(refine GoR.c c43 (by rfl) (by rfl) rfl ?_;(first | (refine (he _).retE ?_;rintro _ ⟨b1,rfl,hb1⟩;cases b1) | (refine (hb _).retE ?_;rintro _ ⟨b2,rfl,hb2⟩;cases b2)))|refine GoR.s (by rfl) rfl rfl ?_|(refine GoR.splitG rfl (fun hc => ?_) (fun hc => ?_)<;>simp only [hc])|refine Go.condB rfl (fun hc => ?_) (fun hc => ?_))
 ·refine ⟨(by first | exact .inl rfl | exact .inr rfl),fin ?_⟩
  rw [resD_tmp (fn:=Tryz.f14) rfl]
  simp only [optThen_some,resultD_tmp,resultD_cell,G,Z,Y,Gx,vV,simprocAttr,fb2,fb3,fb9,fb23,fb25,fb26,fb28,fb101]
  exact ⟨_,_,rfl,.of_low (.bool _),_,rfl,fun e=>by cases e⟩
 ·refine ⟨(by first | exact .inl rfl | exact .inr rfl),fin ?_⟩
  rw [resD_tmp (fn:=Tryz.f14) rfl]
  simp only [optThen_some,resultD_tmp,resultD_cell,G,Z,Y,Gx,vV,simprocAttr,fb2,fb3,fb9,fb23,fb25,fb26,fb28,fb101]
  exact ⟨_,_,rfl,.of_low (.bool _),_,rfl,fun e=>by cases e⟩
 have s1:=hb1 rfl
 have s2:=hb2 rfl
 refine Go.keep [(1,.ptr S.length 0),(3,.int .i64 (((0:Nat):Int):Int))] (.cons .refl (.cons .refl (.nil))) ?_
 refine Go.while (α:=Nat) (fun i=>w.length - i) (fun i=>[(1,.ptr S.length 0),(3,.int .i64 ((i:Int):Int))]) (fun _=>S++[.obj [.str fn,.int .i64 k,.str op1,.str nm1,.int .i64 n1,.sl none 4 ks1.length (ndsC ks1),.str op2,.str nm2,.int .i64 n2,.sl none 4 ks2.length (ndsC ks2),.sl none 9 w.length (cdsC w)]]) (fun i=>i≤w.length ∧ ∀ c∈w.take i,c.op.size≤20∧Short c.a∧Short c.b) ?_ 0 ⟨Nat.zero_le _,by simp⟩
 rintro i ⟨hi,hpr⟩ next
 by_cases hil:i<w.length
 ·obtain ⟨t1,t2,t3,t4,t5,t6⟩:=cdsAt hil
  have na:=few9 (orc:=O) w[i].a
  have nb:=few9 (orc:=O) w[i].b
  have hn:=fun (e:w[i].op.size≤20∧Short w[i].a∧Short w[i].b)=>next (i+1) (by omega) ⟨hil,by
   rw [List.take_succ_eq_append_getElem hil]
   intro c hc
   rcases List.mem_append.1 hc with hc | hc
   ·exact hpr c hc
   ·rw [List.mem_singleton.1 hc];exact e⟩
  clear next
  generalize w[i]=cd at *
  obtain ⟨cop,⟨op3,nm3,n3,ks3⟩,⟨op4,nm4,n4,ks4⟩⟩:=cd
  simp only [Nd.c_mk] at na nb t2 t4 t6
  have dl:decide ((i:Int)<(w.length:Int))=true:=by simp;omega
  have ws1:=wrap_succ (show i<4611686018427387904 by omega)
  by_cases ho:20<cop.size
  ·repeat' (first|refine Go.a rfl ?_|refine Go.rg ?_|refine GoR.nil ?_|refine Go.ret ?_|refine Go.b rfl ?_|(refine GoR.o (by rfl) (by rfl) ?_;(conv=>arg 1;simp only [G,Z,Y,Gx,vV,simprocAttr,fb2,fb3,fb9,fb23,fb25,fb26,fb28,fb101,t1,t2,t3,t4,t5,t6,dl,ws1,show decide ((cop.size:Int)>20)=true by simp;omega,show decide (20<(cop.size:Int))=true by simp;omega]);show GoR ..)|refine GoR.s (by rfl) rfl rfl ?_|(refine GoR.splitG rfl (fun hc => ?_) (fun hc => ?_)<;>simp only [hc])|refine Go.condB rfl (fun hc => ?_) (fun hc => ?_))
   refine ⟨(by first | exact .inl rfl | exact .inr rfl),fin ?_⟩
   rw [resD_tmp (fn:=Tryz.f14) rfl]
   simp only [optThen_some,resultD_tmp,resultD_cell,G,Z,Y,Gx,vV,simprocAttr,fb2,fb3,fb9,fb23,fb25,fb26,fb28,fb101]
   exact ⟨_,_,rfl,.of_low (.bool _),_,rfl,fun e=>by cases e⟩
  have o1:decide ((cop.size:Int)>20)=false:=by simp;omega
  have o2:decide (20<(cop.size:Int))=false:=by simp;omega
  repeat' (first|refine Go.a rfl ?_|refine Go.rg ?_|refine GoR.nil ?_|refine Go.ret ?_|refine Go.b rfl ?_|(refine GoR.o (by rfl) (by rfl) ?_;(conv=>arg 1;simp only [G,Z,Y,Gx,vV,simprocAttr,fb2,fb3,fb9,fb23,fb25,fb26,fb28,fb101,t1,t2,t3,t4,t5,t6,dl,ws1,o1,o2]);show GoR ..)|(refine GoR.c c43 (by rfl) (by rfl) rfl ?_;(first | (refine (na _).retE ?_;rintro _ ⟨b3,rfl,hb3⟩;cases b3) | (refine (nb _).retE ?_;rintro _ ⟨b4,rfl,hb4⟩;cases b4)))|refine GoR.s (by rfl) rfl rfl ?_|(refine GoR.splitG rfl (fun hc => ?_) (fun hc => ?_)<;>simp only [hc])|refine Go.condB rfl (fun hc => ?_) (fun hc => ?_))
  ·refine ⟨(by first | exact .inl rfl | exact .inr rfl),fin ?_⟩
   rw [resD_tmp (fn:=Tryz.f14) rfl]
   simp only [optThen_some,resultD_tmp,resultD_cell,G,Z,Y,Gx,vV,simprocAttr,fb2,fb3,fb9,fb23,fb25,fb26,fb28,fb101]
   exact ⟨_,_,rfl,.of_low (.bool _),_,rfl,fun e=>by cases e⟩
  ·refine ⟨(by first | exact .inl rfl | exact .inr rfl),fin ?_⟩
   rw [resD_tmp (fn:=Tryz.f14) rfl]
   simp only [optThen_some,resultD_tmp,resultD_cell,G,Z,Y,Gx,vV,simprocAttr,fb2,fb3,fb9,fb23,fb25,fb26,fb28,fb101]
   exact ⟨_,_,rfl,.of_low (.bool _),_,rfl,fun e=>by cases e⟩
  refine Go.lpN ?_
  refine Go.keep [(1,.ptr S.length 0),(3,.int .i64 (((i+1:Nat):Int):Int))] (.cons .refl (.cons .refl (.nil))) ?_
  exact hn ⟨Nat.le_of_not_lt ho,hb3 rfl,hb4 rfl⟩
 ·clear next
  rw [List.take_of_length_le (by omega)] at hpr
  repeat' (first|refine Go.a rfl ?_|refine Go.rg ?_|refine GoR.nil ?_|refine Go.ret ?_|refine Go.b rfl ?_|(refine GoR.o (by rfl) (by rfl) ?_;(conv=>arg 1;simp only [G,Z,Y,Gx,vV,simprocAttr,fb2,fb3,fb9,fb23,fb25,fb26,fb28,fb101,show decide ((i:Int)<(w.length:Int))=false by simp;omega]);show GoR ..)|refine GoR.s (by rfl) rfl rfl ?_|(refine GoR.splitG rfl (fun hc => ?_) (fun hc => ?_)<;>simp only [hc])|refine Go.condB rfl (fun hc => ?_) (fun hc => ?_))
  refine ⟨(by first | exact .inl rfl | exact .inr rfl),fin ?_⟩
  rw [resD_tmp (fn:=Tryz.f14) rfl]
  simp only [optThen_some,resultD_tmp,resultD_cell,G,Z,Y,Gx,vV,simprocAttr,fb2,fb3,fb9,fb23,fb25,fb26,fb28,fb101]
  exact ⟨_,_,rfl,.of_low (.bool _),_,rfl,fun _=>⟨by dsimp only;omega,s1,s2,by dsimp only;omega,hpr⟩⟩
end Go.Proofs.DgT
namespace Go.Proofs.DgT
open Go Go.DM
set_option maxRecDepth 100000
variable {orc:DOracle}
end Go.Proofs.DgT
namespace Go.Proofs.DgT
open Go Go.DM
set_option maxRecDepth 100000
end Go.Proofs.DgT
namespace Go.Proofs.DgT
open Go Go.DM
set_option maxRecDepth 100000
theorem needs_six {fn:ByteArray} (h:(needsF fn).2.2.2=true):fn=(⟨#[99,111,117,110,116]⟩:ByteArray)∨fn=(⟨#[115,117,109]⟩:ByteArray)∨fn=(⟨#[116,111,112]⟩:ByteArray)∨fn=(⟨#[109,105,110]⟩:ByteArray)∨fn=(⟨#[109,97,120]⟩:ByteArray)∨fn=(⟨#[102,105,114,115,116]⟩:ByteArray):=by
 unfold needsF at h
 by_cases h1:fn=(⟨#[99,111,117,110,116]⟩:ByteArray)
 ·exact .inl h1
 rw [if_neg h1] at h
 by_cases h2:fn=(⟨#[109,105,110]⟩:ByteArray)∨fn=(⟨#[109,97,120]⟩:ByteArray)∨fn=(⟨#[115,117,109]⟩:ByteArray)
 ·rcases h2 with h | h | h
  ·exact .inr (.inr (.inr (.inl h)))
  ·exact .inr (.inr (.inr (.inr (.inl h))))
  ·exact .inr (.inl h)
 rw [if_neg h2] at h
 by_cases h3:fn=(⟨#[102,105,114,115,116]⟩:ByteArray)
 ·exact .inr (.inr (.inr (.inr (.inr h3))))
 rw [if_neg h3] at h
 by_cases h4:fn=(⟨#[116,111,112]⟩:ByteArray)
 ·exact .inr (.inr (.inl h4))
 rw [if_neg h4] at h
 cases h
end Go.Proofs.DgT
