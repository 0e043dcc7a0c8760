/- Which of two values is less: the program's word, the document's. -/
import Derived.Test.YtlllhmenekibjaaGreatDoorDtS20x
set_option linter.unusedSimpArgs false
set_option linter.unusedVariables false
namespace Go.Proofs.DtT
open Go Go.DM Go.Proofs.DtF
set_option maxRecDepth 100000
variable {orc:DOracle}
def cmpL:List Int→List Int→Int
 | [],[]=>0
 | [],_::_ => -1
 | _::_,[]=>1
 | a::x,b::y=>if cmpI a b=0 then cmpL x y else cmpI a b
def cmpV (a b:Val):Int:=if cmpI a.k b.k=0 then (if a.k=1 then cmpI a.i b.i else if a.k=2 then cmpB a.s b.s else if a.k=3 then cmpL a.l b.l else 0) else cmpI a.k b.k
theorem cmpI_zero {a b:Int} : cmpI a b=0↔a=b:=by
 unfold cmpI
 split
 ·constructor
  ·intro h;cases h
  ·omega
 ·split
  ·constructor
   ·intro h;cases h
   ·omega
  ·constructor
   ·omega
   ·intro _;rfl
theorem cmpL_step {l m:List Int} {i:Nat} (h1:i<l.length) (h2:i<m.length):cmpL (l.drop i) (m.drop i)=if cmpI l[i] m[i]=0 then cmpL (l.drop (i+1)) (m.drop (i+1)) else cmpI l[i] m[i]:=by
 rw [List.drop_eq_getElem_cons h1,List.drop_eq_getElem_cons h2,cmpL]
theorem cmpL_left {l m:List Int} {i:Nat} (h1:l.length≤i):cmpL (l.drop i) (m.drop i)=if i<m.length then -1 else 0:=by
 rw [List.drop_of_length_le h1]
 split
 ·rename_i h;rw [List.drop_eq_getElem_cons h,cmpL]
 ·rw [List.drop_of_length_le (by omega),cmpL]
theorem cmpL_right {l m:List Int} {i:Nat} (h1:i<l.length) (h2:m.length≤i):cmpL (l.drop i) (m.drop i)=1:=by
 rw [List.drop_of_length_le h2,List.drop_eq_getElem_cons h1,cmpL]
theorem isNaNN (a:Int) (S:Mem):CallD Tryz.prog orc 143 [.int .i64 a] S fun d S'=>S'=S∧d = .bool false:=by
 refine CallD.e Tryz.func143 rfl Tryz.ntmps143 (by rfl) ?_
 repeat' (first|refine Go.a rfl ?_|refine Go.rg ?_|refine GoR.nil ?_|refine Go.ret ?_|refine Go.b rfl ?_|(refine GoR.o (by rfl) (by rfl) ?_;(conv=>arg 1;simp only [G,Z,Y,Gx,un_neg,cutD,decide_true,decide_false,simprocAttr,fb3]);show GoR ..)|refine Go.condB rfl (fun hc => ?_) (fun hc => ?_))
 all_goals
  refine ⟨(by first | exact .inl rfl | exact .inr rfl),fin ?_⟩
  rw [resD_tmp (fn:=Tryz.f143) rfl]
  simp only [optThen_some,resultD_tmp,resultD_cell,G,Z,Y,Gx,un_neg,cutD,decide_true,decide_false,simprocAttr,fb3]
  refine ⟨_,[],by simp,.bool,?_⟩
  simp
theorem compareN (a b:Int) (S:Mem):CallD Tryz.prog orc 134 [.int .i64 a,.int .i64 b] S fun d S'=>S'=S∧d = .int .i64 (cmpI a b):=by
 refine CallD.e Tryz.func134 rfl Tryz.ntmps134 (by rfl) ?_
 repeat' (first|refine Go.a rfl ?_|refine Go.rg ?_|refine GoR.nil ?_|refine Go.ret ?_|refine Go.b rfl ?_|(refine GoR.o (by rfl) (by rfl) ?_;(conv=>arg 1;simp only [G,Z,Y,Gx,un_neg,cutD,decide_true,decide_false,simprocAttr,fb3]);show GoR ..)|(refine GoR.c c143 (by rfl) (by rfl) rfl ?_;(refine (isNaNN _ _).ret ?_))|refine Go.condB rfl (fun hc => ?_) (fun hc => ?_))
 all_goals
  refine ⟨(by first | exact .inl rfl | exact .inr rfl),fin ?_⟩
  rw [resD_tmp (fn:=Tryz.f134) rfl]
  simp only [optThen_some,resultD_tmp,resultD_cell,G,Z,Y,Gx,un_neg,cutD,decide_true,decide_false,simprocAttr,fb3]
  refine ⟨_,[],by simp,.int,?_⟩
  unfold cmpI
  first
   | (simp_all;done)
   | (
     simp at *
     rw [if_neg (by omega),if_neg (by omega)])
theorem compareL (l m:List Int) (hl:l.length<1000000) (S:Mem):CallD Tryz.prog orc 135 [.sl none 1 l.length (intsD l),.sl none 1 m.length (intsD m)] S fun d S'=>S'=S∧d = .int .i64 (cmpL l m):=by
 refine CallD.e Tryz.func135 rfl Tryz.ntmps135 (by rfl) ?_
 repeat' (first|refine Go.a rfl ?_|refine Go.rg ?_|refine GoR.nil ?_|refine Go.ret ?_|refine Go.b rfl ?_|(refine GoR.o (by rfl) (by rfl) ?_;(conv=>arg 1;simp only [G,Z,Y,Gx,un_neg,cutD,decide_true,decide_false,simprocAttr,fb2,fb3,fb116]);show GoR ..)|refine Go.condB rfl (fun hc => ?_) (fun hc => ?_))
 refine Go.keep [(0,.sl none 1 l.length (intsD l)),(1,.sl none 1 m.length (intsD m)),(9,.sl none 1 l.length (intsD l)),(10,.int .i64 (l.length:Int)),(11,.int .i64 ((0:Nat):Int))] (.cons .refl (.cons .refl (.cons .refl (.cons .refl (.cons .refl (.nil)))))) ?_
 refine Go.while (α:=Nat) (fun i=>l.length - i) (fun i=>[(0,.sl none 1 l.length (intsD l)),(1,.sl none 1 m.length (intsD m)),(9,.sl none 1 l.length (intsD l)),(10,.int .i64 (l.length:Int)),(11,.int .i64 (i:Int))]) (fun _=>S) (fun i=>i≤l.length∧i≤m.length∧cmpL l m=cmpL (l.drop i) (m.drop i)) ?_ 0 ⟨Nat.zero_le _,Nat.zero_le _,rfl⟩
 rintro i ⟨hi,hj,hk⟩ next
 by_cases h1:i<l.length
 ·by_cases h2:i<m.length
  ·rw [cmpL_step h1 h2] at hk
   by_cases hz:cmpI l[i] m[i]=0
   ·rw [if_pos hz] at hk
    repeat' (first|refine Go.a rfl ?_|refine Go.rg ?_|refine GoR.nil ?_|refine Go.ret ?_|refine Go.b rfl ?_|(refine GoR.o (by rfl) (by rfl) ?_;(conv=>arg 1;simp only [G,Z,Y,Gx,un_neg,cutD,decide_true,decide_false,simprocAttr,fb2,fb3,fb116,show (decide ((i:Int)<(l.length:Int)))=true by simp;omega,show (decide ((m.length:Int)≤(i:Int)))=false by simp;omega,intsAt h1,intsAt h2,hz,wrap_succ (show i<4611686018427387904 by omega)]);show GoR ..)|(refine GoR.c c72 (by rfl) (by rfl) rfl ?_;(refine (compareI _ _ _).ret ?_))|refine Go.condB rfl (fun hc => ?_) (fun hc => ?_))
    refine Go.lpN ?_
    refine Go.keep [(0,.sl none 1 l.length (intsD l)),(1,.sl none 1 m.length (intsD m)),(9,.sl none 1 l.length (intsD l)),(10,.int .i64 (l.length:Int)),(11,.int .i64 ((i+1:Nat):Int))] (.cons .refl (.cons .refl (.cons .refl (.cons .refl (.cons .refl (.nil)))))) ?_
    exact next (i+1) (by omega) ⟨h1,h2,hk⟩
   ·clear next
    rw [if_neg hz] at hk
    repeat' (first|refine Go.a rfl ?_|refine Go.rg ?_|refine GoR.nil ?_|refine Go.ret ?_|refine Go.b rfl ?_|(refine GoR.o (by rfl) (by rfl) ?_;(conv=>arg 1;simp only [G,Z,Y,Gx,un_neg,cutD,decide_true,decide_false,simprocAttr,fb2,fb3,fb116,show (decide ((i:Int)<(l.length:Int)))=true by simp;omega,show (decide ((m.length:Int)≤(i:Int)))=false by simp;omega,intsAt h1,intsAt h2,show (cmpI l[i] m[i] != 0)=true by simpa using hz]);show GoR ..)|(refine GoR.c c72 (by rfl) (by rfl) rfl ?_;(refine (compareI _ _ _).ret ?_))|refine Go.condB rfl (fun hc => ?_) (fun hc => ?_))
    refine ⟨(by first | exact .inl rfl | exact .inr rfl),fin ?_⟩
    rw [resD_tmp (fn:=Tryz.f135) rfl]
    simp only [optThen_some,resultD_tmp,resultD_cell,G,Z,Y,Gx,un_neg,cutD,decide_true,decide_false,simprocAttr,fb2,fb3,fb116]
    exact ⟨_,[],by simp,.int,by rw [hk]⟩
  ·clear next
   repeat' (first|refine Go.a rfl ?_|refine Go.rg ?_|refine GoR.nil ?_|refine Go.ret ?_|refine Go.b rfl ?_|(refine GoR.o (by rfl) (by rfl) ?_;(conv=>arg 1;simp only [G,Z,Y,Gx,un_neg,cutD,decide_true,decide_false,simprocAttr,fb2,fb3,fb116,show (decide ((i:Int)<(l.length:Int)))=true by simp;omega,show (decide ((m.length:Int)≤(i:Int)))=true by simp;omega,intsAt h1]);show GoR ..)|refine Go.condB rfl (fun hc => ?_) (fun hc => ?_))
   refine ⟨(by first | exact .inl rfl | exact .inr rfl),fin ?_⟩
   rw [resD_tmp (fn:=Tryz.f135) rfl]
   simp only [optThen_some,resultD_tmp,resultD_cell,G,Z,Y,Gx,un_neg,cutD,decide_true,decide_false,simprocAttr,fb2,fb3,fb116]
   exact ⟨_,[],by simp,.int,by rw [hk,cmpL_right h1 (by omega)]⟩
 ·clear next
  have e:i=l.length:=by omega
  subst e
  rw [cmpL_left (Nat.le_refl _)] at hk
  by_cases h2:l.length<m.length
  ·repeat' (first|refine Go.a rfl ?_|refine Go.rg ?_|refine GoR.nil ?_|refine Go.ret ?_|refine Go.b rfl ?_|(refine GoR.o (by rfl) (by rfl) ?_;(conv=>arg 1;simp only [G,Z,Y,Gx,un_neg,cutD,decide_true,decide_false,simprocAttr,fb2,fb3,fb116,show (decide ((l.length:Int)<(l.length:Int)))=false by simp,show (decide ((l.length:Int)<(m.length:Int)))=true by simp;omega]);show GoR ..)|refine Go.condB rfl (fun hc => ?_) (fun hc => ?_))
   refine ⟨(by first | exact .inl rfl | exact .inr rfl),fin ?_⟩
   rw [resD_tmp (fn:=Tryz.f135) rfl]
   simp only [optThen_some,resultD_tmp,resultD_cell,G,Z,Y,Gx,un_neg,cutD,decide_true,decide_false,simprocAttr,fb2,fb3,fb116]
   exact ⟨_,[],by simp,.int,by rw [hk,if_pos h2]⟩
  ·repeat' (first|refine Go.a rfl ?_|refine Go.rg ?_|refine GoR.nil ?_|refine Go.ret ?_|refine Go.b rfl ?_|(refine GoR.o (by rfl) (by rfl) ?_;(conv=>arg 1;simp only [G,Z,Y,Gx,un_neg,cutD,decide_true,decide_false,simprocAttr,fb2,fb3,fb116,show (decide ((l.length:Int)<(l.length:Int)))=false by simp,show (decide ((l.length:Int)<(m.length:Int)))=false by simp;omega]);show GoR ..)|refine Go.condB rfl (fun hc => ?_) (fun hc => ?_))
   refine ⟨(by first | exact .inl rfl | exact .inr rfl),fin ?_⟩
   rw [resD_tmp (fn:=Tryz.f135) rfl]
   simp only [optThen_some,resultD_tmp,resultD_cell,G,Z,Y,Gx,un_neg,cutD,decide_true,decide_false,simprocAttr,fb2,fb3,fb116]
   exact ⟨_,[],by simp,.int,by rw [hk,if_neg h2]⟩
theorem valCompare (a b:Val) (hl:a.l.length<1000000) (S:Mem):CallD Tryz.prog orc 123 [.agg a.c,.agg b.c] S fun d S'=>S'=S∧d = .int .i64 (cmpV a b):=by
 obtain ⟨k,i,s,l⟩:=a
 obtain ⟨k',i',s',l'⟩:=b
 simp only [Val.c]
 by_cases hk:cmpI k k'=0
 ·have hv:cmpV ⟨k,i,s,l⟩ ⟨k',i',s',l'⟩=(if k=1 then cmpI i i' else if k=2 then cmpB s s' else if k=3 then cmpL l l' else 0):=by rw [cmpV,if_pos hk]
  refine CallD.e Tryz.func123 rfl Tryz.ntmps123 (by rfl) ?_
  repeat' (first|refine Go.a rfl ?_|refine Go.rg ?_|refine GoR.nil ?_|refine Go.ret ?_|refine Go.b rfl ?_|(refine GoR.o (by rfl) (by rfl) ?_;(conv=>arg 1;simp only [G,Z,Y,Gx,un_neg,cutD,decide_true,decide_false,simprocAttr,fb2,fb3,fb9,fb116,fb139,hk]);show GoR ..)|(refine GoR.c c134 (by rfl) (by rfl) rfl ?_;(refine (compareN _ _ _).ret ?_))|(refine GoR.c c72 (by rfl) (by rfl) rfl ?_;(refine (compareI _ _ _).ret ?_))|(refine GoR.c c73 (by rfl) (by rfl) rfl ?_;(refine (compareS _ _ _).ret ?_))|(refine GoR.c c135 (by rfl) (by rfl) rfl ?_;(refine (compareL _ _ hl _).ret ?_))|refine Go.condB rfl (fun hc => ?_) (fun hc => ?_))
  all_goals
   refine ⟨(by first | exact .inl rfl | exact .inr rfl),fin ?_⟩
   rw [resD_tmp (fn:=Tryz.f123) rfl]
   simp only [optThen_some,resultD_tmp,resultD_cell,G,Z,Y,Gx,un_neg,cutD,decide_true,decide_false,simprocAttr,fb2,fb3,fb9,fb116,fb139]
   refine ⟨_,_,rfl,.int,?_⟩
   rw [hv]
   simp_all
 ·refine CallD.e Tryz.func123 rfl Tryz.ntmps123 (by rfl) ?_
  repeat' (first|refine Go.a rfl ?_|refine Go.rg ?_|refine GoR.nil ?_|refine Go.ret ?_|refine Go.b rfl ?_|(refine GoR.o (by rfl) (by rfl) ?_;(conv=>arg 1;simp only [G,Z,Y,Gx,un_neg,cutD,decide_true,decide_false,simprocAttr,fb2,fb3,fb9,fb116,fb139,show (cmpI k k' != 0)=true by simpa using hk]);show GoR ..)|(refine GoR.c c134 (by rfl) (by rfl) rfl ?_;(refine (compareN _ _ _).ret ?_))|refine Go.condB rfl (fun hc => ?_) (fun hc => ?_))
  refine ⟨(by first | exact .inl rfl | exact .inr rfl),fin ?_⟩
  rw [resD_tmp (fn:=Tryz.f123) rfl]
  simp only [optThen_some,resultD_tmp,resultD_cell,G,Z,Y,Gx,un_neg,cutD,decide_true,decide_false,simprocAttr,fb2,fb3,fb9,fb116,fb139]
  exact ⟨_,_,rfl,.int,by rw [cmpV,if_neg hk]⟩
theorem valSame (a b:Val) (hl:a.l.length<1000000) (S:Mem):CallD Tryz.prog orc 106 [.agg a.c,.agg b.c] S fun d S'=>S'=S∧d = .bool (cmpV a b==0):=by
 have h:=fun S=>valCompare (orc:=orc) a b hl S
 obtain ⟨k,i,s,l⟩:=a
 obtain ⟨k',i',s',l'⟩:=b
 simp only [Val.c] at *
 refine CallD.e Tryz.func106 rfl Tryz.ntmps106 (by rfl) ?_
 repeat' (first|refine Go.a rfl ?_|refine Go.rg ?_|refine GoR.nil ?_|refine Go.ret ?_|refine Go.b rfl ?_|(refine GoR.o (by rfl) (by rfl) ?_;(conv=>arg 1;simp only [G,Z,Y,Gx,un_neg,cutD,decide_true,decide_false,simprocAttr,fb2,fb3,fb9,fb116,fb139]);show GoR ..)|(refine GoR.c c123 (by rfl) (by rfl) rfl ?_;(refine (h _).ret ?_))|refine Go.condB rfl (fun hc => ?_) (fun hc => ?_))
 refine ⟨(by first | exact .inl rfl | exact .inr rfl),fin ?_⟩
 rw [resD_tmp (fn:=Tryz.f106) rfl]
 simp only [optThen_some,resultD_tmp,resultD_cell,G,Z,Y,Gx,un_neg,cutD,decide_true,decide_false,simprocAttr,fb2,fb3,fb9,fb116,fb139]
 exact ⟨_,_,rfl,.bool,rfl⟩
theorem refCompareValue (a b:Val) (hl:a.l.length<1000000) (hm:b.l.length<1000000) (S:Mem):CallD Tryz.prog orc 100 [.agg a.c,.agg b.c] S fun d S'=>S'=S∧d = .int .i64 (cmpV a b):=by
 obtain ⟨k,i,s,l⟩:=a
 obtain ⟨k',i',s',l'⟩:=b
 simp only at hl hm
 simp only [Val.c]
 by_cases hk:cmpI k k'=0
 ·have hv:cmpV ⟨k,i,s,l⟩ ⟨k',i',s',l'⟩=(if k=1 then cmpI i i' else if k=2 then cmpB s s' else if k=3 then cmpL l l' else 0):=by rw [cmpV,if_pos hk]
  have hkk:=cmpI_zero.1 hk
  subst hkk
  rw [hv]
  refine CallD.e Tryz.func100 rfl Tryz.ntmps100 (by rfl) ?_
  by_cases k3:k=3
  ·subst k3
   have f1:((3:Int)==1)=false:=rfl
   have f2:((3:Int)==2)=false:=rfl
   have f3:((3:Int)==3)=true:=rfl
   have f4:((3:Int) != 3)=false:=rfl
   repeat' (first|refine Go.a rfl ?_|refine Go.rg ?_|refine GoR.nil ?_|refine Go.ret ?_|refine Go.b rfl ?_|refine Go.rgS dmx (by decide) ?_|(refine GoR.o (by rfl) (by rfl) ?_;(conv=>arg 1;simp only [G,Z,Y,Gx,un_neg,cutD,decide_true,decide_false,simprocAttr,fb2,fb3,fb9,fb116,fb118,f1,f2,f3,f4]);show GoR ..)|refine GoR.s (by rfl) rfl rfl ?_|(refine GoR.splitG rfl (fun hc => ?_) (fun hc => ?_)<;>simp only [hc])|refine Go.condB rfl (fun hc => ?_) (fun hc => ?_))
   refine Go.keep [(2,.ptr S.length 0),(3,.ptr (S.length+1) 0),(5,.int .i64 ((0:Nat):Int))] (.cons .refl (.cons .refl (.cons .refl (.nil)))) ?_
   refine Go.while (α:=Nat) (fun i=>l.length - i) (fun j=>[(2,.ptr S.length 0),(3,.ptr (S.length+1) 0),(5,.int .i64 (j:Int))]) (fun _=>S++[.obj [.int .i64 3,.int .i64 i,.str s,.sl none 1 l.length (intsD l)],.obj [.int .i64 3,.int .i64 i',.str s',.sl none 1 l'.length (intsD l')]]) (fun i=>i≤l.length∧i≤l'.length∧cmpL l l'=cmpL (l.drop i) (l'.drop i)) ?_ 0 ⟨Nat.zero_le _,Nat.zero_le _,rfl⟩
   rintro j ⟨hj1,hj2,hq⟩ next
   have hmem : ∀ H,H=S++[Ob.obj [.int .i64 3,.int .i64 i,.str s,.sl none 1 l.length (intsD l)],.obj [.int .i64 3,.int .i64 i',.str s',.sl none 1 l'.length (intsD l')]]→objAt H S.length=some [.int .i64 3,.int .i64 i,.str s,.sl none 1 l.length (intsD l)]∧objAt H (S.length+1)=some [.int .i64 3,.int .i64 i',.str s',.sl none 1 l'.length (intsD l')]:=by
    rintro H rfl
    simp only [List.append_assoc,List.cons_append,List.nil_append,objAt_app,objAt_app0,objAt_succ,objAt_zero,and_self]
   by_cases h1:j<l.length
   ·by_cases h2:j<l'.length
    ·rw [cmpL_step h1 h2] at hq
     by_cases hz:cmpI l[j] l'[j]=0
     ·rw [if_pos hz] at hq
      have hzz:=cmpI_zero.1 hz
      repeat' (first|refine Go.a rfl ?_|refine Go.rg ?_|refine GoR.nil ?_|refine Go.ret ?_|refine Go.b rfl ?_|refine Go.rgS dmx (by decide) ?_|(refine GoR.o (by rfl) (by rfl) ?_;(conv=>arg 1;simp only [G,Z,Y,Gx,un_neg,cutD,decide_true,decide_false,simprocAttr,fb2,fb3,fb9,fb116,fb118,show (decide ((j:Int)<(l.length:Int)))=true by simp;omega,show (decide ((j:Int)<(l'.length:Int)))=true by simp;omega,intsAt h1,intsAt h2,show (l[j] != l'[j])=false by simp [hzz],wrap_succ (show j<4611686018427387904 by omega)]);show GoR ..)|refine GoR.s (by rfl) rfl rfl ?_|(refine GoR.splitG rfl (fun hc => ?_) (fun hc => ?_)<;>simp only [hc])|refine Go.condB rfl (fun hc => ?_) (fun hc => ?_))
      refine Go.lpN ?_
      refine Go.keep [(2,.ptr S.length 0),(3,.ptr (S.length+1) 0),(5,.int .i64 ((j+1:Nat):Int))] (.cons .refl (.cons .refl (.cons .refl (.nil)))) ?_
      exact next (j+1) (by omega) ⟨h1,h2,hq⟩
     ·clear next
      rw [if_neg hz] at hq
      have hzz : ¬ l[j]=l'[j]:=fun h=>hz (cmpI_zero.2 h)
      repeat' (first|refine Go.a rfl ?_|refine Go.rg ?_|refine GoR.nil ?_|refine Go.ret ?_|refine Go.b rfl ?_|refine Go.rgS dmx (by decide) ?_|(refine GoR.o (by rfl) (by rfl) ?_;(conv=>arg 1;simp only [G,Z,Y,Gx,un_neg,cutD,decide_true,decide_false,simprocAttr,fb2,fb3,fb9,fb116,fb118,show (decide ((j:Int)<(l.length:Int)))=true by simp;omega,show (decide ((j:Int)<(l'.length:Int)))=true by simp;omega,intsAt h1,intsAt h2,show (l[j] != l'[j])=true by simp [hzz]]);show GoR ..)|(refine GoR.c c87 (by rfl) (by rfl) rfl ?_;(refine (refOrder _ _ _).ret ?_))|refine GoR.s (by rfl) rfl rfl ?_|(refine GoR.splitG rfl (fun hc => ?_) (fun hc => ?_)<;>simp only [hc])|refine Go.condB rfl (fun hc => ?_) (fun hc => ?_))
      refine ⟨(by first | exact .inl rfl | exact .inr rfl),fin ?_⟩
      rw [resD_tmp (fn:=Tryz.f100) rfl]
      simp only [optThen_some,resultD_tmp,resultD_cell,G,Z,Y,Gx,un_neg,cutD,decide_true,decide_false,simprocAttr,fb2,fb3,fb9,fb116,fb118]
      exact ⟨_,_,rfl,.int,by simp [hq]⟩
    ·clear next
     have e:j=l'.length:=by omega
     subst e
     rw [cmpL_right h1 (Nat.le_refl _)] at hq
     repeat' (first|refine Go.a rfl ?_|refine Go.rg ?_|refine GoR.nil ?_|refine Go.ret ?_|refine Go.b rfl ?_|refine Go.rgS dmx (by decide) ?_|(refine GoR.o (by rfl) (by rfl) ?_;(conv=>arg 1;simp only [G,Z,Y,Gx,un_neg,cutD,decide_true,decide_false,simprocAttr,fb2,fb3,fb9,fb116,fb118,show (decide ((l'.length:Int)<(l.length:Int)))=true by simp;omega,show (decide ((l'.length:Int)<(l'.length:Int)))=false by simp,i64_cast (show l.length<4611686018427387904 by omega),i64_cast (show l'.length<4611686018427387904 by omega)]);show GoR ..)|(refine GoR.c c87 (by rfl) (by rfl) rfl ?_;(refine (refOrder _ _ _).ret ?_))|refine GoR.s (by rfl) rfl rfl ?_|(refine GoR.splitG rfl (fun hc => ?_) (fun hc => ?_)<;>simp only [hc])|refine Go.condB rfl (fun hc => ?_) (fun hc => ?_))
     refine ⟨(by first | exact .inl rfl | exact .inr rfl),fin ?_⟩
     rw [resD_tmp (fn:=Tryz.f100) rfl]
     simp only [optThen_some,resultD_tmp,resultD_cell,G,Z,Y,Gx,un_neg,cutD,decide_true,decide_false,simprocAttr,fb2,fb3,fb9,fb116,fb118]
     refine ⟨_,_,rfl,.int,?_⟩
     simp only [hq,cmpI]
     simp
     omega
   ·clear next
    have e:j=l.length:=by omega
    subst e
    rw [cmpL_left (Nat.le_refl _)] at hq
    repeat' (first|refine Go.a rfl ?_|refine Go.rg ?_|refine GoR.nil ?_|refine Go.ret ?_|refine Go.b rfl ?_|refine Go.rgS dmx (by decide) ?_|(refine GoR.o (by rfl) (by rfl) ?_;(conv=>arg 1;simp only [G,Z,Y,Gx,un_neg,cutD,decide_true,decide_false,simprocAttr,fb2,fb3,fb9,fb116,fb118,show (decide ((l.length:Int)<(l.length:Int)))=false by simp,i64_cast (show l.length<4611686018427387904 by omega),i64_cast (show l'.length<4611686018427387904 by omega)]);show GoR ..)|(refine GoR.c c87 (by rfl) (by rfl) rfl ?_;(refine (refOrder _ _ _).ret ?_))|refine GoR.s (by rfl) rfl rfl ?_|(refine GoR.splitG rfl (fun hc => ?_) (fun hc => ?_)<;>simp only [hc])|refine Go.condB rfl (fun hc => ?_) (fun hc => ?_))
    refine ⟨(by first | exact .inl rfl | exact .inr rfl),fin ?_⟩
    rw [resD_tmp (fn:=Tryz.f100) rfl]
    simp only [optThen_some,resultD_tmp,resultD_cell,G,Z,Y,Gx,un_neg,cutD,decide_true,decide_false,simprocAttr,fb2,fb3,fb9,fb116,fb118]
    refine ⟨_,_,rfl,.int,?_⟩
    simp only [hq,cmpI]
    simp
    split<;>first | rfl | (rw [if_neg (by omega),if_neg (by omega)]) | omega
  ·repeat' (first|refine Go.a rfl ?_|refine Go.rg ?_|refine GoR.nil ?_|refine Go.ret ?_|refine Go.b rfl ?_|refine Go.rgS dmx (by decide) ?_|(refine GoR.o (by rfl) (by rfl) ?_;(conv=>arg 1;simp only [G,Z,Y,Gx,un_neg,cutD,decide_true,decide_false,simprocAttr,fb2,fb3,fb9,fb116,fb118,show (k != k)=false by simp,show (k==3)=false by simpa using k3]);show GoR ..)|(refine GoR.c c87 (by rfl) (by rfl) rfl ?_;(refine (refOrder _ _ _).ret ?_))|(refine GoR.c c88 (by rfl) (by rfl) rfl ?_;(refine (refOrderText _ _ _).ret ?_))|refine GoR.s (by rfl) rfl rfl ?_|(refine GoR.splitG rfl (fun hc => ?_) (fun hc => ?_)<;>simp only [hc])|refine Go.condB rfl (fun hc => ?_) (fun hc => ?_))
   all_goals
    refine ⟨(by first | exact .inl rfl | exact .inr rfl),fin ?_⟩
    rw [resD_tmp (fn:=Tryz.f100) rfl]
    simp only [optThen_some,resultD_tmp,resultD_cell,G,Z,Y,Gx,un_neg,cutD,decide_true,decide_false,simprocAttr,fb2,fb3,fb9,fb116,fb118]
    refine ⟨_,_,rfl,.int,?_⟩
    simp_all
 ·have hne : ¬ k=k':=fun h=>hk (cmpI_zero.2 h)
  refine CallD.e Tryz.func100 rfl Tryz.ntmps100 (by rfl) ?_
  repeat' (first|refine Go.a rfl ?_|refine Go.rg ?_|refine GoR.nil ?_|refine Go.ret ?_|refine Go.b rfl ?_|refine Go.rgS dmx (by decide) ?_|(refine GoR.o (by rfl) (by rfl) ?_;(conv=>arg 1;simp only [G,Z,Y,Gx,un_neg,cutD,decide_true,decide_false,simprocAttr,fb2,fb3,fb9,fb116,fb118,show (k != k')=true by simpa using hne]);show GoR ..)|(refine GoR.c c87 (by rfl) (by rfl) rfl ?_;(refine (refOrder _ _ _).ret ?_))|refine GoR.s (by rfl) rfl rfl ?_|(refine GoR.splitG rfl (fun hc => ?_) (fun hc => ?_)<;>simp only [hc])|refine Go.condB rfl (fun hc => ?_) (fun hc => ?_))
  refine ⟨(by first | exact .inl rfl | exact .inr rfl),fin ?_⟩
  rw [resD_tmp (fn:=Tryz.f100) rfl]
  simp only [optThen_some,resultD_tmp,resultD_cell,G,Z,Y,Gx,un_neg,cutD,decide_true,decide_false,simprocAttr,fb2,fb3,fb9,fb116,fb118]
  exact ⟨_,_,rfl,.int,by rw [cmpV,if_neg hk]⟩
end Go.Proofs.DtT
namespace Go.Proofs.DtT
open Go Go.DM Go.Proofs.DtF
set_option maxRecDepth 100000
variable {orc:DOracle}
end Go.Proofs.DtT
namespace Go.Proofs.DtT
open Go Go.DM Go.Proofs.DtF
set_option maxRecDepth 100000
variable {orc:DOracle}
theorem rowName (s:ByteArray) (S:Mem):CallD Tryz.prog orc 90 [.str s] S fun d S'=>S'=S∧d = .bool (nameOk s):=by
 refine CallD.e Tryz.func90 rfl Tryz.ntmps90 (by rfl) ?_
 by_cases h0:s.size=0
 ·have hs:s=⟨#[]⟩:=by
   obtain ⟨d⟩:=s
   simp only [ByteArray.size,Array.size_eq_zero_iff] at h0
   rw [h0]
  repeat' (first|refine Go.a rfl ?_|refine Go.rg ?_|refine GoR.nil ?_|refine Go.ret ?_|refine Go.b rfl ?_|(refine GoR.o (by rfl) (by rfl) ?_;(conv=>arg 1;simp only [G,Z,Y,Gx,un_neg,cutD,decide_true,decide_false,simprocAttr,fb3,fb5,fb9,hs]);show GoR ..)|refine GoR.s (by rfl) rfl rfl ?_|(refine GoR.splitG rfl (fun hc => ?_) (fun hc => ?_)<;>simp only [hc])|refine Go.condB rfl (fun hc => ?_) (fun hc => ?_))
  refine ⟨(by first | exact .inl rfl | exact .inr rfl),fin ?_⟩
  rw [resD_tmp (fn:=Tryz.f90) rfl]
  simp only [optThen_some,resultD_tmp,resultD_cell,G,Z,Y,Gx,un_neg,cutD,decide_true,decide_false,simprocAttr,fb3,fb5,fb9]
  exact ⟨_,[],by simp,.bool,by rw [hs];rfl⟩
 ·have h1:0<s.size:=by omega
  have hne:decide (s=(⟨#[]⟩:ByteArray))=false:=by
   rw [decide_eq_false_iff_not]
   rintro rfl
   exact h0 rfl
  repeat' (first|refine Go.a rfl ?_|refine Go.rg ?_|refine GoR.nil ?_|refine Go.ret ?_|refine Go.b rfl ?_|(refine GoR.o (by rfl) (by rfl) ?_;(conv=>arg 1;simp only [G,Z,Y,Gx,un_neg,cutD,decide_true,decide_false,simprocAttr,fb3,fb5,fb9,hne,indexStr_zero h1]);show GoR ..)|refine GoR.s (by rfl) rfl rfl ?_|(refine GoR.splitG rfl (fun hc => ?_) (fun hc => ?_)<;>simp only [hc])|refine Go.condB rfl (fun hc => ?_) (fun hc => ?_))
  ·refine ⟨(by first | exact .inl rfl | exact .inr rfl),fin ?_⟩
   rw [resD_tmp (fn:=Tryz.f90) rfl]
   simp only [optThen_some,resultD_tmp,resultD_cell,G,Z,Y,Gx,un_neg,cutD,decide_true,decide_false,simprocAttr,fb3,fb5,fb9]
   refine ⟨_,[],by simp,.bool,?_⟩
   rw [nameOk_eq h1,decide_eq_false (by simp at hc;omega),Bool.false_and,Bool.false_and]
  ·refine ⟨(by first | exact .inl rfl | exact .inr rfl),fin ?_⟩
   rw [resD_tmp (fn:=Tryz.f90) rfl]
   simp only [optThen_some,resultD_tmp,resultD_cell,G,Z,Y,Gx,un_neg,cutD,decide_true,decide_false,simprocAttr,fb3,fb5,fb9]
   refine ⟨_,[],by simp,.bool,?_⟩
   have:lowB (s.data[0]'h1)=false:=by simp [lowB] at *;omega
   rw [nameOk_eq h1,this,Bool.and_false,Bool.false_and]
  ·rename_i hc8
   have h8:s.size≤8:=by simp at hc8;omega
   have hlo:97≤(s.data[0]'h1).toNat:=by simp at hc;omega
   refine Go.keep [(0,.str s),(17,.int .i64 (s.size:Int)),(18,.int .i64 ((0:Nat):Int))] (.cons .refl (.cons .refl (.cons .refl (.nil)))) ?_
   refine Go.while (α:=Nat) (fun i=>s.size - i) (fun i=>[(0,.str s),(17,.int .i64 (s.size:Int)),(18,.int .i64 (i:Int))]) (fun _=>S) (fun i=>i≤s.size ∧ ∀ j (h:j<s.size),j<i→(lowB (s.data[j]'h) || digB (s.data[j]'h))=true) ?_ 0 ⟨Nat.zero_le _,by simp⟩
   rintro i ⟨hi,hk⟩ next
   clear hc hc8
   repeat' (first|refine Go.a rfl ?_|refine Go.rg ?_|refine GoR.nil ?_|refine Go.ret ?_|refine Go.b rfl ?_|(refine GoR.o (by rfl) (by rfl) ?_;(conv=>arg 1;simp only [G,Z,Y,Gx,un_neg,cutD,decide_true,decide_false,simprocAttr,fb3,fb5,fb9]);show GoR ..)|refine GoR.s (by rfl) rfl rfl ?_|(refine GoR.splitG rfl (fun hc => ?_) (fun hc => ?_)<;>simp only [hc])|refine Go.condB rfl (fun hc => ?_) (fun hc => ?_))
   ·have h2:i<s.size:=by simpa using hc
    repeat' (first|refine Go.a rfl ?_|refine Go.rg ?_|refine GoR.nil ?_|refine Go.ret ?_|refine Go.b rfl ?_|(refine GoR.o (by rfl) (by rfl) ?_;(conv=>arg 1;simp only [G,Z,Y,Gx,un_neg,cutD,decide_true,decide_false,simprocAttr,fb3,fb5,fb9,indexStr_cast h2,wrap_succ (show i<4611686018427387904 by omega)]);show GoR ..)|refine GoR.s (by rfl) rfl rfl ?_|(refine GoR.splitG rfl (fun hc => ?_) (fun hc => ?_)<;>simp only [hc])|refine Go.condB rfl (fun hc => ?_) (fun hc => ?_))
    all_goals first
     | (
       refine Go.lpN ?_
       refine Go.keep [(0,.str s),(17,.int .i64 (s.size:Int)),(18,.int .i64 ((i+1:Nat):Int))] (.cons .refl (.cons .refl (.cons .refl (.nil)))) ?_
       refine next (i+1) (by omega) ⟨h2,fun j hj hlt => ?_⟩
       clear next
       rcases Nat.lt_or_ge j i with h | h
       ·exact hk j hj h
       ·obtain rfl:j=i:=by omega
        clear hk
        simp [lowB,digB] at *
        omega)
     | (
       clear next
       refine ⟨(by first | exact .inl rfl | exact .inr rfl),fin ?_⟩
       rw [resD_tmp (fn:=Tryz.f90) rfl]
       simp only [optThen_some,resultD_tmp,resultD_cell,G,Z,Y,Gx,un_neg,cutD,decide_true,decide_false,simprocAttr,fb3,fb5,fb9]
       refine ⟨_,[],by simp,.bool,?_⟩
       have hp:(fun b=>lowB b || digB b) (s.data[i]'h2)=false:=by
        clear hk
        simp [lowB,digB] at *
        omega
       simp only [nameOk,bytes_false (p:=fun b=>lowB b || digB b) h2 hp,Bool.and_false])
   ·clear next
    refine ⟨(by first | exact .inl rfl | exact .inr rfl),fin ?_⟩
    rw [resD_tmp (fn:=Tryz.f90) rfl]
    simp only [optThen_some,resultD_tmp,resultD_cell,G,Z,Y,Gx,un_neg,cutD,decide_true,decide_false,simprocAttr,fb3,fb5,fb9]
    refine ⟨_,[],by simp,.bool,?_⟩
    have hall:=bytes_true (p:=fun b=>lowB b || digB b) fun j hj=>hk j hj (by simp at hc;omega)
    have h00:=hk 0 h1 (by simp at hc;omega)
    have:lowB (s.data[0]'h1)=true:=by
     simp only [lowB,digB,Bool.or_eq_true,Bool.and_eq_true,decide_eq_true_eq] at h00 ⊢
     omega
    rw [nameOk_eq h1,hall,this,decide_eq_true h8]
    rfl
def attE (p:Option ByteArray) (a:Att):Int:=if nameOk a.n=false then 5 else if p.any (fun q => !ltB q a.n)=true then 6 else chkV a.v
def attsE (p:Option ByteArray):List Att→Int
 | []=>0
 | a::l=>if attE p a=0 then attsE (some a.n) l else attE p a
def prevN (l:List Att) (i:Nat):Option ByteArray:=if i=0 then none else (l[i - 1]?).map Att.n
theorem attsE_step {l:List Att} {i:Nat} (h:i<l.length):attsE (prevN l i) (l.drop i)=if attE (prevN l i) l[i]=0 then attsE (prevN l (i+1)) (l.drop (i+1)) else attE (prevN l i) l[i]:=by
 have e:prevN l (i+1)=some l[i].n:=by simp [prevN,h]
 rw [List.drop_eq_getElem_cons h,attsE,e]
theorem prevN_pos {l:List Att} {i:Nat} (h:i<l.length) (h0:0<i):prevN l i=some (l[i - 1]'(by omega)).n:=by
 rw [prevN,if_neg (by omega),List.getElem?_eq_getElem (by omega)]
 rfl
def attrsE (l:List Att):Int:=if 32<l.length then 4 else attsE none l
theorem rowAttrs (l:List Att) (hl : ∀ a∈l,a.v.s.size<1000000) (S:Mem):CallD Tryz.prog orc 92 [.sl none 5 l.length (attsC l)] S fun d S'=>S'=S∧d = .int .i64 (attrsE l):=by
 refine CallD.e Tryz.func92 rfl Tryz.ntmps92 (by rfl) ?_
 by_cases h32:32<l.length
 ·repeat' (first|refine Go.a rfl ?_|refine Go.rg ?_|refine GoR.nil ?_|refine Go.ret ?_|refine Go.b rfl ?_|refine Go.rgS dmx (by decide) ?_|(refine GoR.o (by rfl) (by rfl) ?_;(conv=>arg 1;simp only [G,Z,Y,Gx,un_neg,cutD,decide_true,decide_false,simprocAttr,fb2,fb3,fb9,fb25,fb33,fb116,fb139,fb141,show (decide (32<(l.length:Int)))=true by simp;omega]);show GoR ..)|refine GoR.s (by rfl) rfl rfl ?_|(refine GoR.splitG rfl (fun hc => ?_) (fun hc => ?_)<;>simp only [hc])|refine Go.condB rfl (fun hc => ?_) (fun hc => ?_))
  refine ⟨(by first | exact .inl rfl | exact .inr rfl),fin ?_⟩
  rw [resD_tmp (fn:=Tryz.f92) rfl]
  simp only [optThen_some,resultD_tmp,resultD_cell,G,Z,Y,Gx,un_neg,cutD,decide_true,decide_false,simprocAttr,fb2,fb3,fb9,fb25,fb33,fb116,fb139,fb141]
  exact ⟨_,[],by simp,.int,by rw [attrsE,if_pos h32]⟩
 rw [attrsE,if_neg h32]
 repeat' (first|refine Go.a rfl ?_|refine Go.rg ?_|refine GoR.nil ?_|refine Go.ret ?_|refine Go.b rfl ?_|refine Go.rgS dmx (by decide) ?_|(refine GoR.o (by rfl) (by rfl) ?_;(conv=>arg 1;simp only [G,Z,Y,Gx,un_neg,cutD,decide_true,decide_false,simprocAttr,fb2,fb3,fb9,fb25,fb33,fb116,fb139,fb141,show (decide (32<(l.length:Int)))=false by simp;omega]);show GoR ..)|refine GoR.s (by rfl) rfl rfl ?_|(refine GoR.splitG rfl (fun hc => ?_) (fun hc => ?_)<;>simp only [hc])|refine Go.condB rfl (fun hc => ?_) (fun hc => ?_))
 refine Go.keep [(0,.sl none 5 l.length (attsC l)),(9,.sl none 5 l.length (attsC l)),(10,.int .i64 (l.length:Int)),(11,.int .i64 ((0:Nat):Int))] (.cons .refl (.cons .refl (.cons .refl (.cons .refl (.nil))))) ?_
 refine Go.while (α:=Nat×Mem) (fun x=>l.length - x.1) (fun x=>[(0,.sl none 5 l.length (attsC l)),(9,.sl none 5 l.length (attsC l)),(10,.int .i64 (l.length:Int)),(11,.int .i64 (x.1:Int))]) (fun x=>x.2)
  (fun x=>x.1≤l.length∧attsE none l=attsE (prevN l x.1) (l.drop x.1)∧Grown S.length S x.2) ?_ (0,S) ⟨Nat.zero_le _,rfl,.refl⟩
 rintro ⟨i,S1⟩ ⟨hi,hk,hg⟩ next
 dsimp only at hi hk hg next
 by_cases h1:i<l.length
 ·have hsz:=hl l[i] (List.getElem_mem _)
  have hv:=fun S=>valCheck (orc:=orc) l[i].v hsz S
  rw [attsE_step h1] at hk
  have dl:decide ((i:Int)<(l.length:Int))=true:=by simp;omega
  have hgE:Grown S.length S (S1++[Ob.obj l[i].c]):=hg.trans Grown.app
  obtain ⟨Eg,hEg⟩:=hgE.pre [] S rfl (by simp)
  simp only [Val.c,Att.c] at hv hEg
  have at1:=attsAt h1
  simp only [Val.c,Att.c] at at1
  cases hn:nameOk l[i].n with
  | false=>
   clear next
   have he:attE (prevN l i) l[i]=5:=by rw [attE,if_pos hn]
   repeat' (first|refine Go.a rfl ?_|refine Go.rg ?_|refine GoR.nil ?_|refine Go.ret ?_|refine Go.b rfl ?_|refine Go.rgS dmx (by decide) ?_|(refine GoR.o (by rfl) (by rfl) ?_;(conv=>arg 1;simp only [G,Z,Y,Gx,un_neg,cutD,decide_true,decide_false,simprocAttr,fb2,fb3,fb9,fb25,fb33,fb116,fb139,fb141,dl,at1,hn]);show GoR ..)|(refine GoR.c c90 (by rfl) (by rfl) rfl ?_;(refine (rowName _ _).ret ?_))|refine GoR.s (by rfl) rfl rfl ?_|(refine GoR.splitG rfl (fun hc => ?_) (fun hc => ?_)<;>simp only [hc])|refine Go.condB rfl (fun hc => ?_) (fun hc => ?_))
   refine ⟨(by first | exact .inl rfl | exact .inr rfl),fin ?_⟩
   rw [resD_tmp (fn:=Tryz.f92) rfl]
   simp only [optThen_some,resultD_tmp,resultD_cell,G,Z,Y,Gx,un_neg,cutD,decide_true,decide_false,simprocAttr,fb2,fb3,fb9,fb25,fb33,fb116,fb139,fb141]
   exact ⟨_,Eg,hEg,.int,by rw [hk,he];rfl⟩
  | true=>
   by_cases h0:i=0
   ·have hp:prevN l i=none:=if_pos h0
    have he:attE (prevN l i) l[i]=chkV l[i].v:=by rw [attE,if_neg (by rw [hn];decide),hp];rfl
    have d0:decide (0<(i:Int))=false:=by simp;omega
    rw [he] at hk
    by_cases hc0:chkV l[i].v=0
    ·rw [if_pos hc0] at hk
     repeat' (first|refine Go.a rfl ?_|refine Go.rg ?_|refine GoR.nil ?_|refine Go.ret ?_|refine Go.b rfl ?_|refine Go.rgS dmx (by decide) ?_|(refine GoR.o (by rfl) (by rfl) ?_;(conv=>arg 1;simp only [G,Z,Y,Gx,un_neg,cutD,decide_true,decide_false,simprocAttr,fb2,fb3,fb9,fb25,fb33,fb116,fb139,fb141,dl,at1,hn,d0,hc0,wrap_succ (show i<4611686018427387904 by omega)]);show GoR ..)|(refine GoR.c c90 (by rfl) (by rfl) rfl ?_;(refine (rowName _ _).ret ?_))|(refine GoR.c c118 (by rfl) (by rfl) rfl ?_;(refine (hv _).ret ?_))|refine GoR.s (by rfl) rfl rfl ?_|(refine GoR.splitG rfl (fun hc => ?_) (fun hc => ?_)<;>simp only [hc])|refine Go.condB rfl (fun hc => ?_) (fun hc => ?_))
     refine Go.lpN ?_
     refine Go.keep [(0,.sl none 5 l.length (attsC l)),(9,.sl none 5 l.length (attsC l)),(10,.int .i64 (l.length:Int)),(11,.int .i64 ((i+1:Nat):Int))] (.cons .refl (.cons .refl (.cons .refl (.cons .refl (.nil))))) ?_
     exact next (i+1,_) (by dsimp only;omega) ⟨h1,hk,hg.trans Grown.app⟩
    ·clear next
     rw [if_neg hc0] at hk
     repeat' (first|refine Go.a rfl ?_|refine Go.rg ?_|refine GoR.nil ?_|refine Go.ret ?_|refine Go.b rfl ?_|refine Go.rgS dmx (by decide) ?_|(refine GoR.o (by rfl) (by rfl) ?_;(conv=>arg 1;simp only [G,Z,Y,Gx,un_neg,cutD,decide_true,decide_false,simprocAttr,fb2,fb3,fb9,fb25,fb33,fb116,fb139,fb141,dl,at1,hn,d0,show (chkV l[i].v != 0)=true by simpa using hc0]);show GoR ..)|(refine GoR.c c90 (by rfl) (by rfl) rfl ?_;(refine (rowName _ _).ret ?_))|(refine GoR.c c118 (by rfl) (by rfl) rfl ?_;(refine (hv _).ret ?_))|refine GoR.s (by rfl) rfl rfl ?_|(refine GoR.splitG rfl (fun hc => ?_) (fun hc => ?_)<;>simp only [hc])|refine Go.condB rfl (fun hc => ?_) (fun hc => ?_))
     refine ⟨(by first | exact .inl rfl | exact .inr rfl),fin ?_⟩
     rw [resD_tmp (fn:=Tryz.f92) rfl]
     simp only [optThen_some,resultD_tmp,resultD_cell,G,Z,Y,Gx,un_neg,cutD,decide_true,decide_false,simprocAttr,fb2,fb3,fb9,fb25,fb33,fb116,fb139,fb141]
     exact ⟨_,Eg,hEg,.int,by rw [hk]⟩
   ·have hp:=prevN_pos h1 (show 0<i by omega)
    have d0:decide (0<(i:Int))=true:=by simp;omega
    have at0:=attsAt (l:=l) (i:=i - 1) (by omega)
    cases hb:ltB (l[i - 1]'(by omega)).n l[i].n with
    | false=>
     clear next
     have hbl:Op.bytesLess (l[i - 1]'(by omega)).n.toList l[i].n.toList=false:=hb
     have he:attE (prevN l i) l[i]=6:=by rw [attE,if_neg (by rw [hn];decide),hp,if_pos (by simp [hb])]
     repeat' (first|refine Go.a rfl ?_|refine Go.rg ?_|refine GoR.nil ?_|refine Go.ret ?_|refine Go.b rfl ?_|refine Go.rgS dmx (by decide) ?_|(refine GoR.o (by rfl) (by rfl) ?_;(conv=>arg 1;simp only [G,Z,Y,Gx,un_neg,cutD,decide_true,decide_false,simprocAttr,fb2,fb3,fb9,fb25,fb33,fb116,fb139,fb141,dl,at1,at0,hn,d0,hbl,pred_cast (show 0<i by omega) (show i<4611686018427387904 by omega)]);show GoR ..)|(refine GoR.c c90 (by rfl) (by rfl) rfl ?_;(refine (rowName _ _).ret ?_))|refine GoR.s (by rfl) rfl rfl ?_|(refine GoR.splitG rfl (fun hc => ?_) (fun hc => ?_)<;>simp only [hc])|refine Go.condB rfl (fun hc => ?_) (fun hc => ?_))
     refine ⟨(by first | exact .inl rfl | exact .inr rfl),fin ?_⟩
     rw [resD_tmp (fn:=Tryz.f92) rfl]
     simp only [optThen_some,resultD_tmp,resultD_cell,G,Z,Y,Gx,un_neg,cutD,decide_true,decide_false,simprocAttr,fb2,fb3,fb9,fb25,fb33,fb116,fb139,fb141]
     exact ⟨_,Eg,hEg,.int,by rw [hk,he];rfl⟩
    | true=>
     have hbl:Op.bytesLess (l[i - 1]'(by omega)).n.toList l[i].n.toList=true:=hb
     have he:attE (prevN l i) l[i]=chkV l[i].v:=by rw [attE,if_neg (by rw [hn];decide),hp,if_neg (by simp [hb])]
     rw [he] at hk
     by_cases hc0:chkV l[i].v=0
     ·rw [if_pos hc0] at hk
      repeat' (first|refine Go.a rfl ?_|refine Go.rg ?_|refine GoR.nil ?_|refine Go.ret ?_|refine Go.b rfl ?_|refine Go.rgS dmx (by decide) ?_|(refine GoR.o (by rfl) (by rfl) ?_;(conv=>arg 1;simp only [G,Z,Y,Gx,un_neg,cutD,decide_true,decide_false,simprocAttr,fb2,fb3,fb9,fb25,fb33,fb116,fb139,fb141,dl,at1,at0,hn,d0,hbl,hc0,pred_cast (show 0<i by omega) (show i<4611686018427387904 by omega),wrap_succ (show i<4611686018427387904 by omega)]);show GoR ..)|(refine GoR.c c90 (by rfl) (by rfl) rfl ?_;(refine (rowName _ _).ret ?_))|(refine GoR.c c118 (by rfl) (by rfl) rfl ?_;(refine (hv _).ret ?_))|refine GoR.s (by rfl) rfl rfl ?_|(refine GoR.splitG rfl (fun hc => ?_) (fun hc => ?_)<;>simp only [hc])|refine Go.condB rfl (fun hc => ?_) (fun hc => ?_))
      refine Go.lpN ?_
      refine Go.keep [(0,.sl none 5 l.length (attsC l)),(9,.sl none 5 l.length (attsC l)),(10,.int .i64 (l.length:Int)),(11,.int .i64 ((i+1:Nat):Int))] (.cons .refl (.cons .refl (.cons .refl (.cons .refl (.nil))))) ?_
      exact next (i+1,_) (by dsimp only;omega) ⟨h1,hk,hg.trans Grown.app⟩
     ·clear next
      rw [if_neg hc0] at hk
      repeat' (first|refine Go.a rfl ?_|refine Go.rg ?_|refine GoR.nil ?_|refine Go.ret ?_|refine Go.b rfl ?_|refine Go.rgS dmx (by decide) ?_|(refine GoR.o (by rfl) (by rfl) ?_;(conv=>arg 1;simp only [G,Z,Y,Gx,un_neg,cutD,decide_true,decide_false,simprocAttr,fb2,fb3,fb9,fb25,fb33,fb116,fb139,fb141,dl,at1,at0,hn,d0,hbl,pred_cast (show 0<i by omega) (show i<4611686018427387904 by omega),show (chkV l[i].v != 0)=true by simpa using hc0]);show GoR ..)|(refine GoR.c c90 (by rfl) (by rfl) rfl ?_;(refine (rowName _ _).ret ?_))|(refine GoR.c c118 (by rfl) (by rfl) rfl ?_;(refine (hv _).ret ?_))|refine GoR.s (by rfl) rfl rfl ?_|(refine GoR.splitG rfl (fun hc => ?_) (fun hc => ?_)<;>simp only [hc])|refine Go.condB rfl (fun hc => ?_) (fun hc => ?_))
      refine ⟨(by first | exact .inl rfl | exact .inr rfl),fin ?_⟩
      rw [resD_tmp (fn:=Tryz.f92) rfl]
      simp only [optThen_some,resultD_tmp,resultD_cell,G,Z,Y,Gx,un_neg,cutD,decide_true,decide_false,simprocAttr,fb2,fb3,fb9,fb25,fb33,fb116,fb139,fb141]
      exact ⟨_,Eg,hEg,.int,by rw [hk]⟩
 ·clear next
  obtain ⟨E,hE⟩:=hg.pre [] S rfl (by simp)
  repeat' (first|refine Go.a rfl ?_|refine Go.rg ?_|refine GoR.nil ?_|refine Go.ret ?_|refine Go.b rfl ?_|refine Go.rgS dmx (by decide) ?_|(refine GoR.o (by rfl) (by rfl) ?_;(conv=>arg 1;simp only [G,Z,Y,Gx,un_neg,cutD,decide_true,decide_false,simprocAttr,fb2,fb3,fb9,fb25,fb33,fb116,fb139,fb141,show (decide ((i:Int)<(l.length:Int)))=false by simp;omega]);show GoR ..)|refine GoR.s (by rfl) rfl rfl ?_|(refine GoR.splitG rfl (fun hc => ?_) (fun hc => ?_)<;>simp only [hc])|refine Go.condB rfl (fun hc => ?_) (fun hc => ?_))
  refine ⟨(by first | exact .inl rfl | exact .inr rfl),fin ?_⟩
  rw [resD_tmp (fn:=Tryz.f92) rfl]
  simp only [optThen_some,resultD_tmp,resultD_cell,G,Z,Y,Gx,un_neg,cutD,decide_true,decide_false,simprocAttr,fb2,fb3,fb9,fb25,fb33,fb116,fb139,fb141]
  exact ⟨_,E,hE,.int,by rw [hk,List.drop_of_length_le (by omega)];rfl⟩
end Go.Proofs.DtT
namespace Go.Proofs.DtT
open Go Go.DM Go.Proofs.DtF
set_option maxRecDepth 100000
variable {orc:DOracle}
structure Rw where
 key:ByteArray
 st:St
 at_:List Att
def Rw.c (r:Rw):List D:=[.str r.key,.int .i64 r.st.tick,.int .i64 r.st.inc,.int .i64 r.st.seq,.str r.st.org,.sl none 5 r.at_.length (attsC r.at_)]
def chkR (r:Rw):Int:=if nameOk r.key=false then 5 else if chk r.st=0 then attrsE r.at_ else chk r.st
structure FewR (r:Rw):Prop where
 key:r.key.size<1000000
 org:r.st.org.size<1000000
 atn : ∀ a∈r.at_,a.n.size<1000000
 ats : ∀ a∈r.at_,a.v.s.size<1000000
 atl : ∀ a∈r.at_,a.v.l.length<1000000
theorem rowCheck (r:Rw) (hr:FewR r) (S:Mem):CallD Tryz.prog O 57 [.agg r.c] S fun d S'=>S'=S∧d = .int .i64 (chkR r):=by
 have hat:=fun S=>rowAttrs (orc:=O) r.at_ hr.ats S
 have hst:=fun S=>stCheck r.st hr.org S
 obtain ⟨key,⟨a,b,c,org⟩,at_⟩:=r
 simp only [Rw.c,St.c] at *
 refine CallD.e Tryz.func57 rfl Tryz.ntmps57 (by rfl) ?_
 cases hn:nameOk key with
 | false=>
  repeat' (first|refine Go.a rfl ?_|refine Go.rg ?_|refine GoR.nil ?_|refine Go.ret ?_|refine Go.b rfl ?_|(refine GoR.o (by rfl) (by rfl) ?_;(conv=>arg 1;simp only [G,Z,Y,Gx,un_neg,cutD,decide_true,decide_false,simprocAttr,fb2,fb9,fb25,fb32,fb33,fb35,hn]);show GoR ..)|(refine GoR.c c90 (by rfl) (by rfl) rfl ?_;(refine (rowName _ _).ret ?_))|refine Go.condB rfl (fun hc => ?_) (fun hc => ?_))
  refine ⟨(by first | exact .inl rfl | exact .inr rfl),fin ?_⟩
  rw [resD_tmp (fn:=Tryz.f57) rfl]
  simp only [optThen_some,resultD_tmp,resultD_cell,G,Z,Y,Gx,un_neg,cutD,decide_true,decide_false,simprocAttr,fb2,fb9,fb25,fb32,fb33,fb35]
  exact ⟨_,_,rfl,.int,by rw [chkR,if_pos hn]⟩
 | true=>
  by_cases h0:chk ⟨a,b,c,org⟩=0
  ·repeat' (first|refine Go.a rfl ?_|refine Go.rg ?_|refine GoR.nil ?_|refine Go.ret ?_|refine Go.b rfl ?_|(refine GoR.o (by rfl) (by rfl) ?_;(conv=>arg 1;simp only [G,Z,Y,Gx,un_neg,cutD,decide_true,decide_false,simprocAttr,fb2,fb9,fb25,fb32,fb33,fb35,hn,h0]);show GoR ..)|(refine GoR.c c90 (by rfl) (by rfl) rfl ?_;(refine (rowName _ _).ret ?_))|(refine GoR.c c91 (by rfl) (by rfl) rfl ?_;(refine (hst _).ret ?_))|(refine GoR.c c92 (by rfl) (by rfl) rfl ?_;(refine (hat _).ret ?_))|refine Go.condB rfl (fun hc => ?_) (fun hc => ?_))
   refine ⟨(by first | exact .inl rfl | exact .inr rfl),fin ?_⟩
   rw [resD_tmp (fn:=Tryz.f57) rfl]
   simp only [optThen_some,resultD_tmp,resultD_cell,G,Z,Y,Gx,un_neg,cutD,decide_true,decide_false,simprocAttr,fb2,fb9,fb25,fb32,fb33,fb35]
   exact ⟨_,_,rfl,.int,by rw [chkR,if_neg (by simp [hn]),if_pos h0]⟩
  ·repeat' (first|refine Go.a rfl ?_|refine Go.rg ?_|refine GoR.nil ?_|refine Go.ret ?_|refine Go.b rfl ?_|(refine GoR.o (by rfl) (by rfl) ?_;(conv=>arg 1;simp only [G,Z,Y,Gx,un_neg,cutD,decide_true,decide_false,simprocAttr,fb2,fb9,fb25,fb32,fb33,fb35,hn,show (chk ⟨a,b,c,org⟩ != 0)=true by simpa using h0]);show GoR ..)|(refine GoR.c c90 (by rfl) (by rfl) rfl ?_;(refine (rowName _ _).ret ?_))|(refine GoR.c c91 (by rfl) (by rfl) rfl ?_;(refine (hst _).ret ?_))|refine Go.condB rfl (fun hc => ?_) (fun hc => ?_))
   refine ⟨(by first | exact .inl rfl | exact .inr rfl),fin ?_⟩
   rw [resD_tmp (fn:=Tryz.f57) rfl]
   simp only [optThen_some,resultD_tmp,resultD_cell,G,Z,Y,Gx,un_neg,cutD,decide_true,decide_false,simprocAttr,fb2,fb9,fb25,fb32,fb33,fb35]
   exact ⟨_,_,rfl,.int,by rw [chkR,if_neg (by simp [hn]),if_neg h0]⟩
theorem refCheck (r:Rw) (hr:FewR r) (S:Mem):CallD Tryz.prog O 24 [.agg r.c] S fun d S'=>S'=S∧d = .int .i64 (chkR r):=by
 have hst:=fun S=>refCheckStamp r.st hr.org S
 obtain ⟨hkey,_,hatn,hats,_⟩:=hr
 obtain ⟨key,⟨a,b,c,org⟩,l⟩:=r
 simp only at hkey hatn hats
 have hkn:=fun S=>refName (orc:=O) key (by omega) S
 simp only [Rw.c,St.c] at *
 refine CallD.e Tryz.func24 rfl Tryz.ntmps24 (by rfl) ?_
 cases hn:nameOk key with
 | false=>
  repeat' (first|refine Go.a rfl ?_|refine Go.rg ?_|refine GoR.nil ?_|refine Go.ret ?_|refine Go.b rfl ?_|refine Go.rgS dmx (by decide) ?_|(refine GoR.o (by rfl) (by rfl) ?_;(conv=>arg 1;simp only [G,Z,Y,Gx,un_neg,cutD,decide_true,decide_false,simprocAttr,fb2,fb3,fb9,fb41,fb42,fb44,fb116,fb118,fb120,hn]);show GoR ..)|(refine GoR.c c68 (by rfl) (by rfl) rfl ?_;(refine (hkn _).ret ?_))|refine GoR.s (by rfl) rfl rfl ?_|(refine GoR.splitG rfl (fun hc => ?_) (fun hc => ?_)<;>simp only [hc])|refine Go.condB rfl (fun hc => ?_) (fun hc => ?_))
  refine ⟨(by first | exact .inl rfl | exact .inr rfl),fin ?_⟩
  rw [resD_tmp (fn:=Tryz.f24) rfl]
  simp only [optThen_some,resultD_tmp,resultD_cell,G,Z,Y,Gx,un_neg,cutD,decide_true,decide_false,simprocAttr,fb2,fb3,fb9,fb41,fb42,fb44,fb116,fb118,fb120]
  exact ⟨_,_,rfl,.int,by rw [chkR,if_pos hn]⟩
 | true=>
  by_cases hc:chk ⟨a,b,c,org⟩=0
  ·have hR:chkR ⟨key,⟨a,b,c,org⟩,l⟩=attrsE l:=by rw [chkR,if_neg (by simp [hn]),if_pos hc]
   rw [hR]
   by_cases h32:32<l.length
   ·repeat' (first|refine Go.a rfl ?_|refine Go.rg ?_|refine GoR.nil ?_|refine Go.ret ?_|refine Go.b rfl ?_|refine Go.rgS dmx (by decide) ?_|(refine GoR.o (by rfl) (by rfl) ?_;(conv=>arg 1;simp only [G,Z,Y,Gx,un_neg,cutD,decide_true,decide_false,simprocAttr,fb2,fb3,fb9,fb41,fb42,fb44,fb116,fb118,fb120,hn,hc,show (decide (32<(l.length:Int)))=true by simp;omega]);show GoR ..)|(refine GoR.c c68 (by rfl) (by rfl) rfl ?_;(refine (hkn _).ret ?_))|(refine GoR.c c69 (by rfl) (by rfl) rfl ?_;(refine (hst _).ret ?_))|refine GoR.s (by rfl) rfl rfl ?_|(refine GoR.splitG rfl (fun hc => ?_) (fun hc => ?_)<;>simp only [hc])|refine Go.condB rfl (fun hc => ?_) (fun hc => ?_))
    refine ⟨(by first | exact .inl rfl | exact .inr rfl),fin ?_⟩
    rw [resD_tmp (fn:=Tryz.f24) rfl]
    simp only [optThen_some,resultD_tmp,resultD_cell,G,Z,Y,Gx,un_neg,cutD,decide_true,decide_false,simprocAttr,fb2,fb3,fb9,fb41,fb42,fb44,fb116,fb118,fb120]
    exact ⟨_,_,rfl,.int,by rw [attrsE,if_pos h32]⟩
   rw [attrsE,if_neg h32]
   repeat' (first|refine Go.a rfl ?_|refine Go.rg ?_|refine GoR.nil ?_|refine Go.ret ?_|refine Go.b rfl ?_|refine Go.rgS dmx (by decide) ?_|(refine GoR.o (by rfl) (by rfl) ?_;(conv=>arg 1;simp only [G,Z,Y,Gx,un_neg,cutD,decide_true,decide_false,simprocAttr,fb2,fb3,fb9,fb41,fb42,fb44,fb116,fb118,fb120,hn,hc,show (decide (32<(l.length:Int)))=false by simp;omega]);show GoR ..)|(refine GoR.c c68 (by rfl) (by rfl) rfl ?_;(refine (hkn _).ret ?_))|(refine GoR.c c69 (by rfl) (by rfl) rfl ?_;(refine (hst _).ret ?_))|refine GoR.s (by rfl) rfl rfl ?_|(refine GoR.splitG rfl (fun hc => ?_) (fun hc => ?_)<;>simp only [hc])|refine Go.condB rfl (fun hc => ?_) (fun hc => ?_))
   refine Go.keep [(1,.ptr S.length 0),(4,.int .i64 ((0:Nat):Int))] (.cons .refl (.cons .refl (.nil))) ?_
   refine Go.while (α:=Nat) (fun i=>l.length - i) (fun i=>[(1,.ptr S.length 0),(4,.int .i64 (i:Int))]) (fun _=>S++[.obj [.str key,.int .i64 a,.int .i64 b,.int .i64 c,.str org,.sl none 5 l.length (attsC l)]])
    (fun i=>i≤l.length∧attsE none l=attsE (prevN l i) (l.drop i)) ?_ 0 ⟨Nat.zero_le _,rfl⟩
   rintro i ⟨hi,hk⟩ next
   by_cases h1:i<l.length
   ·have hsz:=hats l[i] (List.getElem_mem _)
    have hnz:=hatn l[i] (List.getElem_mem _)
    have hv:=fun S=>refCheckValue (orc:=O) l[i].v hsz S
    have hnm:=fun S=>refName (orc:=O) l[i].n (by omega) S
    rw [attsE_step h1] at hk
    have dl:decide ((i:Int)<(l.length:Int))=true:=by simp;omega
    simp only [Val.c] at hv
    have at1:=attsAt h1
    simp only [Val.c,Att.c] at at1
    cases hn1:nameOk l[i].n with
    | false=>
     clear next
     have he:attE (prevN l i) l[i]=5:=by rw [attE,if_pos hn1]
     repeat' (first|refine Go.a rfl ?_|refine Go.rg ?_|refine GoR.nil ?_|refine Go.ret ?_|refine Go.b rfl ?_|refine Go.rgS dmx (by decide) ?_|(refine GoR.o (by rfl) (by rfl) ?_;(conv=>arg 1;simp only [G,Z,Y,Gx,un_neg,cutD,decide_true,decide_false,simprocAttr,fb2,fb3,fb9,fb41,fb42,fb44,fb116,fb118,fb120,dl,at1,hn1]);show GoR ..)|(refine GoR.c c68 (by rfl) (by rfl) rfl ?_;(refine (hnm _).ret ?_))|(refine GoR.c c70 (by rfl) (by rfl) rfl ?_;(refine (hv _).ret ?_))|refine GoR.s (by rfl) rfl rfl ?_|(refine GoR.splitG rfl (fun hc => ?_) (fun hc => ?_)<;>simp only [hc])|refine Go.condB rfl (fun hc => ?_) (fun hc => ?_))
     refine ⟨(by first | exact .inl rfl | exact .inr rfl),fin ?_⟩
     rw [resD_tmp (fn:=Tryz.f24) rfl]
     simp only [optThen_some,resultD_tmp,resultD_cell,G,Z,Y,Gx,un_neg,cutD,decide_true,decide_false,simprocAttr,fb2,fb3,fb9,fb41,fb42,fb44,fb116,fb118,fb120]
     exact ⟨_,_,rfl,.int,by rw [hk,he];rfl⟩
    | true=>
     by_cases h0:i=0
     ·have hp:prevN l i=none:=if_pos h0
      have he:attE (prevN l i) l[i]=chkV l[i].v:=by rw [attE,if_neg (by rw [hn1];decide),hp];rfl
      have d0:decide (0<(i:Int))=false:=by simp;omega
      rw [he] at hk
      by_cases hc0:chkV l[i].v=0
      ·rw [if_pos hc0] at hk
       repeat' (first|refine Go.a rfl ?_|refine Go.rg ?_|refine GoR.nil ?_|refine Go.ret ?_|refine Go.b rfl ?_|refine Go.rgS dmx (by decide) ?_|(refine GoR.o (by rfl) (by rfl) ?_;(conv=>arg 1;simp only [G,Z,Y,Gx,un_neg,cutD,decide_true,decide_false,simprocAttr,fb2,fb3,fb9,fb41,fb42,fb44,fb116,fb118,fb120,dl,at1,hn1,d0,hc0,wrap_succ (show i<4611686018427387904 by omega)]);show GoR ..)|(refine GoR.c c68 (by rfl) (by rfl) rfl ?_;(refine (hnm _).ret ?_))|(refine GoR.c c70 (by rfl) (by rfl) rfl ?_;(refine (hv _).ret ?_))|refine GoR.s (by rfl) rfl rfl ?_|(refine GoR.splitG rfl (fun hc => ?_) (fun hc => ?_)<;>simp only [hc])|refine Go.condB rfl (fun hc => ?_) (fun hc => ?_))
       refine Go.lpN ?_
       refine Go.keep [(1,.ptr S.length 0),(4,.int .i64 ((i+1:Nat):Int))] (.cons .refl (.cons .refl (.nil))) ?_
       exact next (i+1) (by omega) ⟨h1,hk⟩
      ·clear next
       rw [if_neg hc0] at hk
       repeat' (first|refine Go.a rfl ?_|refine Go.rg ?_|refine GoR.nil ?_|refine Go.ret ?_|refine Go.b rfl ?_|refine Go.rgS dmx (by decide) ?_|(refine GoR.o (by rfl) (by rfl) ?_;(conv=>arg 1;simp only [G,Z,Y,Gx,un_neg,cutD,decide_true,decide_false,simprocAttr,fb2,fb3,fb9,fb41,fb42,fb44,fb116,fb118,fb120,dl,at1,hn1,d0,show (chkV l[i].v != 0)=true by simpa using hc0]);show GoR ..)|(refine GoR.c c68 (by rfl) (by rfl) rfl ?_;(refine (hnm _).ret ?_))|(refine GoR.c c70 (by rfl) (by rfl) rfl ?_;(refine (hv _).ret ?_))|refine GoR.s (by rfl) rfl rfl ?_|(refine GoR.splitG rfl (fun hc => ?_) (fun hc => ?_)<;>simp only [hc])|refine Go.condB rfl (fun hc => ?_) (fun hc => ?_))
       refine ⟨(by first | exact .inl rfl | exact .inr rfl),fin ?_⟩
       rw [resD_tmp (fn:=Tryz.f24) rfl]
       simp only [optThen_some,resultD_tmp,resultD_cell,G,Z,Y,Gx,un_neg,cutD,decide_true,decide_false,simprocAttr,fb2,fb3,fb9,fb41,fb42,fb44,fb116,fb118,fb120]
       exact ⟨_,_,rfl,.int,by rw [hk]⟩
     ·have hp:=prevN_pos h1 (show 0<i by omega)
      have d0:decide (0<(i:Int))=true:=by simp;omega
      have at0:=attsAt (l:=l) (i:=i - 1) (by omega)
      cases hb:ltB (l[i - 1]'(by omega)).n l[i].n with
      | false=>
       clear next
       have hbl:Op.bytesLess (l[i - 1]'(by omega)).n.toList l[i].n.toList=false:=hb
       have he:attE (prevN l i) l[i]=6:=by rw [attE,if_neg (by rw [hn1];decide),hp,if_pos (by simp [hb])]
       repeat' (first|refine Go.a rfl ?_|refine Go.rg ?_|refine GoR.nil ?_|refine Go.ret ?_|refine Go.b rfl ?_|refine Go.rgS dmx (by decide) ?_|(refine GoR.o (by rfl) (by rfl) ?_;(conv=>arg 1;simp only [G,Z,Y,Gx,un_neg,cutD,decide_true,decide_false,simprocAttr,fb2,fb3,fb9,fb41,fb42,fb44,fb116,fb118,fb120,dl,at1,at0,hn1,d0,hbl,pred_cast (show 0<i by omega) (show i<4611686018427387904 by omega)]);show GoR ..)|(refine GoR.c c68 (by rfl) (by rfl) rfl ?_;(refine (hnm _).ret ?_))|(refine GoR.c c70 (by rfl) (by rfl) rfl ?_;(refine (hv _).ret ?_))|refine GoR.s (by rfl) rfl rfl ?_|(refine GoR.splitG rfl (fun hc => ?_) (fun hc => ?_)<;>simp only [hc])|refine Go.condB rfl (fun hc => ?_) (fun hc => ?_))
       refine ⟨(by first | exact .inl rfl | exact .inr rfl),fin ?_⟩
       rw [resD_tmp (fn:=Tryz.f24) rfl]
       simp only [optThen_some,resultD_tmp,resultD_cell,G,Z,Y,Gx,un_neg,cutD,decide_true,decide_false,simprocAttr,fb2,fb3,fb9,fb41,fb42,fb44,fb116,fb118,fb120]
       exact ⟨_,_,rfl,.int,by rw [hk,he];rfl⟩
      | true=>
       have hbl:Op.bytesLess (l[i - 1]'(by omega)).n.toList l[i].n.toList=true:=hb
       have he:attE (prevN l i) l[i]=chkV l[i].v:=by rw [attE,if_neg (by rw [hn1];decide),hp,if_neg (by simp [hb])]
       rw [he] at hk
       by_cases hc0:chkV l[i].v=0
       ·rw [if_pos hc0] at hk
        repeat' (first|refine Go.a rfl ?_|refine Go.rg ?_|refine GoR.nil ?_|refine Go.ret ?_|refine Go.b rfl ?_|refine Go.rgS dmx (by decide) ?_|(refine GoR.o (by rfl) (by rfl) ?_;(conv=>arg 1;simp only [G,Z,Y,Gx,un_neg,cutD,decide_true,decide_false,simprocAttr,fb2,fb3,fb9,fb41,fb42,fb44,fb116,fb118,fb120,dl,at1,at0,hn1,d0,hbl,hc0,pred_cast (show 0<i by omega) (show i<4611686018427387904 by omega),wrap_succ (show i<4611686018427387904 by omega)]);show GoR ..)|(refine GoR.c c68 (by rfl) (by rfl) rfl ?_;(refine (hnm _).ret ?_))|(refine GoR.c c70 (by rfl) (by rfl) rfl ?_;(refine (hv _).ret ?_))|refine GoR.s (by rfl) rfl rfl ?_|(refine GoR.splitG rfl (fun hc => ?_) (fun hc => ?_)<;>simp only [hc])|refine Go.condB rfl (fun hc => ?_) (fun hc => ?_))
        refine Go.lpN ?_
        refine Go.keep [(1,.ptr S.length 0),(4,.int .i64 ((i+1:Nat):Int))] (.cons .refl (.cons .refl (.nil))) ?_
        exact next (i+1) (by omega) ⟨h1,hk⟩
       ·clear next
        rw [if_neg hc0] at hk
        repeat' (first|refine Go.a rfl ?_|refine Go.rg ?_|refine GoR.nil ?_|refine Go.ret ?_|refine Go.b rfl ?_|refine Go.rgS dmx (by decide) ?_|(refine GoR.o (by rfl) (by rfl) ?_;(conv=>arg 1;simp only [G,Z,Y,Gx,un_neg,cutD,decide_true,decide_false,simprocAttr,fb2,fb3,fb9,fb41,fb42,fb44,fb116,fb118,fb120,dl,at1,at0,hn1,d0,hbl,pred_cast (show 0<i by omega) (show i<4611686018427387904 by omega),show (chkV l[i].v != 0)=true by simpa using hc0]);show GoR ..)|(refine GoR.c c68 (by rfl) (by rfl) rfl ?_;(refine (hnm _).ret ?_))|(refine GoR.c c70 (by rfl) (by rfl) rfl ?_;(refine (hv _).ret ?_))|refine GoR.s (by rfl) rfl rfl ?_|(refine GoR.splitG rfl (fun hc => ?_) (fun hc => ?_)<;>simp only [hc])|refine Go.condB rfl (fun hc => ?_) (fun hc => ?_))
        refine ⟨(by first | exact .inl rfl | exact .inr rfl),fin ?_⟩
        rw [resD_tmp (fn:=Tryz.f24) rfl]
        simp only [optThen_some,resultD_tmp,resultD_cell,G,Z,Y,Gx,un_neg,cutD,decide_true,decide_false,simprocAttr,fb2,fb3,fb9,fb41,fb42,fb44,fb116,fb118,fb120]
        exact ⟨_,_,rfl,.int,by rw [hk]⟩
   ·clear next
    repeat' (first|refine Go.a rfl ?_|refine Go.rg ?_|refine GoR.nil ?_|refine Go.ret ?_|refine Go.b rfl ?_|refine Go.rgS dmx (by decide) ?_|(refine GoR.o (by rfl) (by rfl) ?_;(conv=>arg 1;simp only [G,Z,Y,Gx,un_neg,cutD,decide_true,decide_false,simprocAttr,fb2,fb3,fb9,fb41,fb42,fb44,fb116,fb118,fb120,show (decide ((i:Int)<(l.length:Int)))=false by simp;omega]);show GoR ..)|refine GoR.s (by rfl) rfl rfl ?_|(refine GoR.splitG rfl (fun hc => ?_) (fun hc => ?_)<;>simp only [hc])|refine Go.condB rfl (fun hc => ?_) (fun hc => ?_))
    refine ⟨(by first | exact .inl rfl | exact .inr rfl),fin ?_⟩
    rw [resD_tmp (fn:=Tryz.f24) rfl]
    simp only [optThen_some,resultD_tmp,resultD_cell,G,Z,Y,Gx,un_neg,cutD,decide_true,decide_false,simprocAttr,fb2,fb3,fb9,fb41,fb42,fb44,fb116,fb118,fb120]
    exact ⟨_,_,rfl,.int,by rw [hk,List.drop_of_length_le (by omega)];rfl⟩
  ·repeat' (first|refine Go.a rfl ?_|refine Go.rg ?_|refine GoR.nil ?_|refine Go.ret ?_|refine Go.b rfl ?_|refine Go.rgS dmx (by decide) ?_|(refine GoR.o (by rfl) (by rfl) ?_;(conv=>arg 1;simp only [G,Z,Y,Gx,un_neg,cutD,decide_true,decide_false,simprocAttr,fb2,fb3,fb9,fb41,fb42,fb44,fb116,fb118,fb120,hn,show (chk ⟨a,b,c,org⟩ != 0)=true by simpa using hc]);show GoR ..)|(refine GoR.c c68 (by rfl) (by rfl) rfl ?_;(refine (hkn _).ret ?_))|(refine GoR.c c69 (by rfl) (by rfl) rfl ?_;(refine (hst _).ret ?_))|refine GoR.s (by rfl) rfl rfl ?_|(refine GoR.splitG rfl (fun hc => ?_) (fun hc => ?_)<;>simp only [hc])|refine Go.condB rfl (fun hc => ?_) (fun hc => ?_))
   refine ⟨(by first | exact .inl rfl | exact .inr rfl),fin ?_⟩
   rw [resD_tmp (fn:=Tryz.f24) rfl]
   simp only [optThen_some,resultD_tmp,resultD_cell,G,Z,Y,Gx,un_neg,cutD,decide_true,decide_false,simprocAttr,fb2,fb3,fb9,fb41,fb42,fb44,fb116,fb118,fb120]
   exact ⟨_,_,rfl,.int,by rw [chkR,if_neg (by simp [hn]),if_neg hc]⟩
end Go.Proofs.DtT
