/- Which trees are whole: those that the document finds nothing wrong with. -/
import Derived.Test.YtcdijoaabbjioaaGreatDoorDgP1x
import Derived.Test.YtcdijoaabbjioaaGreatDoorDgK1x
set_option linter.unusedSimpArgs false
set_option linter.unusedVariables false
namespace Go.Proofs.DgT
open Go Go.DM
set_option maxRecDepth 10000
end Go.Proofs.DgT
namespace Go.Proofs.DgT
open Go Go.DM
set_option maxRecDepth 100000
variable {orc:DOracle}
def sameS:Nd→Nd→Bool
 | .mk op nm n ks,b=>decide (op=b.op)&&(!decide (op=(⟨#[110,97,109,101]⟩:ByteArray)) || decide (nm=b.name))&&(!decide (op=(⟨#[110,117,109]⟩:ByteArray)) || decide (n=b.n))&&(decide (ks.length=b.kids.length)&&(List.finRange ks.length).all fun i=>sameS ks[i] (b.kids.getD i.val nilN))
termination_by n=>SizeOf.sizeOf n
decreasing_by exact Nd.kid_lt (List.getElem_mem _)
def sameK (ks ks2:List Nd):Bool:=decide (ks.length=ks2.length)&&(List.finRange ks.length).all fun i=>sameS ks[i] (ks2.getD i.val nilN)
theorem sameS_mk {op nm op2 nm2:ByteArray} {n n2:Int} {ks ks2:List Nd} : sameS (.mk op nm n ks) (.mk op2 nm2 n2 ks2) =
  (decide (op=op2)&&(!decide (op=(⟨#[110,97,109,101]⟩:ByteArray)) || decide (nm=nm2))&&(!decide (op=(⟨#[110,117,109]⟩:ByteArray)) || decide (n=n2))&&sameK ks ks2):=by
 rw [sameS]
 rfl
theorem sameK_len {ks ks2:List Nd} (h:ks.length≠ks2.length):sameK ks ks2=false:=by unfold sameK;rw [decide_eq_false h,Bool.false_and]
theorem sameK_no {ks ks2:List Nd} {i:Nat} (h1:i<ks.length) (h2:i<ks2.length) (h:sameS ks[i] ks2[i]=false):sameK ks ks2=false:=by
 unfold sameK
 have:((List.finRange ks.length).all fun i=>sameS ks[i] (ks2.getD i.val nilN))=false:=by
  rw [List.all_eq_false]
  refine ⟨⟨i,h1⟩,List.mem_finRange _,?_⟩
  have e:ks2.getD i nilN=ks2[i]:=by simp [List.getD,h2]
  simp only [e]
  simpa using h
 rw [this,Bool.and_false]
theorem sameK_yes {ks ks2:List Nd} (hl:ks.length=ks2.length) (h : ∀ i (h1:i<ks.length) (h2:i<ks2.length),sameS ks[i] ks2[i]=true):sameK ks ks2=true:=by
 unfold sameK
 rw [decide_eq_true hl,Bool.true_and,List.all_eq_true]
 rintro ⟨i,hi⟩ _
 have e:ks2.getD i nilN=ks2[i]'(by omega):=by simp [List.getD,show i<ks2.length by omega]
 simp only [e]
 exact h i hi (by omega)
theorem sameS_self (n:Nd):sameS n n=true:=by
 induction n using Nd.ind with
 | h op nm n ks ih=>
  rw [sameS_mk,sameK_yes rfl fun i h1 _=>ih _ (List.getElem_mem h1)]
  simp
theorem eqFunc (ks ks2:List Nd) (hl:ks.length≤100000) (ih : ∀ k∈ks,∀ (k2:Nd) (S:Mem),CallD Tryz.prog orc 54 [.agg k.c,.agg k2.c] S fun d S'=>S'=S∧d = .bool (sameS k k2)) (S:Mem) :
  CallD Tryz.prog orc 53 [.sl none 4 ks.length (ndsC ks),.sl none 4 ks2.length (ndsC ks2),.fn (.func 54) [] []] S fun d S'=>S'=S∧d = .bool (sameK ks ks2):=by
 refine CallD.e Tryz.func53 rfl Tryz.ntmps53 (by rfl) ?_
 by_cases hlen:ks.length=ks2.length
 rotate_left
 ·rw [sameK_len hlen]
  repeat' (first|refine Go.a rfl ?_|refine Go.rg ?_|refine GoR.nil ?_|refine Go.ret ?_|refine Go.b rfl ?_|(refine GoR.o (by rfl) (by rfl) ?_;(conv=>arg 1;simp only [G,Z,Y,Gx,vV,simprocAttr,fb2,fb3,fb9,fb23,fb25,show ((ks.length:Int) != (ks2.length:Int))=true by simp;omega]);show GoR ..)|refine Go.condB rfl (fun hc => ?_) (fun hc => ?_))
  refine ⟨(by first | exact .inl rfl | exact .inr rfl),fin ?_⟩
  rw [resD_tmp (fn:=Tryz.f53) rfl]
  simp only [optThen_some,resultD_tmp,resultD_cell,G,Z,Y,Gx,vV,simprocAttr,fb2,fb3,fb9,fb23,fb25]
  exact ⟨_,[],by simp,.bool,rfl⟩
 repeat' (first|refine Go.a rfl ?_|refine Go.rg ?_|refine GoR.nil ?_|refine Go.ret ?_|refine Go.b rfl ?_|(refine GoR.o (by rfl) (by rfl) ?_;(conv=>arg 1;simp only [G,Z,Y,Gx,vV,simprocAttr,fb2,fb3,fb9,fb23,fb25,show ((ks.length:Int) != (ks2.length:Int))=false by simp [hlen]]);show GoR ..)|refine Go.condB rfl (fun hc => ?_) (fun hc => ?_))
 refine Go.keep [(1,.sl none 4 ks2.length (ndsC ks2)),(2,.fn (.func 54) [] []),(15,.sl none 4 ks.length (ndsC ks)),(16,.int .i64 (ks.length:Int)),(17,.int .i64 ((0:Nat):Int))] (.cons .refl (.cons .refl (.cons .refl (.cons .refl (.cons .refl (.nil)))))) ?_
 refine Go.while (α:=Nat×Mem) (fun a=>ks.length - a.1) (fun a=>[(1,.sl none 4 ks2.length (ndsC ks2)),(2,.fn (.func 54) [] []),(15,.sl none 4 ks.length (ndsC ks)),(16,.int .i64 (ks.length:Int)),(17,.int .i64 (a.1:Int))]) (fun a=>a.2)
  (fun a=>a.1≤ks.length∧(∃ E,a.2=S++E) ∧ ∀ j (h1:j<ks.length) (h2:j<ks2.length),j<a.1→sameS ks[j] ks2[j]=true) ?_ (0,S) ⟨Nat.zero_le _,⟨[],by simp⟩,by simp⟩
 rintro ⟨i,S1⟩ ⟨hi,⟨E,rfl⟩,hk⟩ next
 dsimp only at hi hk next
 by_cases h1:i<ks.length
 ·have h2:i<ks2.length:=by omega
  have ihk:=ih _ (List.getElem_mem h1) ks2[i]
  have ha:=ndsAt h1
  have hb:=ndsAt h2
  cases hs:sameS ks[i] ks2[i] with
  | true=>
   rw [hs] at ihk
   cases hq:ks[i] with
   | mk kop knm kn kks=>
   cases hq2:ks2[i] with
   | mk lop lnm ln lks=>
   rw [hq,hq2] at ihk
   rw [hq] at ha
   rw [hq2] at hb
   rw [Nd.c_mk] at ihk ha
   rw [Nd.c_mk] at ihk hb
   repeat' (first|refine Go.a rfl ?_|refine Go.rg ?_|refine GoR.nil ?_|refine Go.ret ?_|refine Go.b rfl ?_|(refine GoR.o (by rfl) (by rfl) ?_;(conv=>arg 1;simp only [G,Z,Y,Gx,vV,simprocAttr,fb2,fb3,fb9,fb23,fb25,show decide ((i:Int)<(ks.length:Int))=true by simp;omega,ha,hb,wrap_succ (show i<4611686018427387904 by omega),Bool.not_true]);show GoR ..)|(refine GoR.c c54 (by rfl) (by rfl) rfl ?_;(refine (ihk _).ret ?_))|refine Go.condB rfl (fun hc => ?_) (fun hc => ?_))
   refine Go.lpN ?_
   refine Go.keep [(1,.sl none 4 ks2.length (ndsC ks2)),(2,.fn (.func 54) [] []),(15,.sl none 4 ks.length (ndsC ks)),(16,.int .i64 (ks.length:Int)),(17,.int .i64 ((i+1:Nat):Int))] (.cons .refl (.cons .refl (.cons .refl (.cons .refl (.cons .refl (.nil)))))) ?_
   refine next (i+1,_) (by dsimp only;omega) ⟨h1,⟨_,rfl⟩,fun j hj hj2 hlt => ?_⟩
   dsimp only at hlt
   rcases Nat.lt_or_ge j i with h | h
   ·exact hk j hj hj2 h
   ·obtain rfl:j=i:=by omega
    exact hs
  | false=>
   rw [hs] at ihk
   rw [sameK_no h1 h2 hs]
   clear next
   cases hq:ks[i] with
   | mk kop knm kn kks=>
   cases hq2:ks2[i] with
   | mk lop lnm ln lks=>
   rw [hq,hq2] at ihk
   rw [hq] at ha
   rw [hq2] at hb
   rw [Nd.c_mk] at ihk ha
   rw [Nd.c_mk] at ihk hb
   repeat' (first|refine Go.a rfl ?_|refine Go.rg ?_|refine GoR.nil ?_|refine Go.ret ?_|refine Go.b rfl ?_|(refine GoR.o (by rfl) (by rfl) ?_;(conv=>arg 1;simp only [G,Z,Y,Gx,vV,simprocAttr,fb2,fb3,fb9,fb23,fb25,show decide ((i:Int)<(ks.length:Int))=true by simp;omega,ha,hb,Bool.not_false]);show GoR ..)|(refine GoR.c c54 (by rfl) (by rfl) rfl ?_;(refine (ihk _).ret ?_))|refine Go.condB rfl (fun hc => ?_) (fun hc => ?_))
   refine ⟨(by first | exact .inl rfl | exact .inr rfl),fin ?_⟩
   rw [resD_tmp (fn:=Tryz.f53) rfl]
   simp only [optThen_some,resultD_tmp,resultD_cell,G,Z,Y,Gx,vV,simprocAttr,fb2,fb3,fb9,fb23,fb25]
   exact ⟨_,_,rfl,.bool,rfl⟩
 ·clear next
  rw [sameK_yes hlen fun j hj hj2=>hk j hj hj2 (by omega)]
  repeat' (first|refine Go.a rfl ?_|refine Go.rg ?_|refine GoR.nil ?_|refine Go.ret ?_|refine Go.b rfl ?_|(refine GoR.o (by rfl) (by rfl) ?_;(conv=>arg 1;simp only [G,Z,Y,Gx,vV,simprocAttr,fb2,fb3,fb9,fb23,fb25,show decide ((i:Int)<(ks.length:Int))=false by simp;omega]);show GoR ..)|refine Go.condB rfl (fun hc => ?_) (fun hc => ?_))
  refine ⟨(by first | exact .inl rfl | exact .inr rfl),fin ?_⟩
  rw [resD_tmp (fn:=Tryz.f53) rfl]
  simp only [optThen_some,resultD_tmp,resultD_cell,G,Z,Y,Gx,vV,simprocAttr,fb2,fb3,fb9,fb23,fb25]
  exact ⟨_,_,rfl,.bool,rfl⟩
set_option maxHeartbeats 4000000 in
theorem refSame (a:Nd) (hs:Slim 100 a) : ∀ (b:Nd) (S:Mem),CallD Tryz.prog orc 42 [.agg a.c,.agg b.c] S fun d S'=>S'=S∧d = .bool (sameS a b):=by
 induction a using Nd.ind with
 | h op nm n ks ih=>
  rintro ⟨op2,nm2,n2,ks2⟩ S
  obtain ⟨hnm,hl,hk⟩:=hs
  rw [Nd.c_mk,Nd.c_mk,sameS_mk]
  by_cases h1:op=op2
  rotate_left
  ·refine CallD.e Tryz.func42 rfl Tryz.ntmps42 (by rfl) ?_
   repeat' (first|refine Go.a rfl ?_|refine Go.rg ?_|refine GoR.nil ?_|refine Go.ret ?_|refine Go.b rfl ?_|refine Go.rgS dmx (by decide) ?_|(refine GoR.o (by rfl) (by rfl) ?_;(conv=>arg 1;simp only [G,Z,Y,Gx,vV,simprocAttr,fb2,fb3,fb9,fb32,fb34,decide_eq_false h1,Bool.not_false,Bool.not_true]);show GoR ..)|refine GoR.s (by rfl) rfl rfl ?_|(refine GoR.splitG rfl (fun hc => ?_) (fun hc => ?_)<;>simp only [hc])|refine Go.condB rfl (fun hc => ?_) (fun hc => ?_))
   refine ⟨(by first | exact .inl rfl | exact .inr rfl),fin ?_⟩
   rw [resD_tmp (fn:=Tryz.f42) rfl]
   simp only [optThen_some,resultD_tmp,resultD_cell,G,Z,Y,Gx,vV,simprocAttr,fb2,fb3,fb9,fb32,fb34]
   exact ⟨_,_,rfl,.bool,by rw [decide_eq_false h1];rfl⟩
  subst h1
  by_cases hlen:ks.length=ks2.length
  rotate_left
  ·refine CallD.e Tryz.func42 rfl Tryz.ntmps42 (by rfl) ?_
   repeat' (first|refine Go.a rfl ?_|refine Go.rg ?_|refine GoR.nil ?_|refine Go.ret ?_|refine Go.b rfl ?_|refine Go.rgS dmx (by decide) ?_|(refine GoR.o (by rfl) (by rfl) ?_;(conv=>arg 1;simp only [G,Z,Y,Gx,vV,simprocAttr,fb2,fb3,fb9,fb32,fb34,eq_self,Bool.not_false,Bool.not_true,show ((ks.length:Int) != (ks2.length:Int))=true by simp;omega]);show GoR ..)|refine GoR.s (by rfl) rfl rfl ?_|(refine GoR.splitG rfl (fun hc => ?_) (fun hc => ?_)<;>simp only [hc])|refine Go.condB rfl (fun hc => ?_) (fun hc => ?_))
   refine ⟨(by first | exact .inl rfl | exact .inr rfl),fin ?_⟩
   rw [resD_tmp (fn:=Tryz.f42) rfl]
   simp only [optThen_some,resultD_tmp,resultD_cell,G,Z,Y,Gx,vV,simprocAttr,fb2,fb3,fb9,fb32,fb34]
   refine ⟨_,_,rfl,.bool,?_⟩
   rw [sameK_len hlen,Bool.and_false]
  have hlb:((ks.length:Int) != (ks2.length:Int))=false:=by simp;omega
  cases h2:decide (op=(⟨#[110,97,109,101]⟩:ByteArray))<;>cases h3:decide (nm=nm2)<;>cases h4:decide (op=(⟨#[110,117,109]⟩:ByteArray))<;>cases h5:decide (n=n2)
  all_goals
   have h5':(n != n2) = !decide (n=n2):=by rw [Bool.eq_iff_iff];simp
   rw [h5] at h5'
   refine CallD.e Tryz.func42 rfl Tryz.ntmps42 (by rfl) ?_
   repeat' (first|refine Go.a rfl ?_|refine Go.rg ?_|refine GoR.nil ?_|refine Go.ret ?_|refine Go.b rfl ?_|refine Go.rgS dmx (by decide) ?_|(refine GoR.o (by rfl) (by rfl) ?_;(conv=>arg 1;simp only [G,Z,Y,Gx,vV,simprocAttr,fb2,fb3,fb9,fb32,fb34,h2,h3,h4,h5,h5',hlb,Bool.not_true,Bool.not_false,eq_self]);show GoR ..)|refine GoR.s (by rfl) rfl rfl ?_|(refine GoR.splitG rfl (fun hc => ?_) (fun hc => ?_)<;>simp only [hc])|refine Go.condB rfl (fun hc => ?_) (fun hc => ?_))
  all_goals first
   | (
     skip
     refine ⟨(by first | exact .inl rfl | exact .inr rfl),fin ?_⟩
     rw [resD_tmp (fn:=Tryz.f42) rfl]
     simp only [optThen_some,resultD_tmp,resultD_cell,G,Z,Y,Gx,vV,simprocAttr,fb2,fb3,fb9,fb32,fb34]
     refine ⟨_,_,rfl,.bool,?_⟩
     simp
     done)
   | skip
  all_goals
   simp only [decide_true,Bool.not_true,Bool.not_false,Bool.true_and,Bool.and_true,Bool.or_true,Bool.true_or,Bool.or_false,Bool.false_or]
   clear h2 h3 h4 h5 h5'
   refine Go.keep [(2,.ptr S.length 0),(3,.ptr (S.length+1) 0),(5,.int .i64 ((0:Nat):Int))] (.cons .refl (.cons .refl (.cons .refl (.nil)))) ?_
   refine Go.while (α:=Nat) (fun a=>ks.length - a) (fun a=>[(2,.ptr S.length 0),(3,.ptr (S.length+1) 0),(5,.int .i64 (a:Int))]) (fun _=>S++[.obj [.str op,.str nm,.int .i64 n,.sl none 4 ks.length (ndsC ks)],.obj [.str op,.str nm2,.int .i64 n2,.sl none 4 ks2.length (ndsC ks2)]])
    (fun a=>a≤ks.length ∧ ∀ j (h1:j<ks.length) (h2:j<ks2.length),j<a→sameS ks[j] ks2[j]=true) ?_ 0 ⟨Nat.zero_le _,by simp⟩
   rintro i ⟨hi,hk2⟩ next
   by_cases h1:i<ks.length
   ·have h2:i<ks2.length:=by omega
    have ihk:=ih _ (List.getElem_mem h1) (hk _ (List.getElem_mem h1)) ks2[i]
    cases hs:sameS ks[i] ks2[i] with
    | true=>
     rw [hs] at ihk
     repeat' (first|refine Go.a rfl ?_|refine Go.rg ?_|refine GoR.nil ?_|refine Go.ret ?_|refine Go.b rfl ?_|refine Go.rgS dmx (by decide) ?_|(refine GoR.o (by rfl) (by rfl) ?_;(conv=>arg 1;simp only [G,Z,Y,Gx,vV,simprocAttr,fb2,fb3,fb9,fb32,fb34,show decide ((i:Int)<(ks.length:Int))=true by simp;omega,ndsAt h1,ndsAt h2,wrap_succ (show i<4611686018427387904 by omega),Bool.not_true]);show GoR ..)|(refine GoR.c c42 (by rfl) (by rfl) rfl ?_;(refine (ihk _).ret ?_))|refine GoR.s (by rfl) rfl rfl ?_|(refine GoR.splitG rfl (fun hc => ?_) (fun hc => ?_)<;>simp only [hc])|refine Go.condB rfl (fun hc => ?_) (fun hc => ?_))
     refine Go.lpN ?_
     refine Go.keep [(2,.ptr S.length 0),(3,.ptr (S.length+1) 0),(5,.int .i64 ((i+1:Nat):Int))] (.cons .refl (.cons .refl (.cons .refl (.nil)))) ?_
     refine next (i+1) (by omega) ⟨h1,fun j hj hj2 hlt => ?_⟩
     rcases Nat.lt_or_ge j i with h | h
     ·exact hk2 j hj hj2 h
     ·obtain rfl:j=i:=by omega
      exact hs
    | false=>
     rw [hs] at ihk
     rw [sameK_no h1 h2 hs]
     clear next
     repeat' (first|refine Go.a rfl ?_|refine Go.rg ?_|refine GoR.nil ?_|refine Go.ret ?_|refine Go.b rfl ?_|refine Go.rgS dmx (by decide) ?_|(refine GoR.o (by rfl) (by rfl) ?_;(conv=>arg 1;simp only [G,Z,Y,Gx,vV,simprocAttr,fb2,fb3,fb9,fb32,fb34,show decide ((i:Int)<(ks.length:Int))=true by simp;omega,ndsAt h1,ndsAt h2,Bool.not_false]);show GoR ..)|(refine GoR.c c42 (by rfl) (by rfl) rfl ?_;(refine (ihk _).ret ?_))|refine GoR.s (by rfl) rfl rfl ?_|(refine GoR.splitG rfl (fun hc => ?_) (fun hc => ?_)<;>simp only [hc])|refine Go.condB rfl (fun hc => ?_) (fun hc => ?_))
     refine ⟨(by first | exact .inl rfl | exact .inr rfl),fin ?_⟩
     rw [resD_tmp (fn:=Tryz.f42) rfl]
     simp only [optThen_some,resultD_tmp,resultD_cell,G,Z,Y,Gx,vV,simprocAttr,fb2,fb3,fb9,fb32,fb34]
     exact ⟨_,_,rfl,.bool,rfl⟩
   ·clear next
    rw [sameK_yes hlen fun j hj hj2=>hk2 j hj hj2 (by omega)]
    repeat' (first|refine Go.a rfl ?_|refine Go.rg ?_|refine GoR.nil ?_|refine Go.ret ?_|refine Go.b rfl ?_|refine Go.rgS dmx (by decide) ?_|(refine GoR.o (by rfl) (by rfl) ?_;(conv=>arg 1;simp only [G,Z,Y,Gx,vV,simprocAttr,fb2,fb3,fb9,fb32,fb34,show decide ((i:Int)<(ks.length:Int))=false by simp;omega]);show GoR ..)|refine GoR.s (by rfl) rfl rfl ?_|(refine GoR.splitG rfl (fun hc => ?_) (fun hc => ?_)<;>simp only [hc])|refine Go.condB rfl (fun hc => ?_) (fun hc => ?_))
    refine ⟨(by first | exact .inl rfl | exact .inr rfl),fin ?_⟩
    rw [resD_tmp (fn:=Tryz.f42) rfl]
    simp only [optThen_some,resultD_tmp,resultD_cell,G,Z,Y,Gx,vV,simprocAttr,fb2,fb3,fb9,fb32,fb34]
    exact ⟨_,_,rfl,.bool,rfl⟩
end Go.Proofs.DgT
