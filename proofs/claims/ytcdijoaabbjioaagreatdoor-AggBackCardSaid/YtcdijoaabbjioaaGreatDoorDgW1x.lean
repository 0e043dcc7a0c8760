/- Which trees are whole: those that the document finds nothing wrong with. -/
import Derived.Test.YtcdijoaabbjioaaGreatDoorDgP1x
import Derived.Test.YtcdijoaabbjioaaGreatDoorDgK1x
set_option linter.unusedSimpArgs false
set_option linter.unusedVariables false
namespace Go.Proofs.DgT
open Go Go.DM
set_option maxRecDepth 10000
inductive In64:Nd→Prop
 | mk {op nm n ks} (h:d6d n) (hk : ∀ k∈ks,In64 k):In64 (.mk op nm n ks)
theorem b8e (n:Nd) (hi:In64 n) (hs:f3b 100 n) (h:m8a n=0):Whole n:=by
 induction n using Nd.ind with
 | h op nm n ks ih=>
  obtain ⟨h1,hk1⟩:=hi
  obtain ⟨h2,h3,hk2⟩:=hs
  rw [i2b] at h
  by_cases ha:arity op≠ks.length
  ·rw [if_pos ha] at h;cases h
  rw [if_neg ha] at h
  by_cases hb:op=(⟨#[110,97,109,101]⟩:ByteArray)∧l6a nm=false
  ·rw [if_pos hb] at h;cases h
  rw [if_neg hb] at h
  by_cases hc:op=(⟨#[110,117,109]⟩:ByteArray)∧n<0
  ·rw [if_pos hc] at h;cases h
  rw [if_neg hc] at h
  refine .mk (Decidable.not_not.1 ha) (fun e => ?_) (fun e => ?_) h1 (fun k hkm=>ih k hkm (hk1 k hkm) (hk2 k hkm) (u4b h _ (List.mem_map.2 ⟨k,hkm,rfl⟩))) h2
  ·cases hq:l6a nm with
   | true=>rfl
   | false=>exact absurd ⟨e,hq⟩ hb
  ·rcases Int.lt_or_le n 0 with q | q
   ·exact absurd ⟨e,q⟩ hc
   ·exact q
theorem k9b {n:Nd} (hi:In64 n) (hs:f3b 100 n) (h:checkN n=0):Whole n∧cnt n≤32:=by
 unfold checkN at h
 by_cases hc:32<cnt n
 ·rw [if_pos hc] at h;cases h
 ·rw [if_neg hc] at h
  exact ⟨b8e n hi hs h,by omega⟩
end Go.Proofs.DgT
namespace Go.Proofs.DgT
open Go Go.DM
set_option maxRecDepth 100000
variable {orc:c3a}
def o7a:Nd→Nd→Bool
 | .mk op nm n ks,b=>decide (op=b.op)&&(!decide (op=(⟨#[110,97,109,101]⟩:ByteArray)) || decide (nm=b.name))&&(!decide (op=(⟨#[110,117,109]⟩:ByteArray)) || decide (n=b.n))&&(decide (ks.length=b.kids.length)&&(List.finRange ks.length).all fun i=>o7a ks[i] (b.kids.getD i.val t6a))
termination_by n=>SizeOf.sizeOf n
decreasing_by exact Nd.p0b (List.getElem_mem _)
def n8b (ks ks2:List Nd):Bool:=decide (ks.length=ks2.length)&&(List.finRange ks.length).all fun i=>o7a ks[i] (ks2.getD i.val t6a)
theorem d4b {op nm op2 nm2:ByteArray} {n n2:Int} {ks ks2:List Nd} : o7a (.mk op nm n ks) (.mk op2 nm2 n2 ks2) =
  (decide (op=op2)&&(!decide (op=(⟨#[110,97,109,101]⟩:ByteArray)) || decide (nm=nm2))&&(!decide (op=(⟨#[110,117,109]⟩:ByteArray)) || decide (n=n2))&&n8b ks ks2):=by
 rw [o7a]
 rfl
theorem y4b {ks ks2:List Nd} (h:ks.length≠ks2.length):n8b ks ks2=false:=by unfold n8b;rw [decide_eq_false h,Bool.false_and]
theorem h6c {ks ks2:List Nd} {i:Nat} (h1:i<ks.length) (h2:i<ks2.length) (h:o7a ks[i] ks2[i]=false):n8b ks ks2=false:=by
 unfold n8b
 have:((List.finRange ks.length).all fun i=>o7a ks[i] (ks2.getD i.val t6a))=false:=by
  rw [List.all_eq_false]
  refine ⟨⟨i,h1⟩,List.mem_finRange _,?_⟩
  have e:ks2.getD i t6a=ks2[i]:=by simp [List.getD,h2]
  simp only [e]
  simpa using h
 rw [this,Bool.and_false]
theorem u6a {ks ks2:List Nd} (hl:ks.length=ks2.length) (h : ∀ i (h1:i<ks.length) (h2:i<ks2.length),o7a ks[i] ks2[i]=true):n8b ks ks2=true:=by
 unfold n8b
 rw [decide_eq_true hl,Bool.true_and,List.all_eq_true]
 rintro ⟨i,hi⟩ _
 have e:ks2.getD i t6a=ks2[i]'(by omega):=by simp [List.getD,show i<ks2.length by omega]
 simp only [e]
 exact h i hi (by omega)
theorem o9c {ks ks2:List Nd} : n8b ks ks2=true↔ks.length=ks2.length ∧ ∀ i (h1:i<ks.length) (h2:i<ks2.length),o7a ks[i] ks2[i]=true:=by
 constructor
 ·intro h
  by_cases hl:ks.length=ks2.length
  ·refine ⟨hl,fun i h1 h2 => ?_⟩
   cases hq:o7a ks[i] ks2[i] with
   | true=>rfl
   | false=>rw [h6c h1 h2 hq] at h;cases h
  ·rw [y4b hl] at h;cases h
 ·rintro ⟨h1,h2⟩
  exact u6a h1 h2
theorem d0e (ks ks2:List Nd) (hl:ks.length≤100000) (ih : ∀ k∈ks,∀ (k2:Nd) (S:Mem),a3a Tryz.prog orc 54 [.agg k.c,.agg k2.c] S fun d S'=>S'=S∧d = .bool (o7a k k2)) (S:Mem) :
  a3a Tryz.prog orc 53 [.sl none 4 ks.length (d3a ks),.sl none 4 ks2.length (d3a ks2),.fn (.func 54) [] []] S fun d S'=>S'=S∧d = .bool (n8b ks ks2):=by
 refine a3a.e Tryz.func53 rfl Tryz.ntmps53 (by rfl) ?_
 by_cases hlen:ks.length=ks2.length
 rotate_left
 ·rw [y4b hlen]
  repeat' (first|refine Go.a rfl ?_|refine Go.rg ?_|refine GoR.nil ?_|refine Go.ret ?_|refine Go.b rfl ?_|(refine GoR.o (by rfl) (by rfl) ?_;(conv=>arg 1;simp only [G,Z,Y,Gx,vV,simprocAttr,fb2,fb3,fb9,c2a,b7a,show ((ks.length:Int) != (ks2.length:Int))=true by simp;omega]);show GoR ..)|refine Go.b0a rfl (fun hc => ?_) (fun hc => ?_))
  refine ⟨(by first | exact .inl rfl | exact .inr rfl),fin ?_⟩
  rw [a8a (fn:=Tryz.f53) rfl]
  simp only [a0a,a2a,a1a,G,Z,Y,Gx,vV,simprocAttr,fb2,fb3,fb9,c2a,b7a]
  exact ⟨_,[],by simp,.bool,rfl⟩
 repeat' (first|refine Go.a rfl ?_|refine Go.rg ?_|refine GoR.nil ?_|refine Go.ret ?_|refine Go.b rfl ?_|(refine GoR.o (by rfl) (by rfl) ?_;(conv=>arg 1;simp only [G,Z,Y,Gx,vV,simprocAttr,fb2,fb3,fb9,c2a,b7a,show ((ks.length:Int) != (ks2.length:Int))=false by simp [hlen]]);show GoR ..)|refine Go.b0a rfl (fun hc => ?_) (fun hc => ?_))
 refine Go.keep [(1,.sl none 4 ks2.length (d3a ks2)),(2,.fn (.func 54) [] []),(15,.sl none 4 ks.length (d3a ks)),(16,.int .i64 (ks.length:Int)),(17,.int .i64 ((0:Nat):Int))] (.cons .refl (.cons .refl (.cons .refl (.cons .refl (.cons .refl (.nil)))))) ?_
 refine Go.while (α:=Nat×Mem) (fun a=>ks.length - a.1) (fun a=>[(1,.sl none 4 ks2.length (d3a ks2)),(2,.fn (.func 54) [] []),(15,.sl none 4 ks.length (d3a ks)),(16,.int .i64 (ks.length:Int)),(17,.int .i64 (a.1:Int))]) (fun a=>a.2)
  (fun a=>a.1≤ks.length∧(∃ E,a.2=S++E) ∧ ∀ j (h1:j<ks.length) (h2:j<ks2.length),j<a.1→o7a ks[j] ks2[j]=true) ?_ (0,S) ⟨Nat.zero_le _,⟨[],by simp⟩,by simp⟩
 rintro ⟨i,S1⟩ ⟨hi,⟨E,rfl⟩,hk⟩ next
 dsimp only at hi hk next
 by_cases h1:i<ks.length
 ·have h2:i<ks2.length:=by omega
  have ihk:=ih _ (List.getElem_mem h1) ks2[i]
  have ha:=u5a h1
  have hb:=u5a h2
  cases hs:o7a ks[i] ks2[i] with
  | true=>
   rw [hs] at ihk
   cases hq:ks[i] with
   | mk kop knm kn kks=>
   cases hq2:ks2[i] with
   | mk lop lnm ln lks=>
   rw [hq,hq2] at ihk
   rw [hq] at ha
   rw [hq2] at hb
   rw [Nd.k0a] at ihk ha
   rw [Nd.k0a] at ihk hb
   repeat' (first|refine Go.a rfl ?_|refine Go.rg ?_|refine GoR.nil ?_|refine Go.ret ?_|refine Go.b rfl ?_|(refine GoR.o (by rfl) (by rfl) ?_;(conv=>arg 1;simp only [G,Z,Y,Gx,vV,simprocAttr,fb2,fb3,fb9,c2a,b7a,show decide ((i:Int)<(ks.length:Int))=true by simp;omega,ha,hb,b9a (show i<4611686018427387904 by omega),Bool.not_true]);show GoR ..)|(refine GoR.c c54 (by rfl) (by rfl) rfl ?_;(refine (ihk _).ret ?_))|refine Go.b0a rfl (fun hc => ?_) (fun hc => ?_))
   refine Go.lpN ?_
   refine Go.keep [(1,.sl none 4 ks2.length (d3a ks2)),(2,.fn (.func 54) [] []),(15,.sl none 4 ks.length (d3a ks)),(16,.int .i64 (ks.length:Int)),(17,.int .i64 ((i+1:Nat):Int))] (.cons .refl (.cons .refl (.cons .refl (.cons .refl (.cons .refl (.nil)))))) ?_
   refine next (i+1,_) (by dsimp only;omega) ⟨h1,⟨_,rfl⟩,fun j hj hj2 hlt => ?_⟩
   dsimp only at hlt
   rcases Nat.lt_or_ge j i with h | h
   ·exact hk j hj hj2 h
   ·obtain rfl:j=i:=by omega
    exact hs
  | false=>
   rw [hs] at ihk
   rw [h6c h1 h2 hs]
   clear next
   cases hq:ks[i] with
   | mk kop knm kn kks=>
   cases hq2:ks2[i] with
   | mk lop lnm ln lks=>
   rw [hq,hq2] at ihk
   rw [hq] at ha
   rw [hq2] at hb
   rw [Nd.k0a] at ihk ha
   rw [Nd.k0a] at ihk hb
   repeat' (first|refine Go.a rfl ?_|refine Go.rg ?_|refine GoR.nil ?_|refine Go.ret ?_|refine Go.b rfl ?_|(refine GoR.o (by rfl) (by rfl) ?_;(conv=>arg 1;simp only [G,Z,Y,Gx,vV,simprocAttr,fb2,fb3,fb9,c2a,b7a,show decide ((i:Int)<(ks.length:Int))=true by simp;omega,ha,hb,Bool.not_false]);show GoR ..)|(refine GoR.c c54 (by rfl) (by rfl) rfl ?_;(refine (ihk _).ret ?_))|refine Go.b0a rfl (fun hc => ?_) (fun hc => ?_))
   refine ⟨(by first | exact .inl rfl | exact .inr rfl),fin ?_⟩
   rw [a8a (fn:=Tryz.f53) rfl]
   simp only [a0a,a2a,a1a,G,Z,Y,Gx,vV,simprocAttr,fb2,fb3,fb9,c2a,b7a]
   exact ⟨_,_,rfl,.bool,rfl⟩
 ·clear next
  rw [u6a hlen fun j hj hj2=>hk j hj hj2 (by omega)]
  repeat' (first|refine Go.a rfl ?_|refine Go.rg ?_|refine GoR.nil ?_|refine Go.ret ?_|refine Go.b rfl ?_|(refine GoR.o (by rfl) (by rfl) ?_;(conv=>arg 1;simp only [G,Z,Y,Gx,vV,simprocAttr,fb2,fb3,fb9,c2a,b7a,show decide ((i:Int)<(ks.length:Int))=false by simp;omega]);show GoR ..)|refine Go.b0a rfl (fun hc => ?_) (fun hc => ?_))
  refine ⟨(by first | exact .inl rfl | exact .inr rfl),fin ?_⟩
  rw [a8a (fn:=Tryz.f53) rfl]
  simp only [a0a,a2a,a1a,G,Z,Y,Gx,vV,simprocAttr,fb2,fb3,fb9,c2a,b7a]
  exact ⟨_,_,rfl,.bool,rfl⟩
set_option maxHeartbeats 4000000 in
theorem f0c (a:Nd) (hs:f3b 100 a) : ∀ (b:Nd) (S:Mem),a3a Tryz.prog orc 54 [.agg a.c,.agg b.c] S fun d S'=>S'=S∧d = .bool (o7a a b):=by
 induction a using Nd.ind with
 | h op nm n ks ih=>
  rintro ⟨op2,nm2,n2,ks2⟩ S
  obtain ⟨hnm,hl,hk⟩:=hs
  rw [Nd.k0a,Nd.k0a,d4b]
  have he:=fun S=>d0e (orc:=orc) ks ks2 (by omega) (fun k hkm=>ih k hkm (hk k hkm)) S
  by_cases h1:op=op2
  rotate_left
  ·refine a3a.e Tryz.func54 rfl Tryz.ntmps54 (by rfl) ?_
   repeat' (first|refine Go.a rfl ?_|refine Go.rg ?_|refine GoR.nil ?_|refine Go.ret ?_|refine Go.b rfl ?_|(refine GoR.o (by rfl) (by rfl) ?_;(conv=>arg 1;simp only [G,Z,Y,Gx,vV,simprocAttr,fb2,fb9,c2a,b7a,decide_eq_false h1]);show GoR ..)|(refine GoR.c c53 (by rfl) (by rfl) rfl ?_;(refine (he _).ret ?_))|refine GoR.s (by rfl) rfl rfl ?_|(refine GoR.b1a rfl (fun hc => ?_) (fun hc => ?_)<;>simp only [hc])|refine Go.b0a rfl (fun hc => ?_) (fun hc => ?_))
   refine ⟨(by first | exact .inl rfl | exact .inr rfl),fin ?_⟩
   rw [a8a (fn:=Tryz.f54) rfl]
   simp only [a0a,a2a,a1a,G,Z,Y,Gx,vV,simprocAttr,fb2,fb9,c2a,b7a]
   exact ⟨_,_,rfl,.bool,by rw [decide_eq_false h1];rfl⟩
  subst h1
  cases h2:decide (op=(⟨#[110,97,109,101]⟩:ByteArray))<;>cases h3:decide (nm=nm2)<;>cases h4:decide (op=(⟨#[110,117,109]⟩:ByteArray))<;>cases h5:decide (n=n2)
  all_goals
   have h5':(n==n2)=decide (n=n2):=by rw [Bool.eq_iff_iff];simp
   rw [h5] at h5'
   refine a3a.e Tryz.func54 rfl Tryz.ntmps54 (by rfl) ?_
   repeat' (first|refine Go.a rfl ?_|refine Go.rg ?_|refine GoR.nil ?_|refine Go.ret ?_|refine Go.b rfl ?_|(refine GoR.o (by rfl) (by rfl) ?_;(conv=>arg 1;simp only [G,Z,Y,Gx,vV,simprocAttr,fb2,fb9,c2a,b7a,h2,h3,h4,h5,h5',Bool.not_true,Bool.not_false,eq_self]);show GoR ..)|(refine GoR.c c53 (by rfl) (by rfl) rfl ?_;(refine (he _).ret ?_))|refine GoR.s (by rfl) rfl rfl ?_|(refine GoR.b1a rfl (fun hc => ?_) (fun hc => ?_)<;>simp only [hc])|refine Go.b0a rfl (fun hc => ?_) (fun hc => ?_))
   refine ⟨(by first | exact .inl rfl | exact .inr rfl),fin ?_⟩
   rw [a8a (fn:=Tryz.f54) rfl]
   simp only [a0a,a2a,a1a,G,Z,Y,Gx,vV,simprocAttr,fb2,fb9,c2a,b7a]
   refine ⟨_,_,rfl,.bool,?_⟩
   simp
set_option maxHeartbeats 4000000 in
theorem h4c (a:Nd) (hs:f3b 100 a) : ∀ (b:Nd) (S:Mem),a3a Tryz.prog orc 42 [.agg a.c,.agg b.c] S fun d S'=>S'=S∧d = .bool (o7a a b):=by
 induction a using Nd.ind with
 | h op nm n ks ih=>
  rintro ⟨op2,nm2,n2,ks2⟩ S
  obtain ⟨hnm,hl,hk⟩:=hs
  rw [Nd.k0a,Nd.k0a,d4b]
  by_cases h1:op=op2
  rotate_left
  ·refine a3a.e Tryz.func42 rfl Tryz.ntmps42 (by rfl) ?_
   repeat' (first|refine Go.a rfl ?_|refine Go.rg ?_|refine GoR.nil ?_|refine Go.ret ?_|refine Go.b rfl ?_|refine Go.rgS dmx (by decide) ?_|(refine GoR.o (by rfl) (by rfl) ?_;(conv=>arg 1;simp only [G,Z,Y,Gx,vV,simprocAttr,fb2,fb3,fb9,h4a,g4a,decide_eq_false h1,Bool.not_false,Bool.not_true]);show GoR ..)|refine GoR.s (by rfl) rfl rfl ?_|(refine GoR.b1a rfl (fun hc => ?_) (fun hc => ?_)<;>simp only [hc])|refine Go.b0a rfl (fun hc => ?_) (fun hc => ?_))
   refine ⟨(by first | exact .inl rfl | exact .inr rfl),fin ?_⟩
   rw [a8a (fn:=Tryz.f42) rfl]
   simp only [a0a,a2a,a1a,G,Z,Y,Gx,vV,simprocAttr,fb2,fb3,fb9,h4a,g4a]
   exact ⟨_,_,rfl,.bool,by rw [decide_eq_false h1];rfl⟩
  subst h1
  by_cases hlen:ks.length=ks2.length
  rotate_left
  ·refine a3a.e Tryz.func42 rfl Tryz.ntmps42 (by rfl) ?_
   repeat' (first|refine Go.a rfl ?_|refine Go.rg ?_|refine GoR.nil ?_|refine Go.ret ?_|refine Go.b rfl ?_|refine Go.rgS dmx (by decide) ?_|(refine GoR.o (by rfl) (by rfl) ?_;(conv=>arg 1;simp only [G,Z,Y,Gx,vV,simprocAttr,fb2,fb3,fb9,h4a,g4a,eq_self,Bool.not_false,Bool.not_true,show ((ks.length:Int) != (ks2.length:Int))=true by simp;omega]);show GoR ..)|refine GoR.s (by rfl) rfl rfl ?_|(refine GoR.b1a rfl (fun hc => ?_) (fun hc => ?_)<;>simp only [hc])|refine Go.b0a rfl (fun hc => ?_) (fun hc => ?_))
   refine ⟨(by first | exact .inl rfl | exact .inr rfl),fin ?_⟩
   rw [a8a (fn:=Tryz.f42) rfl]
   simp only [a0a,a2a,a1a,G,Z,Y,Gx,vV,simprocAttr,fb2,fb3,fb9,h4a,g4a]
   refine ⟨_,_,rfl,.bool,?_⟩
   rw [y4b hlen,Bool.and_false]
  have hlb:((ks.length:Int) != (ks2.length:Int))=false:=by simp;omega
  cases h2:decide (op=(⟨#[110,97,109,101]⟩:ByteArray))<;>cases h3:decide (nm=nm2)<;>cases h4:decide (op=(⟨#[110,117,109]⟩:ByteArray))<;>cases h5:decide (n=n2)
  all_goals
   have h5':(n != n2) = !decide (n=n2):=by rw [Bool.eq_iff_iff];simp
   rw [h5] at h5'
   refine a3a.e Tryz.func42 rfl Tryz.ntmps42 (by rfl) ?_
   repeat' (first|refine Go.a rfl ?_|refine Go.rg ?_|refine GoR.nil ?_|refine Go.ret ?_|refine Go.b rfl ?_|refine Go.rgS dmx (by decide) ?_|(refine GoR.o (by rfl) (by rfl) ?_;(conv=>arg 1;simp only [G,Z,Y,Gx,vV,simprocAttr,fb2,fb3,fb9,h4a,g4a,h2,h3,h4,h5,h5',hlb,Bool.not_true,Bool.not_false,eq_self]);show GoR ..)|refine GoR.s (by rfl) rfl rfl ?_|(refine GoR.b1a rfl (fun hc => ?_) (fun hc => ?_)<;>simp only [hc])|refine Go.b0a rfl (fun hc => ?_) (fun hc => ?_))
  all_goals first
   | (
     skip
     refine ⟨(by first | exact .inl rfl | exact .inr rfl),fin ?_⟩
     rw [a8a (fn:=Tryz.f42) rfl]
     simp only [a0a,a2a,a1a,G,Z,Y,Gx,vV,simprocAttr,fb2,fb3,fb9,h4a,g4a]
     refine ⟨_,_,rfl,.bool,?_⟩
     simp
     done)
   | skip
  all_goals
   simp only [decide_true,Bool.not_true,Bool.not_false,Bool.true_and,Bool.and_true,Bool.or_true,Bool.true_or,Bool.or_false,Bool.false_or]
   clear h2 h3 h4 h5 h5'
   refine Go.keep [(2,.ptr S.length 0),(3,.ptr (S.length+1) 0),(5,.int .i64 ((0:Nat):Int))] (.cons .refl (.cons .refl (.cons .refl (.nil)))) ?_
   refine Go.while (α:=Nat) (fun a=>ks.length - a) (fun a=>[(2,.ptr S.length 0),(3,.ptr (S.length+1) 0),(5,.int .i64 (a:Int))]) (fun _=>S++[.obj [.str op,.str nm,.int .i64 n,.sl none 4 ks.length (d3a ks)],.obj [.str op,.str nm2,.int .i64 n2,.sl none 4 ks2.length (d3a ks2)]])
    (fun a=>a≤ks.length ∧ ∀ j (h1:j<ks.length) (h2:j<ks2.length),j<a→o7a ks[j] ks2[j]=true) ?_ 0 ⟨Nat.zero_le _,by simp⟩
   rintro i ⟨hi,hk2⟩ next
   by_cases h1:i<ks.length
   ·have h2:i<ks2.length:=by omega
    have ihk:=ih _ (List.getElem_mem h1) (hk _ (List.getElem_mem h1)) ks2[i]
    cases hs:o7a ks[i] ks2[i] with
    | true=>
     rw [hs] at ihk
     repeat' (first|refine Go.a rfl ?_|refine Go.rg ?_|refine GoR.nil ?_|refine Go.ret ?_|refine Go.b rfl ?_|refine Go.rgS dmx (by decide) ?_|(refine GoR.o (by rfl) (by rfl) ?_;(conv=>arg 1;simp only [G,Z,Y,Gx,vV,simprocAttr,fb2,fb3,fb9,h4a,g4a,show decide ((i:Int)<(ks.length:Int))=true by simp;omega,u5a h1,u5a h2,b9a (show i<4611686018427387904 by omega),Bool.not_true]);show GoR ..)|(refine GoR.c c42 (by rfl) (by rfl) rfl ?_;(refine (ihk _).ret ?_))|refine GoR.s (by rfl) rfl rfl ?_|(refine GoR.b1a rfl (fun hc => ?_) (fun hc => ?_)<;>simp only [hc])|refine Go.b0a rfl (fun hc => ?_) (fun hc => ?_))
     refine Go.lpN ?_
     refine Go.keep [(2,.ptr S.length 0),(3,.ptr (S.length+1) 0),(5,.int .i64 ((i+1:Nat):Int))] (.cons .refl (.cons .refl (.cons .refl (.nil)))) ?_
     refine next (i+1) (by omega) ⟨h1,fun j hj hj2 hlt => ?_⟩
     rcases Nat.lt_or_ge j i with h | h
     ·exact hk2 j hj hj2 h
     ·obtain rfl:j=i:=by omega
      exact hs
    | false=>
     rw [hs] at ihk
     rw [h6c h1 h2 hs]
     clear next
     repeat' (first|refine Go.a rfl ?_|refine Go.rg ?_|refine GoR.nil ?_|refine Go.ret ?_|refine Go.b rfl ?_|refine Go.rgS dmx (by decide) ?_|(refine GoR.o (by rfl) (by rfl) ?_;(conv=>arg 1;simp only [G,Z,Y,Gx,vV,simprocAttr,fb2,fb3,fb9,h4a,g4a,show decide ((i:Int)<(ks.length:Int))=true by simp;omega,u5a h1,u5a h2,Bool.not_false]);show GoR ..)|(refine GoR.c c42 (by rfl) (by rfl) rfl ?_;(refine (ihk _).ret ?_))|refine GoR.s (by rfl) rfl rfl ?_|(refine GoR.b1a rfl (fun hc => ?_) (fun hc => ?_)<;>simp only [hc])|refine Go.b0a rfl (fun hc => ?_) (fun hc => ?_))
     refine ⟨(by first | exact .inl rfl | exact .inr rfl),fin ?_⟩
     rw [a8a (fn:=Tryz.f42) rfl]
     simp only [a0a,a2a,a1a,G,Z,Y,Gx,vV,simprocAttr,fb2,fb3,fb9,h4a,g4a]
     exact ⟨_,_,rfl,.bool,rfl⟩
   ·clear next
    rw [u6a hlen fun j hj hj2=>hk2 j hj hj2 (by omega)]
    repeat' (first|refine Go.a rfl ?_|refine Go.rg ?_|refine GoR.nil ?_|refine Go.ret ?_|refine Go.b rfl ?_|refine Go.rgS dmx (by decide) ?_|(refine GoR.o (by rfl) (by rfl) ?_;(conv=>arg 1;simp only [G,Z,Y,Gx,vV,simprocAttr,fb2,fb3,fb9,h4a,g4a,show decide ((i:Int)<(ks.length:Int))=false by simp;omega]);show GoR ..)|refine GoR.s (by rfl) rfl rfl ?_|(refine GoR.b1a rfl (fun hc => ?_) (fun hc => ?_)<;>simp only [hc])|refine Go.b0a rfl (fun hc => ?_) (fun hc => ?_))
    refine ⟨(by first | exact .inl rfl | exact .inr rfl),fin ?_⟩
    rw [a8a (fn:=Tryz.f42) rfl]
    simp only [a0a,a2a,a1a,G,Z,Y,Gx,vV,simprocAttr,fb2,fb3,fb9,h4a,g4a]
    exact ⟨_,_,rfl,.bool,rfl⟩
end Go.Proofs.DgT
