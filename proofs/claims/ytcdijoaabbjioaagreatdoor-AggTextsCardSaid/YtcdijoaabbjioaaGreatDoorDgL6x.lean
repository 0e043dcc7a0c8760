/- Words as a text, by both; a number, by the document. -/
import Derived.Test.YtcdijoaabbjioaaGreatDoorDgL3x
set_option linter.unusedSimpArgs false
set_option linter.unusedVariables false
namespace Go.Proofs.DgT
open Go Go.DM
set_option maxRecDepth 100000
variable {orc:DOracle}
theorem wrap8 {b:Nat} (h1:48≤b) (h2:b≤57):IntKind.u8.wrap ((b:Int) - 48)=((b - 48:Nat):Int):=by
 rw [IntKind.wrap_u8]
 omega
theorem u64N {n:Nat} (h:n<18446744073709551616):IntKind.u64.wrap (n:Int)=(n:Int):=wrapu64 (by omega) (by omega)
theorem numF_take {l:List UInt8} {i:Nat} (h:i<l.length):numF 0 (l.take (i+1))=numF 0 (l.take i)*10+(l[i].toNat - 48):=by
 rw [List.take_succ_eq_append_getElem h]
 unfold numF
 rw [List.foldl_append]
 rfl
theorem refNumber (t:ByteArray) (hd : ∀ b∈t.data.toList,dgtB b=true) (h0:0<t.size) (hz:1<t.size→t.data[0]?≠some 48) (hs:t.size<1000000) (S:Mem) :
  CallD Tryz.prog orc 91 [.str t] S fun d S'=>S'=S∧d = .tup [.int .i64 (if numV t.data.toList<9223372036854775808 then (numV t.data.toList:Int) else 0),.bool (decide (numV t.data.toList<9223372036854775808))]:=by
 have hsz:t.data.toList.length=t.size:=by simp
 have hdig : ∀ i (h:i<t.size),48≤(t.data[i]'h).toNat∧(t.data[i]'h).toNat≤57:=fun i h=>by
  have:=hd (t.data[i]'h) (by simp)
  simpa only [dgtB,Bool.and_eq_true,decide_eq_true_eq] using this
 have hd0:=hdig 0 h0
 have hix:=fun {k:IntKind} {S:Mem} => indexStr_zero (s:=t) (k:=k) (S:=S) h0
 have hzz:t.data[0]?=some (t.data[0]'h0):=Array.getElem?_eq_getElem h0
 have d0:decide (0<(t.size:Int))=true:=by rw [decide_eq_true_iff];omega
 have d1:(((t.data[0]'h0).toNat:Int)==45)=false:=by rw [beq_eq_false_iff_ne];omega
 have d2:((t.size:Int)==0)=false:=by rw [beq_eq_false_iff_ne];omega
 refine CallD.e Tryz.func91 rfl Tryz.ntmps91 (by rfl) ?_
 by_cases h19:19<t.size
 ·have d3:decide (19<(t.size:Int))=true:=by rw [decide_eq_true_iff];omega
  have hv:9223372036854775808≤numV t.data.toList:=by
   have e:t.data.toList=t.data[0]'h0::t.data.toList.drop 1:=by have:=drop_at (s:=t) (i:=0) h0;simpa using this
   rw [e] at hd ⊢
   refine numV_long hd (fun e=>hz (by omega) (by rw [hzz,e])) ?_
   rw [List.length_drop]
   omega
  rw [if_neg (by omega),decide_eq_false (by omega)]
  repeat' (first|refine Go.a rfl ?_|refine Go.rg ?_|refine GoR.nil ?_|refine Go.ret ?_|refine Go.b rfl ?_|(refine GoR.o (by rfl) (by rfl) ?_;(conv=>arg 1;simp only [G,Z,Y,Gx,vV,simprocAttr,fb2,fb3,fb5,fb9,fb188,d0,d1,d2,d3,hix]);show GoR ..)|refine GoR.s (by rfl) rfl rfl ?_|(refine GoR.splitG rfl (fun hc => ?_) (fun hc => ?_)<;>simp only [hc])|refine Go.condB rfl (fun hc => ?_) (fun hc => ?_))
  refine ⟨(by first | exact .inl rfl | exact .inr rfl),fin ?_⟩
  rw [resD_two (fn:=Tryz.f91) rfl]
  simp only [optThen_some,resultD_tmp,resultD_cell,G,Z,Y,Gx,vV,simprocAttr,fb2,fb3,fb5,fb9,fb188]
  exact ⟨_,[],by simp,.of_low (.tup' (.cons (.int _ _) (.cons (.bool _) .nil))),rfl⟩
 have d3:decide (19<(t.size:Int))=false:=by rw [decide_eq_false_iff_not];omega
 have d4:(((t.data[0]'h0).toNat:Int)==48)=true→decide (1<(t.size:Int))=false:=by
  intro h
  rw [beq_iff_eq] at h
  rw [decide_eq_false_iff_not]
  intro h1
  exact hz (by omega) (by rw [hzz,Option.some.injEq];exact UInt8.toNat_inj.1 (show _=(48:UInt8).toNat by simp;omega))
 cases h48:(((t.data[0]'h0).toNat:Int)==48)
 all_goals
  first | have d5:=d4 h48 | have d5:=d3
  repeat' (first|refine Go.a rfl ?_|refine Go.rg ?_|refine GoR.nil ?_|refine Go.ret ?_|refine Go.b rfl ?_|(refine GoR.o (by rfl) (by rfl) ?_;(conv=>arg 1;simp only [G,Z,Y,Gx,vV,simprocAttr,fb2,fb3,fb5,fb9,fb188,d0,d1,d2,d3,h48,d5,hix]);show GoR ..)|refine GoR.s (by rfl) rfl rfl ?_|(refine GoR.splitG rfl (fun hc => ?_) (fun hc => ?_)<;>simp only [hc])|refine Go.condB rfl (fun hc => ?_) (fun hc => ?_))
  refine Go.keep [(4,.bool false),(5,.str t),(6,.int .u64 ((0:Nat):Int)),(7,.int .i64 ((0:Nat):Int))] (.cons .refl (.cons .refl (.cons .refl (.cons .refl (.nil))))) ?_
  refine Go.while (α:=Nat) (fun i=>t.size - i) (fun i=>[(4,.bool false),(5,.str t),(6,.int .u64 ((numF 0 (t.data.toList.take i):Nat):Int)),(7,.int .i64 (i:Int))]) (fun _=>S) (fun i=>i≤t.size) ?_ 0 (Nat.zero_le _)
  intro i hi next
  have hlt:=numF_lt (t.data.toList.take i) 0 fun b hb=>hd b (List.mem_of_mem_take hb)
  have hp:(10:Nat) ^ (t.data.toList.take i).length≤10 ^ 19:=Nat.pow_le_pow_right (by decide) (by rw [List.length_take];omega)
  have hp2:(10:Nat) ^ 19=10000000000000000000:=by decide
  by_cases h1:i<t.size
  ·have e1:decide ((i:Int)<(t.size:Int))=true:=by rw [decide_eq_true_iff];omega
   have hb:=hdig i h1
   have hstep:=numF_take (l:=t.data.toList) (i:=i) (by omega)
   have hgi:t.data.toList[i]'(by omega)=t.data[i]'h1:=by simp
   rw [hgi] at hstep
   have hp3:(10:Nat) ^ (t.data.toList.take i).length≤10 ^ 18:=Nat.pow_le_pow_right (by decide) (by rw [List.length_take];omega)
   have hp4:(10:Nat) ^ 18=1000000000000000000:=by decide
   have e2:decide (((t.data[i]'h1).toNat:Int)<48)=false:=by rw [decide_eq_false_iff_not];omega
   have e3:decide (57<((t.data[i]'h1).toNat:Int))=false:=by rw [decide_eq_false_iff_not];omega
   generalize numF 0 (t.data.toList.take i)=u at *
   have e4:IntKind.u64.wrap (10*(u:Int))=((10*u:Nat):Int):=by rw [wrapu64 (by omega) (by omega)];omega
   have e5:=wrap8 hb.1 hb.2
   have e6:IntKind.u64.wrap (((t.data[i]'h1).toNat - 48:Nat):Int)=(((t.data[i]'h1).toNat - 48:Nat):Int):=u64N (by omega)
   have e7:IntKind.u64.wrap (((10*u:Nat):Int)+(((t.data[i]'h1).toNat - 48:Nat):Int))=((u*10+((t.data[i]'h1).toNat - 48):Nat):Int):=by rw [wrapu64 (by omega) (by omega)];omega
   repeat' (first|refine Go.a rfl ?_|refine Go.rg ?_|refine GoR.nil ?_|refine Go.ret ?_|refine Go.b rfl ?_|(refine GoR.o (by rfl) (by rfl) ?_;(conv=>arg 1;simp only [G,Z,Y,Gx,vV,simprocAttr,fb2,fb3,fb5,fb9,fb188,e1,e2,e3,e4,e5,e6,e7,indexStr_cast h1,wrap_succ (show i<4611686018427387904 by omega)]);show GoR ..)|refine GoR.s (by rfl) rfl rfl ?_|(refine GoR.splitG rfl (fun hc => ?_) (fun hc => ?_)<;>simp only [hc])|refine Go.condB rfl (fun hc => ?_) (fun hc => ?_))
   refine Go.lpN ?_
   refine Go.keep [(4,.bool false),(5,.str t),(6,.int .u64 ((u*10+((t.data[i]'h1).toNat - 48):Nat):Int)),(7,.int .i64 ((i+1:Nat):Int))] (.cons .refl (.cons .refl (.cons .refl (.cons .refl (.nil))))) ?_
   rw [← hstep]
   exact next (i+1) (by omega) h1
  ·have e1:decide ((i:Int)<(t.size:Int))=false:=by rw [decide_eq_false_iff_not];omega
   clear next
   have hi':i=t.size:=by omega
   have htake:t.data.toList.take i=t.data.toList:=List.take_of_length_le (by omega)
   rw [htake] at hlt ⊢
   have hv:numV t.data.toList=numF 0 t.data.toList:=rfl
   rw [hv]
   generalize numF 0 t.data.toList=u at *
   by_cases hu:u<9223372036854775808
   ·have e2:decide (9223372036854775808≤(u:Int))=false:=by rw [decide_eq_false_iff_not];omega
    have e3:IntKind.i64.wrap (u:Int)=(u:Int):=wrap64 (by omega) (by omega)
    rw [if_pos hu,decide_eq_true hu]
    repeat' (first|refine Go.a rfl ?_|refine Go.rg ?_|refine GoR.nil ?_|refine Go.ret ?_|refine Go.b rfl ?_|(refine GoR.o (by rfl) (by rfl) ?_;(conv=>arg 1;simp only [G,Z,Y,Gx,vV,simprocAttr,fb2,fb3,fb5,fb9,fb188,e1,e2,e3,ge_iff_le]);show GoR ..)|refine GoR.s (by rfl) rfl rfl ?_|(refine GoR.splitG rfl (fun hc => ?_) (fun hc => ?_)<;>simp only [hc])|refine Go.condB rfl (fun hc => ?_) (fun hc => ?_))
    refine ⟨(by first | exact .inl rfl | exact .inr rfl),fin ?_⟩
    rw [resD_two (fn:=Tryz.f91) rfl]
    simp only [optThen_some,resultD_tmp,resultD_cell,G,Z,Y,Gx,vV,simprocAttr,fb2,fb3,fb5,fb9,fb188]
    exact ⟨_,[],by simp,.of_low (.tup' (.cons (.int _ _) (.cons (.bool _) .nil))),rfl⟩
   ·have e2:decide (9223372036854775808≤(u:Int))=true:=by rw [decide_eq_true_iff];omega
    rw [if_neg hu,decide_eq_false hu]
    repeat' (first|refine Go.a rfl ?_|refine Go.rg ?_|refine GoR.nil ?_|refine Go.ret ?_|refine Go.b rfl ?_|(refine GoR.o (by rfl) (by rfl) ?_;(conv=>arg 1;simp only [G,Z,Y,Gx,vV,simprocAttr,fb2,fb3,fb5,fb9,fb188,e1,e2,ge_iff_le]);show GoR ..)|refine GoR.s (by rfl) rfl rfl ?_|(refine GoR.splitG rfl (fun hc => ?_) (fun hc => ?_)<;>simp only [hc])|refine Go.condB rfl (fun hc => ?_) (fun hc => ?_))
    refine ⟨(by first | exact .inl rfl | exact .inr rfl),fin ?_⟩
    rw [resD_two (fn:=Tryz.f91) rfl]
    simp only [optThen_some,resultD_tmp,resultD_cell,G,Z,Y,Gx,vV,simprocAttr,fb2,fb3,fb5,fb9,fb188]
    exact ⟨_,[],by simp,.of_low (.tup' (.cons (.int _ _) (.cons (.bool _) .nil))),rfl⟩
end Go.Proofs.DgT
namespace Go.Proofs.DgT
open Go Go.DM
set_option maxRecDepth 100000
variable {orc:DOracle}
def sgnB:ByteArray:=(⟨#[40,41,44,61,60,62,43,45,42,47,37]⟩:ByteArray)
theorem sgnB_at {i:Nat} (h:i<11):sgnB.data[i]'(show i<11 from h)=sgnL[i]'(show i<11 from h):=by
 have : ∀ i:Fin 11,sgnB.data[i.1]'(show i.1<11 from i.2)=sgnL[i.1]'(show i.1<11 from i.2):=by decide
 exact this ⟨i,h⟩
def signU (u:ByteArray) (b:UInt8):ByteArray:=if (b=33∨b=60∨b=62)∧u.data[1]?=some 61 then u.extract 0 2 else if b∈sgnL then u.extract 0 1 else ⟨#[]⟩
set_option maxHeartbeats 1000000 in
theorem refSign (u:ByteArray) (h0:0<u.size) (hs:u.size<1000000) (S:Mem):CallD Tryz.prog orc 92 [.str u] S fun d S'=>S'=S∧d = .str (signU u (u.data[0]'h0)):=by
 have hix:=fun {k:IntKind} {S:Mem} => indexStr_zero (s:=u) (k:=k) (S:=S) h0
 have q1 : ∀ (x:UInt8) (n:Int),(x.toNat:Int)=n→(((u.data[0]'h0).toNat:Int)==n)=decide (u.data[0]'h0=x):=fun x n hx=>by
  rw [Bool.eq_iff_iff,beq_iff_eq,decide_eq_true_iff,← UInt8.toNat_inj,← hx]
  omega
 have q33:=q1 33 33 rfl
 have q60:=q1 60 60 rfl
 have q62:=q1 62 62 rfl
 unfold signU
 generalize hb:u.data[0]'h0=b at *
 by_cases h2:(b=33∨b=60∨b=62)∧u.data[1]?=some 61
 ·rw [if_pos h2]
  have hsz:1<u.size:=by
   by_cases h:1<u.size
   ·exact h
   ·have:u.data[1]?=none:=Array.getElem?_eq_none (by show u.data.size≤_;have:u.data.size=u.size:=rfl;omega)
    rw [this] at h2
    cases h2.2
  have h61:u.data[1]'hsz=61:=by have:=h2.2;rw [Array.getElem?_eq_getElem hsz,Option.some.injEq] at this;exact this
  have hi1 : ∀ {k:IntKind} {S:Mem},indexStr (.str u) (.int k 1) S=some (.int .u8 61,S):=fun {k S} => by have:=indexStr_cast (s:=u) (n:=1) (k:=k) (S:=S) hsz;rw [h61] at this;exact this
  have d1:decide (2≤(u.size:Int))=true:=by rw [decide_eq_true_iff];omega
  have c2:(2≤u.size)=True:=by simp;omega
  refine CallD.e Tryz.func92 rfl Tryz.ntmps92 (by rfl) ?_
  cases k1:decide (b=33)<;>cases k2:decide (b=60)<;>cases k3:decide (b=62)
  all_goals first
   | (
     exfalso
     simp only [decide_eq_false_iff_not] at k1 k2 k3
     rcases h2.1 with h | h | h
     ·exact k1 h
     ·exact k2 h
     ·exact k3 h
     done)
   | (
     rw [k1] at q33
     rw [k2] at q60
     rw [k3] at q62
     repeat' (first|refine Go.a rfl ?_|refine Go.rg ?_|refine GoR.nil ?_|refine Go.ret ?_|refine Go.b rfl ?_|refine Go.rgS dmx (by decide) ?_|(refine GoR.o (by rfl) (by rfl) ?_;(conv=>arg 1;simp only [G,Z,Y,Gx,vV,simprocAttr,fb3,fb5,fb9,hix,hi1,d1,c2,ge_iff_le,q33,q60,q62,hb,natD_nn (show (0:Int)≤2 by decide),Option.map_some,Option.map_none,optNatD_some,optNatD_none,Option.getD_some,Option.getD_none,Nat.zero_le,true_and,Int.reduceLE,Option.bind_some]);show GoR ..)|refine GoR.s (by rfl) rfl rfl ?_|(refine GoR.splitG rfl (fun hc => ?_) (fun hc => ?_)<;>simp only [hc])|refine Go.condB rfl (fun hc => ?_) (fun hc => ?_))
     refine ⟨(by first | exact .inl rfl | exact .inr rfl),fin ?_⟩
     rw [resD_tmp (fn:=Tryz.f92) rfl]
     simp only [optThen_some,resultD_tmp,resultD_cell,G,Z,Y,Gx,vV,simprocAttr,fb3,fb5,fb9]
     exact ⟨_,[],by simp,.str,rfl⟩)
 ·rw [if_neg h2]
  have hmain : ∀ (t12:Bool),t12=false→True:=fun _ _=>trivial
  clear hmain
  have z0:decide (2≤(u.size:Int))=false ∨ ∃ h:1<u.size,decide (2≤(u.size:Int))=true∧((((u.data[1]'h).toNat:Int)==61)=false∨((((u.data[1]'h).toNat:Int)==61)=true∧decide (b=33)=false∧decide (b=60)=false∧decide (b=62)=false)):=by
   by_cases hsz:1<u.size
   ·refine .inr ⟨hsz,by rw [decide_eq_true_iff];omega,?_⟩
    cases h61:(((u.data[1]'hsz).toNat:Int)==61) with
    | false=>exact .inl rfl
    | true=>
     have e:u.data[1]?=some 61:=by
      rw [beq_iff_eq] at h61
      rw [Array.getElem?_eq_getElem hsz,Option.some.injEq]
      exact UInt8.toNat_inj.1 (show _=(61:UInt8).toNat by simp;omega)
     refine .inr ⟨rfl,?_,?_,?_⟩<;>rw [decide_eq_false_iff_not]<;>intro hb'<;>exact h2 ⟨by simp [hb'],e⟩
   ·exact .inl (by rw [decide_eq_false_iff_not];omega)
  have loop : ∀ (k:List AM.K) (c:Code) (Q:AM.AExit→DEnv→Mem→Prop) (fl sz:Nat),True:=fun _ _ _ _ _=>trivial
  clear loop
  have hK : ∀ {k:IntKind} {S:Mem} {i:Nat} (h:i<11),indexStr (.str (⟨#[40,41,44,61,60,62,43,45,42,47,37]⟩:ByteArray)) (.int k (i:Int)) S=some (.int .u8 ((sgnL[i]'(show i<11 from h)).toNat:Int),S):=fun {k S i} h=>by
   have:=indexStr_cast (s:=sgnB) (n:=i) (k:=k) (S:=S) (show i<11 from h)
   rw [sgnB_at h] at this
   exact this
  refine CallD.e Tryz.func92 rfl Tryz.ntmps92 (by rfl) ?_
  have c1:(1≤u.size)=True:=by simp;omega
  have hKs:(((⟨#[40,41,44,61,60,62,43,45,42,47,37]⟩:ByteArray)).size:Int)=11:=rfl
  rcases z0 with z0 | ⟨hsz,z0,z1 | ⟨z1,z2,z3,z4⟩⟩
  all_goals first | have hi1 : ∀ {k:IntKind} {S:Mem},indexStr (.str u) (.int k 1) S=some (.int .u8 ((u.data[1]'hsz).toNat:Int),S):=fun {k S} => indexStr_cast (s:=u) (n:=1) (k:=k) (S:=S) hsz | have hi1:=z0
  all_goals first | have y1:=z1 | have y1:=z0
  all_goals first | have y2:=q33.trans z2 | have y2:=z0
  all_goals first | have y3:=q60.trans z3 | have y3:=z0
  all_goals first | have y4:=q62.trans z4 | have y4:=z0
  all_goals
   repeat' (first|refine Go.a rfl ?_|refine Go.rg ?_|refine GoR.nil ?_|refine Go.ret ?_|refine Go.b rfl ?_|refine Go.rgS dmx (by decide) ?_|(refine GoR.o (by rfl) (by rfl) ?_;(conv=>arg 1;simp only [G,Z,Y,Gx,vV,simprocAttr,fb3,fb5,fb9,hix,z0,y1,y2,y3,y4,hi1,ge_iff_le,hb]);show GoR ..)|refine GoR.s (by rfl) rfl rfl ?_|(refine GoR.splitG rfl (fun hc => ?_) (fun hc => ?_)<;>simp only [hc])|refine Go.condB rfl (fun hc => ?_) (fun hc => ?_))
   refine Go.keep [(0,.str u),(3,.str (⟨#[40,41,44,61,60,62,43,45,42,47,37]⟩:ByteArray)),(4,.int .i64 ((0:Nat):Int))] (.cons .refl (.cons .refl (.cons .refl (.nil)))) ?_
   refine Go.while (α:=Nat) (fun i=>11 - i) (fun i=>[(0,.str u),(3,.str (⟨#[40,41,44,61,60,62,43,45,42,47,37]⟩:ByteArray)),(4,.int .i64 (i:Int))]) (fun _=>S) (fun i=>i≤11 ∧ ∀ j (h:j<11),j<i → ¬ sgnL[j]'(show j<11 from h)=b) ?_ 0 ⟨Nat.zero_le _,by simp⟩
   rintro i ⟨hi,hk⟩ next
   by_cases h1:i<11
   ·have e1:decide ((i:Int)<11)=true:=by rw [decide_eq_true_iff];omega
    have hKi:=fun {k:IntKind} {S:Mem} => hK (k:=k) (S:=S) h1
    have hmem:sgnL[i]'(show i<11 from h1)∈sgnL:=List.getElem_mem _
    generalize hxe:sgnL[i]'(show i<11 from h1)=x at *
    cases hx:((b.toNat:Int)==(x.toNat:Int)) with
    | true=>
     have hbx:b=x:=by rw [beq_iff_eq] at hx;exact UInt8.toNat_inj.1 (by omega)
     subst hbx
     rw [if_pos hmem]
     repeat' (first|refine Go.a rfl ?_|refine Go.rg ?_|refine GoR.nil ?_|refine Go.ret ?_|refine Go.b rfl ?_|refine Go.rgS dmx (by decide) ?_|(refine GoR.o (by rfl) (by rfl) ?_;(conv=>arg 1;simp only [G,Z,Y,Gx,vV,simprocAttr,fb3,fb5,fb9,hix,hb,hKs,e1,hKi,hx,c1,natD_nn (show (0:Int)≤1 by decide),Option.map_some,Option.map_none,optNatD_some,optNatD_none,Option.getD_some,Option.getD_none,Nat.zero_le,true_and,Option.bind_some]);show GoR ..)|refine GoR.s (by rfl) rfl rfl ?_|(refine GoR.splitG rfl (fun hc => ?_) (fun hc => ?_)<;>simp only [hc])|refine Go.condB rfl (fun hc => ?_) (fun hc => ?_))
     clear next
     refine ⟨(by first | exact .inl rfl | exact .inr rfl),fin ?_⟩
     rw [resD_tmp (fn:=Tryz.f92) rfl]
     simp only [optThen_some,resultD_tmp,resultD_cell,G,Z,Y,Gx,vV,simprocAttr,fb3,fb5,fb9]
     exact ⟨_,[],by simp,.str,rfl⟩
    | false=>
     repeat' (first|refine Go.a rfl ?_|refine Go.rg ?_|refine GoR.nil ?_|refine Go.ret ?_|refine Go.b rfl ?_|refine Go.rgS dmx (by decide) ?_|(refine GoR.o (by rfl) (by rfl) ?_;(conv=>arg 1;simp only [G,Z,Y,Gx,vV,simprocAttr,fb3,fb5,fb9,hix,hb,hKs,e1,hKi,hx,wrap_succ (show i<4611686018427387904 by omega)]);show GoR ..)|refine GoR.s (by rfl) rfl rfl ?_|(refine GoR.splitG rfl (fun hc => ?_) (fun hc => ?_)<;>simp only [hc])|refine Go.condB rfl (fun hc => ?_) (fun hc => ?_))
     refine Go.lpN ?_
     refine Go.keep [(0,.str u),(3,.str (⟨#[40,41,44,61,60,62,43,45,42,47,37]⟩:ByteArray)),(4,.int .i64 ((i+1:Nat):Int))] (.cons .refl (.cons .refl (.cons .refl (.nil)))) ?_
     refine next (i+1) (by omega) ⟨h1,fun j hj hlt => ?_⟩
     rcases Nat.lt_or_ge j i with h | h
     ·exact hk j hj h
     ·obtain rfl:j=i:=by omega
      rw [hxe]
      rintro rfl
      rw [beq_eq_false_iff_ne] at hx
      exact hx rfl
   ·have e1:decide ((i:Int)<11)=false:=by rw [decide_eq_false_iff_not];omega
    clear next
    have hno : ¬ b∈sgnL:=by
     intro h
     obtain ⟨j,hj,e⟩:=List.mem_iff_getElem.1 h
     exact hk j hj (by have:j<11:=hj;omega) e
    rw [if_neg hno]
    repeat' (first|refine Go.a rfl ?_|refine Go.rg ?_|refine GoR.nil ?_|refine Go.ret ?_|refine Go.b rfl ?_|refine Go.rgS dmx (by decide) ?_|(refine GoR.o (by rfl) (by rfl) ?_;(conv=>arg 1;simp only [G,Z,Y,Gx,vV,simprocAttr,fb3,fb5,fb9,hKs,e1]);show GoR ..)|refine GoR.s (by rfl) rfl rfl ?_|(refine GoR.splitG rfl (fun hc => ?_) (fun hc => ?_)<;>simp only [hc])|refine Go.condB rfl (fun hc => ?_) (fun hc => ?_))
    refine ⟨(by first | exact .inl rfl | exact .inr rfl),fin ?_⟩
    rw [resD_tmp (fn:=Tryz.f92) rfl]
    simp only [optThen_some,resultD_tmp,resultD_cell,G,Z,Y,Gx,vV,simprocAttr,fb3,fb5,fb9]
    exact ⟨_,[],by simp,.str,rfl⟩
end Go.Proofs.DgT
namespace Go.Proofs.DgT
open Go Go.DM
set_option maxRecDepth 100000
variable {orc:DOracle}
theorem rest_list {s:ByteArray} {i:Nat} (h:i≤s.size):(s.extract i s.size).data.toList=s.data.toList.drop i:=by
 rw [extract_eq h,sub_list,List.take_of_length_le]
 rw [List.length_drop]
 simp
theorem rest_at {s:ByteArray} {i:Nat} (h:i≤s.size) (j:Nat):(s.extract i s.size).data[j]?=s.data[i+j]?:=by
 rw [← Array.getElem?_toList,rest_list h,List.getElem?_drop,Array.getElem?_toList]
theorem rest_size {s:ByteArray} {i:Nat} (h:i≤s.size):(s.extract i s.size).size=s.size - i:=by
 rw [extract_eq h,sub_size (by omega)]
theorem rest_sub {s:ByteArray} {i:Nat} (h:i≤s.size) (n:Nat):(s.extract i s.size).extract 0 n=sub s i n:=by
 rw [extract_eq (Nat.zero_le _)]
 unfold sub
 rw [rest_list h]
 rfl
theorem signU_at {s:ByteArray} {i:Nat} (h:i<s.size) (b:UInt8):signU (s.extract i s.size) b=match sgnS s i b with | .ok (_,n,_)=>sub s i n | .error _=>⟨#[]⟩:=by
 unfold signU sgnS
 rw [rest_at (Nat.le_of_lt h),rest_sub (Nat.le_of_lt h),rest_sub (Nat.le_of_lt h)]
 split
 ·rfl
 ·split<;>rfl
theorem refSignAt (s:ByteArray) (hs:s.size<1000000) (i:Nat) (h:i<s.size) (S:Mem) :
  CallD Tryz.prog orc 92 [.str (s.extract i s.size)] S fun d S'=>S'=S∧d = .str (match sgnS s i (s.data[i]'h) with | .ok (_,n,_)=>sub s i n | .error _=>⟨#[]⟩):=by
 have h0:0<(s.extract i s.size).size:=by rw [rest_size (Nat.le_of_lt h)];omega
 have e:(s.extract i s.size).data[0]'h0=s.data[i]'h:=by
  have h1:=rest_at (Nat.le_of_lt h) 0
  have h2:(s.extract i s.size).data[0]?=some ((s.extract i s.size).data[0]'h0):=Array.getElem?_eq_getElem h0
  have h3:s.data[i+0]?=some (s.data[i]'h):=Array.getElem?_eq_getElem h
  exact Option.some.inj (h2.symm.trans (h1.trans h3))
 have:=refSign (orc:=orc) (s.extract i s.size) h0 (by rw [rest_size (Nat.le_of_lt h)];omega) S
 rw [e,signU_at h] at this
 exact this
theorem toks_ok {m n:Nat} {o:D} {cells:List D} (h:Wf o (.sl none 4 n cells)) (hl:LowL m cells):Wk m (.tup [o,.int .i64 0,.int .i64 0]) (.tup [.sl none 4 n cells,.int .i64 0,.int .i64 0]):=
 .tup rfl fun i h1 h2=>by
  match i,h1,h2 with
  | 0,_,_=>exact h.to_Wk (.sl' hl)
  | 1,_,_=>exact .of_low (.int _ _)
  | 2,_,_=>exact .of_low (.int _ _)
set_option maxHeartbeats 4000000 in
theorem refTokens (s:ByteArray) (hs:s.size<1000000) (S:Mem):CallD Tryz.prog orc 31 [.str s] S fun d S'=>S'=S∧d=toksD (lexF s):=by
 refine CallD.e Tryz.func31 rfl Tryz.ntmps31 (by rfl) ?_
 by_cases h24:1024<s.size
 ·have d0:decide (1024<(s.size:Int))=true:=by rw [decide_eq_true_iff];omega
  rw [lexF,if_pos h24]
  repeat' (first|refine Go.a rfl ?_|refine Go.rg ?_|refine GoR.nil ?_|refine Go.ret ?_|refine Go.b rfl ?_|(refine GoR.o (by rfl) (by rfl) ?_;(conv=>arg 1;simp only [G,Z,Y,Gx,vV,simprocAttr,fb2,fb3,fb5,fb9,fb82,fb88,d0]);show GoR ..)|refine GoR.s (by rfl) rfl rfl ?_|(refine GoR.splitG rfl (fun hc => ?_) (fun hc => ?_)<;>simp only [hc])|refine Go.condB rfl (fun hc => ?_) (fun hc => ?_))
  refine ⟨(by first | exact .inl rfl | exact .inr rfl),fin ?_⟩
  rw [resD_three (fn:=Tryz.f31) rfl]
  simp only [optThen_some,resultD_tmp,resultD_cell,G,Z,Y,Gx,vV,simprocAttr,fb2,fb3,fb5,fb9,fb82,fb88]
  exact ⟨_,[],by simp,toks_err,rfl⟩
 have d0:decide (1024<(s.size:Int))=false:=by rw [decide_eq_false_iff_not];omega
 rw [lexF,if_neg h24]
 repeat' (first|refine Go.a rfl ?_|refine Go.rg ?_|refine GoR.nil ?_|refine Go.ret ?_|refine Go.b rfl ?_|(refine GoR.o (by rfl) (by rfl) ?_;(conv=>arg 1;simp only [G,Z,Y,Gx,vV,simprocAttr,fb2,fb3,fb5,fb9,fb82,fb88,d0]);show GoR ..)|refine GoR.s (by rfl) rfl rfl ?_|(refine GoR.splitG rfl (fun hc => ?_) (fun hc => ?_)<;>simp only [hc])|refine Go.condB rfl (fun hc => ?_) (fun hc => ?_))
 refine Go.keep [(0,.str s),(5,.nils),(6,.int .i64 ((0:Nat):Int))] (.cons .refl (.cons .refl (.cons .refl (.nil)))) ?_
 refine Go.while (α:=Nat×List Tok×D×Mem) (fun x=>s.size - x.1) (fun x=>[(0,.str s),(5,x.2.2.1),(6,.int .i64 (x.1:Int))]) (fun x=>x.2.2.2)
  (fun x=>x.1≤s.size∧lexS s.data.toList 0=(lexS (s.data.toList.drop x.1) x.1).map (x.2.1 ++ ·)∧x.2.1.length≤x.1∧AccD S.length x.2.2.1 4 x.2.1.length (toksC x.2.1) x.2.2.2∧Grown S.length S x.2.2.2) ?_
  (0,[],.nils,S) ⟨Nat.zero_le _,by simp only [List.drop_zero,List.nil_append];cases lexS s.data.toList 0<;>rfl,Nat.zero_le _,.inl ⟨rfl,rfl,rfl⟩,.refl⟩
 rintro ⟨i,acc,o,S1⟩ ⟨hi,hlex,hlen,hacc,hg⟩ next
 dsimp only at hi hlex hlen hacc hg next
 by_cases h1:i<s.size
 ·have d1:decide ((i:Int)<(s.size:Int))=true:=by rw [decide_eq_true_iff];omega
  have hix:=fun {k:IntKind} {S:Mem} => indexStr_cast (s:=s) (n:=i) (k:=k) (S:=S) h1
  by_cases hb:s.data[i]'h1=32
  ·have d2:(((s.data[i]'h1).toNat:Int)==32)=true:=by rw [hb];rfl
   repeat' (first|refine Go.a rfl ?_|refine Go.rg ?_|refine GoR.nil ?_|refine Go.ret ?_|refine Go.b rfl ?_|(refine GoR.o (by rfl) (by rfl) ?_;(conv=>arg 1;simp only [G,Z,Y,Gx,vV,simprocAttr,fb2,fb3,fb5,fb9,fb82,fb88,d1,d2,hix,wrap_succ (show i<4611686018427387904 by omega)]);show GoR ..)|refine GoR.s (by rfl) rfl rfl ?_|(refine GoR.splitG rfl (fun hc => ?_) (fun hc => ?_)<;>simp only [hc])|refine Go.condB rfl (fun hc => ?_) (fun hc => ?_))
   refine Go.lpN ?_
   refine Go.keep [(0,.str s),(5,o),(6,.int .i64 ((i+1:Nat):Int))] (.cons .refl (.cons .refl (.cons .refl (.nil)))) ?_
   refine next (i+1,acc,o,S1) (by dsimp only;omega) ⟨h1,?_,by dsimp only;omega,hacc,hg⟩
   dsimp only
   rw [hlex,lexBlank_step h1 hb]
  have d2:(((s.data[i]'h1).toNat:Int)==32)=false:=by
   rw [beq_eq_false_iff_ne]
   intro e
   exact hb (UInt8.toNat_inj.1 (show _=(32:UInt8).toNat by simp;omega))
  have herr:=fun {e:Int} => lexErr_step (e:=e) h1 hb
  have hok:=fun {k:Int} {n v:Nat} => lexOk_step (k:=k) (n:=n) (v:=v) h1 hb
  have happ:=fun (T:Tok)=>(hacc.app [.own]).append (P:=Tryz.prog) del82 (own:=some S1.length) (m:=1) (new:=Tok.c T) (by simp;have:=hg.len;omega) (by omega) ⟨by omega,by omega,by omega,rfl⟩
  have hnext : ∀ (k:Int) (n v:Nat) (o':D) (S2:Mem),lexOne (s.data.toList.drop i) = .ok (k,n,v)→AccD S.length o' 4 (acc.length+1) (toksC acc++Tok.c ⟨k,sub s i n,v,i⟩) S2→Grown S.length (S1++[.own]) S2 →
    Go Tryz.prog orc S.length 142 (.lp _::_) .normal (envL [(0,.str s),(5,o'),(6,.int .i64 ((i+n:Nat):Int))]) S2 _:=fun k n v o' S2 h hacc2 hg2=>by
   obtain ⟨e1,e2,e3⟩:=hok h
   refine next (i+n,acc++[⟨k,sub s i n,v,i⟩],o',S2) (by dsimp only;omega) ⟨e3,?_,by dsimp only;rw [List.length_append];simp;omega,?_,hg.trans (Grown.app.trans hg2)⟩
   ·dsimp only
    rw [hlex,e1,map_map]
    simp
   ·dsimp only
    rw [List.length_append,toksC,List.flatMap_append]
    simpa [toksC] using hacc2
  clear next
  obtain ⟨E,hE⟩:=hg.pre [] S rfl (by simp)
  have hone:=lexOne_at h1
  have hl:=refLetter (orc:=orc) (s.data[i]'h1)
  have hd:=refDigit (orc:=orc) (s.data[i]'h1)
  have ho1:=hacc.one
  have hdl:dgtB (s.data[i]'h1)=true→letB (s.data[i]'h1)=false:=fun h=>by
   simp only [dgtB,letB,Bool.and_eq_true,decide_eq_true_eq,Bool.and_eq_false_iff,decide_eq_false_iff_not] at h ⊢
   omega
  cases hL:letB (s.data[i]'h1) with
  | true=>
   rw [hL,if_pos rfl] at hone
   rw [hL] at hl
   have hle:=tw_le (p:=lodB) (Nat.le_of_lt h1)
   repeat' (first|refine Go.a rfl ?_|refine Go.rg ?_|refine GoR.nil ?_|refine Go.ret ?_|refine Go.b rfl ?_|(refine GoR.o (by rfl) (by rfl) ?_;(conv=>arg 1;simp only [G,Z,Y,Gx,vV,simprocAttr,fb2,fb3,fb5,fb9,fb82,fb88,d1,d2,hix]);show GoR ..)|(refine GoR.c c89 (by rfl) (by rfl) rfl ?_;(refine (hl _).ret ?_))|refine GoR.s (by rfl) rfl rfl ?_|(refine GoR.splitG rfl (fun hc => ?_) (fun hc => ?_)<;>simp only [hc])|refine Go.condB rfl (fun hc => ?_) (fun hc => ?_))
   refine Go.keep [(0,.str s),(5,o),(6,.int .i64 (i:Int)),(7,.int .i64 (i:Int))] (.cons .refl (.cons .refl (.cons .refl (.cons .refl (.nil))))) ?_
   refine Go.while (α:=Nat) (fun k=>s.size - k) (fun k=>[(0,.str s),(5,o),(6,.int .i64 (i:Int)),(7,.int .i64 (k:Int))]) (fun _=>S1) (fun k=>k≤s.size∧i+tw lodB s i=k+tw lodB s k) ?_ i ⟨hi,rfl⟩
   rintro k ⟨hk,hkt⟩ next2
   by_cases hgo : ∃ h:k<s.size,lodB (s.data[k]'h)=true
   ·obtain ⟨hk1,hp⟩:=hgo
    have e1:decide ((k:Int)<(s.size:Int))=true:=by rw [decide_eq_true_iff];omega
    have hlk:=refLetter (orc:=orc) (s.data[k]'hk1)
    have hdk:=refDigit (orc:=orc) (s.data[k]'hk1)
    have hixk:=fun {k':IntKind} {S:Mem} => indexStr_cast (s:=s) (n:=k) (k:=k') (S:=S) hk1
    have hhit:=tw_hit hk1 hp
    simp only [lodB,Bool.or_eq_true] at hp
    cases hlet:letB (s.data[k]'hk1) with
    | true=>
     rw [hlet] at hlk
     repeat' (first|refine Go.a rfl ?_|refine Go.rg ?_|refine GoR.nil ?_|refine Go.ret ?_|refine Go.b rfl ?_|(refine GoR.o (by rfl) (by rfl) ?_;(conv=>arg 1;simp only [G,Z,Y,Gx,vV,simprocAttr,fb2,fb3,fb5,fb9,fb82,fb88,e1,hixk,wrap_succ (show k<4611686018427387904 by omega)]);show GoR ..)|(refine GoR.c c89 (by rfl) (by rfl) rfl ?_;(refine (hlk _).ret ?_))|refine GoR.s (by rfl) rfl rfl ?_|(refine GoR.splitG rfl (fun hc => ?_) (fun hc => ?_)<;>simp only [hc])|refine Go.condB rfl (fun hc => ?_) (fun hc => ?_))
     refine Go.lpN ?_
     refine Go.keep [(0,.str s),(5,o),(6,.int .i64 (i:Int)),(7,.int .i64 ((k+1:Nat):Int))] (.cons .refl (.cons .refl (.cons .refl (.cons .refl (.nil))))) ?_
     exact next2 (k+1) (by omega) ⟨hk1,by omega⟩
    | false=>
     rw [hlet] at hlk hp
     rw [show dgtB (s.data[k]'hk1)=true by simpa using hp] at hdk
     repeat' (first|refine Go.a rfl ?_|refine Go.rg ?_|refine GoR.nil ?_|refine Go.ret ?_|refine Go.b rfl ?_|(refine GoR.o (by rfl) (by rfl) ?_;(conv=>arg 1;simp only [G,Z,Y,Gx,vV,simprocAttr,fb2,fb3,fb5,fb9,fb82,fb88,e1,hixk,wrap_succ (show k<4611686018427387904 by omega)]);show GoR ..)|(refine GoR.c c89 (by rfl) (by rfl) rfl ?_;(refine (hlk _).ret ?_))|(refine GoR.c c90 (by rfl) (by rfl) rfl ?_;(refine (hdk _).ret ?_))|refine GoR.s (by rfl) rfl rfl ?_|(refine GoR.splitG rfl (fun hc => ?_) (fun hc => ?_)<;>simp only [hc])|refine Go.condB rfl (fun hc => ?_) (fun hc => ?_))
     refine Go.lpN ?_
     refine Go.keep [(0,.str s),(5,o),(6,.int .i64 (i:Int)),(7,.int .i64 ((k+1:Nat):Int))] (.cons .refl (.cons .refl (.cons .refl (.cons .refl (.nil))))) ?_
     exact next2 (k+1) (by omega) ⟨hk1,by omega⟩
   ·clear next2
    have hstop:decide ((k:Int)<(s.size:Int))=false ∨ ∃ h:k<s.size,decide ((k:Int)<(s.size:Int))=true∧letB (s.data[k]'h)=false∧dgtB (s.data[k]'h)=false:=by
     by_cases h:k<s.size
     ·refine .inr ⟨h,by rw [decide_eq_true_iff];omega,?_⟩
      have hn : ¬ lodB (s.data[k]'h)=true:=fun hp=>hgo ⟨h,hp⟩
      simpa [lodB] using hn
     ·exact .inl (by rw [decide_eq_false_iff_not];omega)
    have hz:tw lodB s k=0:=by
     by_cases h:k<s.size
     ·exact tw_miss h (by cases hp:lodB (s.data[k]'h) with | true=>exact (hgo ⟨h,hp⟩).elim | false=>rfl)
     ·exact tw_end (by omega)
    clear hgo
    generalize hw:tw lodB s i=w at *
    obtain rfl:k=i+w:=by omega
    have e2:IntKind.i64.wrap (((i+w:Nat):Int) - (i:Int))=(w:Int):=by rw [wrap64 (by omega) (by omega)];omega
    have e3:s.extract i (i+w)=sub s i w:=by rw [extract_eq (by omega)];congr 1;omega
    have c1:(i≤i+w∧i+w≤s.size)=True:=by simp;omega
    rcases hstop with f1 | ⟨hk1,f1,f2,f3⟩
    all_goals first | have hixk:=fun {k':IntKind} {S:Mem} => indexStr_cast (s:=s) (n:=i+w) (k:=k') (S:=S) hk1 | have hixk:=f1
    all_goals first | have hlk:=refLetter (orc:=orc) (s.data[i+w]'hk1) | have hlk:=f1
    all_goals first | rw [f2] at hlk | skip
    all_goals first | have hdk:=refDigit (orc:=orc) (s.data[i+w]'hk1) | have hdk:=f1
    all_goals first | rw [f3] at hdk | skip
    all_goals
     by_cases h8:8<w
     ·have d8:decide (8<(w:Int))=true:=by rw [decide_eq_true_iff];omega
      rw [if_pos h8] at hone
      rw [hlex,herr hone]
      repeat' (first|refine Go.a rfl ?_|refine Go.rg ?_|refine GoR.nil ?_|refine Go.ret ?_|refine Go.b rfl ?_|(refine GoR.o (by rfl) (by rfl) ?_;(conv=>arg 1;simp only [G,Z,Y,Gx,vV,simprocAttr,fb2,fb3,fb5,fb9,fb82,fb88,f1,hixk,e2,d8]);show GoR ..)|(refine GoR.c c89 (by rfl) (by rfl) rfl ?_;(refine (hlk _).ret ?_))|(refine GoR.c c90 (by rfl) (by rfl) rfl ?_;(refine (hdk _).ret ?_))|refine GoR.s (by rfl) rfl rfl ?_|(refine GoR.splitG rfl (fun hc => ?_) (fun hc => ?_)<;>simp only [hc])|refine Go.condB rfl (fun hc => ?_) (fun hc => ?_))
      refine ⟨(by first | exact .inl rfl | exact .inr rfl),fin ?_⟩
      rw [resD_three (fn:=Tryz.f31) rfl]
      simp only [optThen_some,resultD_tmp,resultD_cell,G,Z,Y,Gx,vV,simprocAttr,fb2,fb3,fb5,fb9,fb82,fb88]
      exact ⟨_,E,hE,toks_err,rfl⟩
     ·have d8:decide (8<(w:Int))=false:=by rw [decide_eq_false_iff_not];omega
      rw [if_neg h8] at hone
      obtain ⟨o',S2,hap,hacc2,hg2⟩:=happ ⟨1,sub s i w,0,i⟩
      have hfin:=hnext 1 w 0 o' S2 hone hacc2 hg2
      clear hnext happ
      generalize sub s i w=t at *
      simp only [Tok.c] at hap
      repeat' (first|refine Go.a rfl ?_|refine Go.rg ?_|refine GoR.nil ?_|refine Go.ret ?_|refine Go.b rfl ?_|(refine GoR.o (by rfl) (by rfl) ?_;(conv=>arg 1;simp only [G,Z,Y,Gx,vV,simprocAttr,fb2,fb3,fb5,fb9,fb82,fb88,f1,hixk,e2,e3,c1,d8,natD_cast,Option.map_some,optNatD_some,Option.getD_some,ho1,hap,builtin_append]);show GoR ..)|(refine GoR.c c89 (by rfl) (by rfl) rfl ?_;(refine (hlk _).ret ?_))|(refine GoR.c c90 (by rfl) (by rfl) rfl ?_;(refine (hdk _).ret ?_))|refine GoR.s (by rfl) rfl rfl ?_|(refine GoR.splitG rfl (fun hc => ?_) (fun hc => ?_)<;>simp only [hc])|refine Go.condB rfl (fun hc => ?_) (fun hc => ?_))
      refine Go.lpN ?_
      refine Go.keep [(0,.str s),(5,o'),(6,.int .i64 ((i+w:Nat):Int))] (.cons .refl (.cons .refl (.cons .refl (.nil)))) ?_
      exact hfin
  | false=>
   rw [hL,if_neg (by decide)] at hone
   rw [hL] at hl
   cases hD:dgtB (s.data[i]'h1) with
   | true=>
    rw [hD,if_pos rfl] at hone
    rw [hD] at hd
    have hle:=tw_le (p:=dgtB) (Nat.le_of_lt h1)
    have hpos:0<tw dgtB s i:=by rw [tw_hit h1 hD];omega
    have hsz:=sub_size hle
    have htw:=sub_tw dgtB s i
    have hall : ∀ b∈(sub s i (tw dgtB s i)).data.toList,dgtB b=true:=by rw [htw];exact takeWhile_all _
    have hfst:(sub s i (tw dgtB s i)).data[0]?=some (s.data[i]'h1):=by
     obtain ⟨m,hm⟩ : ∃ m,tw dgtB s i=m+1:=⟨tw dgtB s i - 1,by omega⟩
     rw [hm,sub,drop_at h1]
     rfl
    have h48:(s.data[i]?=some 48)↔(((s.data[i]'h1).toNat:Int)==48)=true:=by
     rw [Array.getElem?_eq_getElem h1,Option.some.injEq,beq_iff_eq,← UInt8.toNat_inj]
     show _=48↔_
     omega
    unfold numS at hone
    rw [← htw] at hone
    repeat' (first|refine Go.a rfl ?_|refine Go.rg ?_|refine GoR.nil ?_|refine Go.ret ?_|refine Go.b rfl ?_|(refine GoR.o (by rfl) (by rfl) ?_;(conv=>arg 1;simp only [G,Z,Y,Gx,vV,simprocAttr,fb2,fb3,fb5,fb9,fb82,fb88,d1,d2,hix]);show GoR ..)|(refine GoR.c c89 (by rfl) (by rfl) rfl ?_;(refine (hl _).ret ?_))|(refine GoR.c c90 (by rfl) (by rfl) rfl ?_;(refine (hd _).ret ?_))|refine GoR.s (by rfl) rfl rfl ?_|(refine GoR.splitG rfl (fun hc => ?_) (fun hc => ?_)<;>simp only [hc])|refine Go.condB rfl (fun hc => ?_) (fun hc => ?_))
    refine Go.keep [(0,.str s),(5,o),(6,.int .i64 (i:Int)),(7,.int .i64 (i:Int))] (.cons .refl (.cons .refl (.cons .refl (.cons .refl (.nil))))) ?_
    refine Go.while (α:=Nat) (fun k=>s.size - k) (fun k=>[(0,.str s),(5,o),(6,.int .i64 (i:Int)),(7,.int .i64 (k:Int))]) (fun _=>S1) (fun k=>k≤s.size∧i+tw dgtB s i=k+tw dgtB s k) ?_ i ⟨hi,rfl⟩
    rintro k ⟨hk,hkt⟩ next2
    by_cases hgo : ∃ h:k<s.size,dgtB (s.data[k]'h)=true
    ·obtain ⟨hk1,hp⟩:=hgo
     have e1:decide ((k:Int)<(s.size:Int))=true:=by rw [decide_eq_true_iff];omega
     have hdk:=refDigit (orc:=orc) (s.data[k]'hk1)
     have hixk:=fun {k':IntKind} {S:Mem} => indexStr_cast (s:=s) (n:=k) (k:=k') (S:=S) hk1
     have hhit:=tw_hit hk1 hp
     rw [hp] at hdk
     repeat' (first|refine Go.a rfl ?_|refine Go.rg ?_|refine GoR.nil ?_|refine Go.ret ?_|refine Go.b rfl ?_|(refine GoR.o (by rfl) (by rfl) ?_;(conv=>arg 1;simp only [G,Z,Y,Gx,vV,simprocAttr,fb2,fb3,fb5,fb9,fb82,fb88,e1,hixk,wrap_succ (show k<4611686018427387904 by omega)]);show GoR ..)|(refine GoR.c c90 (by rfl) (by rfl) rfl ?_;(refine (hdk _).ret ?_))|refine GoR.s (by rfl) rfl rfl ?_|(refine GoR.splitG rfl (fun hc => ?_) (fun hc => ?_)<;>simp only [hc])|refine Go.condB rfl (fun hc => ?_) (fun hc => ?_))
     refine Go.lpN ?_
     refine Go.keep [(0,.str s),(5,o),(6,.int .i64 (i:Int)),(7,.int .i64 ((k+1:Nat):Int))] (.cons .refl (.cons .refl (.cons .refl (.cons .refl (.nil))))) ?_
     exact next2 (k+1) (by omega) ⟨hk1,by omega⟩
    ·clear next2
     have hstop:decide ((k:Int)<(s.size:Int))=false∧s.data[k]?=none ∨ ∃ h:k<s.size,decide ((k:Int)<(s.size:Int))=true∧dgtB (s.data[k]'h)=false∧s.data[k]?=some (s.data[k]'h):=by
      by_cases h:k<s.size
      ·exact .inr ⟨h,by rw [decide_eq_true_iff];omega,by cases hp:dgtB (s.data[k]'h) with | true=>exact (hgo ⟨h,hp⟩).elim | false=>rfl,Array.getElem?_eq_getElem h⟩
      ·exact .inl ⟨by rw [decide_eq_false_iff_not];omega,Array.getElem?_eq_none (by show s.data.size≤_;have:s.data.size=s.size:=rfl;omega)⟩
     have hz:tw dgtB s k=0:=by
      by_cases h:k<s.size
      ·exact tw_miss h (by cases hp:dgtB (s.data[k]'h) with | true=>exact (hgo ⟨h,hp⟩).elim | false=>rfl)
      ·exact tw_end (by omega)
     clear hgo
     generalize hw:tw dgtB s i=w at *
     obtain rfl:k=i+w:=by omega
     have e2:IntKind.i64.wrap (((i+w:Nat):Int) - (i:Int))=(w:Int):=by rw [wrap64 (by omega) (by omega)];omega
     have e3:s.extract i (i+w)=sub s i w:=by rw [extract_eq (by omega)];congr 1;omega
     have c1:(i≤i+w∧i+w≤s.size)=True:=by simp;omega
     have hnum:(1<w → ¬ s.data[i]?=some 48) → ∀ S,CallD Tryz.prog orc 91 [.str (sub s i w)] S fun d S'=>S'=S∧d = .tup [.int .i64 (if numV (sub s i w).data.toList<9223372036854775808 then (numV (sub s i w).data.toList:Int) else 0),.bool (decide (numV (sub s i w).data.toList<9223372036854775808))]:=fun hz S=>
      refNumber (sub s i w) hall (by omega) (fun h=>by rw [hfst,← Array.getElem?_eq_getElem h1];exact hz (by omega)) (by omega) S
     have happ:=happ ⟨2,sub s i w,(numV (sub s i w).data.toList:Int),i⟩
     have hnext:=hnext 2 w (numV (sub s i w).data.toList)
     generalize hv:numV (sub s i w).data.toList=v at *
     clear hfst hall htw hv
     generalize sub s i w=t at *
     simp only [Tok.c] at happ
     have hq:decide (1<(w:Int))=true↔1<w:=by rw [decide_eq_true_iff];omega
     by_cases hzz:decide (1<(w:Int))=true∧(((s.data[i]'h1).toNat:Int)==48)=true
     ·obtain ⟨q1,q2⟩:=hzz
      rw [if_pos (.inr ⟨hq.1 q1,h48.2 q2⟩)] at hone
      rw [hlex,herr hone]
      clear hnext happ hnum
      rcases hstop with ⟨f1,f2⟩ | ⟨hk1,f1,f2,f3⟩
      all_goals first | have hixk:=fun {k':IntKind} {S:Mem} => indexStr_cast (s:=s) (n:=i+w) (k:=k') (S:=S) hk1 | have hixk:=f1
      all_goals first | have hdk:=refDigit (orc:=orc) (s.data[i+w]'hk1) | have hdk:=f1
      all_goals first | rw [f2] at hdk | skip
      all_goals
       repeat' (first|refine Go.a rfl ?_|refine Go.rg ?_|refine GoR.nil ?_|refine Go.ret ?_|refine Go.b rfl ?_|(refine GoR.o (by rfl) (by rfl) ?_;(conv=>arg 1;simp only [G,Z,Y,Gx,vV,simprocAttr,fb2,fb3,fb5,fb9,fb82,fb88,f1,hix,hixk,e2,q1,q2]);show GoR ..)|(refine GoR.c c90 (by rfl) (by rfl) rfl ?_;(refine (hdk _).ret ?_))|refine GoR.s (by rfl) rfl rfl ?_|(refine GoR.splitG rfl (fun hc => ?_) (fun hc => ?_)<;>simp only [hc])|refine Go.condB rfl (fun hc => ?_) (fun hc => ?_))
       refine ⟨(by first | exact .inl rfl | exact .inr rfl),fin ?_⟩
       rw [resD_three (fn:=Tryz.f31) rfl]
       simp only [optThen_some,resultD_tmp,resultD_cell,G,Z,Y,Gx,vV,simprocAttr,fb2,fb3,fb5,fb9,fb82,fb88]
       exact ⟨_,E,hE,toks_err,rfl⟩
     ·have hqz:(decide (1<(w:Int))=false∨(decide (1<(w:Int))=true∧(((s.data[i]'h1).toNat:Int)==48)=false)):=by
       cases q1:decide (1<(w:Int)) with
       | false=>exact .inl rfl
       | true=>exact .inr ⟨rfl,by cases q2:(((s.data[i]'h1).toNat:Int)==48) with | true=>exact (hzz ⟨q1,q2⟩).elim | false=>rfl⟩
      have hn48 : ¬ (1<w∧s.data[i]?=some 48):=fun h=>hzz ⟨hq.2 h.1,h48.1 h.2⟩
      have hnum:=hnum fun h h'=>hn48 ⟨h,h'⟩
      by_cases hlet:(s.data[i+w]?).any letB=true
      ·rw [if_pos (.inl hlet)] at hone
       rw [hlex,herr hone]
       clear hnext happ hnum
       rcases hstop with ⟨f1,f2⟩ | ⟨hk1,f1,f2,f3⟩
       ·rw [f2] at hlet;cases hlet
       ·have hixk:=fun {k':IntKind} {S:Mem} => indexStr_cast (s:=s) (n:=i+w) (k:=k') (S:=S) hk1
        have hdk:=refDigit (orc:=orc) (s.data[i+w]'hk1)
        rw [f2] at hdk
        have hlk:=refLetter (orc:=orc) (s.data[i+w]'hk1)
        rw [f3] at hlet
        rw [show letB (s.data[i+w]'hk1)=true from hlet] at hlk
        rcases hqz with q1 | ⟨q1,q2⟩
        ·repeat' (first|refine Go.a rfl ?_|refine Go.rg ?_|refine GoR.nil ?_|refine Go.ret ?_|refine Go.b rfl ?_|(refine GoR.o (by rfl) (by rfl) ?_;(conv=>arg 1;simp only [G,Z,Y,Gx,vV,simprocAttr,fb2,fb3,fb5,fb9,fb82,fb88,f1,hix,hixk,e2,q1]);show GoR ..)|(refine GoR.c c90 (by rfl) (by rfl) rfl ?_;(refine (hdk _).ret ?_))|(refine GoR.c c89 (by rfl) (by rfl) rfl ?_;(refine (hlk _).ret ?_))|refine GoR.s (by rfl) rfl rfl ?_|(refine GoR.splitG rfl (fun hc => ?_) (fun hc => ?_)<;>simp only [hc])|refine Go.condB rfl (fun hc => ?_) (fun hc => ?_))
         refine ⟨(by first | exact .inl rfl | exact .inr rfl),fin ?_⟩
         rw [resD_three (fn:=Tryz.f31) rfl]
         simp only [optThen_some,resultD_tmp,resultD_cell,G,Z,Y,Gx,vV,simprocAttr,fb2,fb3,fb5,fb9,fb82,fb88]
         exact ⟨_,E,hE,toks_err,rfl⟩
        ·repeat' (first|refine Go.a rfl ?_|refine Go.rg ?_|refine GoR.nil ?_|refine Go.ret ?_|refine Go.b rfl ?_|(refine GoR.o (by rfl) (by rfl) ?_;(conv=>arg 1;simp only [G,Z,Y,Gx,vV,simprocAttr,fb2,fb3,fb5,fb9,fb82,fb88,f1,hix,hixk,e2,q1,q2]);show GoR ..)|(refine GoR.c c90 (by rfl) (by rfl) rfl ?_;(refine (hdk _).ret ?_))|(refine GoR.c c89 (by rfl) (by rfl) rfl ?_;(refine (hlk _).ret ?_))|refine GoR.s (by rfl) rfl rfl ?_|(refine GoR.splitG rfl (fun hc => ?_) (fun hc => ?_)<;>simp only [hc])|refine Go.condB rfl (fun hc => ?_) (fun hc => ?_))
         refine ⟨(by first | exact .inl rfl | exact .inr rfl),fin ?_⟩
         rw [resD_three (fn:=Tryz.f31) rfl]
         simp only [optThen_some,resultD_tmp,resultD_cell,G,Z,Y,Gx,vV,simprocAttr,fb2,fb3,fb5,fb9,fb82,fb88]
         exact ⟨_,E,hE,toks_err,rfl⟩
      ·rw [if_neg (fun h=>h.elim hlet hn48)] at hone
       have hstop2:decide (((i+w:Nat):Int)<(s.size:Int))=false ∨ ∃ h:i+w<s.size,decide (((i+w:Nat):Int)<(s.size:Int))=true∧dgtB (s.data[i+w]'h)=false∧letB (s.data[i+w]'h)=false:=by
        rcases hstop with ⟨f1,f2⟩ | ⟨hk1,f1,f2,f3⟩
        ·exact .inl f1
        ·refine .inr ⟨hk1,f1,f2,?_⟩
         rw [f3] at hlet
         cases h:letB (s.data[i+w]'hk1) with
         | true=>exact (hlet h).elim
         | false=>rfl
       clear hstop hlet hn48 hzz h48
       by_cases hv:v<9223372036854775808
       ·rw [if_pos hv] at hone hnum
        rw [decide_eq_true hv] at hnum
        obtain ⟨o',S2,hap,hacc2,hg2⟩:=happ
        have hfin:=hnext o' S2 hone hacc2 hg2
        clear hnext
        rcases hstop2 with f1 | ⟨hk1,f1,f2,f3⟩
        all_goals first | have hixk:=fun {k':IntKind} {S:Mem} => indexStr_cast (s:=s) (n:=i+w) (k:=k') (S:=S) hk1 | have hixk:=f1
        all_goals first | have hdk:=refDigit (orc:=orc) (s.data[i+w]'hk1) | have hdk:=f1
        all_goals first | rw [f2] at hdk | skip
        all_goals first | have hlk:=refLetter (orc:=orc) (s.data[i+w]'hk1) | have hlk:=f1
        all_goals first | rw [f3] at hlk | skip
        all_goals
         rcases hqz with q1 | ⟨q1,q2⟩
         all_goals first | have q3:=q2 | have q3:=q1
         all_goals
          repeat' (first|refine Go.a rfl ?_|refine Go.rg ?_|refine GoR.nil ?_|refine Go.ret ?_|refine Go.b rfl ?_|(refine GoR.o (by rfl) (by rfl) ?_;(conv=>arg 1;simp only [G,Z,Y,Gx,vV,simprocAttr,fb2,fb3,fb5,fb9,fb82,fb88,f1,hix,hixk,e2,e3,c1,q1,q3,natD_cast,Option.map_some,optNatD_some,Option.getD_some,ho1,hap,builtin_append]);show GoR ..)|(refine GoR.c c90 (by rfl) (by rfl) rfl ?_;(refine (hdk _).ret ?_))|(refine GoR.c c89 (by rfl) (by rfl) rfl ?_;(refine (hlk _).ret ?_))|(refine GoR.c c91 (by rfl) (by rfl) rfl ?_;(refine (hnum _).ret ?_))|refine GoR.s (by rfl) rfl rfl ?_|(refine GoR.splitG rfl (fun hc => ?_) (fun hc => ?_)<;>simp only [hc])|refine Go.condB rfl (fun hc => ?_) (fun hc => ?_))
          refine Go.lpN ?_
          refine Go.keep [(0,.str s),(5,o'),(6,.int .i64 ((i+w:Nat):Int))] (.cons .refl (.cons .refl (.cons .refl (.nil)))) ?_
          exact hfin
       ·rw [if_neg hv] at hone hnum
        rw [decide_eq_false hv] at hnum
        rw [hlex,herr hone]
        clear hnext happ
        rcases hstop2 with f1 | ⟨hk1,f1,f2,f3⟩
        all_goals first | have hixk:=fun {k':IntKind} {S:Mem} => indexStr_cast (s:=s) (n:=i+w) (k:=k') (S:=S) hk1 | have hixk:=f1
        all_goals first | have hdk:=refDigit (orc:=orc) (s.data[i+w]'hk1) | have hdk:=f1
        all_goals first | rw [f2] at hdk | skip
        all_goals first | have hlk:=refLetter (orc:=orc) (s.data[i+w]'hk1) | have hlk:=f1
        all_goals first | rw [f3] at hlk | skip
        all_goals
         rcases hqz with q1 | ⟨q1,q2⟩
         all_goals first | have q3:=q2 | have q3:=q1
         all_goals
          repeat' (first|refine Go.a rfl ?_|refine Go.rg ?_|refine GoR.nil ?_|refine Go.ret ?_|refine Go.b rfl ?_|(refine GoR.o (by rfl) (by rfl) ?_;(conv=>arg 1;simp only [G,Z,Y,Gx,vV,simprocAttr,fb2,fb3,fb5,fb9,fb82,fb88,f1,hix,hixk,e2,e3,c1,q1,q3,natD_cast,Option.map_some,optNatD_some,Option.getD_some]);show GoR ..)|(refine GoR.c c90 (by rfl) (by rfl) rfl ?_;(refine (hdk _).ret ?_))|(refine GoR.c c89 (by rfl) (by rfl) rfl ?_;(refine (hlk _).ret ?_))|(refine GoR.c c91 (by rfl) (by rfl) rfl ?_;(refine (hnum _).ret ?_))|refine GoR.s (by rfl) rfl rfl ?_|(refine GoR.splitG rfl (fun hc => ?_) (fun hc => ?_)<;>simp only [hc])|refine Go.condB rfl (fun hc => ?_) (fun hc => ?_))
          refine ⟨(by first | exact .inl rfl | exact .inr rfl),fin ?_⟩
          rw [resD_three (fn:=Tryz.f31) rfl]
          simp only [optThen_some,resultD_tmp,resultD_cell,G,Z,Y,Gx,vV,simprocAttr,fb2,fb3,fb5,fb9,fb82,fb88]
          exact ⟨_,E,hE,toks_err,rfl⟩
   | false=>
    rw [hD,if_neg (by decide)] at hone
    rw [hD] at hd
    have hsgn:=refSignAt (orc:=orc) s hs i h1
    have e3:(i≤s.size∧s.size≤s.size)=True:=by simp;omega
    have c3:(i≤s.size)=True:=by simp;omega
    have hempty:decide ((⟨#[]⟩:ByteArray)=⟨#[]⟩)=true:=by simp
    cases hx:sgnS s i (s.data[i]'h1) with
    | error e=>
     rw [hx] at hsgn hone
     have he:e=2:=by
      unfold sgnS at hx
      repeat' split at hx
      all_goals cases hx
      rfl
     subst he
     rw [hlex,herr hone]
     clear hnext happ
     simp only at hsgn
     repeat' (first|refine Go.a rfl ?_|refine Go.rg ?_|refine GoR.nil ?_|refine Go.ret ?_|refine Go.b rfl ?_|(refine GoR.o (by rfl) (by rfl) ?_;(conv=>arg 1;simp only [G,Z,Y,Gx,vV,simprocAttr,fb2,fb3,fb5,fb9,fb82,fb88,d1,d2,hix,c3,Nat.le_refl,and_self,natD_cast,Option.map_some,optNatD_some,Option.getD_some,hempty]);show GoR ..)|(refine GoR.c c89 (by rfl) (by rfl) rfl ?_;(refine (hl _).ret ?_))|(refine GoR.c c90 (by rfl) (by rfl) rfl ?_;(refine (hd _).ret ?_))|(refine GoR.c c92 (by rfl) (by rfl) rfl ?_;(refine (hsgn _).ret ?_))|refine GoR.s (by rfl) rfl rfl ?_|(refine GoR.splitG rfl (fun hc => ?_) (fun hc => ?_)<;>simp only [hc])|refine Go.condB rfl (fun hc => ?_) (fun hc => ?_))
     refine ⟨(by first | exact .inl rfl | exact .inr rfl),fin ?_⟩
     rw [resD_three (fn:=Tryz.f31) rfl]
     simp only [optThen_some,resultD_tmp,resultD_cell,G,Z,Y,Gx,vV,simprocAttr,fb2,fb3,fb5,fb9,fb82,fb88]
     exact ⟨_,E,hE,toks_err,rfl⟩
    | ok x=>
     obtain ⟨kk,n,v⟩:=x
     rw [hx] at hsgn hone
     obtain ⟨_,n1,n2⟩:=hok hone
     obtain ⟨rfl,rfl⟩:kk=3∧v=0:=by
      unfold sgnS at hx
      repeat' split at hx
      all_goals cases hx
      all_goals exact ⟨rfl,rfl⟩
     have hsz:=sub_size n2
     obtain ⟨o',S2,hap,hacc2,hg2⟩:=happ ⟨3,sub s i n,0,i⟩
     have hfin:=hnext 3 n 0 o' S2 hone hacc2 hg2
     clear hnext happ
     have hne:decide (sub s i n=(⟨#[]⟩:ByteArray))=false:=by
      rw [decide_eq_false_iff_not]
      intro h
      rw [h] at hsz
      have:(⟨#[]⟩:ByteArray).size=0:=rfl
      omega
     have hszI:((sub s i n).size:Int)=(n:Int):=by rw [hsz]
     have wn:=bin_add (i:=i) (j:=n) (P:=Tryz.prog) (t:=0) (x:=.tmp 0) (y:=.tmp 0) (by omega)
     simp only at hsgn
     generalize sub s i n=t at *
     simp only [Tok.c] at hap
     repeat' (first|refine Go.a rfl ?_|refine Go.rg ?_|refine GoR.nil ?_|refine Go.ret ?_|refine Go.b rfl ?_|(refine GoR.o (by rfl) (by rfl) ?_;(conv=>arg 1;simp only [G,Z,Y,Gx,vV,simprocAttr,fb2,fb3,fb5,fb9,fb82,fb88,d1,d2,hix,c3,Nat.le_refl,and_self,natD_cast,Option.map_some,optNatD_some,Option.getD_some,hne,hszI,wn,ho1,hap,builtin_append]);show GoR ..)|(refine GoR.c c89 (by rfl) (by rfl) rfl ?_;(refine (hl _).ret ?_))|(refine GoR.c c90 (by rfl) (by rfl) rfl ?_;(refine (hd _).ret ?_))|(refine GoR.c c92 (by rfl) (by rfl) rfl ?_;(refine (hsgn _).ret ?_))|refine GoR.s (by rfl) rfl rfl ?_|(refine GoR.splitG rfl (fun hc => ?_) (fun hc => ?_)<;>simp only [hc])|refine Go.condB rfl (fun hc => ?_) (fun hc => ?_))
     refine Go.lpN ?_
     refine Go.keep [(0,.str s),(5,o'),(6,.int .i64 ((i+n:Nat):Int))] (.cons .refl (.cons .refl (.cons .refl (.nil)))) ?_
     exact hfin
 ·have d1:decide ((i:Int)<(s.size:Int))=false:=by rw [decide_eq_false_iff_not];omega
  clear next
  have hend:lexS (s.data.toList.drop i) i = .ok []:=by rw [List.drop_of_length_le (by simp;omega)];rfl
  rw [hlex,hend]
  obtain ⟨E,hE⟩:=hg.pre [] S rfl (by simp)
  repeat' (first|refine Go.a rfl ?_|refine Go.rg ?_|refine GoR.nil ?_|refine Go.ret ?_|refine Go.b rfl ?_|(refine GoR.o (by rfl) (by rfl) ?_;(conv=>arg 1;simp only [G,Z,Y,Gx,vV,simprocAttr,fb2,fb3,fb5,fb9,fb82,fb88,d1]);show GoR ..)|refine GoR.s (by rfl) rfl rfl ?_|(refine GoR.splitG rfl (fun hc => ?_) (fun hc => ?_)<;>simp only [hc])|refine Go.condB rfl (fun hc => ?_) (fun hc => ?_))
  refine ⟨(by first | exact .inl rfl | exact .inr rfl),fin ?_⟩
  rw [resD_three (fn:=Tryz.f31) rfl]
  simp only [optThen_some,resultD_tmp,resultD_cell,G,Z,Y,Gx,vV,simprocAttr,fb2,fb3,fb5,fb9,fb82,fb88]
  exact ⟨_,E,hE,toks_ok hacc.wf (toks_low _),by simp [toksD,Except.map]⟩
end Go.Proofs.DgT
