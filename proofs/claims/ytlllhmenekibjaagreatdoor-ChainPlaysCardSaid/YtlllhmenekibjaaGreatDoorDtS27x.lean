/- Attributes told apart: a slice that may be written. -/
import Derived.Test.YtlllhmenekibjaaGreatDoorDtS23x
set_option linter.unusedSimpArgs false
set_option linter.unusedVariables false
namespace Go.DM
open Go.AM
section
variable {P:Program} {orc:DOracle} {fl sz:Nat} {ops:Array Oper} {loose:List Nat} {Inv:Mem→Prop} {F:Nat} {k:List AM.K} {ρ:DEnv} {H:Mem} {Q:AM.AExit→DEnv→Mem→Prop}
theorem GoW.oM {i:Nat} {os:List Oper} {dst:Option Tmp} {op:Op} {ty:TypeId} {pos:String} {after:Array Edge} (h0:okOpW loose i sz dst op=true)
  (h:opThenM (opD P ρ op H) H fun v H1=>(i<F→Inv H1)∧GoW P orc fl sz ops loose Inv F (i+1) os k (putD ρ dst v) H1 Q):GoW P orc fl sz ops loose Inv F i (⟨dst,op,ty,pos,after,none⟩::os) k ρ H Q:=fun hi=>by
 obtain ⟨hd,hc,hl⟩:=okOpW_ok h0
 obtain ⟨h1,h2⟩:=get_of_drop hi
 obtain ⟨v,H1,hop,h⟩:=opThenM_elim h
 obtain ⟨l,ρ',H',t,q⟩:=h.2 h2
 have e:dstOf ops i=dst:=by simp [dstOf,h1]
 rw [← e] at t
 exact ⟨_,ρ',H',.cons ⟨_,h1,hd,.inr ⟨rfl,hc,.inl hop⟩⟩ (fun hm=>by simp [hm] at hl) h.1 t,q⟩
end
end Go.DM
namespace Go.Proofs.DtT
open Go Go.DM Go.Proofs.DtF
set_option maxRecDepth 100000
variable {orc:DOracle}
theorem ap_msl {P:Program} {S:Mem} {t e n bytes:Nat} (h:ElemT P t e n bytes) {own:Option Nat} {o len m:Nat} {new:List D} :
  appendD P #[t,t] (.msl o n len) (.sl own n m new) S=if m=0 then some (.msl o n len,S) else if fitsD bytes (len+m) new then (match objAt S o with | some cells=>if cells.length=len*n then some (.msl S.length n (len+m),S.set o .dead++[.obj (cells++new)]) else none | none=>none) else none:=by
 obtain ⟨hu,i,z,hi,rfl,rfl,hz,hs⟩:=h
 simp [appendD,hu,hi,hz,hs,elemsD,srcD,fitsD]
 rfl
theorem cut_msl {P:Program} {t e n:Nat} (hu:P.underlying t=some (.slice e)) (hs:AM.sizeA P e=some n) {o len:Nat} {hi mx:D} (h1:natD hi=some len) (h2:natD mx=some len) (h0:len≠0):sliceD P t (.msl o n len) none (some hi) (some mx)=some (.msl o n len):=by
 simp [sliceD,optNatD,h1,h2,hu,hs,h0]
theorem len_msl {P:Program} {S:Mem} {at_:Array TypeId} {t e:Nat} (h:at_[0]?=some t) (hu:P.underlying t=some (.slice e)) {o n len:Nat} : builtinD P .len at_ [.msl o n len] S=some (.int .i64 len,S):=by simp [builtinD,h,hu]
theorem attsC_len {l:List Att} : (attsC l).length=l.length*5:=by
 unfold attsC
 induction l with
 | nil=>rfl
 | cons a l ih=>rw [List.flatMap_cons,List.length_append,ih,Att.len,List.length_cons];omega
theorem WzL_low {S1:Mem} {F:List Nat} {ι:Nat→Nat} {n:Nat} {l:List D} (h:LowL 0 l):WzL S1 F ι n l l:=
 ⟨rfl,fun j h1 _=>Wz.of_low (m:=0) (fun i hi=>by omega) (Nat.zero_le _) (h.get j h1)⟩
def NewAtts (l:List Att) (S:Mem) (d:D) (S':Mem):Prop:=(l=[]∧d = .nils∧S'=S)∨(l≠[]∧d = .msl S.length 5 l.length∧S'=S++[.obj (attsC l)])
theorem NewAtts.of {P:Program} {f:FuncId} {args:List D} {S:Mem} {l:List Att}
  (h:CallD P orc f args S fun d S1 => ∃ E,S1=S++E∧((l=[]∧d = .nils)∨(l≠[] ∧ ∃ o,S.length≤o∧d = .msl o 5 l.length∧objAt S1 o=some (attsC l)))):CallD P orc f args S (NewAtts l S):=by
 obtain ⟨d,S1,hb,E,rfl,hs⟩:=h
 rcases hs with ⟨rfl,rfl⟩ | ⟨h0,o,ho,rfl,hob⟩
 ·have:CallD P orc f args S fun d S'=>S'=S∧d = .nils:=CallD.drop ⟨.nils,_,hb,.nils,E,rfl,.of_low .nils,rfl⟩
  exact this.mono fun d S' ⟨h1,h2⟩=>.inl ⟨rfl,h2,h1⟩
 ·refine CallD.keep1 ⟨_,_,hb,o,E,attsC l,attsC l,.msl S.length 5 l.length,rfl,ho,hob,fun ι h1 h2=>⟨WzL_low (atts_low l),?_⟩,.inr ⟨h0,rfl,rfl⟩⟩
  rw [← h2]
  exact Wz.msl (by omega)
theorem clipNilA (S:Mem):CallD Tryz.prog orc 115 [.nils] S fun d S'=>S'=S∧d = .nils:=by
 refine CallD.e Tryz.func115 rfl Tryz.ntmps115 (by rfl) ?_
 repeat' (first|refine Go.a rfl ?_|refine Go.rg ?_|refine GoR.nil ?_|refine Go.ret ?_|refine Go.b rfl ?_|(refine GoR.o (by rfl) (by rfl) ?_;(conv=>arg 1;simp only [G,Z,Y,Gx,un_neg,cutD,decide_true,decide_false,simprocAttr,fb33]);show GoR ..)|refine Go.condB rfl (fun hc => ?_) (fun hc => ?_))
 refine ⟨(by first | exact .inl rfl | exact .inr rfl),fin ?_⟩
 rw [resD_tmp (fn:=Tryz.f115) rfl]
 simp only [optThen_some,resultD_tmp,resultD_cell,G,Z,Y,Gx,un_neg,cutD,decide_true,decide_false,simprocAttr,fb33]
 exact ⟨.nils,[],by simp,.of_low .nils,rfl⟩
theorem clipA {o n:Nat} {S:Mem} (h0:n≠0) (ho:o<S.length):CallD Tryz.prog orc 115 [.msl o 5 n] S fun d S'=>S'=S∧d = .msl o 5 n:=by
 have e : ∀ k,DM.sliceD Tryz.prog 33 (.msl o 5 n) none (some (.int k (n:Int))) (some (.int k (n:Int)))=some (.msl o 5 n):=fun k=>cut_msl Tryz.underlying33 dsz141 natD_cast natD_cast h0
 refine CallD.e Tryz.func115 rfl Tryz.ntmps115 (by rfl) ?_
 repeat' (first|refine Go.a rfl ?_|refine Go.rg ?_|refine GoR.nil ?_|refine Go.ret ?_|refine Go.b rfl ?_|(refine GoR.o (by rfl) (by rfl) ?_;(conv=>arg 1;simp only [G,Z,Y,Gx,un_neg,cutD,decide_true,decide_false,simprocAttr,fb33,e,Option.map_some,Option.map_none,len_msl (P:=Tryz.prog) (at_ := #[33]) (t:=33) rfl Tryz.underlying33]);show GoR ..)|refine Go.condB rfl (fun hc => ?_) (fun hc => ?_))
 refine ⟨(by first | exact .inl rfl | exact .inr rfl),fin ?_⟩
 rw [resD_tmp (fn:=Tryz.f115) rfl]
 simp only [optThen_some,resultD_tmp,resultD_cell,G,Z,Y,Gx,un_neg,cutD,decide_true,decide_false,simprocAttr,fb33]
 exact ⟨_,[],by simp,.of_low (.msl _ _ _ ho),rfl⟩
theorem clone (l:List Att) (hl:l.length<100000) (hv : ∀ a∈l,a.v.l.length<1000000) (S:Mem):CallD Tryz.prog orc 84 [.sl none 5 l.length (attsC l)] S (NewAtts l S):=by
 refine NewAtts.of ?_
 refine CallD.eb Tryz.func84 rfl Tryz.ntmps84 (by rfl) ?_
 repeat' (first|refine Go.a rfl ?_|refine Go.rg ?_|refine GoR.nil ?_|refine Go.ret ?_|refine Go.b rfl ?_|refine Go.rgS dmx (by decide) ?_|refine Go.rgD [2] (fun _=>True) dmx (by decide) 7 (by decide) (by trivial) ?_|refine GoW.nil rfl ?_|((first|refine GoR.o (by rfl) (by rfl) ?_|refine GoW.o (by rfl) (by rfl) ?_|refine GoW.rd (by rfl) (by rfl) ?_);(conv=>arg 1;simp only [G,Z,Y,Gx,un_neg,cutD,decide_true,decide_false,simprocAttr,fb2,fb3,fb9,fb33,fb116,fb139,fb141]);first|show GoR ..|(show _∧GoW ..;refine ⟨by exact fun _=>trivial,?_⟩)|(show _∧_∧_∧GoW ..;refine ⟨rfl,by trivial,(fun H _=>by simp only [G,Z,Y,Gx,un_neg,cutD,decide_true,decide_false,simprocAttr,fb2,fb3,fb9,fb33,fb116,fb139,fb141]),?_⟩))|refine Go.condB rfl (fun hc => ?_) (fun hc => ?_))
 refine Go.keep [(3,.nils),(6,.sl none 5 l.length (attsC l)),(7,.int .i64 (l.length:Int)),(8,.int .i64 ((0:Nat):Int))] (.cons .refl (.cons .refl (.cons .refl (.cons .refl (.nil))))) ?_
 refine Go.while (α:=Nat×D×Mem) (fun x=>l.length - x.1) (fun x=>[(3,x.2.1),(6,.sl none 5 l.length (attsC l)),(7,.int .i64 (l.length:Int)),(8,.int .i64 (x.1:Int))]) (fun x=>x.2.2)
  (fun x=>x.1≤l.length∧(∃ E,x.2.2=S++E)∧((x.1=0∧x.2.1 = .nils)∨(0<x.1 ∧ ∃ o,S.length≤o∧x.2.1 = .msl o 5 x.1∧objAt x.2.2 o=some (attsC (l.take x.1))))) ?_ (0,.nils,S) ⟨Nat.zero_le _,⟨[],by simp⟩,.inl ⟨rfl,rfl⟩⟩
 rintro ⟨i,d,S1⟩ ⟨hi,⟨E,hE⟩,hs⟩ next
 dsimp only at hi hE hs next
 have hSl:S.length≤S1.length:=by rw [hE];simp
 by_cases h1:i<l.length
 ·have hap0:=fun S=>apart (orc:=orc) l[i].v (hv _ (List.getElem_mem _)) S
  have at1:=attsAt h1
  simp only [Val.c,Att.c] at at1 hap0
  have dl:decide ((i:Int)<(l.length:Int))=true:=by simp;omega
  have e5:attsC (l.take (i+1))=attsC (l.take i)++l[i].c:=flat_take_succ h1
  rcases hs with ⟨h0,rfl⟩ | ⟨h0,o,ho,rfl,hob⟩
  ·have hap:appendD Tryz.prog #[33,33] .nils (.sl (some (S1.length+1)) 5 1 l[i].c) (S1++[Ob.obj l[i].c,Ob.own])=some (.sl (some (S1.length+2)) 5 1 l[i].c,S1++[.obj l[i].c,.own,.own]):=by
    rw [ap_nils del33,if_neg (by omega),if_pos ⟨by omega,by omega,by omega,rfl⟩]
    simp
   simp only [Att.c] at hap
   repeat' (first|refine Go.a rfl ?_|refine Go.rg ?_|refine GoR.nil ?_|refine Go.ret ?_|refine Go.b rfl ?_|refine Go.rgS dmx (by decide) ?_|refine Go.rgD [2] (fun H=>objAt H S1.length=some [.str l[i].n,.int .i64 l[i].v.k,.int .i64 l[i].v.i,.str l[i].v.s,.sl none 1 l[i].v.l.length (intsD l[i].v.l)]) dmx (by decide) 7 (by decide) (by (simp [objAt,List.getElem?_append_right])) ?_|(refine GoW.oM (i:=8) (by rfl) ?_;(conv=>arg 1;simp only [G,Z,Y,Gx,un_neg,cutD,decide_true,decide_false,simprocAttr,fb2,fb3,fb9,fb33,fb116,fb139,fb141,dl,at1,wrap_succ (show i<4611686018427387904 by omega),hap,builtin_append]);refine ⟨by first|rfl|simp,by first|rfl|simp,?_⟩;refine ⟨by (first|exact fun h=>absurd h (by decide)|(intro _;(simp [objAt,List.getElem?_append_right]))),?_⟩;show GoW ..)|refine GoW.nil rfl ?_|((first|refine GoR.o (by rfl) (by rfl) ?_|refine GoW.o (by rfl) (by rfl) ?_|refine GoW.rd (by rfl) (by rfl) ?_);(conv=>arg 1;simp only [G,Z,Y,Gx,un_neg,cutD,decide_true,decide_false,simprocAttr,fb2,fb3,fb9,fb33,fb116,fb139,fb141,dl,at1,wrap_succ (show i<4611686018427387904 by omega),hap,builtin_append]);first|show GoR ..|(show _∧GoW ..;refine ⟨by (first|exact fun h=>absurd h (by decide)|(intro _;(simp [objAt,List.getElem?_append_right]))),?_⟩)|(show _∧_∧_∧GoW ..;refine ⟨rfl,by (simp [objAt,List.getElem?_append_right]),(fun H hI=>by (try dsimp only at hI);simp only [G,Z,Y,Gx,un_neg,cutD,decide_true,decide_false,simprocAttr,fb2,fb3,fb9,fb33,fb116,fb139,fb141,dl,at1,wrap_succ (show i<4611686018427387904 by omega),hap,builtin_append,hI]),?_⟩))|(refine GoW.c c114 (by rfl) (by rfl) rfl ?_;(refine (hap0 _).ret ?_);refine ⟨by (first|exact fun h=>absurd h (by decide)|(intro _;(simp [objAt,List.getElem?_append_right]))),?_⟩)|(refine GoR.c c114 (by rfl) (by rfl) rfl ?_;(refine (hap0 _).ret ?_))|refine Go.condB rfl (fun hc => ?_) (fun hc => ?_))
   refine Go.lpN ?_
   subst h0
   refine Go.keep [(3,.msl (S1.length+2) 5 1),(6,.sl none 5 l.length (attsC l)),(7,.int .i64 (l.length:Int)),(8,.int .i64 ((0+1:Nat):Int))] (.cons .refl (.cons .refl (.cons .refl (.cons .refl (.nil))))) ?_
   refine next (0+1,.msl (S1.length+2) 5 1,_) (by dsimp only;omega) ⟨h1,⟨_,by dsimp only;rw [hE,List.append_assoc]⟩,.inr ⟨Nat.one_pos,S1.length+2,by omega,rfl,?_⟩⟩
   dsimp only
   rw [e5]
   simp [objAt,List.getElem?_append_right,attsC,Att.c]
  ·have hol:o<S1.length:=(List.getElem?_eq_some_iff.1 (objAt_some hob)).1
   have hob2:objAt (S1++[Ob.obj l[i].c,Ob.own]) o=some (attsC (l.take i)):=objAt_old hob
   have hlen:(attsC (l.take i)).length=i*5:=by rw [attsC_len,List.length_take];omega
   have hap:appendD Tryz.prog #[33,33] (.msl o 5 i) (.sl (some (S1.length+1)) 5 1 l[i].c) (S1++[Ob.obj l[i].c,Ob.own])=some (.msl (S1.length+2) 5 (i+1),(S1++[Ob.obj l[i].c,Ob.own]).set o Ob.dead++[Ob.obj (attsC (l.take i)++l[i].c)]):=by
    rw [ap_msl del33,if_neg (by omega),if_pos ⟨by omega,by omega,by omega,rfl⟩,hob2]
    simp only [hlen,if_true]
    simp
   simp only [Att.c] at hap
   have hdead:(S1++[Ob.obj l[i].c,Ob.own]).set o Ob.dead=S++(E++[Ob.obj l[i].c,Ob.own]).set (o - S.length) Ob.dead:=by
    rw [hE,List.append_assoc,List.set_append_right _ _ ho]
   repeat' (first|refine Go.a rfl ?_|refine Go.rg ?_|refine GoR.nil ?_|refine Go.ret ?_|refine Go.b rfl ?_|refine Go.rgS dmx (by decide) ?_|refine Go.rgD [2] (fun H=>objAt H S1.length=some [.str l[i].n,.int .i64 l[i].v.k,.int .i64 l[i].v.i,.str l[i].v.s,.sl none 1 l[i].v.l.length (intsD l[i].v.l)]) dmx (by decide) 7 (by decide) (by (simp [objAt,List.getElem?_append_right])) ?_|refine GoW.nil rfl ?_|((first|refine GoR.o (by rfl) (by rfl) ?_|refine GoW.o (by rfl) (by rfl) ?_|refine GoW.rd (by rfl) (by rfl) ?_);(conv=>arg 1;simp only [G,Z,Y,Gx,un_neg,cutD,decide_true,decide_false,simprocAttr,fb2,fb3,fb9,fb33,fb116,fb139,fb141,dl,at1,wrap_succ (show i<4611686018427387904 by omega),hap,builtin_append]);first|show GoR ..|(show _∧GoW ..;refine ⟨by (first|exact fun h=>absurd h (by decide)|(intro _;(simp [objAt,List.getElem?_append_right]))),?_⟩)|(show _∧_∧_∧GoW ..;refine ⟨rfl,by (simp [objAt,List.getElem?_append_right]),(fun H hI=>by (try dsimp only at hI);simp only [G,Z,Y,Gx,un_neg,cutD,decide_true,decide_false,simprocAttr,fb2,fb3,fb9,fb33,fb116,fb139,fb141,dl,at1,wrap_succ (show i<4611686018427387904 by omega),hap,builtin_append,hI]),?_⟩))|(refine GoW.c c114 (by rfl) (by rfl) rfl ?_;(refine (hap0 _).ret ?_);refine ⟨by (first|exact fun h=>absurd h (by decide)|(intro _;(simp [objAt,List.getElem?_append_right]))),?_⟩)|(refine GoR.c c114 (by rfl) (by rfl) rfl ?_;(refine (hap0 _).ret ?_))|refine Go.condB rfl (fun hc => ?_) (fun hc => ?_))
   refine Go.lpN ?_
   refine Go.keep [(3,.msl (S1.length+2) 5 (i+1)),(6,.sl none 5 l.length (attsC l)),(7,.int .i64 (l.length:Int)),(8,.int .i64 ((i+1:Nat):Int))] (.cons .refl (.cons .refl (.cons .refl (.cons .refl (.nil))))) ?_
   refine next (i+1,.msl (S1.length+2) 5 (i+1),_) (by dsimp only;omega) ⟨h1,⟨(E++[Ob.obj l[i].c,Ob.own]).set (o - S.length) Ob.dead++[Ob.obj (attsC (l.take i)++l[i].c)],?_⟩,.inr ⟨Nat.succ_pos _,S1.length+2,by omega,rfl,?_⟩⟩
   ·dsimp only
    rw [← List.append_assoc,← hdead]
    rfl
   ·dsimp only
    rw [e5]
    simp [objAt,List.getElem?_append_right,Att.c]
 ·clear next
  have e:i=l.length:=by omega
  subst e
  have dl:decide ((l.length:Int)<(l.length:Int))=false:=by simp
  rw [List.take_length] at hs
  rcases hs with ⟨h0,rfl⟩ | ⟨h0,o,ho,rfl,hob⟩
  ·repeat' (first|refine Go.a rfl ?_|refine Go.rg ?_|refine GoR.nil ?_|refine Go.ret ?_|refine Go.b rfl ?_|refine Go.rgS dmx (by decide) ?_|refine Go.rgD [2] (fun _=>True) dmx (by decide) 7 (by decide) (by trivial) ?_|refine GoW.nil rfl ?_|((first|refine GoR.o (by rfl) (by rfl) ?_|refine GoW.o (by rfl) (by rfl) ?_|refine GoW.rd (by rfl) (by rfl) ?_);(conv=>arg 1;simp only [G,Z,Y,Gx,un_neg,cutD,decide_true,decide_false,simprocAttr,fb2,fb3,fb9,fb33,fb116,fb139,fb141,dl]);first|show GoR ..|(show _∧GoW ..;refine ⟨by exact fun _=>trivial,?_⟩)|(show _∧_∧_∧GoW ..;refine ⟨rfl,by trivial,(fun H _=>by simp only [G,Z,Y,Gx,un_neg,cutD,decide_true,decide_false,simprocAttr,fb2,fb3,fb9,fb33,fb116,fb139,fb141,dl]),?_⟩))|(refine GoW.c c115 (by rfl) (by rfl) rfl ?_;(refine (clipNilA _).ret ?_);refine ⟨by exact fun _=>trivial,?_⟩)|(refine GoR.c c115 (by rfl) (by rfl) rfl ?_;(refine (clipNilA _).ret ?_))|refine Go.condB rfl (fun hc => ?_) (fun hc => ?_))
   refine ⟨(by first | exact .inl rfl | exact .inr rfl),fin ?_⟩
   rw [resD_tmp (fn:=Tryz.f84) rfl]
   simp only [optThen_some,resultD_tmp,resultD_cell,G,Z,Y,Gx,un_neg,cutD,decide_true,decide_false,simprocAttr,fb2,fb3,fb9,fb33,fb116,fb139,fb141]
   exact ⟨E,hE,.inl (by simp [List.eq_nil_of_length_eq_zero h0])⟩
  ·have hol:o<S1.length:=(List.getElem?_eq_some_iff.1 (objAt_some hob)).1
   repeat' (first|refine Go.a rfl ?_|refine Go.rg ?_|refine GoR.nil ?_|refine Go.ret ?_|refine Go.b rfl ?_|refine Go.rgS dmx (by decide) ?_|refine Go.rgD [2] (fun _=>True) dmx (by decide) 7 (by decide) (by trivial) ?_|refine GoW.nil rfl ?_|((first|refine GoR.o (by rfl) (by rfl) ?_|refine GoW.o (by rfl) (by rfl) ?_|refine GoW.rd (by rfl) (by rfl) ?_);(conv=>arg 1;simp only [G,Z,Y,Gx,un_neg,cutD,decide_true,decide_false,simprocAttr,fb2,fb3,fb9,fb33,fb116,fb139,fb141,dl]);first|show GoR ..|(show _∧GoW ..;refine ⟨by exact fun _=>trivial,?_⟩)|(show _∧_∧_∧GoW ..;refine ⟨rfl,by trivial,(fun H _=>by simp only [G,Z,Y,Gx,un_neg,cutD,decide_true,decide_false,simprocAttr,fb2,fb3,fb9,fb33,fb116,fb139,fb141,dl]),?_⟩))|(refine GoW.c c115 (by rfl) (by rfl) rfl ?_;(refine (clipA (by omega) hol).ret ?_);refine ⟨by exact fun _=>trivial,?_⟩)|(refine GoR.c c115 (by rfl) (by rfl) rfl ?_;(refine (clipA (by omega) hol).ret ?_))|refine Go.condB rfl (fun hc => ?_) (fun hc => ?_))
   refine ⟨(by first | exact .inl rfl | exact .inr rfl),fin ?_⟩
   rw [resD_tmp (fn:=Tryz.f84) rfl]
   simp only [optThen_some,resultD_tmp,resultD_cell,G,Z,Y,Gx,un_neg,cutD,decide_true,decide_false,simprocAttr,fb2,fb3,fb9,fb33,fb116,fb139,fb141]
   exact ⟨E,hE,.inr ⟨by rintro rfl;exact absurd h0 (by simp),o,ho,rfl,hob⟩⟩
end Go.Proofs.DtT
namespace Go.Proofs.DtT
open Go Go.DM Go.Proofs.DtF
set_option maxRecDepth 100000
variable {orc:DOracle}
theorem ix_msl {P:Program} {t e n:Nat} (hu:P.underlying t=some (.slice e)) (hs:AM.sizeA P e=some n) {o:Nat} {len:Nat} {k:IntKind} {i:Int} :
  indexAtD P t (.msl o n len) (.int k i)=if 0≤i∧i<len then some (.ptr o (i.toNat*n)) else none:=by
 simp only [indexAtD,hu,hs,and_true]
end Go.Proofs.DtT
namespace Go.Proofs.DtT
open Go Go.DM Go.Proofs.DtF
set_option maxRecDepth 100000
variable {orc:DOracle}
def attsD (l:List Att):D:=.sl none 5 l.length (attsC l)
theorem wr_mid {α:Type} : ∀ (xs pre cs:List α),xs.length≤cs.length→wr (pre++cs) pre.length xs=pre++(xs++cs.drop xs.length)
 | [],pre,cs,_=>by simp [wr]
 | x::xs,pre,[],h=>by simp at h
 | x::xs,pre,c::cs,h=>by
  rw [wr]
  have e:(pre++c::cs).set pre.length x=(pre++[x])++cs:=by simp
  have:=wr_mid xs (pre++[x]) cs (by simpa using h)
  rw [e,show pre.length+1=(pre++[x]).length by simp,this]
  simp
theorem attsD_low {n:Nat} (l:List Att):DLow n (attsD l):=.sl none 5 _ _ (fun id h=>by cases h) (atts_low l).get
end Go.Proofs.DtT
namespace Go.Proofs.DtT
open Go Go.DM Go.Proofs.DtF
set_option maxRecDepth 100000
variable {orc:DOracle}
def sameA (a b:Att):Bool:=decide (a.n=b.n)&&(cmpV a.v b.v==0)
def sameL:List Att→List Att→Bool
 | [],[]=>true
 | a::l,b::m=>sameA a b&&sameL l m
 | _,_=>false
theorem sameL_len : ∀ {l m:List Att},¬ l.length=m.length→sameL l m=false
 | [],[],h=>absurd rfl h
 | [],_::_,_=>rfl
 | _::_,[],_=>rfl
 | a::l,b::m,h=>by
  have:=sameL_len (l:=l) (m:=m) (by simpa using h)
  rw [sameL,this,Bool.and_false]
theorem sameL_step {l m:List Att} {i:Nat} (h1:i<l.length) (h2:i<m.length):sameL (l.drop i) (m.drop i)=(sameA l[i] m[i]&&sameL (l.drop (i+1)) (m.drop (i+1))):=by
 rw [List.drop_eq_getElem_cons h1,List.drop_eq_getElem_cons h2,sameL]
theorem sameL_end {l m:List Att} (h:l.length=m.length):sameL (l.drop l.length) (m.drop l.length)=true:=by
 rw [List.drop_of_length_le (Nat.le_refl _),List.drop_of_length_le (by omega)]
 rfl
theorem sameA1 (a b:Att) (hl:a.v.l.length<1000000) (S:Mem):CallD Tryz.prog orc 105 [.agg a.c,.agg b.c] S fun d S'=>S'=S∧d = .bool (sameA a b):=by
 have h:=fun S=>valSame (orc:=orc) a.v b.v hl S
 obtain ⟨n,v⟩:=a
 obtain ⟨n',v'⟩:=b
 simp only [Val.c] at h
 simp only [Att.c,sameA]
 refine CallD.e Tryz.func105 rfl Tryz.ntmps105 (by rfl) ?_
 by_cases he:n=n'
 ·repeat' (first|refine Go.a rfl ?_|refine Go.rg ?_|refine GoR.nil ?_|refine Go.ret ?_|refine Go.b rfl ?_|(refine GoR.o (by rfl) (by rfl) ?_;(conv=>arg 1;simp only [G,Z,Y,Gx,un_neg,cutD,decide_true,decide_false,simprocAttr,fb2,fb3,fb9,fb116,fb139,fb141,decide_eq_true he]);show GoR ..)|(refine GoR.c c106 (by rfl) (by rfl) rfl ?_;(refine (h _).ret ?_))|refine GoR.s (by rfl) rfl rfl ?_|(refine GoR.splitG rfl (fun hc => ?_) (fun hc => ?_)<;>simp only [hc])|refine Go.condB rfl (fun hc => ?_) (fun hc => ?_))
  refine ⟨(by first | exact .inl rfl | exact .inr rfl),fin ?_⟩
  rw [resD_tmp (fn:=Tryz.f105) rfl]
  simp only [optThen_some,resultD_tmp,resultD_cell,G,Z,Y,Gx,un_neg,cutD,decide_true,decide_false,simprocAttr,fb2,fb3,fb9,fb116,fb139,fb141]
  exact ⟨_,_,rfl,.bool,by simp [he]⟩
 ·repeat' (first|refine Go.a rfl ?_|refine Go.rg ?_|refine GoR.nil ?_|refine Go.ret ?_|refine Go.b rfl ?_|(refine GoR.o (by rfl) (by rfl) ?_;(conv=>arg 1;simp only [G,Z,Y,Gx,un_neg,cutD,decide_true,decide_false,simprocAttr,fb2,fb3,fb9,fb116,fb139,fb141,decide_eq_false he]);show GoR ..)|refine GoR.s (by rfl) rfl rfl ?_|(refine GoR.splitG rfl (fun hc => ?_) (fun hc => ?_)<;>simp only [hc])|refine Go.condB rfl (fun hc => ?_) (fun hc => ?_))
  refine ⟨(by first | exact .inl rfl | exact .inr rfl),fin ?_⟩
  rw [resD_tmp (fn:=Tryz.f105) rfl]
  simp only [optThen_some,resultD_tmp,resultD_cell,G,Z,Y,Gx,un_neg,cutD,decide_true,decide_false,simprocAttr,fb2,fb3,fb9,fb116,fb139,fb141]
  exact ⟨_,_,rfl,.bool,by simp [he]⟩
theorem equalFunc (l m:List Att) (hl:l.length<1000000) (hv : ∀ a∈l,a.v.l.length<1000000) (S:Mem) :
  CallD Tryz.prog orc 104 [.sl none 5 l.length (attsC l),.sl none 5 m.length (attsC m),.fn (.func 105) [] []] S fun d S'=>S'=S∧d = .bool (sameL l m):=by
 refine CallD.e Tryz.func104 rfl Tryz.ntmps104 (by rfl) ?_
 by_cases hlm:l.length=m.length
 rotate_left
 ·repeat' (first|refine Go.a rfl ?_|refine Go.rg ?_|refine GoR.nil ?_|refine Go.ret ?_|refine Go.b rfl ?_|(refine GoR.o (by rfl) (by rfl) ?_;(conv=>arg 1;simp only [G,Z,Y,Gx,un_neg,cutD,decide_true,decide_false,simprocAttr,fb3,fb9,fb33,fb139,fb141,show ((l.length:Int) != (m.length:Int))=true by simp;omega]);show GoR ..)|refine Go.condB rfl (fun hc => ?_) (fun hc => ?_))
  refine ⟨(by first | exact .inl rfl | exact .inr rfl),fin ?_⟩
  rw [resD_tmp (fn:=Tryz.f104) rfl]
  simp only [optThen_some,resultD_tmp,resultD_cell,G,Z,Y,Gx,un_neg,cutD,decide_true,decide_false,simprocAttr,fb3,fb9,fb33,fb139,fb141]
  exact ⟨_,[],by simp,.bool,by rw [sameL_len hlm]⟩
 repeat' (first|refine Go.a rfl ?_|refine Go.rg ?_|refine GoR.nil ?_|refine Go.ret ?_|refine Go.b rfl ?_|(refine GoR.o (by rfl) (by rfl) ?_;(conv=>arg 1;simp only [G,Z,Y,Gx,un_neg,cutD,decide_true,decide_false,simprocAttr,fb3,fb9,fb33,fb139,fb141,show ((l.length:Int) != (m.length:Int))=false by simp;omega]);show GoR ..)|refine Go.condB rfl (fun hc => ?_) (fun hc => ?_))
 refine Go.keep [(1,.sl none 5 m.length (attsC m)),(2,.fn (.func 105) [] []),(15,.sl none 5 l.length (attsC l)),(16,.int .i64 (l.length:Int)),(17,.int .i64 ((0:Nat):Int))] (.cons .refl (.cons .refl (.cons .refl (.cons .refl (.cons .refl (.nil)))))) ?_
 refine Go.while (α:=Nat×Mem) (fun x=>l.length - x.1) (fun x=>[(1,.sl none 5 m.length (attsC m)),(2,.fn (.func 105) [] []),(15,.sl none 5 l.length (attsC l)),(16,.int .i64 (l.length:Int)),(17,.int .i64 (x.1:Int))]) (fun x=>x.2)
  (fun x=>x.1≤l.length∧sameL l m=sameL (l.drop x.1) (m.drop x.1)∧Grown S.length S x.2) ?_ (0,S) ⟨Nat.zero_le _,rfl,.refl⟩
 rintro ⟨i,S1⟩ ⟨hi,hk,hg⟩ next
 dsimp only at hi hk hg next
 by_cases h1:i<l.length
 ·have h2:i<m.length:=by omega
  have hs:=fun S=>sameA1 (orc:=orc) l[i] m[i] (hv _ (List.getElem_mem _)) S
  have a1:=attsAt h1
  have a2:=attsAt h2
  have hgE:Grown S.length S (S1++[Ob.obj l[i].c,Ob.obj m[i].c]):=hg.trans Grown.app
  obtain ⟨Eg,hEg⟩:=hgE.pre [] S rfl (by simp)
  simp only [Val.c,Att.c] at a1 a2 hs hEg
  rw [sameL_step h1 h2] at hk
  cases hq:sameA l[i] m[i] with
  | true=>
   rw [hq,Bool.true_and] at hk
   repeat' (first|refine Go.a rfl ?_|refine Go.rg ?_|refine GoR.nil ?_|refine Go.ret ?_|refine Go.b rfl ?_|(refine GoR.o (by rfl) (by rfl) ?_;(conv=>arg 1;simp only [G,Z,Y,Gx,un_neg,cutD,decide_true,decide_false,simprocAttr,fb3,fb9,fb33,fb139,fb141,show decide ((i:Int)<(l.length:Int))=true by simp;omega,a1,a2,hq,wrap_succ (show i<4611686018427387904 by omega)]);show GoR ..)|(refine GoR.c c105 (by rfl) (by rfl) rfl ?_;(refine (hs _).ret ?_))|refine Go.condB rfl (fun hc => ?_) (fun hc => ?_))
   refine Go.lpN ?_
   refine Go.keep [(1,.sl none 5 m.length (attsC m)),(2,.fn (.func 105) [] []),(15,.sl none 5 l.length (attsC l)),(16,.int .i64 (l.length:Int)),(17,.int .i64 ((i+1:Nat):Int))] (.cons .refl (.cons .refl (.cons .refl (.cons .refl (.cons .refl (.nil)))))) ?_
   exact next (i+1,_) (by dsimp only;omega) ⟨h1,hk,hg.trans Grown.app⟩
  | false=>
   clear next
   rw [hq,Bool.false_and] at hk
   repeat' (first|refine Go.a rfl ?_|refine Go.rg ?_|refine GoR.nil ?_|refine Go.ret ?_|refine Go.b rfl ?_|(refine GoR.o (by rfl) (by rfl) ?_;(conv=>arg 1;simp only [G,Z,Y,Gx,un_neg,cutD,decide_true,decide_false,simprocAttr,fb3,fb9,fb33,fb139,fb141,show decide ((i:Int)<(l.length:Int))=true by simp;omega,a1,a2,hq]);show GoR ..)|(refine GoR.c c105 (by rfl) (by rfl) rfl ?_;(refine (hs _).ret ?_))|refine Go.condB rfl (fun hc => ?_) (fun hc => ?_))
   refine ⟨(by first | exact .inl rfl | exact .inr rfl),fin ?_⟩
   rw [resD_tmp (fn:=Tryz.f104) rfl]
   simp only [optThen_some,resultD_tmp,resultD_cell,G,Z,Y,Gx,un_neg,cutD,decide_true,decide_false,simprocAttr,fb3,fb9,fb33,fb139,fb141]
   exact ⟨_,Eg,hEg,.bool,by rw [hk]⟩
 ·clear next
  obtain rfl:i=l.length:=by omega
  obtain ⟨E,hE⟩:=hg.pre [] S rfl (by simp)
  repeat' (first|refine Go.a rfl ?_|refine Go.rg ?_|refine GoR.nil ?_|refine Go.ret ?_|refine Go.b rfl ?_|(refine GoR.o (by rfl) (by rfl) ?_;(conv=>arg 1;simp only [G,Z,Y,Gx,un_neg,cutD,decide_true,decide_false,simprocAttr,fb3,fb9,fb33,fb139,fb141,show decide ((l.length:Int)<(l.length:Int))=false by simp]);show GoR ..)|refine Go.condB rfl (fun hc => ?_) (fun hc => ?_))
  refine ⟨(by first | exact .inl rfl | exact .inr rfl),fin ?_⟩
  rw [resD_tmp (fn:=Tryz.f104) rfl]
  simp only [optThen_some,resultD_tmp,resultD_cell,G,Z,Y,Gx,un_neg,cutD,decide_true,decide_false,simprocAttr,fb3,fb9,fb33,fb139,fb141]
  exact ⟨_,E,hE,.bool,by rw [hk,sameL_end hlm]⟩
theorem refSameAttrs (l m:List Att) (hl:l.length<1000000) (hv : ∀ a∈l,a.v.l.length<1000000) (hw : ∀ a∈m,a.v.l.length<1000000) (S:Mem) :
  CallD Tryz.prog orc 67 [.sl none 5 l.length (attsC l),.sl none 5 m.length (attsC m)] S fun d S'=>S'=S∧d = .bool (sameL l m):=by
 refine CallD.e Tryz.func67 rfl Tryz.ntmps67 (by rfl) ?_
 by_cases hlm:l.length=m.length
 rotate_left
 ·repeat' (first|refine Go.a rfl ?_|refine Go.rg ?_|refine GoR.nil ?_|refine Go.ret ?_|refine Go.b rfl ?_|refine Go.rgS dmx (by decide) ?_|(refine GoR.o (by rfl) (by rfl) ?_;(conv=>arg 1;simp only [G,Z,Y,Gx,un_neg,cutD,decide_true,decide_false,simprocAttr,fb2,fb3,fb9,fb42,fb116,fb118,fb120,show ((l.length:Int) != (m.length:Int))=true by simp;omega]);show GoR ..)|refine GoR.s (by rfl) rfl rfl ?_|(refine GoR.splitG rfl (fun hc => ?_) (fun hc => ?_)<;>simp only [hc])|refine Go.condB rfl (fun hc => ?_) (fun hc => ?_))
  refine ⟨(by first | exact .inl rfl | exact .inr rfl),fin ?_⟩
  rw [resD_tmp (fn:=Tryz.f67) rfl]
  simp only [optThen_some,resultD_tmp,resultD_cell,G,Z,Y,Gx,un_neg,cutD,decide_true,decide_false,simprocAttr,fb2,fb3,fb9,fb42,fb116,fb118,fb120]
  exact ⟨_,[],by simp,.bool,by rw [sameL_len hlm]⟩
 repeat' (first|refine Go.a rfl ?_|refine Go.rg ?_|refine GoR.nil ?_|refine Go.ret ?_|refine Go.b rfl ?_|refine Go.rgS dmx (by decide) ?_|(refine GoR.o (by rfl) (by rfl) ?_;(conv=>arg 1;simp only [G,Z,Y,Gx,un_neg,cutD,decide_true,decide_false,simprocAttr,fb2,fb3,fb9,fb42,fb116,fb118,fb120,show ((l.length:Int) != (m.length:Int))=false by simp;omega]);show GoR ..)|refine GoR.s (by rfl) rfl rfl ?_|(refine GoR.splitG rfl (fun hc => ?_) (fun hc => ?_)<;>simp only [hc])|refine Go.condB rfl (fun hc => ?_) (fun hc => ?_))
 refine Go.keep [(0,.sl none 5 l.length (attsC l)),(1,.sl none 5 m.length (attsC m)),(5,.int .i64 ((0:Nat):Int))] (.cons .refl (.cons .refl (.cons .refl (.nil)))) ?_
 refine Go.while (α:=Nat) (fun x=>l.length - x) (fun x=>[(0,.sl none 5 l.length (attsC l)),(1,.sl none 5 m.length (attsC m)),(5,.int .i64 (x:Int))]) (fun _=>S)
  (fun x=>x≤l.length∧sameL l m=sameL (l.drop x) (m.drop x)) ?_ 0 ⟨Nat.zero_le _,rfl⟩
 rintro i ⟨hi,hk⟩ next
 by_cases h1:i<l.length
 ·have h2:i<m.length:=by omega
  have hs:=fun S=>refCompareValue (orc:=orc) l[i].v m[i].v (hv _ (List.getElem_mem _)) (hw _ (List.getElem_mem _)) S
  have a1:=attsAt h1
  have a2:=attsAt h2
  simp only [Val.c,Att.c] at a1 a2 hs
  rw [sameL_step h1 h2] at hk
  by_cases hn:l[i].n=m[i].n
  ·by_cases hc:cmpV l[i].v m[i].v=0
   ·have hq:sameA l[i] m[i]=true:=by simp [sameA,hn,hc]
    rw [hq,Bool.true_and] at hk
    repeat' (first|refine Go.a rfl ?_|refine Go.rg ?_|refine GoR.nil ?_|refine Go.ret ?_|refine Go.b rfl ?_|refine Go.rgS dmx (by decide) ?_|(refine GoR.o (by rfl) (by rfl) ?_;(conv=>arg 1;simp only [G,Z,Y,Gx,un_neg,cutD,decide_true,decide_false,simprocAttr,fb2,fb3,fb9,fb42,fb116,fb118,fb120,show decide ((i:Int)<(l.length:Int))=true by simp;omega,a1,a2,decide_eq_true hn,hc,wrap_succ (show i<4611686018427387904 by omega)]);show GoR ..)|(refine GoR.c c100 (by rfl) (by rfl) rfl ?_;(refine (hs _).ret ?_))|refine GoR.s (by rfl) rfl rfl ?_|(refine GoR.splitG rfl (fun hc => ?_) (fun hc => ?_)<;>simp only [hc])|refine Go.condB rfl (fun hc => ?_) (fun hc => ?_))
    refine Go.lpN ?_
    refine Go.keep [(0,.sl none 5 l.length (attsC l)),(1,.sl none 5 m.length (attsC m)),(5,.int .i64 ((i+1:Nat):Int))] (.cons .refl (.cons .refl (.cons .refl (.nil)))) ?_
    exact next (i+1) (by omega) ⟨h1,hk⟩
   ·clear next
    have hq:sameA l[i] m[i]=false:=by simp [sameA,hc]
    rw [hq,Bool.false_and] at hk
    repeat' (first|refine Go.a rfl ?_|refine Go.rg ?_|refine GoR.nil ?_|refine Go.ret ?_|refine Go.b rfl ?_|refine Go.rgS dmx (by decide) ?_|(refine GoR.o (by rfl) (by rfl) ?_;(conv=>arg 1;simp only [G,Z,Y,Gx,un_neg,cutD,decide_true,decide_false,simprocAttr,fb2,fb3,fb9,fb42,fb116,fb118,fb120,show decide ((i:Int)<(l.length:Int))=true by simp;omega,a1,a2,decide_eq_true hn,show (cmpV l[i].v m[i].v != 0)=true by simpa using hc]);show GoR ..)|(refine GoR.c c100 (by rfl) (by rfl) rfl ?_;(refine (hs _).ret ?_))|refine GoR.s (by rfl) rfl rfl ?_|(refine GoR.splitG rfl (fun hc => ?_) (fun hc => ?_)<;>simp only [hc])|refine Go.condB rfl (fun hc => ?_) (fun hc => ?_))
    refine ⟨(by first | exact .inl rfl | exact .inr rfl),fin ?_⟩
    rw [resD_tmp (fn:=Tryz.f67) rfl]
    simp only [optThen_some,resultD_tmp,resultD_cell,G,Z,Y,Gx,un_neg,cutD,decide_true,decide_false,simprocAttr,fb2,fb3,fb9,fb42,fb116,fb118,fb120]
    exact ⟨_,[],by simp,.bool,by rw [hk]⟩
  ·clear next
   have hq:sameA l[i] m[i]=false:=by simp [sameA,hn]
   rw [hq,Bool.false_and] at hk
   repeat' (first|refine Go.a rfl ?_|refine Go.rg ?_|refine GoR.nil ?_|refine Go.ret ?_|refine Go.b rfl ?_|refine Go.rgS dmx (by decide) ?_|(refine GoR.o (by rfl) (by rfl) ?_;(conv=>arg 1;simp only [G,Z,Y,Gx,un_neg,cutD,decide_true,decide_false,simprocAttr,fb2,fb3,fb9,fb42,fb116,fb118,fb120,show decide ((i:Int)<(l.length:Int))=true by simp;omega,a1,a2,decide_eq_false hn]);show GoR ..)|refine GoR.s (by rfl) rfl rfl ?_|(refine GoR.splitG rfl (fun hc => ?_) (fun hc => ?_)<;>simp only [hc])|refine Go.condB rfl (fun hc => ?_) (fun hc => ?_))
   refine ⟨(by first | exact .inl rfl | exact .inr rfl),fin ?_⟩
   rw [resD_tmp (fn:=Tryz.f67) rfl]
   simp only [optThen_some,resultD_tmp,resultD_cell,G,Z,Y,Gx,un_neg,cutD,decide_true,decide_false,simprocAttr,fb2,fb3,fb9,fb42,fb116,fb118,fb120]
   exact ⟨_,[],by simp,.bool,by rw [hk]⟩
 ·clear next
  obtain rfl:i=l.length:=by omega
  repeat' (first|refine Go.a rfl ?_|refine Go.rg ?_|refine GoR.nil ?_|refine Go.ret ?_|refine Go.b rfl ?_|refine Go.rgS dmx (by decide) ?_|(refine GoR.o (by rfl) (by rfl) ?_;(conv=>arg 1;simp only [G,Z,Y,Gx,un_neg,cutD,decide_true,decide_false,simprocAttr,fb2,fb3,fb9,fb42,fb116,fb118,fb120,show decide ((l.length:Int)<(l.length:Int))=false by simp]);show GoR ..)|refine GoR.s (by rfl) rfl rfl ?_|(refine GoR.splitG rfl (fun hc => ?_) (fun hc => ?_)<;>simp only [hc])|refine Go.condB rfl (fun hc => ?_) (fun hc => ?_))
  refine ⟨(by first | exact .inl rfl | exact .inr rfl),fin ?_⟩
  rw [resD_tmp (fn:=Tryz.f67) rfl]
  simp only [optThen_some,resultD_tmp,resultD_cell,G,Z,Y,Gx,un_neg,cutD,decide_true,decide_false,simprocAttr,fb2,fb3,fb9,fb42,fb116,fb118,fb120]
  exact ⟨_,[],by simp,.bool,by rw [hk,sameL_end hlm]⟩
def sameR (a b:Rw):Bool:=decide (a.key=b.key)&&((cmpSt a.st b.st==0)&&sameL a.at_ b.at_)
theorem refSame (a b:Rw) (hl:a.at_.length<1000000) (hv : ∀ x∈a.at_,x.v.l.length<1000000) (hw : ∀ x∈b.at_,x.v.l.length<1000000) (S:Mem) :
  CallD Tryz.prog orc 22 [.agg a.c,.agg b.c] S fun d S'=>S'=S∧d = .bool (sameR a b):=by
 have h:=fun S=>refCompare (orc:=orc) a.st b.st S
 have hs:=fun S=>refSameAttrs (orc:=orc) a.at_ b.at_ hl hv hw S
 obtain ⟨k,⟨x,y,z,w⟩,l⟩:=a
 obtain ⟨k',⟨x',y',z',w'⟩,m⟩:=b
 simp only [Rw.c,St.c,sameR] at *
 generalize cmpSt ⟨x,y,z,w⟩ ⟨x',y',z',w'⟩=c at *
 refine CallD.e Tryz.func22 rfl Tryz.ntmps22 (by rfl) ?_
 by_cases he:k=k'
 ·by_cases hc:c=0
  ·repeat' (first|refine Go.a rfl ?_|refine Go.rg ?_|refine GoR.nil ?_|refine Go.ret ?_|refine Go.b rfl ?_|(refine GoR.o (by rfl) (by rfl) ?_;(conv=>arg 1;simp only [G,Z,Y,Gx,un_neg,cutD,decide_true,decide_false,simprocAttr,fb2,fb3,fb9,fb41,fb42,fb44,decide_eq_true he,hc]);show GoR ..)|(refine GoR.c c52 (by rfl) (by rfl) rfl ?_;(refine (h _).ret ?_))|(refine GoR.c c67 (by rfl) (by rfl) rfl ?_;(refine (hs _).ret ?_))|refine GoR.s (by rfl) rfl rfl ?_|(refine GoR.splitG rfl (fun hc => ?_) (fun hc => ?_)<;>simp only [hc])|refine Go.condB rfl (fun hc => ?_) (fun hc => ?_))
   refine ⟨(by first | exact .inl rfl | exact .inr rfl),fin ?_⟩
   rw [resD_tmp (fn:=Tryz.f22) rfl]
   simp only [optThen_some,resultD_tmp,resultD_cell,G,Z,Y,Gx,un_neg,cutD,decide_true,decide_false,simprocAttr,fb2,fb3,fb9,fb41,fb42,fb44]
   exact ⟨_,_,rfl,.bool,by simp [he,hc]⟩
  ·repeat' (first|refine Go.a rfl ?_|refine Go.rg ?_|refine GoR.nil ?_|refine Go.ret ?_|refine Go.b rfl ?_|(refine GoR.o (by rfl) (by rfl) ?_;(conv=>arg 1;simp only [G,Z,Y,Gx,un_neg,cutD,decide_true,decide_false,simprocAttr,fb2,fb3,fb9,fb41,fb42,fb44,decide_eq_true he,show (c==0)=false by simpa using hc]);show GoR ..)|(refine GoR.c c52 (by rfl) (by rfl) rfl ?_;(refine (h _).ret ?_))|refine GoR.s (by rfl) rfl rfl ?_|(refine GoR.splitG rfl (fun hc => ?_) (fun hc => ?_)<;>simp only [hc])|refine Go.condB rfl (fun hc => ?_) (fun hc => ?_))
   refine ⟨(by first | exact .inl rfl | exact .inr rfl),fin ?_⟩
   rw [resD_tmp (fn:=Tryz.f22) rfl]
   simp only [optThen_some,resultD_tmp,resultD_cell,G,Z,Y,Gx,un_neg,cutD,decide_true,decide_false,simprocAttr,fb2,fb3,fb9,fb41,fb42,fb44]
   exact ⟨_,_,rfl,.bool,by simp [he,hc]⟩
 ·repeat' (first|refine Go.a rfl ?_|refine Go.rg ?_|refine GoR.nil ?_|refine Go.ret ?_|refine Go.b rfl ?_|(refine GoR.o (by rfl) (by rfl) ?_;(conv=>arg 1;simp only [G,Z,Y,Gx,un_neg,cutD,decide_true,decide_false,simprocAttr,fb2,fb3,fb9,fb41,fb42,fb44,decide_eq_false he]);show GoR ..)|refine GoR.s (by rfl) rfl rfl ?_|(refine GoR.splitG rfl (fun hc => ?_) (fun hc => ?_)<;>simp only [hc])|refine Go.condB rfl (fun hc => ?_) (fun hc => ?_))
  refine ⟨(by first | exact .inl rfl | exact .inr rfl),fin ?_⟩
  rw [resD_tmp (fn:=Tryz.f22) rfl]
  simp only [optThen_some,resultD_tmp,resultD_cell,G,Z,Y,Gx,un_neg,cutD,decide_true,decide_false,simprocAttr,fb2,fb3,fb9,fb41,fb42,fb44]
  exact ⟨_,_,rfl,.bool,by simp [he]⟩
end Go.Proofs.DtT
namespace Go.Proofs.DtT
open Go Go.DM Go.Proofs.DtF
set_option maxRecDepth 100000
variable {orc:DOracle}
theorem of4 (r:Rw) (hl:r.at_.length≤1000000) (S:Mem):CallD Tryz.prog orc 11 [.agg r.c] S fun d S'=>S'=S∧d = .agg r.c:=by
 have hst:=fun S=>ofSt (orc:=orc) r.st S
 have hat:=fun S=>ofAttrs (orc:=orc) r.at_ hl S
 obtain ⟨key,⟨a,b,c,org⟩,l⟩:=r
 simp only [Rw.c,St.c] at *
 refine CallD.e Tryz.func11 rfl Tryz.ntmps11 (by rfl) ?_
 repeat' (first|refine Go.a rfl ?_|refine Go.rg ?_|refine GoR.nil ?_|refine Go.ret ?_|refine Go.b rfl ?_|refine Go.rgS dmx (by decide) ?_|refine Go.rgD [1,6] (fun H=>objAt H S.length=some [.str key,.int .i64 a,.int .i64 b,.int .i64 c,.str org,.sl none 5 l.length (attsC l)]) dmx (by decide) 9 (by decide) (by (simp [objAt,List.getElem?_append_right])) ?_|refine GoW.nil rfl ?_|((first|refine GoR.o (by rfl) (by rfl) ?_|refine GoW.o (by rfl) (by rfl) ?_|refine GoW.rd (by rfl) (by rfl) ?_);(conv=>arg 1;simp only [G,Z,Y,Gx,un_neg,cutD,decide_true,decide_false,simprocAttr,fb2,fb9,fb32,fb33,fb35,fb41,fb42,fb44]);first|show GoR ..|(show _∧GoW ..;refine ⟨by (first|exact fun h=>absurd h (by decide)|(intro _;(simp [objAt,List.getElem?_append_right]))),?_⟩)|(show _∧_∧_∧GoW ..;refine ⟨rfl,by (simp [objAt,List.getElem?_append_right]),(fun H hI=>by (try dsimp only at hI);simp only [G,Z,Y,Gx,un_neg,cutD,decide_true,decide_false,simprocAttr,fb2,fb9,fb32,fb33,fb35,fb41,fb42,fb44,hI]),?_⟩))|(refine GoW.c c55 (by rfl) (by rfl) rfl ?_;(refine (hst _).ret ?_);refine ⟨by (first|exact fun h=>absurd h (by decide)|(intro _;(simp [objAt,List.getElem?_append_right]))),?_⟩)|(refine GoR.c c55 (by rfl) (by rfl) rfl ?_;(refine (hst _).ret ?_))|(refine GoW.c c56 (by rfl) (by rfl) rfl ?_;(refine (hat _).ret ?_);refine ⟨by (first|exact fun h=>absurd h (by decide)|(intro _;(simp [objAt,List.getElem?_append_right]))),?_⟩)|(refine GoR.c c56 (by rfl) (by rfl) rfl ?_;(refine (hat _).ret ?_))|refine Go.condB rfl (fun hc => ?_) (fun hc => ?_))
 refine ⟨(by first | exact .inl rfl | exact .inr rfl),fin ?_⟩
 rw [resD_cell (fn:=Tryz.f11) rfl]
 simp only [optThen_some,resultD_tmp,resultD_cell,G,Z,Y,Gx,un_neg,cutD,decide_true,decide_false,simprocAttr,fb2,fb9,fb32,fb33,fb35,fb41,fb42,fb44]
 exact ⟨_,_,rfl,.of_low (.agg' (.cons (.str _) (.cons (.int _ _) (.cons (.int _ _) (.cons (.int _ _) (.cons (.str _) (.cons (attsD_low l) .nil))))))),rfl⟩
def fewL (l:List Att):Bool:=decide (l.length≤40)&&l.all fewA
def fewR (r:Rw):Bool:=decide (r.key.size≤100)&&(decide (r.st.org.size≤100)&&fewL r.at_)
theorem few4 (r:Rw) (S:Mem):CallD Tryz.prog orc 9 [.agg r.c] S fun d S'=>S'=S∧d = .bool (fewR r):=by
 have hat:=fun S=>fewAttrs (orc:=orc) r.at_ S
 obtain ⟨key,⟨a,b,c,org⟩,l⟩:=r
 simp only [Rw.c,St.c,fewR] at *
 have hff:(decide (l.length≤40)&&l.all fewA)=fewL l:=rfl
 rw [hff] at hat
 refine CallD.e Tryz.func9 rfl Tryz.ntmps9 (by rfl) ?_
 by_cases h1:key.size≤100
 ·by_cases h2:org.size≤100
  ·repeat' (first|refine Go.a rfl ?_|refine Go.rg ?_|refine GoR.nil ?_|refine Go.ret ?_|refine Go.b rfl ?_|(refine GoR.o (by rfl) (by rfl) ?_;(conv=>arg 1;simp only [G,Z,Y,Gx,un_neg,cutD,decide_true,decide_false,simprocAttr,fb2,fb3,fb9,fb32,fb33,fb35,show decide ((key.size:Int)≤100)=true by simp;omega,show decide ((org.size:Int)≤100)=true by simp;omega]);show GoR ..)|(refine GoR.c c51 (by rfl) (by rfl) rfl ?_;(refine (hat _).ret ?_))|refine GoR.s (by rfl) rfl rfl ?_|(refine GoR.splitG rfl (fun hc => ?_) (fun hc => ?_)<;>simp only [hc])|refine Go.condB rfl (fun hc => ?_) (fun hc => ?_))
   refine ⟨(by first | exact .inl rfl | exact .inr rfl),fin ?_⟩
   rw [resD_tmp (fn:=Tryz.f9) rfl]
   simp only [optThen_some,resultD_tmp,resultD_cell,G,Z,Y,Gx,un_neg,cutD,decide_true,decide_false,simprocAttr,fb2,fb3,fb9,fb32,fb33,fb35]
   exact ⟨_,_,rfl,.bool,by simp [h1,h2]⟩
  ·repeat' (first|refine Go.a rfl ?_|refine Go.rg ?_|refine GoR.nil ?_|refine Go.ret ?_|refine Go.b rfl ?_|(refine GoR.o (by rfl) (by rfl) ?_;(conv=>arg 1;simp only [G,Z,Y,Gx,un_neg,cutD,decide_true,decide_false,simprocAttr,fb2,fb3,fb9,fb32,fb33,fb35,show decide ((key.size:Int)≤100)=true by simp;omega,show decide ((org.size:Int)≤100)=false by simp;omega]);show GoR ..)|refine GoR.s (by rfl) rfl rfl ?_|(refine GoR.splitG rfl (fun hc => ?_) (fun hc => ?_)<;>simp only [hc])|refine Go.condB rfl (fun hc => ?_) (fun hc => ?_))
   refine ⟨(by first | exact .inl rfl | exact .inr rfl),fin ?_⟩
   rw [resD_tmp (fn:=Tryz.f9) rfl]
   simp only [optThen_some,resultD_tmp,resultD_cell,G,Z,Y,Gx,un_neg,cutD,decide_true,decide_false,simprocAttr,fb2,fb3,fb9,fb32,fb33,fb35]
   exact ⟨_,_,rfl,.bool,by simp [h2]⟩
 ·repeat' (first|refine Go.a rfl ?_|refine Go.rg ?_|refine GoR.nil ?_|refine Go.ret ?_|refine Go.b rfl ?_|(refine GoR.o (by rfl) (by rfl) ?_;(conv=>arg 1;simp only [G,Z,Y,Gx,un_neg,cutD,decide_true,decide_false,simprocAttr,fb2,fb3,fb9,fb32,fb33,fb35,show decide ((key.size:Int)≤100)=false by simp;omega]);show GoR ..)|refine GoR.s (by rfl) rfl rfl ?_|(refine GoR.splitG rfl (fun hc => ?_) (fun hc => ?_)<;>simp only [hc])|refine Go.condB rfl (fun hc => ?_) (fun hc => ?_))
  refine ⟨(by first | exact .inl rfl | exact .inr rfl),fin ?_⟩
  rw [resD_tmp (fn:=Tryz.f9) rfl]
  simp only [optThen_some,resultD_tmp,resultD_cell,G,Z,Y,Gx,un_neg,cutD,decide_true,decide_false,simprocAttr,fb2,fb3,fb9,fb32,fb33,fb35]
  exact ⟨_,_,rfl,.bool,by simp [h1]⟩
theorem fewA_size {l:List Att} (h:fewL l=true):l.length≤40 ∧ ∀ a∈l,a.n.size≤100∧a.v.s.size≤200∧a.v.l.length≤40:=by
 simp only [fewL,fewA,fewV,Bool.and_eq_true,decide_eq_true_eq,List.all_eq_true] at h
 exact h
theorem fewR_of {k:ByteArray} {st:St} {l:List Att} (hk:k.size<1000000) (ho:st.org.size<1000000) (h:fewL l=true):FewR ⟨k,st,l⟩:=by
 obtain ⟨_,h⟩:=fewA_size h
 exact ⟨hk,ho,fun a ha=>by have:=h a ha;omega,fun a ha=>by have:=h a ha;omega,fun a ha=>by have:=h a ha;omega⟩
end Go.Proofs.DtT
