/- Attributes told apart: a slice that may be written. -/
import Derived.Test.YtmbgelijgmmpbaaGreatDoorDvS23x
set_option linter.unusedSimpArgs false
set_option linter.unusedVariables false
namespace Go.DM
open Go.AM
section
variable {P:Program} {orc:DOracle} {fl sz:Nat} {ops:Array Oper} {loose:List Nat} {Inv:Mem→Prop} {F:Nat} {k:List AM.K} {ρ:DEnv} {H:Mem} {Q:AM.AExit→DEnv→Mem→Prop}
theorem GoW.oM {i:Nat} {os:List Oper} {dst:Option Tmp} {op:Op} {ty:TypeId} {pos:String} {after:Array Edge} (h0:okOpW loose i sz dst op=true)
  (h:opThenM (opD P ρ op H) H fun v H1=>(i<F→Inv H1)∧GoW P orc fl sz ops loose Inv F (i+1) os k (putD ρ dst v) H1 Q):GoW P orc fl sz ops loose Inv F i (⟨dst,op,ty,pos,after,none⟩::os) k ρ H Q:=fun hi=>by
 obtain ⟨hd,hc,hl⟩:=okOpW_ok h0
 obtain ⟨h1,h2⟩:=get_of_drop hi
 obtain ⟨v,H1,hop,h⟩:=opThenM_elim h
 obtain ⟨l,ρ',H',t,q⟩:=h.2 h2
 have e:dstOf ops i=dst:=by simp [dstOf,h1]
 rw [← e] at t
 exact ⟨_,ρ',H',.cons ⟨_,h1,hd,.inr ⟨rfl,hc,.inl hop⟩⟩ (fun hm=>by simp [hm] at hl) h.1 t,q⟩
end
end Go.DM
namespace Go.Proofs.DvT
open Go Go.DM Go.Proofs.DvF
set_option maxRecDepth 100000
variable {orc:DOracle}
theorem ap_msl {P:Program} {S:Mem} {t e n bytes:Nat} (h:ElemT P t e n bytes) {own:Option Nat} {o len m:Nat} {new:List D} :
  appendD P #[t,t] (.msl o n len) (.sl own n m new) S=if m=0 then some (.msl o n len,S) else if fitsD bytes (len+m) new then (match objAt S o with | some cells=>if cells.length=len*n then some (.msl S.length n (len+m),S.set o .dead++[.obj (cells++new)]) else none | none=>none) else none:=by
 obtain ⟨hu,i,z,hi,rfl,rfl,hz,hs⟩:=h
 simp [appendD,hu,hi,hz,hs,elemsD,srcD,fitsD]
 rfl
theorem cut_msl {P:Program} {t e n:Nat} (hu:P.underlying t=some (.slice e)) (hs:AM.sizeA P e=some n) {o len:Nat} {hi mx:D} (h1:natD hi=some len) (h2:natD mx=some len) (h0:len≠0):sliceD P t (.msl o n len) none (some hi) (some mx)=some (.msl o n len):=by
 simp [sliceD,optNatD,h1,h2,hu,hs,h0]
theorem len_msl {P:Program} {S:Mem} {at_:Array TypeId} {t e:Nat} (h:at_[0]?=some t) (hu:P.underlying t=some (.slice e)) {o n len:Nat} : builtinD P .len at_ [.msl o n len] S=some (.int .i64 len,S):=by simp [builtinD,h,hu]
theorem attsC_len {l:List Att} : (attsC l).length=l.length*5:=by
 unfold attsC
 induction l with
 | nil=>rfl
 | cons a l ih=>rw [List.flatMap_cons,List.length_append,ih,Att.len,List.length_cons];omega
theorem atts_one (l:List Att):(attsC l).all D.one=true:=by
 rw [List.all_eq_true]
 intro x hx
 simp only [attsC,List.mem_flatMap,Att.c] at hx
 obtain ⟨a,_,hx⟩:=hx
 simp only [List.mem_cons,List.not_mem_nil,or_false] at hx
 rcases hx with rfl | rfl | rfl | rfl | rfl<;>rfl
theorem WzL_low {S1:Mem} {F:List Nat} {ι:Nat→Nat} {n:Nat} {l:List D} (h:LowL 0 l):WzL S1 F ι n l l:=
 ⟨rfl,fun j h1 _=>Wz.of_low (m:=0) (fun i hi=>by omega) (Nat.zero_le _) (h.get j h1)⟩
def NewAtts (l:List Att) (S:Mem) (d:D) (S':Mem):Prop:=(l=[]∧d = .nils∧S'=S)∨(l≠[]∧d = .msl S.length 5 l.length∧S'=S++[.obj (attsC l)])
theorem NewAtts.of {P:Program} {f:FuncId} {args:List D} {S:Mem} {l:List Att}
  (h:CallD P orc f args S fun d S1 => ∃ E,S1=S++E∧((l=[]∧d = .nils)∨(l≠[] ∧ ∃ o,S.length≤o∧d = .msl o 5 l.length∧objAt S1 o=some (attsC l)))):CallD P orc f args S (NewAtts l S):=by
 obtain ⟨d,S1,hb,E,rfl,hs⟩:=h
 rcases hs with ⟨rfl,rfl⟩ | ⟨h0,o,ho,rfl,hob⟩
 ·have:CallD P orc f args S fun d S'=>S'=S∧d = .nils:=CallD.drop ⟨.nils,_,hb,.nils,E,rfl,.of_low .nils,rfl⟩
  exact this.mono fun d S' ⟨h1,h2⟩=>.inl ⟨rfl,h2,h1⟩
 ·refine CallD.keep1 ⟨_,_,hb,o,E,attsC l,attsC l,.msl S.length 5 l.length,rfl,ho,hob,fun ι h1 h2=>⟨WzL_low (atts_low l),?_⟩,.inr ⟨h0,rfl,rfl⟩⟩
  rw [← h2]
  exact Wz.msl (by omega)
theorem clipNilA (S:Mem):CallD Tryz.prog orc 80 [.nils] S fun d S'=>S'=S∧d = .nils:=by
 refine CallD.e Tryz.func80 rfl Tryz.ntmps80 (by rfl) ?_
 repeat' (first|refine Go.a rfl ?_|refine Go.rg ?_|refine GoR.nil ?_|refine Go.ret ?_|refine Go.b rfl ?_|(refine GoR.o (by rfl) (by rfl) ?_;(conv=>arg 1;simp only [G,Z,Y,Gx,un_neg,cutD,decide_true,decide_false,simprocAttr,fb33]);show GoR ..)|refine Go.condB rfl (fun hc => ?_) (fun hc => ?_))
 refine ⟨(by first | exact .inl rfl | exact .inr rfl),fin ?_⟩
 rw [resD_tmp (fn:=Tryz.f80) rfl]
 simp only [optThen_some,resultD_tmp,resultD_cell,G,Z,Y,Gx,un_neg,cutD,decide_true,decide_false,simprocAttr,fb33]
 exact ⟨.nils,[],by simp,.of_low .nils,rfl⟩
theorem clipA {o n:Nat} {S:Mem} (h0:n≠0) (ho:o<S.length):CallD Tryz.prog orc 80 [.msl o 5 n] S fun d S'=>S'=S∧d = .msl o 5 n:=by
 have e : ∀ k,DM.sliceD Tryz.prog 33 (.msl o 5 n) none (some (.int k (n:Int))) (some (.int k (n:Int)))=some (.msl o 5 n):=fun k=>cut_msl Tryz.underlying33 dsz59 natD_cast natD_cast h0
 refine CallD.e Tryz.func80 rfl Tryz.ntmps80 (by rfl) ?_
 repeat' (first|refine Go.a rfl ?_|refine Go.rg ?_|refine GoR.nil ?_|refine Go.ret ?_|refine Go.b rfl ?_|(refine GoR.o (by rfl) (by rfl) ?_;(conv=>arg 1;simp only [G,Z,Y,Gx,un_neg,cutD,decide_true,decide_false,simprocAttr,fb33,e,Option.map_some,Option.map_none,len_msl (P:=Tryz.prog) (at_ := #[33]) (t:=33) rfl Tryz.underlying33]);show GoR ..)|refine Go.condB rfl (fun hc => ?_) (fun hc => ?_))
 refine ⟨(by first | exact .inl rfl | exact .inr rfl),fin ?_⟩
 rw [resD_tmp (fn:=Tryz.f80) rfl]
 simp only [optThen_some,resultD_tmp,resultD_cell,G,Z,Y,Gx,un_neg,cutD,decide_true,decide_false,simprocAttr,fb33]
 exact ⟨_,[],by simp,.of_low (.msl _ _ _ ho),rfl⟩
theorem clone (l:List Att) (hl:l.length<100000) (hv : ∀ a∈l,a.v.l.length<1000000) (S:Mem):CallD Tryz.prog orc 76 [.sl none 5 l.length (attsC l)] S (NewAtts l S):=by
 refine NewAtts.of ?_
 refine CallD.eb Tryz.func76 rfl Tryz.ntmps76 (by rfl) ?_
 repeat' (first|refine Go.a rfl ?_|refine Go.rg ?_|refine GoR.nil ?_|refine Go.ret ?_|refine Go.b rfl ?_|refine Go.rgS dmx (by decide) ?_|refine Go.rgD [2] (fun _=>True) dmx (by decide) 7 (by decide) (by trivial) ?_|refine GoW.nil rfl ?_|((first|refine GoR.o (by rfl) (by rfl) ?_|refine GoW.o (by rfl) (by rfl) ?_|refine GoW.rd (by rfl) (by rfl) ?_);(conv=>arg 1;simp only [G,Z,Y,Gx,un_neg,cutD,decide_true,decide_false,simprocAttr,fb2,fb3,fb9,fb33,fb51,fb53,fb59]);first|show GoR ..|(show _∧GoW ..;refine ⟨by exact fun _=>trivial,?_⟩)|(show _∧_∧_∧GoW ..;refine ⟨rfl,by trivial,(fun H _=>by simp only [G,Z,Y,Gx,un_neg,cutD,decide_true,decide_false,simprocAttr,fb2,fb3,fb9,fb33,fb51,fb53,fb59]),?_⟩))|refine Go.condB rfl (fun hc => ?_) (fun hc => ?_))
 refine Go.keep [(3,.nils),(6,.sl none 5 l.length (attsC l)),(7,.int .i64 (l.length:Int)),(8,.int .i64 ((0:Nat):Int))] (.cons .refl (.cons .refl (.cons .refl (.cons .refl (.nil))))) ?_
 refine Go.while (α:=Nat×D×Mem) (fun x=>l.length - x.1) (fun x=>[(3,x.2.1),(6,.sl none 5 l.length (attsC l)),(7,.int .i64 (l.length:Int)),(8,.int .i64 (x.1:Int))]) (fun x=>x.2.2)
  (fun x=>x.1≤l.length∧(∃ E,x.2.2=S++E)∧((x.1=0∧x.2.1 = .nils)∨(0<x.1 ∧ ∃ o,S.length≤o∧x.2.1 = .msl o 5 x.1∧objAt x.2.2 o=some (attsC (l.take x.1))))) ?_ (0,.nils,S) ⟨Nat.zero_le _,⟨[],by simp⟩,.inl ⟨rfl,rfl⟩⟩
 rintro ⟨i,d,S1⟩ ⟨hi,⟨E,hE⟩,hs⟩ next
 dsimp only at hi hE hs next
 have hSl:S.length≤S1.length:=by rw [hE];simp
 by_cases h1:i<l.length
 ·have hap0:=fun S=>apart (orc:=orc) l[i].v (hv _ (List.getElem_mem _)) S
  have at1:=attsAt h1
  simp only [Val.c,Att.c] at at1 hap0
  have dl:decide ((i:Int)<(l.length:Int))=true:=by simp;omega
  have e5:attsC (l.take (i+1))=attsC (l.take i)++l[i].c:=flat_take_succ h1
  rcases hs with ⟨h0,rfl⟩ | ⟨h0,o,ho,rfl,hob⟩
  ·have hap:appendD Tryz.prog #[33,33] .nils (.sl (some (S1.length+1)) 5 1 l[i].c) (S1++[Ob.obj l[i].c,Ob.own])=some (.sl (some (S1.length+2)) 5 1 l[i].c,S1++[.obj l[i].c,.own,.own]):=by
    rw [ap_nils del33,if_neg (by omega),if_pos ⟨by omega,by omega,by omega,rfl⟩]
    simp
   simp only [Att.c] at hap
   repeat' (first|refine Go.a rfl ?_|refine Go.rg ?_|refine GoR.nil ?_|refine Go.ret ?_|refine Go.b rfl ?_|refine Go.rgS dmx (by decide) ?_|refine Go.rgD [2] (fun H=>objAt H S1.length=some [.str l[i].n,.int .i64 l[i].v.k,.int .i64 l[i].v.i,.str l[i].v.s,.sl none 1 l[i].v.l.length (intsD l[i].v.l)]) dmx (by decide) 7 (by decide) (by (simp [objAt,List.getElem?_append_right])) ?_|(refine GoW.oM (i:=8) (by rfl) ?_;(conv=>arg 1;simp only [G,Z,Y,Gx,un_neg,cutD,decide_true,decide_false,simprocAttr,fb2,fb3,fb9,fb33,fb51,fb53,fb59,dl,at1,wrap_succ (show i<4611686018427387904 by omega),hap,builtin_append]);refine ⟨by first|rfl|simp,by first|rfl|simp,?_⟩;refine ⟨by (first|exact fun h=>absurd h (by decide)|(intro _;(simp [objAt,List.getElem?_append_right]))),?_⟩;show GoW ..)|refine GoW.nil rfl ?_|((first|refine GoR.o (by rfl) (by rfl) ?_|refine GoW.o (by rfl) (by rfl) ?_|refine GoW.rd (by rfl) (by rfl) ?_);(conv=>arg 1;simp only [G,Z,Y,Gx,un_neg,cutD,decide_true,decide_false,simprocAttr,fb2,fb3,fb9,fb33,fb51,fb53,fb59,dl,at1,wrap_succ (show i<4611686018427387904 by omega),hap,builtin_append]);first|show GoR ..|(show _∧GoW ..;refine ⟨by (first|exact fun h=>absurd h (by decide)|(intro _;(simp [objAt,List.getElem?_append_right]))),?_⟩)|(show _∧_∧_∧GoW ..;refine ⟨rfl,by (simp [objAt,List.getElem?_append_right]),(fun H hI=>by (try dsimp only at hI);simp only [G,Z,Y,Gx,un_neg,cutD,decide_true,decide_false,simprocAttr,fb2,fb3,fb9,fb33,fb51,fb53,fb59,dl,at1,wrap_succ (show i<4611686018427387904 by omega),hap,builtin_append,hI]),?_⟩))|(refine GoW.c c57 (by rfl) (by rfl) rfl ?_;(refine (hap0 _).ret ?_);refine ⟨by (first|exact fun h=>absurd h (by decide)|(intro _;(simp [objAt,List.getElem?_append_right]))),?_⟩)|(refine GoR.c c57 (by rfl) (by rfl) rfl ?_;(refine (hap0 _).ret ?_))|refine Go.condB rfl (fun hc => ?_) (fun hc => ?_))
   refine Go.lpN ?_
   subst h0
   refine Go.keep [(3,.msl (S1.length+2) 5 1),(6,.sl none 5 l.length (attsC l)),(7,.int .i64 (l.length:Int)),(8,.int .i64 ((0+1:Nat):Int))] (.cons .refl (.cons .refl (.cons .refl (.cons .refl (.nil))))) ?_
   refine next (0+1,.msl (S1.length+2) 5 1,_) (by dsimp only;omega) ⟨h1,⟨_,by dsimp only;rw [hE,List.append_assoc]⟩,.inr ⟨Nat.one_pos,S1.length+2,by omega,rfl,?_⟩⟩
   dsimp only
   rw [e5]
   simp [objAt,List.getElem?_append_right,attsC,Att.c]
  ·have hol:o<S1.length:=(List.getElem?_eq_some_iff.1 (objAt_some hob)).1
   have hob2:objAt (S1++[Ob.obj l[i].c,Ob.own]) o=some (attsC (l.take i)):=objAt_old hob
   have hlen:(attsC (l.take i)).length=i*5:=by rw [attsC_len,List.length_take];omega
   have hap:appendD Tryz.prog #[33,33] (.msl o 5 i) (.sl (some (S1.length+1)) 5 1 l[i].c) (S1++[Ob.obj l[i].c,Ob.own])=some (.msl (S1.length+2) 5 (i+1),(S1++[Ob.obj l[i].c,Ob.own]).set o Ob.dead++[Ob.obj (attsC (l.take i)++l[i].c)]):=by
    rw [ap_msl del33,if_neg (by omega),if_pos ⟨by omega,by omega,by omega,rfl⟩,hob2]
    simp only [hlen,if_true]
    simp
   simp only [Att.c] at hap
   have hdead:(S1++[Ob.obj l[i].c,Ob.own]).set o Ob.dead=S++(E++[Ob.obj l[i].c,Ob.own]).set (o - S.length) Ob.dead:=by
    rw [hE,List.append_assoc,List.set_append_right _ _ ho]
   repeat' (first|refine Go.a rfl ?_|refine Go.rg ?_|refine GoR.nil ?_|refine Go.ret ?_|refine Go.b rfl ?_|refine Go.rgS dmx (by decide) ?_|refine Go.rgD [2] (fun H=>objAt H S1.length=some [.str l[i].n,.int .i64 l[i].v.k,.int .i64 l[i].v.i,.str l[i].v.s,.sl none 1 l[i].v.l.length (intsD l[i].v.l)]) dmx (by decide) 7 (by decide) (by (simp [objAt,List.getElem?_append_right])) ?_|refine GoW.nil rfl ?_|((first|refine GoR.o (by rfl) (by rfl) ?_|refine GoW.o (by rfl) (by rfl) ?_|refine GoW.rd (by rfl) (by rfl) ?_);(conv=>arg 1;simp only [G,Z,Y,Gx,un_neg,cutD,decide_true,decide_false,simprocAttr,fb2,fb3,fb9,fb33,fb51,fb53,fb59,dl,at1,wrap_succ (show i<4611686018427387904 by omega),hap,builtin_append]);first|show GoR ..|(show _∧GoW ..;refine ⟨by (first|exact fun h=>absurd h (by decide)|(intro _;(simp [objAt,List.getElem?_append_right]))),?_⟩)|(show _∧_∧_∧GoW ..;refine ⟨rfl,by (simp [objAt,List.getElem?_append_right]),(fun H hI=>by (try dsimp only at hI);simp only [G,Z,Y,Gx,un_neg,cutD,decide_true,decide_false,simprocAttr,fb2,fb3,fb9,fb33,fb51,fb53,fb59,dl,at1,wrap_succ (show i<4611686018427387904 by omega),hap,builtin_append,hI]),?_⟩))|(refine GoW.c c57 (by rfl) (by rfl) rfl ?_;(refine (hap0 _).ret ?_);refine ⟨by (first|exact fun h=>absurd h (by decide)|(intro _;(simp [objAt,List.getElem?_append_right]))),?_⟩)|(refine GoR.c c57 (by rfl) (by rfl) rfl ?_;(refine (hap0 _).ret ?_))|refine Go.condB rfl (fun hc => ?_) (fun hc => ?_))
   refine Go.lpN ?_
   refine Go.keep [(3,.msl (S1.length+2) 5 (i+1)),(6,.sl none 5 l.length (attsC l)),(7,.int .i64 (l.length:Int)),(8,.int .i64 ((i+1:Nat):Int))] (.cons .refl (.cons .refl (.cons .refl (.cons .refl (.nil))))) ?_
   refine next (i+1,.msl (S1.length+2) 5 (i+1),_) (by dsimp only;omega) ⟨h1,⟨(E++[Ob.obj l[i].c,Ob.own]).set (o - S.length) Ob.dead++[Ob.obj (attsC (l.take i)++l[i].c)],?_⟩,.inr ⟨Nat.succ_pos _,S1.length+2,by omega,rfl,?_⟩⟩
   ·dsimp only
    rw [← List.append_assoc,← hdead]
    rfl
   ·dsimp only
    rw [e5]
    simp [objAt,List.getElem?_append_right,Att.c]
 ·clear next
  have e:i=l.length:=by omega
  subst e
  have dl:decide ((l.length:Int)<(l.length:Int))=false:=by simp
  rw [List.take_length] at hs
  rcases hs with ⟨h0,rfl⟩ | ⟨h0,o,ho,rfl,hob⟩
  ·repeat' (first|refine Go.a rfl ?_|refine Go.rg ?_|refine GoR.nil ?_|refine Go.ret ?_|refine Go.b rfl ?_|refine Go.rgS dmx (by decide) ?_|refine Go.rgD [2] (fun _=>True) dmx (by decide) 7 (by decide) (by trivial) ?_|refine GoW.nil rfl ?_|((first|refine GoR.o (by rfl) (by rfl) ?_|refine GoW.o (by rfl) (by rfl) ?_|refine GoW.rd (by rfl) (by rfl) ?_);(conv=>arg 1;simp only [G,Z,Y,Gx,un_neg,cutD,decide_true,decide_false,simprocAttr,fb2,fb3,fb9,fb33,fb51,fb53,fb59,dl]);first|show GoR ..|(show _∧GoW ..;refine ⟨by exact fun _=>trivial,?_⟩)|(show _∧_∧_∧GoW ..;refine ⟨rfl,by trivial,(fun H _=>by simp only [G,Z,Y,Gx,un_neg,cutD,decide_true,decide_false,simprocAttr,fb2,fb3,fb9,fb33,fb51,fb53,fb59,dl]),?_⟩))|(refine GoW.c c80 (by rfl) (by rfl) rfl ?_;(refine (clipNilA _).ret ?_);refine ⟨by exact fun _=>trivial,?_⟩)|(refine GoR.c c80 (by rfl) (by rfl) rfl ?_;(refine (clipNilA _).ret ?_))|refine Go.condB rfl (fun hc => ?_) (fun hc => ?_))
   refine ⟨(by first | exact .inl rfl | exact .inr rfl),fin ?_⟩
   rw [resD_tmp (fn:=Tryz.f76) rfl]
   simp only [optThen_some,resultD_tmp,resultD_cell,G,Z,Y,Gx,un_neg,cutD,decide_true,decide_false,simprocAttr,fb2,fb3,fb9,fb33,fb51,fb53,fb59]
   exact ⟨E,hE,.inl (by simp [List.eq_nil_of_length_eq_zero h0])⟩
  ·have hol:o<S1.length:=(List.getElem?_eq_some_iff.1 (objAt_some hob)).1
   repeat' (first|refine Go.a rfl ?_|refine Go.rg ?_|refine GoR.nil ?_|refine Go.ret ?_|refine Go.b rfl ?_|refine Go.rgS dmx (by decide) ?_|refine Go.rgD [2] (fun _=>True) dmx (by decide) 7 (by decide) (by trivial) ?_|refine GoW.nil rfl ?_|((first|refine GoR.o (by rfl) (by rfl) ?_|refine GoW.o (by rfl) (by rfl) ?_|refine GoW.rd (by rfl) (by rfl) ?_);(conv=>arg 1;simp only [G,Z,Y,Gx,un_neg,cutD,decide_true,decide_false,simprocAttr,fb2,fb3,fb9,fb33,fb51,fb53,fb59,dl]);first|show GoR ..|(show _∧GoW ..;refine ⟨by exact fun _=>trivial,?_⟩)|(show _∧_∧_∧GoW ..;refine ⟨rfl,by trivial,(fun H _=>by simp only [G,Z,Y,Gx,un_neg,cutD,decide_true,decide_false,simprocAttr,fb2,fb3,fb9,fb33,fb51,fb53,fb59,dl]),?_⟩))|(refine GoW.c c80 (by rfl) (by rfl) rfl ?_;(refine (clipA (by omega) hol).ret ?_);refine ⟨by exact fun _=>trivial,?_⟩)|(refine GoR.c c80 (by rfl) (by rfl) rfl ?_;(refine (clipA (by omega) hol).ret ?_))|refine Go.condB rfl (fun hc => ?_) (fun hc => ?_))
   refine ⟨(by first | exact .inl rfl | exact .inr rfl),fin ?_⟩
   rw [resD_tmp (fn:=Tryz.f76) rfl]
   simp only [optThen_some,resultD_tmp,resultD_cell,G,Z,Y,Gx,un_neg,cutD,decide_true,decide_false,simprocAttr,fb2,fb3,fb9,fb33,fb51,fb53,fb59]
   exact ⟨E,hE,.inr ⟨by rintro rfl;exact absurd h0 (by simp),o,ho,rfl,hob⟩⟩
end Go.Proofs.DvT
namespace Go.Proofs.DvT
open Go Go.DM Go.Proofs.DvF
set_option maxRecDepth 100000
variable {orc:DOracle}
theorem ix_msl {P:Program} {t e n:Nat} (hu:P.underlying t=some (.slice e)) (hs:AM.sizeA P e=some n) {o:Nat} {len:Nat} {k:IntKind} {i:Int} :
  indexAtD P t (.msl o n len) (.int k i)=if 0≤i∧i<len then some (.ptr o (i.toNat*n)) else none:=by
 simp only [indexAtD,hu,hs,and_true]
end Go.Proofs.DvT
namespace Go.Proofs.DvT
open Go Go.DM Go.Proofs.DvF
set_option maxRecDepth 100000
variable {orc:DOracle}
def posN (l:List Att) (s:ByteArray):Nat:=(l.takeWhile fun a=>ltB a.n s).length
def setL (l:List Att) (s:ByteArray) (v:Val):List Att:=if (look l s).isSome then l.set (posN l s) ⟨s,v⟩ else l.take (posN l s)++⟨s,v⟩::l.drop (posN l s)
def dropL (l:List Att) (s:ByteArray):List Att:=if (look l s).isSome then l.take (posN l s)++l.drop (posN l s+1) else l
def attsD (l:List Att):D:=.sl none 5 l.length (attsC l)
theorem look_iff {l:List Att} {s:ByteArray} (hr:RiseB Att.n l) {i:Nat} (h2 : ∀ k (h:k<l.length),k<i→ltB l[k].n s=true) (h3 : ∀ k (h:k<l.length),i≤k→ltB l[k].n s=false):(look l s).isSome=true ↔ ∃ h:i<l.length,l[i].n=s:=by
 constructor
 ·intro h
  apply Classical.byContradiction
  intro hn
  rw [look_none fun j hj e => ?_] at h
  ·cases h
  ·have hj2 : ¬ j<i:=fun h=>by have:=h2 j hj h;rw [e,ltB_irrefl] at this;cases this
   have hi:i<l.length:=by omega
   have hj3 : ¬ i<j:=fun h=>by have:=h3 i hi (Nat.le_refl _);rw [← e,hr.lt hj h] at this;cases this
   obtain rfl:i=j:=by omega
   exact hn ⟨hi,e⟩
 ·rintro ⟨h,e⟩
  rw [look_at hr h e]
  rfl
theorem wr_mid {α:Type} : ∀ (xs pre cs:List α),xs.length≤cs.length→wr (pre++cs) pre.length xs=pre++(xs++cs.drop xs.length)
 | [],pre,cs,_=>by simp [wr]
 | x::xs,pre,[],h=>by simp at h
 | x::xs,pre,c::cs,h=>by
  rw [wr]
  have e:(pre++c::cs).set pre.length x=(pre++[x])++cs:=by simp
  have:=wr_mid xs (pre++[x]) cs (by simpa using h)
  rw [e,show pre.length+1=(pre++[x]).length by simp,this]
  simp
theorem atts_take {l:List Att} {i:Nat} (h:i≤l.length):(attsC l).take (i*5)=attsC (l.take i):=by
 have hl:(attsC (l.take i)).length=i*5:=by rw [attsC_len,List.length_take];omega
 have e:attsC l=attsC (l.take i)++attsC (l.drop i):=by
  conv=>lhs;rw [← List.take_append_drop i l]
  simp only [attsC,List.flatMap_append]
 rw [e,← hl,List.take_left]
theorem atts_drop {l:List Att} {i:Nat} (h:i≤l.length):(attsC l).drop (i*5)=attsC (l.drop i):=by
 have hl:(attsC (l.take i)).length=i*5:=by rw [attsC_len,List.length_take];omega
 have e:attsC l=attsC (l.take i)++attsC (l.drop i):=by
  conv=>lhs;rw [← List.take_append_drop i l]
  simp only [attsC,List.flatMap_append]
 rw [e,← hl,List.drop_left]
end Go.Proofs.DvT
namespace Go.Proofs.DvT
open Go Go.DM Go.Proofs.DvF
set_option maxRecDepth 100000
variable {orc:DOracle}
end Go.Proofs.DvT
namespace Go.Proofs.DvT
open Go Go.DM Go.Proofs.DvF
set_option maxRecDepth 100000
variable {orc:DOracle}
theorem objAt1 {S:Mem} {c:List D} {E:Mem} : objAt (S ++ .obj c::E) S.length=some c:=by
 unfold objAt
 rw [List.getElem?_append_right (by omega),Nat.sub_self]
 rfl
end Go.Proofs.DvT
namespace Go.DM
open Go.AM
theorem AccD.appendZ {P:Program} {b t e n bytes len m:Nat} {o:D} {own:Option Nat} {cells new:List D} {S:Mem} (h:ElemT P t e n bytes) (ha:AccD b o n len cells S) (hb:b≤S.length) (hm:m=0→new=[]) (hf:fitsD bytes (len+m) new) :
  ∃ o' S',appendD P #[t,t] o (.sl own n m new) S=some (o',S')∧AccD b o' n (len+m) (cells++new) S'∧Grown b S S':=by
 by_cases h0:m=0
 ·have:=hm h0
  subst h0 this
  refine ⟨o,S,?_,by simpa using ha,.refl⟩
  rcases ha with ⟨rfl,_⟩ | ⟨rfl,_⟩ | ⟨id,_,rfl,_⟩
  ·rw [ap_nils h,if_pos rfl]
  ·rw [ap_sl0 h,if_pos rfl]
  ·rw [ap_own h,if_pos rfl]
 ·exact ha.append h hb h0 hf
end Go.DM
namespace Go.Proofs.DvT
open Go Go.DM Go.Proofs.DvF
set_option maxRecDepth 100000
variable {orc:DOracle}
def restL (l:List Att) (s:ByteArray):List Att:=l.filter fun a => !decide (a.n=s)
def withL (l:List Att) (s:ByteArray) (v:Val):List Att:=(restL l s).take (posN (restL l s) s)++⟨s,v⟩::(restL l s).drop (posN (restL l s) s)
theorem restL_succ {l:List Att} {s:ByteArray} {i:Nat} (h:i<l.length):restL (l.take (i+1)) s=if l[i].n=s then restL (l.take i) s else restL (l.take i) s++[l[i]]:=by
 rw [List.take_succ_eq_append_getElem h,restL,List.filter_append]
 by_cases he:l[i].n=s
 ·rw [if_pos he]
  simp [restL,he]
 ·rw [if_neg he]
  simp [restL,he]
theorem restL_le (l:List Att) (s:ByteArray):(restL l s).length≤l.length:=List.length_filter_le _ _
theorem attsD_low {n:Nat} (l:List Att):DLow n (attsD l):=.sl none 5 _ _ (fun id h=>by cases h) (atts_low l).get
theorem refDrop (l:List Att) (s:ByteArray) (hl:l.length<100000) (S:Mem) :
  CallD Tryz.prog orc 85 [.sl none 5 l.length (attsC l),.str s] S fun d S'=>S'=S∧d = .tup [attsD (restL l s),.bool (decide ((restL l s).length<l.length))]:=by
 refine CallD.e Tryz.func85 rfl Tryz.ntmps85 (by rfl) ?_
 repeat' (first|refine Go.a rfl ?_|refine Go.rg ?_|refine GoR.nil ?_|refine Go.ret ?_|refine Go.b rfl ?_|(refine GoR.o (by rfl) (by rfl) ?_;(conv=>arg 1;simp only [G,Z,Y,Gx,un_neg,cutD,decide_true,decide_false,simprocAttr,fb3,fb9,fb31,fb85,fb87]);show GoR ..)|refine Go.condB rfl (fun hc => ?_) (fun hc => ?_))
 refine Go.keep [(0,.sl none 5 l.length (attsC l)),(1,.str s),(6,.nils),(7,.int .i64 ((0:Nat):Int))] (.cons .refl (.cons .refl (.cons .refl (.cons .refl (.nil))))) ?_
 refine Go.while (α:=Nat×D×Mem) (fun x=>l.length - x.1) (fun x=>[(0,.sl none 5 l.length (attsC l)),(1,.str s),(6,x.2.1),(7,.int .i64 (x.1:Int))]) (fun x=>x.2.2)
  (fun x=>x.1≤l.length∧AccD S.length x.2.1 5 (restL (l.take x.1) s).length (attsC (restL (l.take x.1) s)) x.2.2∧Grown S.length S x.2.2) ?_ (0,.nils,S) ⟨Nat.zero_le _,.inl ⟨rfl,rfl,rfl⟩,.refl⟩
 rintro ⟨i,o,S1⟩ ⟨hi,hacc,hg⟩ next
 dsimp only at hi hacc hg next
 by_cases h1:i<l.length
 ·have at1:=attsAt h1
  have hle:=restL_le (l.take i) s
  rw [List.length_take] at hle
  have dl:decide ((i:Int)<(l.length:Int))=true:=by simp;omega
  by_cases he:l[i].n=s
  ·repeat' (first|refine Go.a rfl ?_|refine Go.rg ?_|refine GoR.nil ?_|refine Go.ret ?_|refine Go.b rfl ?_|(refine GoR.o (by rfl) (by rfl) ?_;(conv=>arg 1;simp only [G,Z,Y,Gx,un_neg,cutD,decide_true,decide_false,simprocAttr,fb3,fb9,fb31,fb85,fb87,dl,at1,he,decide_true,wrap_succ (show i<4611686018427387904 by omega)]);show GoR ..)|refine Go.condB rfl (fun hc => ?_) (fun hc => ?_))
   refine Go.lpN ?_
   refine Go.keep [(0,.sl none 5 l.length (attsC l)),(1,.str s),(6,o),(7,.int .i64 ((i+1:Nat):Int))] (.cons .refl (.cons .refl (.cons .refl (.cons .refl (.nil))))) ?_
   refine next (i+1,o,S1) (by dsimp only;omega) ⟨h1,?_,hg⟩
   dsimp only
   rw [restL_succ h1,if_pos he]
   exact hacc
  ·obtain ⟨o',S2,hap,hacc2,hg2⟩:=(hacc.app [.own]).append (P:=Tryz.prog) del31 (own:=some S1.length) (m:=1) (new:=l[i].c) (by simp;have:=hg.len;omega) (by omega) ⟨by omega,by omega,by omega,rfl⟩
   simp only [Val.c,Att.c] at at1 hap
   repeat' (first|refine Go.a rfl ?_|refine Go.rg ?_|refine GoR.nil ?_|refine Go.ret ?_|refine Go.b rfl ?_|(refine GoR.o (by rfl) (by rfl) ?_;(conv=>arg 1;simp only [G,Z,Y,Gx,un_neg,cutD,decide_true,decide_false,simprocAttr,fb3,fb9,fb31,fb85,fb87,dl,at1,show decide (l[i].n=s)=false by simp [he],hap,builtin_append,wrap_succ (show i<4611686018427387904 by omega)]);show GoR ..)|refine Go.condB rfl (fun hc => ?_) (fun hc => ?_))
   refine Go.lpN ?_
   refine Go.keep [(0,.sl none 5 l.length (attsC l)),(1,.str s),(6,o'),(7,.int .i64 ((i+1:Nat):Int))] (.cons .refl (.cons .refl (.cons .refl (.cons .refl (.nil))))) ?_
   refine next (i+1,o',S2) (by dsimp only;omega) ⟨h1,?_,hg.trans (Grown.app.trans hg2)⟩
   dsimp only
   rw [restL_succ h1,if_neg he,List.length_append,show attsC (restL (l.take i) s++[l[i]])=attsC (restL (l.take i) s)++l[i].c by simp [attsC]]
   exact hacc2
 ·clear next
  have e:i=l.length:=by omega
  subst e
  have dl:decide ((l.length:Int)<(l.length:Int))=false:=by simp
  rw [List.take_length] at hacc
  obtain ⟨E,hE⟩:=hg.pre [] S rfl (by simp)
  have hw:=hacc.wf
  rcases hacc with ⟨ho,h0,h00⟩ | ⟨ho,h0,h00⟩ | ⟨id,h0,ho,h00⟩
  ·subst ho
   have hl0:restL l s=[]:=List.eq_nil_of_length_eq_zero h0
   rw [hl0] at hw ⊢
   repeat' (first|refine Go.a rfl ?_|refine Go.rg ?_|refine GoR.nil ?_|refine Go.ret ?_|refine Go.b rfl ?_|(refine GoR.o (by rfl) (by rfl) ?_;(conv=>arg 1;simp only [G,Z,Y,Gx,un_neg,cutD,decide_true,decide_false,simprocAttr,fb3,fb9,fb31,fb85,fb87,dl]);show GoR ..)|refine Go.condB rfl (fun hc => ?_) (fun hc => ?_))
   refine ⟨(by first | exact .inl rfl | exact .inr rfl),fin ?_⟩
   rw [resD_two (fn:=Tryz.f85) rfl]
   simp only [optThen_some,resultD_tmp,resultD_cell,G,Z,Y,Gx,un_neg,cutD,decide_true,decide_false,simprocAttr,fb3,fb9,fb31,fb85,fb87]
   refine ⟨_,E,hE,(Wf.tup' (.cons hw (.cons .refl .nil))).to_Wk (.tup' (.cons (attsD_low []) (.cons (.bool _) .nil))),?_⟩
   simp [attsD]
  ·subst ho
   have hl0:restL l s=[]:=List.eq_nil_of_length_eq_zero h0
   rw [hl0] at hw ⊢
   repeat' (first|refine Go.a rfl ?_|refine Go.rg ?_|refine GoR.nil ?_|refine Go.ret ?_|refine Go.b rfl ?_|(refine GoR.o (by rfl) (by rfl) ?_;(conv=>arg 1;simp only [G,Z,Y,Gx,un_neg,cutD,decide_true,decide_false,simprocAttr,fb3,fb9,fb31,fb85,fb87,dl]);show GoR ..)|refine Go.condB rfl (fun hc => ?_) (fun hc => ?_))
   refine ⟨(by first | exact .inl rfl | exact .inr rfl),fin ?_⟩
   rw [resD_two (fn:=Tryz.f85) rfl]
   simp only [optThen_some,resultD_tmp,resultD_cell,G,Z,Y,Gx,un_neg,cutD,decide_true,decide_false,simprocAttr,fb3,fb9,fb31,fb85,fb87]
   refine ⟨_,E,hE,(Wf.tup' (.cons hw (.cons .refl .nil))).to_Wk (.tup' (.cons (attsD_low []) (.cons (.bool _) .nil))),?_⟩
   simp [attsD]
  ·subst ho
   repeat' (first|refine Go.a rfl ?_|refine Go.rg ?_|refine GoR.nil ?_|refine Go.ret ?_|refine Go.b rfl ?_|(refine GoR.o (by rfl) (by rfl) ?_;(conv=>arg 1;simp only [G,Z,Y,Gx,un_neg,cutD,decide_true,decide_false,simprocAttr,fb3,fb9,fb31,fb85,fb87,dl]);show GoR ..)|refine Go.condB rfl (fun hc => ?_) (fun hc => ?_))
   refine ⟨(by first | exact .inl rfl | exact .inr rfl),fin ?_⟩
   rw [resD_two (fn:=Tryz.f85) rfl]
   simp only [optThen_some,resultD_tmp,resultD_cell,G,Z,Y,Gx,un_neg,cutD,decide_true,decide_false,simprocAttr,fb3,fb9,fb31,fb85,fb87]
   refine ⟨_,E,hE,(Wf.tup' (.cons hw (.cons .refl .nil))).to_Wk (.tup' (.cons (attsD_low _) (.cons (.bool _) .nil))),?_⟩
   simp [attsD]
theorem posN_lt : ∀ {l:List Att} {s:ByteArray} {i:Nat} (h:i<l.length),i<posN l s→ltB l[i].n s=true
 | a::l,s,0,h,hp=>by
  simp only [posN,List.takeWhile_cons] at hp
  split at hp
  ·assumption
  ·simp at hp
 | a::l,s,i+1,h,hp=>by
  simp only [posN,List.takeWhile_cons] at hp
  split at hp
  ·exact posN_lt (l:=l) (i:=i) (by simpa using h) (by simpa [posN] using hp)
  ·simp at hp
theorem posN_ge : ∀ {l:List Att} {s:ByteArray} (h:posN l s<l.length),ltB (l[posN l s]'h).n s=false
 | a::l,s,h=>by
  cases hq:ltB a.n s with
  | true=>
   have e:posN (a::l) s=posN l s+1:=by simp [posN,List.takeWhile_cons,hq]
   have:=posN_ge (l:=l) (s:=s) (by rw [e] at h;simpa using h)
   simp only [e,List.getElem_cons_succ]
   exact this
  | false=>
   have e:posN (a::l) s=0:=by simp [posN,List.takeWhile_cons,hq]
   simp only [e,List.getElem_cons_zero]
   exact hq
theorem posN_le (l:List Att) (s:ByteArray):posN l s≤l.length:=by
 have:=(List.takeWhile_prefix (fun a:Att=>ltB a.n s) (l:=l)).length_le
 exact this
theorem atts_cut0 {x:List Att} {k:Nat} (h:k≤x.length) {P:Program} {t:TypeId} (hu:P.underlying t=some (.slice 87)) (hs:AM.sizeA P 87=some 5) {kk:IntKind} :
  sliceD P t (attsD x) none (some (.int kk (k:Int))) none=some (attsD (x.take k)):=by
 rw [attsD,cut_sl hu hs]
 simp only [optNatD,natD,Int.natCast_nonneg,if_true,Option.map_some,Option.bind_some,Int.toNat_natCast,DM.cutD]
 simp [attsD,List.length_take,Nat.min_eq_left h,atts_take h,h]
theorem atts_cut1 {x:List Att} {k:Nat} (h:k≤x.length) {P:Program} {t:TypeId} (hu:P.underlying t=some (.slice 87)) (hs:AM.sizeA P 87=some 5) {kk:IntKind} :
  sliceD P t (attsD x) (some (.int kk (k:Int))) none none=some (attsD (x.drop k)):=by
 rw [attsD,cut_sl hu hs]
 simp only [optNatD,natD,Int.natCast_nonneg,if_true,Option.map_some,Option.bind_some,Int.toNat_natCast,DM.cutD]
 have:(attsC (x.drop k)).length≤(x.length - k)*5:=by rw [attsC_len,List.length_drop];exact Nat.le_refl _
 simp [attsD,atts_drop h,h,List.take_of_length_le this]
theorem refWith (l:List Att) (s:ByteArray) (v:Val) (hl:l.length<100000) (S:Mem) :
  CallD Tryz.prog orc 45 [.sl none 5 l.length (attsC l),.str s,.agg v.c] S fun d S'=>S'=S∧d=attsD (withL l s v):=by
 have hdrop:=fun S=>refDrop (orc:=orc) l s hl S
 have hle:=restL_le l s
 unfold withL
 generalize restL l s=x at *
 simp only [Val.c]
 refine CallD.e Tryz.func45 rfl Tryz.ntmps45 (by rfl) ?_
 repeat' (first|refine Go.a rfl ?_|refine Go.rg ?_|refine GoR.nil ?_|refine Go.ret ?_|refine Go.b rfl ?_|refine Go.rgS dmx (by decide) ?_|refine Go.rgD [6,8] (fun _=>True) dmx (by decide) 9 (by decide) (by trivial) ?_|refine GoW.nil rfl ?_|(refine GoW.newL (by decide) (by rfl) rfl (by trivial) ?_;(conv=>arg 1;simp only [G,Z,Y,Gx,un_neg,cutD,decide_true,decide_false,simprocAttr,fb2,fb3,fb9,fb31,fb51,fb85,fb87]);refine ⟨by first|rfl|simp,by first|rfl|simp,LowL.mem (by repeat' (first | exact .nil | refine .cons ?_ ?_ | exact .str _ | exact .int _ _ | exact .bool _ | exact .nils | assumption)),?_⟩;show GoW ..)|((first|refine GoR.o (by rfl) (by rfl) ?_|refine GoW.o (by rfl) (by rfl) ?_|refine GoW.rd (by rfl) (by rfl) ?_);(conv=>arg 1;simp only [G,Z,Y,Gx,un_neg,cutD,decide_true,decide_false,simprocAttr,fb2,fb3,fb9,fb31,fb51,fb85,fb87]);first|show GoR ..|(show _∧GoW ..;refine ⟨by exact fun _=>trivial,?_⟩)|(show _∧_∧_∧GoW ..;refine ⟨rfl,by trivial,(fun H _=>by simp only [G,Z,Y,Gx,un_neg,cutD,decide_true,decide_false,simprocAttr,fb2,fb3,fb9,fb31,fb51,fb85,fb87]),?_⟩))|(refine GoW.c c85 (by rfl) (by rfl) rfl ?_;(refine (hdrop _).ret ?_);refine ⟨by exact fun _=>trivial,?_⟩)|(refine GoR.c c85 (by rfl) (by rfl) rfl ?_;(refine (hdrop _).ret ?_))|refine GoR.s (by rfl) rfl rfl ?_|refine GoW.s (by rfl) rfl rfl (by exact fun _=>trivial) ?_|(refine GoR.splitG rfl (fun hc => ?_) (fun hc => ?_)<;>simp only [hc])|refine Go.condB rfl (fun hc => ?_) (fun hc => ?_))
 refine Go.keep [(1,.str s),(5,.ptr S.length 0),(7,attsD x),(9,.int .i64 ((0:Nat):Int))] (.cons .refl (.cons .refl (.cons .refl (.cons .refl (.nil))))) ?_
 refine Go.while (α:=Nat) (fun i=>x.length - i) (fun i=>[(1,.str s),(5,.ptr S.length 0),(7,attsD x),(9,.int .i64 (i:Int))]) (fun _=>S++[.obj [.int .i64 v.k,.int .i64 v.i,.str v.s,.sl none 1 v.l.length (intsD v.l)]])
  (fun i=>i≤posN x s) ?_ 0 (Nat.zero_le _)
 intro i hi next
 have hpl:=posN_le x s
 unfold attsD
 by_cases h1:i<posN x s
 ·have hlt:i<x.length:=by omega
  have hbl:Op.bytesLess x[i].n.toList s.toList=true:=posN_lt hlt h1
  repeat' (first|refine Go.a rfl ?_|refine Go.rg ?_|refine GoR.nil ?_|refine Go.ret ?_|refine Go.b rfl ?_|refine Go.rgS dmx (by decide) ?_|refine Go.rgD [6,8] (fun _=>True) dmx (by decide) 9 (by decide) (by trivial) ?_|refine GoW.nil rfl ?_|(refine GoW.newL (by decide) (by rfl) rfl (by trivial) ?_;(conv=>arg 1;simp only [G,Z,Y,Gx,un_neg,cutD,decide_true,decide_false,simprocAttr,fb2,fb3,fb9,fb31,fb51,fb85,fb87,show decide ((i:Int)<(x.length:Int))=true by simp;omega,attsAt hlt,hbl,wrap_succ (show i<4611686018427387904 by omega)]);refine ⟨by first|rfl|simp,by first|rfl|simp,LowL.mem (by repeat' (first | exact .nil | refine .cons ?_ ?_ | exact .str _ | exact .int _ _ | exact .bool _ | exact .nils | assumption)),?_⟩;show GoW ..)|((first|refine GoR.o (by rfl) (by rfl) ?_|refine GoW.o (by rfl) (by rfl) ?_|refine GoW.rd (by rfl) (by rfl) ?_);(conv=>arg 1;simp only [G,Z,Y,Gx,un_neg,cutD,decide_true,decide_false,simprocAttr,fb2,fb3,fb9,fb31,fb51,fb85,fb87,show decide ((i:Int)<(x.length:Int))=true by simp;omega,attsAt hlt,hbl,wrap_succ (show i<4611686018427387904 by omega)]);first|show GoR ..|(show _∧GoW ..;refine ⟨by exact fun _=>trivial,?_⟩)|(show _∧_∧_∧GoW ..;refine ⟨rfl,by trivial,(fun H _=>by simp only [G,Z,Y,Gx,un_neg,cutD,decide_true,decide_false,simprocAttr,fb2,fb3,fb9,fb31,fb51,fb85,fb87,show decide ((i:Int)<(x.length:Int))=true by simp;omega,attsAt hlt,hbl,wrap_succ (show i<4611686018427387904 by omega)]),?_⟩))|refine GoR.s (by rfl) rfl rfl ?_|refine GoW.s (by rfl) rfl rfl (by exact fun _=>trivial) ?_|(refine GoR.splitG rfl (fun hc => ?_) (fun hc => ?_)<;>simp only [hc])|refine Go.condB rfl (fun hc => ?_) (fun hc => ?_))
  refine Go.lpN ?_
  refine Go.keep [(1,.str s),(5,.ptr S.length 0),(7,.sl none 5 x.length (attsC x)),(9,.int .i64 ((i+1:Nat):Int))] (.cons .refl (.cons .refl (.cons .refl (.cons .refl (.nil))))) ?_
  exact next (i+1) (by omega) h1
 ·clear next
  have e:i=posN x s:=by omega
  subst e
  have c0:=fun kk=>atts_cut0 (x:=x) hpl (P:=Tryz.prog) (t:=31) Tryz.underlying31 dsz87 (kk:=kk)
  have c1:=fun kk=>atts_cut1 (x:=x) hpl (P:=Tryz.prog) (t:=31) Tryz.underlying31 dsz87 (kk:=kk)
  generalize hk:posN x s=k at *
  simp only [attsD] at c0 c1
  have hl0:DLow 0 (D.sl none 1 v.l.length (intsD v.l)):=.sl none 1 _ _ (fun id h=>by cases h) intsD_low.get
  have hV:objAt (S++[.obj [.int .i64 v.k,.int .i64 v.i,.str v.s,.sl none 1 v.l.length (intsD v.l)],.own]) S.length=some [.int .i64 v.k,.int .i64 v.i,.str v.s,.sl none 1 v.l.length (intsD v.l)]:=objAt1
  have hacc:AccD S.length (.sl (some (S.length+1)) 5 0 []) 5 0 [] (S++[.obj [.int .i64 v.k,.int .i64 v.i,.str v.s,.sl none 1 v.l.length (intsD v.l)],.own]):=.inr (.inr ⟨S.length+1,by omega,rfl,by simp⟩)
  have hM:Grown S.length S (S++[.obj [.int .i64 v.k,.int .i64 v.i,.str v.s,.sl none 1 v.l.length (intsD v.l)],.own]):=Grown.app
  obtain ⟨o1,S2,hap1,hacc1,hg1⟩:=hacc.appendZ (P:=Tryz.prog) del31 (own:=none) (m:=(x.take k).length) (new:=attsC (x.take k)) (by simp) (fun h=>by rw [List.eq_nil_of_length_eq_zero h];rfl) ⟨by rw [List.length_take];omega,by rw [List.length_take];omega,by omega,atts_one _⟩
  have hI2:=hg1.obj _ _ hV
  obtain ⟨o2,S3,hap2,hacc2,hg2⟩:=hacc1.appendZ (P:=Tryz.prog) del31 (own:=none) (m:=1) (new:=[.str s,.int .i64 v.k,.int .i64 v.i,.str v.s,.sl none 1 v.l.length (intsD v.l)]) (Nat.le_trans hM.len hg1.len) (by omega) ⟨by rw [List.length_take];omega,by rw [List.length_take];omega,by omega,rfl⟩
  obtain ⟨o3,S4,hap3,hacc3,hg3⟩:=hacc2.appendZ (P:=Tryz.prog) del31 (own:=none) (m:=(x.drop k).length) (new:=attsC (x.drop k)) (Nat.le_trans hM.len (Nat.le_trans hg1.len hg2.len)) (fun h=>by rw [List.eq_nil_of_length_eq_zero h];rfl) ⟨by rw [List.length_take,List.length_drop];omega,by rw [List.length_take,List.length_drop];omega,by omega,atts_one _⟩
  obtain ⟨E,hE⟩:=(hM.trans (hg1.trans (hg2.trans hg3))).pre [] S rfl (by simp)
  have hcells:[]++attsC (x.take k)++[.str s,.int .i64 v.k,.int .i64 v.i,.str v.s,.sl none 1 v.l.length (intsD v.l)]++attsC (x.drop k)=attsC (x.take k++⟨s,v⟩::x.drop k):=by simp [attsC,Att.c]
  have hlen3:0+(x.take k).length+1+(x.drop k).length=(x.take k++⟨s,v⟩::x.drop k).length:=by simp;omega
  by_cases hx:k<x.length
  ·have hbl:Op.bytesLess x[k].n.toList s.toList=false:=by subst hk;exact posN_ge hx
   repeat' (first|refine Go.a rfl ?_|refine Go.rg ?_|refine GoR.nil ?_|refine Go.ret ?_|refine Go.b rfl ?_|refine Go.rgS dmx (by decide) ?_|refine Go.rgD [6,8] (fun H=>objAt H S.length=some [.int .i64 v.k,.int .i64 v.i,.str v.s,.sl none 1 v.l.length (intsD v.l)]) dmx (by decide) 9 (by decide) (by (first | exact hI2 | simp only [List.append_assoc,List.cons_append,List.nil_append,objAt_app,objAt_app0,objAt_succ,objAt_zero])) ?_|refine GoW.nil rfl ?_|(refine GoW.newL (by decide) (by rfl) rfl (by (first | exact hI2 | simp only [List.append_assoc,List.cons_append,List.nil_append,objAt_app,objAt_app0,objAt_succ,objAt_zero])) ?_;(conv=>arg 1;simp only [G,Z,Y,Gx,un_neg,cutD,decide_true,decide_false,simprocAttr,fb2,fb3,fb9,fb31,fb51,fb85,fb87,show decide ((k:Int)<(x.length:Int))=true by simp;omega,attsAt hx,hbl,hI2,c0,c1,hap1,hap2,hap3,builtin_append]);refine ⟨by first|rfl|simp,by first|rfl|simp,LowL.mem (by repeat' (first | exact .nil | refine .cons ?_ ?_ | exact .str _ | exact .int _ _ | exact .bool _ | exact .nils | assumption)),?_⟩;show GoW ..)|((first|refine GoR.o (by rfl) (by rfl) ?_|refine GoW.o (by rfl) (by rfl) ?_|refine GoW.rd (by rfl) (by rfl) ?_);(conv=>arg 1;simp only [G,Z,Y,Gx,un_neg,cutD,decide_true,decide_false,simprocAttr,fb2,fb3,fb9,fb31,fb51,fb85,fb87,show decide ((k:Int)<(x.length:Int))=true by simp;omega,attsAt hx,hbl,hI2,c0,c1,hap1,hap2,hap3,builtin_append]);first|show GoR ..|(show _∧GoW ..;refine ⟨by (first|exact fun h=>absurd h (by decide)|(intro _;(first | exact hI2 | simp only [List.append_assoc,List.cons_append,List.nil_append,objAt_app,objAt_app0,objAt_succ,objAt_zero]))),?_⟩)|(show _∧_∧_∧GoW ..;refine ⟨rfl,by (first | exact hI2 | simp only [List.append_assoc,List.cons_append,List.nil_append,objAt_app,objAt_app0,objAt_succ,objAt_zero]),(fun H hI=>by (try dsimp only at hI);simp only [G,Z,Y,Gx,un_neg,cutD,decide_true,decide_false,simprocAttr,fb2,fb3,fb9,fb31,fb51,fb85,fb87,show decide ((k:Int)<(x.length:Int))=true by simp;omega,attsAt hx,hbl,hI2,c0,c1,hap1,hap2,hap3,builtin_append,hI]),?_⟩))|refine GoR.s (by rfl) rfl rfl ?_|refine GoW.s (by rfl) rfl rfl (by (first|exact fun h=>absurd h (by decide)|(intro _;(first | exact hI2 | simp only [List.append_assoc,List.cons_append,List.nil_append,objAt_app,objAt_app0,objAt_succ,objAt_zero])))) ?_|(refine GoR.splitG rfl (fun hc => ?_) (fun hc => ?_)<;>simp only [hc])|refine Go.condB rfl (fun hc => ?_) (fun hc => ?_))
   refine ⟨(by first | exact .inl rfl | exact .inr rfl),fin ?_⟩
   rw [resD_tmp (fn:=Tryz.f45) rfl]
   simp only [optThen_some,resultD_tmp,resultD_cell,G,Z,Y,Gx,un_neg,cutD,decide_true,decide_false,simprocAttr,fb2,fb3,fb9,fb31,fb51,fb85,fb87]
   refine ⟨_,E,hE,(hacc3.wf).to_Wk (.sl none 5 _ _ (fun id h=>by cases h) (LowL.get ?_)),?_⟩
   ·rw [hcells];exact atts_low _
   ·rw [hcells,hlen3]
    simp
  ·repeat' (first|refine Go.a rfl ?_|refine Go.rg ?_|refine GoR.nil ?_|refine Go.ret ?_|refine Go.b rfl ?_|refine Go.rgS dmx (by decide) ?_|refine Go.rgD [6,8] (fun H=>objAt H S.length=some [.int .i64 v.k,.int .i64 v.i,.str v.s,.sl none 1 v.l.length (intsD v.l)]) dmx (by decide) 9 (by decide) (by (first | exact hI2 | simp only [List.append_assoc,List.cons_append,List.nil_append,objAt_app,objAt_app0,objAt_succ,objAt_zero])) ?_|refine GoW.nil rfl ?_|(refine GoW.newL (by decide) (by rfl) rfl (by (first | exact hI2 | simp only [List.append_assoc,List.cons_append,List.nil_append,objAt_app,objAt_app0,objAt_succ,objAt_zero])) ?_;(conv=>arg 1;simp only [G,Z,Y,Gx,un_neg,cutD,decide_true,decide_false,simprocAttr,fb2,fb3,fb9,fb31,fb51,fb85,fb87,show decide ((k:Int)<(x.length:Int))=false by simp;omega,hI2,c0,c1,hap1,hap2,hap3,builtin_append]);refine ⟨by first|rfl|simp,by first|rfl|simp,LowL.mem (by repeat' (first | exact .nil | refine .cons ?_ ?_ | exact .str _ | exact .int _ _ | exact .bool _ | exact .nils | assumption)),?_⟩;show GoW ..)|((first|refine GoR.o (by rfl) (by rfl) ?_|refine GoW.o (by rfl) (by rfl) ?_|refine GoW.rd (by rfl) (by rfl) ?_);(conv=>arg 1;simp only [G,Z,Y,Gx,un_neg,cutD,decide_true,decide_false,simprocAttr,fb2,fb3,fb9,fb31,fb51,fb85,fb87,show decide ((k:Int)<(x.length:Int))=false by simp;omega,hI2,c0,c1,hap1,hap2,hap3,builtin_append]);first|show GoR ..|(show _∧GoW ..;refine ⟨by (first|exact fun h=>absurd h (by decide)|(intro _;(first | exact hI2 | simp only [List.append_assoc,List.cons_append,List.nil_append,objAt_app,objAt_app0,objAt_succ,objAt_zero]))),?_⟩)|(show _∧_∧_∧GoW ..;refine ⟨rfl,by (first | exact hI2 | simp only [List.append_assoc,List.cons_append,List.nil_append,objAt_app,objAt_app0,objAt_succ,objAt_zero]),(fun H hI=>by (try dsimp only at hI);simp only [G,Z,Y,Gx,un_neg,cutD,decide_true,decide_false,simprocAttr,fb2,fb3,fb9,fb31,fb51,fb85,fb87,show decide ((k:Int)<(x.length:Int))=false by simp;omega,hI2,c0,c1,hap1,hap2,hap3,builtin_append,hI]),?_⟩))|refine GoR.s (by rfl) rfl rfl ?_|refine GoW.s (by rfl) rfl rfl (by (first|exact fun h=>absurd h (by decide)|(intro _;(first | exact hI2 | simp only [List.append_assoc,List.cons_append,List.nil_append,objAt_app,objAt_app0,objAt_succ,objAt_zero])))) ?_|(refine GoR.splitG rfl (fun hc => ?_) (fun hc => ?_)<;>simp only [hc])|refine Go.condB rfl (fun hc => ?_) (fun hc => ?_))
   refine ⟨(by first | exact .inl rfl | exact .inr rfl),fin ?_⟩
   rw [resD_tmp (fn:=Tryz.f45) rfl]
   simp only [optThen_some,resultD_tmp,resultD_cell,G,Z,Y,Gx,un_neg,cutD,decide_true,decide_false,simprocAttr,fb2,fb3,fb9,fb31,fb51,fb85,fb87]
   refine ⟨_,E,hE,(hacc3.wf).to_Wk (.sl none 5 _ _ (fun id h=>by cases h) (LowL.get ?_)),?_⟩
   ·rw [hcells];exact atts_low _
   ·rw [hcells,hlen3]
    simp
end Go.Proofs.DvT
