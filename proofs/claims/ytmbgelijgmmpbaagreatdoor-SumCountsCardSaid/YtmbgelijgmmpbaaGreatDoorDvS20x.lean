/- What the law's own helpers on values and attributes do. -/
import Derived.Test.YtmbgelijgmmpbaaGreatDoorDvS10x
set_option linter.unusedSimpArgs false
set_option linter.unusedVariables false
namespace Go.Proofs.DvT
open Go Go.DM Go.Proofs.DvF
set_option maxRecDepth 100000
variable {orc:DOracle}
structure Val where
 k:Int
 i:Int
 s:ByteArray
 l:List Int
theorem intsD_low {n:Nat} {l:List Int} : LowL n (intsD l):=.of_mem (by simp [intsD];intros;constructor)
def Val.c (v:Val):List D:=[.int .i64 v.k,.int .i64 v.i,.str v.s,.sl none 1 v.l.length (intsD v.l)]
structure Att where
 n:ByteArray
 v:Val
def Att.c (a:Att):List D:=[.str a.n,.int .i64 a.v.k,.int .i64 a.v.i,.str a.v.s,.sl none 1 a.v.l.length (intsD a.v.l)]
def attsC (l:List Att):List D:=l.flatMap Att.c
theorem Val.low {n:Nat} {k i:Int} {s:ByteArray} {m:Nat} {l:List Int} : LowL n [.int .i64 k,.int .i64 i,.str s,.sl none 1 m (intsD l)]:=.cons (.int _ _) (.cons (.int _ _) (.cons (.str _) (.cons (.sl' intsD_low) .nil)))
theorem few2 (v:Val) (S:Mem):CallD Tryz.prog orc 87 [.agg v.c] S fun d S'=>S'=S∧d = .bool (decide (v.s.size≤200)&&decide (v.l.length≤40)):=by
 obtain ⟨k,i,s,l⟩:=v
 simp only [Val.c]
 refine CallD.e Tryz.func87 rfl Tryz.ntmps87 (by rfl) ?_
 repeat' (first|refine Go.a rfl ?_|refine Go.rg ?_|refine GoR.nil ?_|refine Go.ret ?_|refine Go.b rfl ?_|(refine GoR.o (by rfl) (by rfl) ?_;(conv=>arg 1;simp only [G,Z,Y,Gx,un_neg,cutD,decide_true,decide_false,simprocAttr,fb2,fb3,fb9,fb51,fb53]);show GoR ..)|refine GoR.s (by rfl) rfl rfl ?_|(refine GoR.splitG rfl (fun hc => ?_) (fun hc => ?_)<;>simp only [hc])|refine Go.condB rfl (fun hc => ?_) (fun hc => ?_))
 ·refine ⟨(by first | exact .inl rfl | exact .inr rfl),fin ?_⟩
  rw [resD_tmp (fn:=Tryz.f87) rfl]
  simp only [optThen_some,resultD_tmp,resultD_cell,G,Z,Y,Gx,un_neg,cutD,decide_true,decide_false,simprocAttr,fb2,fb3,fb9,fb51,fb53]
  refine ⟨_,_,rfl,.bool,?_⟩
  simp at hc
  congr 1
  rw [Bool.eq_iff_iff]
  simp
  omega
 ·refine ⟨(by first | exact .inl rfl | exact .inr rfl),fin ?_⟩
  rw [resD_tmp (fn:=Tryz.f87) rfl]
  simp only [optThen_some,resultD_tmp,resultD_cell,G,Z,Y,Gx,un_neg,cutD,decide_true,decide_false,simprocAttr,fb2,fb3,fb9,fb51,fb53]
  refine ⟨_,_,rfl,.bool,?_⟩
  simp at hc
  congr 1
  rw [Bool.eq_iff_iff]
  simp
  omega
theorem of2 (v:Val) (S:Mem):CallD Tryz.prog orc 35 [.agg v.c] S fun d S'=>S'=S∧d = .agg v.c:=by
 obtain ⟨k,i,s,l⟩:=v
 simp only [Val.c]
 refine CallD.e Tryz.func35 rfl Tryz.ntmps35 (by rfl) ?_
 repeat' (first|refine Go.a rfl ?_|refine Go.rg ?_|refine GoR.nil ?_|refine Go.ret ?_|refine Go.b rfl ?_|(refine GoR.o (by rfl) (by rfl) ?_;(conv=>arg 1;simp only [G,Z,Y,Gx,un_neg,cutD,decide_true,decide_false,simprocAttr,fb2,fb3,fb9,fb51,fb53,fb85]);show GoR ..)|refine Go.condB rfl (fun hc => ?_) (fun hc => ?_))
 refine ⟨(by first | exact .inl rfl | exact .inr rfl),fin ?_⟩
 rw [resD_cell (fn:=Tryz.f35) rfl]
 simp only [optThen_some,resultD_tmp,resultD_cell,G,Z,Y,Gx,un_neg,cutD,decide_true,decide_false,simprocAttr,fb2,fb3,fb9,fb51,fb53,fb85]
 exact ⟨_,_,rfl,.of_low (.agg' Val.low),rfl⟩
theorem clip1 (own:Option Nat) (l:List Int) (S:Mem):CallD Tryz.prog orc 97 [.sl own 1 l.length (intsD l)] S fun d S'=>S'=S∧d = .sl none 1 l.length (intsD l):=by
 refine CallD.e Tryz.func97 rfl Tryz.ntmps97 (by rfl) ?_
 have hll:(intsD l).length=l.length:=by simp [intsD]
 by_cases h0:l.length=0
 ·have hi:intsD l=[]:=by rw [List.length_eq_zero_iff.1 h0];rfl
  rw [hi,h0]
  have c:sliceD Tryz.prog 51 (.sl own 1 0 []) none (some (.int .i64 0)) (some (.int .i64 0))=some .sl0:=by
   simp [sliceD,optNatD,natD,Tryz.underlying51,dsz2]
  repeat' (first|refine Go.a rfl ?_|refine Go.rg ?_|refine GoR.nil ?_|refine Go.ret ?_|refine Go.b rfl ?_|(refine GoR.o (by rfl) (by rfl) ?_;(conv=>arg 1;simp only [G,Z,Y,Gx,un_neg,cutD,decide_true,decide_false,simprocAttr,fb51,c,Option.map_some,Option.map_none]);show GoR ..)|refine Go.condB rfl (fun hc => ?_) (fun hc => ?_))
  refine ⟨(by first | exact .inl rfl | exact .inr rfl),fin ?_⟩
  rw [resD_tmp (fn:=Tryz.f97) rfl]
  simp only [optThen_some,resultD_tmp,resultD_cell,G,Z,Y,Gx,un_neg,cutD,decide_true,decide_false,simprocAttr,fb51]
  exact ⟨_,[],by simp,.sl0E,rfl⟩
 ·generalize l.length=n at *
  have c : ∃ o',sliceD Tryz.prog 51 (.sl own 1 n (intsD l)) none (some (.int .i64 (n:Int))) (some (.int .i64 (n:Int)))=some (.sl o' 1 n (intsD l)):=by
   refine ⟨own,?_⟩
   simp [sliceD,optNatD,natD,Tryz.underlying51,dsz2,h0]
   rw [List.take_of_length_le (by omega)]
  obtain ⟨o',c⟩:=c
  repeat' (first|refine Go.a rfl ?_|refine Go.rg ?_|refine GoR.nil ?_|refine Go.ret ?_|refine Go.b rfl ?_|(refine GoR.o (by rfl) (by rfl) ?_;(conv=>arg 1;simp only [G,Z,Y,Gx,un_neg,cutD,decide_true,decide_false,simprocAttr,fb51,c,Option.map_some,Option.map_none]);show GoR ..)|refine Go.condB rfl (fun hc => ?_) (fun hc => ?_))
  refine ⟨(by first | exact .inl rfl | exact .inr rfl),fin ?_⟩
  rw [resD_tmp (fn:=Tryz.f97) rfl]
  simp only [optThen_some,resultD_tmp,resultD_cell,G,Z,Y,Gx,un_neg,cutD,decide_true,decide_false,simprocAttr,fb51]
  exact ⟨_,[],by simp,.disown intsD_low.get,rfl⟩
theorem Att.len (a:Att):a.c.length=5:=rfl
theorem attsAt {l:List Att} {i:Nat} (h:i<l.length) :
  ((0≤(i:Int)∧(i:Int)<(l.length:Int))=True)∧(attsC l)[i*5]?=some (.str l[i].n)∧((i*5+1+4≤(attsC l).length)=True)∧((attsC l).drop (i*5+1)).take 4=l[i].v.c ∧
  ((i*5+5≤(attsC l).length)=True)∧((attsC l).drop (i*5)).take 5=l[i].c:=
 ⟨ix_ok h,flat_cell0 Att.len l i h (by omega),flat_fits Att.len l i h (by omega),flat_part Att.len l i h (by omega),flat_fits0 Att.len l i h,flat_all Att.len l i h⟩
def fewV (v:Val):Bool:=decide (v.s.size≤200)&&decide (v.l.length≤40)
def fewA (a:Att):Bool:=decide (a.n.size≤100)&&fewV a.v
theorem fewAttrs (l:List Att) (S:Mem):CallD Tryz.prog orc 52 [.sl none 5 l.length (attsC l)] S fun d S'=>S'=S∧d = .bool (decide (l.length≤40)&&l.all fewA):=by
 refine CallD.e Tryz.func52 rfl Tryz.ntmps52 (by rfl) ?_
 repeat' (first|refine Go.a rfl ?_|refine Go.rg ?_|refine GoR.nil ?_|refine Go.ret ?_|refine Go.b rfl ?_|(refine GoR.o (by rfl) (by rfl) ?_;(conv=>arg 1;simp only [G,Z,Y,Gx,un_neg,cutD,decide_true,decide_false,simprocAttr,fb2,fb3,fb9,fb33,fb51,fb53,fb59]);show GoR ..)|refine GoR.s (by rfl) rfl rfl ?_|(refine GoR.splitG rfl (fun hc => ?_) (fun hc => ?_)<;>simp only [hc])|refine Go.condB rfl (fun hc => ?_) (fun hc => ?_))
 ·refine ⟨(by first | exact .inl rfl | exact .inr rfl),fin ?_⟩
  rw [resD_tmp (fn:=Tryz.f52) rfl]
  simp only [optThen_some,resultD_tmp,resultD_cell,G,Z,Y,Gx,un_neg,cutD,decide_true,decide_false,simprocAttr,fb2,fb3,fb9,fb33,fb51,fb53,fb59]
  refine ⟨_,[],by simp,.bool,?_⟩
  simp at hc
  congr 1
  symm
  simp
  omega
 ·have h40:l.length≤40:=by simp at hc;omega
  refine Go.keep [(0,.sl none 5 l.length (attsC l)),(3,.int .i64 ((0:Nat):Int))] (.cons .refl (.cons .refl (.nil))) ?_
  refine Go.while (α:=Nat) (fun i=>l.length - i) (fun i=>[(0,.sl none 5 l.length (attsC l)),(3,.int .i64 (i:Int))]) (fun _=>S) (fun i=>i≤l.length ∧ ∀ j (h:j<l.length),j<i→fewA l[j]=true) ?_ 0 ⟨Nat.zero_le _,by simp⟩
  rintro i ⟨hi,hk⟩ next
  repeat' (first|refine Go.a rfl ?_|refine Go.rg ?_|refine GoR.nil ?_|refine Go.ret ?_|refine Go.b rfl ?_|(refine GoR.o (by rfl) (by rfl) ?_;(conv=>arg 1;simp only [G,Z,Y,Gx,un_neg,cutD,decide_true,decide_false,simprocAttr,fb2,fb3,fb9,fb33,fb51,fb53,fb59]);show GoR ..)|refine GoR.s (by rfl) rfl rfl ?_|(refine GoR.splitG rfl (fun hc => ?_) (fun hc => ?_)<;>simp only [hc])|refine Go.condB rfl (fun hc => ?_) (fun hc => ?_))
  ·have h1:i<l.length:=by simpa using hc
   repeat' (first|refine Go.a rfl ?_|refine Go.rg ?_|refine GoR.nil ?_|refine Go.ret ?_|refine Go.b rfl ?_|(refine GoR.o (by rfl) (by rfl) ?_;(conv=>arg 1;simp only [G,Z,Y,Gx,un_neg,cutD,decide_true,decide_false,simprocAttr,fb2,fb3,fb9,fb33,fb51,fb53,fb59,attsAt h1,wrap_succ (show i<4611686018427387904 by omega)]);show GoR ..)|(refine GoR.c c87 (by rfl) (by rfl) rfl ?_;(refine (few2 _ _).ret ?_))|refine GoR.s (by rfl) rfl rfl ?_|(refine GoR.splitG rfl (fun hc => ?_) (fun hc => ?_)<;>simp only [hc])|refine Go.condB rfl (fun hc => ?_) (fun hc => ?_))
   ·clear next
    refine ⟨(by first | exact .inl rfl | exact .inr rfl),fin ?_⟩
    rw [resD_tmp (fn:=Tryz.f52) rfl]
    simp only [optThen_some,resultD_tmp,resultD_cell,G,Z,Y,Gx,un_neg,cutD,decide_true,decide_false,simprocAttr,fb2,fb3,fb9,fb33,fb51,fb53,fb59]
    refine ⟨_,[],by simp,.bool,?_⟩
    rw [all_false_at h1 (by simp at hc;simp [fewA];omega)]
    simp
   ·clear next
    refine ⟨(by first | exact .inl rfl | exact .inr rfl),fin ?_⟩
    rw [resD_tmp (fn:=Tryz.f52) rfl]
    simp only [optThen_some,resultD_tmp,resultD_cell,G,Z,Y,Gx,un_neg,cutD,decide_true,decide_false,simprocAttr,fb2,fb3,fb9,fb33,fb51,fb53,fb59]
    refine ⟨_,[],by simp,.bool,?_⟩
    have h2:fewV l[i].v=false:=by simp at hc;simp [fewV];omega
    rw [all_false_at h1 (by simp [fewA,h2])]
    simp
   ·refine Go.lpN ?_
    refine Go.keep [(0,.sl none 5 l.length (attsC l)),(3,.int .i64 ((i+1:Nat):Int))] (.cons .refl (.cons .refl (.nil))) ?_
    refine next (i+1) (by omega) ⟨h1,fun j hj hlt => ?_⟩
    clear next
    rcases Nat.lt_or_ge j i with h | h
    ·exact hk j hj h
    ·obtain rfl:j=i:=by omega
     rename_i h3 h4
     simp at h4 hc
     simp [fewA,fewV,hc]
     omega
  ·refine ⟨(by first | exact .inl rfl | exact .inr rfl),fin ?_⟩
   rw [resD_tmp (fn:=Tryz.f52) rfl]
   simp only [optThen_some,resultD_tmp,resultD_cell,G,Z,Y,Gx,un_neg,cutD,decide_true,decide_false,simprocAttr,fb2,fb3,fb9,fb33,fb51,fb53,fb59]
   refine ⟨_,[],by simp,.bool,?_⟩
   have hge:l.length≤i:=by simpa using hc
   rw [all_true_of fun j hj=>hk j hj (by omega)]
   simp [h40]
theorem att_low {n:Nat} (a:Att):LowL n a.c:=.cons (.str _) Val.low
theorem atts_low {n:Nat} (l:List Att):LowL n (attsC l):=.of_mem (by
 intro x hx
 simp only [attsC,List.mem_flatMap] at hx
 obtain ⟨a,_,hx⟩:=hx
 obtain ⟨i,hi,rfl⟩:=List.mem_iff_getElem.1 hx
 exact (att_low a).get i hi)
theorem ofAttrs (l:List Att) (hl:l.length≤1000000) (S:Mem):CallD Tryz.prog orc 12 [.sl none 5 l.length (attsC l)] S fun d S'=>S'=S∧d = .sl none 5 l.length (attsC l):=by
 refine CallD.e Tryz.func12 rfl Tryz.ntmps12 (by rfl) ?_
 repeat' (first|refine Go.a rfl ?_|refine Go.rg ?_|refine GoR.nil ?_|refine Go.ret ?_|refine Go.b rfl ?_|refine Go.rgS dmx (by decide) ?_|refine Go.rgD [5] (fun _=>True) dmx (by decide) 13 (by decide) (by trivial) ?_|refine GoW.nil rfl ?_|((first|refine GoR.o (by rfl) (by rfl) ?_|refine GoW.o (by rfl) (by rfl) ?_|refine GoW.rd (by rfl) (by rfl) ?_);(conv=>arg 1;simp only [G,Z,Y,Gx,un_neg,cutD,decide_true,decide_false,simprocAttr,fb2,fb3,fb9,fb31,fb33,fb51,fb53,fb59,fb85,fb87]);first|show GoR ..|(show _∧GoW ..;refine ⟨by exact fun _=>trivial,?_⟩)|(show _∧_∧_∧GoW ..;refine ⟨rfl,by trivial,(fun H _=>by simp only [G,Z,Y,Gx,un_neg,cutD,decide_true,decide_false,simprocAttr,fb2,fb3,fb9,fb31,fb33,fb51,fb53,fb59,fb85,fb87]),?_⟩))|refine Go.condB rfl (fun hc => ?_) (fun hc => ?_))
 refine Go.keep [(0,.sl none 5 l.length (attsC l)),(3,.nils),(4,.int .i64 ((0:Nat):Int))] (.cons .refl (.cons .refl (.cons .refl (.nil)))) ?_
 refine Go.while (α:=Nat×D×Mem) (fun a=>l.length - a.1) (fun a=>[(0,.sl none 5 l.length (attsC l)),(3,a.2.1),(4,.int .i64 (a.1:Int))]) (fun a=>a.2.2)
  (fun a=>a.1≤l.length∧AccD S.length a.2.1 5 a.1 (attsC (l.take a.1)) a.2.2∧Grown S.length S a.2.2) ?_ (0,.nils,S) ⟨Nat.zero_le _,.inl ⟨rfl,rfl,rfl⟩,.refl⟩
 rintro ⟨i,o,S1⟩ ⟨hi,hacc,hg⟩ next
 dsimp only at hi hacc hg next
 repeat' (first|refine Go.a rfl ?_|refine Go.rg ?_|refine GoR.nil ?_|refine Go.ret ?_|refine Go.b rfl ?_|refine Go.rgS dmx (by decide) ?_|refine Go.rgD [5] (fun _=>True) dmx (by decide) 13 (by decide) (by trivial) ?_|refine GoW.nil rfl ?_|((first|refine GoR.o (by rfl) (by rfl) ?_|refine GoW.o (by rfl) (by rfl) ?_|refine GoW.rd (by rfl) (by rfl) ?_);(conv=>arg 1;simp only [G,Z,Y,Gx,un_neg,cutD,decide_true,decide_false,simprocAttr,fb2,fb3,fb9,fb31,fb33,fb51,fb53,fb59,fb85,fb87]);first|show GoR ..|(show _∧GoW ..;refine ⟨by exact fun _=>trivial,?_⟩)|(show _∧_∧_∧GoW ..;refine ⟨rfl,by trivial,(fun H _=>by simp only [G,Z,Y,Gx,un_neg,cutD,decide_true,decide_false,simprocAttr,fb2,fb3,fb9,fb31,fb33,fb51,fb53,fb59,fb85,fb87]),?_⟩))|refine Go.condB rfl (fun hc => ?_) (fun hc => ?_))
 ·have h1:i<l.length:=by simpa using hc
  obtain ⟨o',S2,hap,hacc2,hg2⟩:=(hacc.app [.own]).append (P:=Tryz.prog) del31 (own:=some S1.length) (m:=1) (new:=l[i].c) (by simp;have:=hg.len;omega) (by omega) ⟨by omega,by omega,by omega,rfl⟩
  simp only [Att.c] at hap
  repeat' (first|refine Go.a rfl ?_|refine Go.rg ?_|refine GoR.nil ?_|refine Go.ret ?_|refine Go.b rfl ?_|refine Go.rgS dmx (by decide) ?_|refine Go.rgD [5] (fun _=>True) dmx (by decide) 13 (by decide) (by trivial) ?_|refine GoW.nil rfl ?_|((first|refine GoR.o (by rfl) (by rfl) ?_|refine GoW.o (by rfl) (by rfl) ?_|refine GoW.rd (by rfl) (by rfl) ?_);(conv=>arg 1;simp only [G,Z,Y,Gx,un_neg,cutD,decide_true,decide_false,simprocAttr,fb2,fb3,fb9,fb31,fb33,fb51,fb53,fb59,fb85,fb87,attsAt h1,wrap_succ (show i<4611686018427387904 by omega),Val.c,hap,builtin_append]);first|show GoR ..|(show _∧GoW ..;refine ⟨by exact fun _=>trivial,?_⟩)|(show _∧_∧_∧GoW ..;refine ⟨rfl,by trivial,(fun H _=>by simp only [G,Z,Y,Gx,un_neg,cutD,decide_true,decide_false,simprocAttr,fb2,fb3,fb9,fb31,fb33,fb51,fb53,fb59,fb85,fb87,attsAt h1,wrap_succ (show i<4611686018427387904 by omega),Val.c,hap,builtin_append]),?_⟩))|(refine GoW.c c35 (by rfl) (by rfl) rfl ?_;(refine (of2 _ _).ret ?_);refine ⟨by exact fun _=>trivial,?_⟩)|(refine GoR.c c35 (by rfl) (by rfl) rfl ?_;(refine (of2 _ _).ret ?_))|refine Go.condB rfl (fun hc => ?_) (fun hc => ?_))
  refine Go.lpN ?_
  refine Go.keep [(0,.sl none 5 l.length (attsC l)),(3,o'),(4,.int .i64 ((i+1:Nat):Int))] (.cons .refl (.cons .refl (.cons .refl (.nil)))) ?_
  refine next (i+1,o',S2) (by dsimp only;omega) ⟨h1,?_,hg.trans (Grown.app.trans hg2)⟩
  have e:attsC (l.take (i+1))=attsC (l.take i)++l[i].c:=flat_take_succ h1
  dsimp only
  rw [e]
  exact hacc2
 ·clear next
  refine ⟨(by first | exact .inl rfl | exact .inr rfl),fin ?_⟩
  rw [resD_tmp (fn:=Tryz.f12) rfl]
  simp only [optThen_some,resultD_tmp,resultD_cell,G,Z,Y,Gx,un_neg,cutD,decide_true,decide_false,simprocAttr,fb2,fb3,fb9,fb31,fb33,fb51,fb53,fb59,fb85,fb87]
  have hi':i=l.length:=by
                 have:l.length≤i:=by simpa using hc
                 omega
  subst hi'
  rw [List.take_length] at hacc
  obtain ⟨E,hE⟩:=hg.pre [] S rfl (by simp)
  exact ⟨_,E,hE,hacc.wf.to_Wk (.sl' (atts_low l)),rfl⟩
end Go.Proofs.DvT
namespace Go.Proofs.DvT
open Go Go.DM Go.Proofs.DvF
set_option maxRecDepth 100000
variable {orc:DOracle}
theorem find1 (a:Att) (s:ByteArray) (S:Mem):CallD Tryz.prog orc 96 [.agg a.c,.str s] S fun d S'=>S'=S∧d = .int .i64 (cmpB a.n s):=by
 obtain ⟨n,v⟩:=a
 simp only [Att.c]
 refine CallD.e Tryz.func96 rfl Tryz.ntmps96 (by rfl) ?_
 repeat' (first|refine Go.a rfl ?_|refine Go.rg ?_|refine GoR.nil ?_|refine Go.ret ?_|refine Go.b rfl ?_|(refine GoR.o (by rfl) (by rfl) ?_;(conv=>arg 1;simp only [G,Z,Y,Gx,un_neg,cutD,decide_true,decide_false,simprocAttr,fb9,fb53,fb59]);show GoR ..)|(refine GoR.c c93 (by rfl) (by rfl) rfl ?_;(refine (compareS _ _ _).ret ?_))|refine Go.condB rfl (fun hc => ?_) (fun hc => ?_))
 refine ⟨(by first | exact .inl rfl | exact .inr rfl),fin ?_⟩
 rw [resD_tmp (fn:=Tryz.f96) rfl]
 simp only [optThen_some,resultD_tmp,resultD_cell,G,Z,Y,Gx,un_neg,cutD,decide_true,decide_false,simprocAttr,fb9,fb53,fb59]
 exact ⟨_,_,rfl,.int,rfl⟩
theorem shr1 (n:Nat):(n:Int).fdiv (2 ^ (min (1:Nat) IntKind.u64.bits))=((n/2:Nat):Int):=by
 rw [show (2:Int) ^ (min (1:Nat) IntKind.u64.bits)=((2:Nat):Int) from rfl,Int.fdiv_eq_ediv_of_nonneg _ (by omega)]
 omega
theorem add_cast {i j:Nat} (h:i+j<4611686018427387904):IntKind.i64.wrap ((i:Int)+(j:Int))=((i+j:Nat):Int):=by rw [wrap64 (by omega) (by omega)];omega
theorem i64_cast {i:Nat} (h:i<4611686018427387904):IntKind.i64.wrap (i:Int)=(i:Int):=wrap64 (by omega) (by omega)
theorem u64_cast {i:Nat} (h:i<4611686018427387904):IntKind.u64.wrap (i:Int)=(i:Int):=wrapu64 (by omega) (by omega)
theorem search (l:List Att) (s:ByteArray) (hr:RiseB Att.n l) (hl:l.length<1000000) (S:Mem) :
  CallD Tryz.prog orc 95 [.sl none 5 l.length (attsC l),.str s,.fn (.func 96) [] []] S
   fun d S'=>S'=S ∧ ∃ i b,d = .tup [.int .i64 ((i:Nat):Int),.bool b]∧i≤l.length∧(∀ k (h:k<l.length),k<i→ltB l[k].n s=true)∧(∀ k (h:k<l.length),i≤k→ltB l[k].n s=false)∧(b=true ↔ ∃ h:i<l.length,l[i].n=s):=by
 refine CallD.e Tryz.func95 rfl Tryz.ntmps95 (by rfl) ?_
 repeat' (first|refine Go.a rfl ?_|refine Go.rg ?_|refine GoR.nil ?_|refine Go.ret ?_|refine Go.b rfl ?_|(refine GoR.o (by rfl) (by rfl) ?_;(conv=>arg 1;simp only [G,Z,Y,Gx,un_neg,cutD,decide_true,decide_false,simprocAttr,fb3,fb9,fb33,fb53,fb59,fb218]);show GoR ..)|refine GoR.s (by rfl) rfl rfl ?_|(refine GoR.splitG rfl (fun hc => ?_) (fun hc => ?_)<;>simp only [hc])|refine Go.condB rfl (fun hc => ?_) (fun hc => ?_))
 refine Go.keep [(0,.sl none 5 l.length (attsC l)),(1,.str s),(2,.fn (.func 96) [] []),(8,.int .i64 (l.length:Int)),(9,.int .i64 ((0:Nat):Int)),(10,.int .i64 (l.length:Int))] (.cons .refl (.cons .refl (.cons .refl (.cons .refl (.cons .refl (.cons .refl (.nil))))))) ?_
 refine Go.while (α:=Nat×Nat) (fun a=>a.2 - a.1) (fun a=>[(0,.sl none 5 l.length (attsC l)),(1,.str s),(2,.fn (.func 96) [] []),(8,.int .i64 (l.length:Int)),(9,.int .i64 (a.1:Int)),(10,.int .i64 (a.2:Int))]) (fun _=>S)
  (fun a=>a.1≤a.2∧a.2≤l.length∧(∀ k (h:k<l.length),k<a.1→ltB l[k].n s=true)∧(∀ k (h:k<l.length),a.2≤k→ltB l[k].n s=false)) ?_ (0,l.length) ⟨Nat.zero_le _,Nat.le_refl _,by simp,fun k h h2=>absurd h (by dsimp only at h2;omega)⟩
 rintro ⟨i,j⟩ ⟨hij,hj,hlo,hhi⟩ next
 dsimp only at hij hj hlo hhi next
 repeat' (first|refine Go.a rfl ?_|refine Go.rg ?_|refine GoR.nil ?_|refine Go.ret ?_|refine Go.b rfl ?_|(refine GoR.o (by rfl) (by rfl) ?_;(conv=>arg 1;simp only [G,Z,Y,Gx,un_neg,cutD,decide_true,decide_false,simprocAttr,fb3,fb9,fb33,fb53,fb59,fb218]);show GoR ..)|refine GoR.s (by rfl) rfl rfl ?_|(refine GoR.splitG rfl (fun hc => ?_) (fun hc => ?_)<;>simp only [hc])|refine Go.condB rfl (fun hc => ?_) (fun hc => ?_))
 ·have h1:i<j:=by simpa using hc
  have hh:(i+j)/2<l.length:=by omega
  repeat' (first|refine Go.a rfl ?_|refine Go.rg ?_|refine GoR.nil ?_|refine Go.ret ?_|refine Go.b rfl ?_|(refine GoR.o (by rfl) (by rfl) ?_;(conv=>arg 1;simp only [G,Z,Y,Gx,un_neg,cutD,decide_true,decide_false,simprocAttr,fb3,fb9,fb33,fb53,fb59,fb218,add_cast (show i+j<4611686018427387904 by omega),u64_cast (show i+j<4611686018427387904 by omega),shr1,i64_cast (show (i+j)/2<4611686018427387904 by omega),attsAt hh,wrap_succ (show (i+j)/2<4611686018427387904 by omega)]);show GoR ..)|(refine GoR.c c96 (by rfl) (by rfl) rfl ?_;(refine (find1 _ _ _).ret ?_))|refine GoR.s (by rfl) rfl rfl ?_|(refine GoR.splitG rfl (fun hc => ?_) (fun hc => ?_)<;>simp only [hc])|refine Go.condB rfl (fun hc => ?_) (fun hc => ?_))
  ·refine Go.lpN ?_
   refine Go.keep [(0,.sl none 5 l.length (attsC l)),(1,.str s),(2,.fn (.func 96) [] []),(8,.int .i64 (l.length:Int)),(9,.int .i64 (((i+j)/2+1:Nat):Int)),(10,.int .i64 (j:Int))] (.cons .refl (.cons .refl (.cons .refl (.cons .refl (.cons .refl (.cons .refl (.nil))))))) ?_
   have hlt:=cmpB_neg.1 (of_decide_eq_true hc)
   refine next ((i+j)/2+1,j) (by dsimp only;omega) ⟨by dsimp only;omega,hj,fun k hk hk2 => ?_,hhi⟩
   dsimp only at hk2
   rcases Nat.lt_or_ge k ((i+j)/2) with h | h
   ·exact ltB_trans (hr.lt hh h) hlt
   ·obtain rfl:k=(i+j)/2:=by omega
    exact hlt
  ·refine Go.lpN ?_
   refine Go.keep [(0,.sl none 5 l.length (attsC l)),(1,.str s),(2,.fn (.func 96) [] []),(8,.int .i64 (l.length:Int)),(9,.int .i64 (i:Int)),(10,.int .i64 (((i+j)/2:Nat):Int))] (.cons .refl (.cons .refl (.cons .refl (.cons .refl (.cons .refl (.cons .refl (.nil))))))) ?_
   have hge:ltB l[(i+j)/2].n s=false:=by
    cases hq:ltB l[(i+j)/2].n s with
    | false=>rfl
    | true=>exact absurd (cmpB_neg.2 hq) (of_decide_eq_false hc)
   refine next (i,(i+j)/2) (by dsimp only;omega) ⟨by dsimp only;omega,by dsimp only;omega,hlo,fun k hk hk2 => ?_⟩
   dsimp only at hk2
   rcases Nat.lt_or_ge ((i+j)/2) k with h | h
   ·cases hq:ltB l[k].n s with
    | false=>rfl
    | true=>rw [ltB_trans (hr.lt hk h) hq] at hge;cases hge
   ·obtain rfl:k=(i+j)/2:=by omega
    exact hge
 ·clear next
  rename_i h0
  have hi:i=j:=by
             have:j≤i:=by simpa using h0
             omega
  subst hi
  have hn:i<l.length:=by simpa using hc
  repeat' (first|refine Go.a rfl ?_|refine Go.rg ?_|refine GoR.nil ?_|refine Go.ret ?_|refine Go.b rfl ?_|(refine GoR.o (by rfl) (by rfl) ?_;(conv=>arg 1;simp only [G,Z,Y,Gx,un_neg,cutD,decide_true,decide_false,simprocAttr,fb3,fb9,fb33,fb53,fb59,fb218,attsAt hn]);show GoR ..)|(refine GoR.c c96 (by rfl) (by rfl) rfl ?_;(refine (find1 _ _ _).ret ?_))|refine GoR.s (by rfl) rfl rfl ?_|(refine GoR.splitG rfl (fun hc => ?_) (fun hc => ?_)<;>simp only [hc])|refine Go.condB rfl (fun hc => ?_) (fun hc => ?_))
  refine ⟨(by first | exact .inl rfl | exact .inr rfl),fin ?_⟩
  rw [resD_two (fn:=Tryz.f95) rfl]
  simp only [optThen_some,resultD_tmp,resultD_cell,G,Z,Y,Gx,un_neg,cutD,decide_true,decide_false,simprocAttr,fb3,fb9,fb33,fb53,fb59,fb218]
  exact ⟨_,[],by simp,.of_low (.tup' (.cons (.int _ _) (.cons (.bool _) .nil))),i,_,rfl,hj,hlo,hhi,by simp [cmpB_zero,hn]⟩
 ·clear next
  rename_i h0
  have hi:i=j:=by
             have:j≤i:=by simpa using h0
             omega
  subst hi
  have hn : ¬ i<l.length:=by simpa using hc
  refine ⟨(by first | exact .inl rfl | exact .inr rfl),fin ?_⟩
  rw [resD_two (fn:=Tryz.f95) rfl]
  simp only [optThen_some,resultD_tmp,resultD_cell,G,Z,Y,Gx,un_neg,cutD,decide_true,decide_false,simprocAttr,fb3,fb9,fb33,fb53,fb59,fb218]
  exact ⟨_,[],by simp,.of_low (.tup' (.cons (.int _ _) (.cons (.bool _) .nil))),i,_,rfl,hj,hlo,hhi,by simp [hn]⟩
def look (l:List Att) (s:ByteArray):Option Val:=(l.find? fun a=>decide (a.n=s)).map (·.v)
theorem rowFind (l:List Att) (s:ByteArray) (hr:RiseB Att.n l) (hl:l.length<1000000) (S:Mem) :
  CallD Tryz.prog orc 56 [.sl none 5 l.length (attsC l),.str s] S
   fun d S'=>S'=S ∧ ∃ i b,d = .tup [.int .i64 ((i:Nat):Int),.bool b]∧i≤l.length∧(∀ k (h:k<l.length),k<i→ltB l[k].n s=true)∧(∀ k (h:k<l.length),i≤k→ltB l[k].n s=false)∧(b=true ↔ ∃ h:i<l.length,l[i].n=s):=by
 refine CallD.e Tryz.func56 rfl Tryz.ntmps56 (by rfl) ?_
 repeat' (first|refine Go.a rfl ?_|refine Go.rg ?_|refine GoR.nil ?_|refine Go.ret ?_|refine Go.b rfl ?_|(refine GoR.o (by rfl) (by rfl) ?_;(conv=>arg 1;simp only [G,Z,Y,Gx,un_neg,cutD,decide_true,decide_false,simprocAttr]);show GoR ..)|(refine GoR.c c95 (by rfl) (by rfl) rfl ?_;(refine (search l s hr hl _).retE ?_;rintro _ ⟨i,b,rfl,h1,h2,h3,h4⟩))|refine Go.condB rfl (fun hc => ?_) (fun hc => ?_))
 refine ⟨(by first | exact .inl rfl | exact .inr rfl),fin ?_⟩
 rw [resD_two (fn:=Tryz.f56) rfl]
 simp only [optThen_some,resultD_tmp,resultD_cell,G,Z,Y,Gx,un_neg,cutD,decide_true,decide_false,simprocAttr]
 exact ⟨_,[],by simp,.of_low (.tup' (.cons (.int _ _) (.cons (.bool _) .nil))),i,b,rfl,h1,h2,h3,h4⟩
theorem clone1 (l:List Int) (hl:l.length<1000000) (S:Mem):CallD Tryz.prog orc 98 [.sl none 1 l.length (intsD l)] S fun d S'=>S'=S∧d = .sl none 1 l.length (intsD l):=by
 cases l with
 | nil=>
  refine CallD.nilOr (pre:=[]) (post:=[]) ?_ ?_
  ·refine CallD.e Tryz.func98 rfl Tryz.ntmps98 (by rfl) ?_
   repeat' (first|refine Go.a rfl ?_|refine Go.rg ?_|refine GoR.nil ?_|refine Go.ret ?_|refine Go.b rfl ?_|(refine GoR.o (by rfl) (by rfl) ?_;(conv=>arg 1;simp only [G,Z,Y,Gx,un_neg,cutD,decide_true,decide_false,simprocAttr,fb51]);show GoR ..)|refine Go.condB rfl (fun hc => ?_) (fun hc => ?_))
   refine ⟨(by first | exact .inl rfl | exact .inr rfl),fin ?_⟩
   rw [resD_tmp (fn:=Tryz.f98) rfl]
   simp only [optThen_some,resultD_tmp,resultD_cell,G,Z,Y,Gx,un_neg,cutD,decide_true,decide_false,simprocAttr,fb51]
   exact ⟨_,[],by simp,.nilE,rfl⟩
  ·refine CallD.e Tryz.func98 rfl Tryz.ntmps98 (by rfl) ?_
   repeat' (first|refine Go.a rfl ?_|refine Go.rg ?_|refine GoR.nil ?_|refine Go.ret ?_|refine Go.b rfl ?_|(refine GoR.o (by rfl) (by rfl) ?_;(conv=>arg 1;simp only [G,Z,Y,Gx,un_neg,cutD,decide_true,decide_false,simprocAttr,fb51]);show GoR ..)|refine Go.condB rfl (fun hc => ?_) (fun hc => ?_))
   refine ⟨(by first | exact .inl rfl | exact .inr rfl),fin ?_⟩
   rw [resD_tmp (fn:=Tryz.f98) rfl]
   simp only [optThen_some,resultD_tmp,resultD_cell,G,Z,Y,Gx,un_neg,cutD,decide_true,decide_false,simprocAttr,fb51]
   exact ⟨_,_,rfl,.disown (by simp),rfl⟩
 | cons x l=>
  refine CallD.e Tryz.func98 rfl Tryz.ntmps98 (by rfl) ?_
  have hf:fitsD 8 (l.length+1) (intsD (x::l)):=⟨by simp at hl;omega,by simp at hl;omega,by omega,by simp [intsD,D.one]⟩
  repeat' (first|refine Go.a rfl ?_|refine Go.rg ?_|refine GoR.nil ?_|refine Go.ret ?_|refine Go.b rfl ?_|(refine GoR.o (by rfl) (by rfl) ?_;(conv=>arg 1;simp only [G,Z,Y,Gx,un_neg,cutD,decide_true,decide_false,simprocAttr,fb51,builtin_append,Nat.zero_add,hf,show (l.length+1=0)=False by simp]);show GoR ..)|refine Go.condB rfl (fun hc => ?_) (fun hc => ?_))
  refine ⟨(by first | exact .inl rfl | exact .inr rfl),fin ?_⟩
  rw [resD_tmp (fn:=Tryz.f98) rfl]
  simp only [optThen_some,resultD_tmp,resultD_cell,G,Z,Y,Gx,un_neg,cutD,decide_true,decide_false,simprocAttr,fb51]
  exact ⟨_,_,rfl,.disown intsD_low.get,rfl⟩
theorem apart (v:Val) (hl:v.l.length<1000000) (S:Mem):CallD Tryz.prog orc 57 [.agg v.c] S fun d S'=>S'=S∧d = .agg v.c:=by
 obtain ⟨k,i,s,l⟩:=v
 simp only [Val.c]
 refine CallD.e Tryz.func57 rfl Tryz.ntmps57 (by rfl) ?_
 repeat' (first|refine Go.a rfl ?_|refine Go.rg ?_|refine GoR.nil ?_|refine Go.ret ?_|refine Go.b rfl ?_|(refine GoR.o (by rfl) (by rfl) ?_;(conv=>arg 1;simp only [G,Z,Y,Gx,un_neg,cutD,decide_true,decide_false,simprocAttr,fb2,fb3,fb9,fb51,fb53]);show GoR ..)|(refine GoR.c c98 (by rfl) (by rfl) rfl ?_;(refine (clone1 l hl _).ret ?_))|(refine GoR.c c97 (by rfl) (by rfl) rfl ?_;(refine (clip1 _ _ _).ret ?_))|refine Go.condB rfl (fun hc => ?_) (fun hc => ?_))
 refine ⟨(by first | exact .inl rfl | exact .inr rfl),fin ?_⟩
 rw [resD_cell (fn:=Tryz.f57) rfl]
 simp only [optThen_some,resultD_tmp,resultD_cell,G,Z,Y,Gx,un_neg,cutD,decide_true,decide_false,simprocAttr,fb2,fb3,fb9,fb51,fb53]
 exact ⟨_,_,rfl,.of_low (.agg' Val.low),rfl⟩
theorem look_at {l:List Att} {s:ByteArray} (hr:RiseB Att.n l) {i:Nat} (h:i<l.length) (e:l[i].n=s):look l s=some l[i].v:=by
 unfold look
 have hm:l.find? (fun a=>decide (a.n=s))=some l[i]:=by
  rw [List.find?_eq_some_iff_getElem]
  refine ⟨by simp [e],i,h,rfl,fun j hj => ?_⟩
  simp only [Bool.not_eq_true',decide_eq_false_iff_not]
  intro hq
  have:=hr.inj (show j<l.length by omega) h (hq.trans e.symm)
  omega
 rw [hm];rfl
theorem look_none {l:List Att} {s:ByteArray} (h : ∀ i (h:i<l.length),l[i].n≠s):look l s=none:=by
 unfold look
 have:l.find? (fun a=>decide (a.n=s))=none:=by
  rw [List.find?_eq_none]
  intro a ha
  obtain ⟨i,hi,rfl⟩:=List.mem_iff_getElem.1 ha
  simp [h i hi]
 rw [this];rfl
def noVal:Val:=⟨0,0,⟨#[]⟩,[]⟩
theorem valD_low {n:Nat} {v:Val} {b:Bool} : DLow n (.tup [.agg v.c,.bool b]):=.tup' (.cons (.agg' Val.low) (.cons (.bool _) .nil))
theorem rowGet (l:List Att) (s:ByteArray) (hr:RiseB Att.n l) (hl:l.length<1000000) (hv : ∀ a∈l,a.v.l.length<1000000) (S:Mem) :
  CallD Tryz.prog orc 23 [.sl none 5 l.length (attsC l),.str s] S fun d S'=>S'=S∧d = .tup [.agg ((look l s).getD noVal).c,.bool (look l s).isSome]:=by
 refine CallD.e Tryz.func23 rfl Tryz.ntmps23 (by rfl) ?_
 repeat' (first|refine Go.a rfl ?_|refine Go.rg ?_|refine GoR.nil ?_|refine Go.ret ?_|refine Go.b rfl ?_|(refine GoR.o (by rfl) (by rfl) ?_;(conv=>arg 1;simp only [G,Z,Y,Gx,un_neg,cutD,decide_true,decide_false,simprocAttr,fb2,fb3,fb9,fb33,fb51,fb53,fb59]);show GoR ..)|(refine GoR.c c56 (by rfl) (by rfl) rfl ?_;(refine (rowFind l s hr hl _).retE ?_;rintro _ ⟨i,b,rfl,h1,h2,h3,h4⟩))|refine Go.condB rfl (fun hc => ?_) (fun hc => ?_))
 ·have hb:b=false:=by simpa using hc
  refine ⟨(by first | exact .inl rfl | exact .inr rfl),fin ?_⟩
  rw [resD_two (fn:=Tryz.f23) rfl]
  simp only [optThen_some,resultD_tmp,resultD_cell,G,Z,Y,Gx,un_neg,cutD,decide_true,decide_false,simprocAttr,fb2,fb3,fb9,fb33,fb51,fb53,fb59]
  have hn:look l s=none:=by
   refine look_none fun j hj e => ?_
   have hj2 : ¬ j<i:=fun h=>by have:=h2 j hj h;rw [e,ltB_irrefl] at this;cases this
   have hi:i<l.length:=by omega
   have hj3 : ¬ i<j:=fun h=>by have:=h3 i hi (Nat.le_refl _);rw [← e,hr.lt hj h] at this;cases this
   obtain rfl:i=j:=by omega
   rw [h4.2 ⟨hi,e⟩] at hb;cases hb
  rw [hn]
  have hw:Wf (.tup [.agg [.int .i64 0,.int .i64 0,.str ⟨#[]⟩,.nils],.bool b]) (.tup [.agg noVal.c,.bool b]):=.tup' (.cons (.agg' (.cons .refl (.cons .refl (.cons .refl (.cons .nilE .nil))))) (.cons .refl .nil))
  subst hb
  exact ⟨_,_,rfl,hw.to_Wk valD_low,rfl⟩
 ·have hb:b=true:=by simpa using hc
  obtain ⟨hi,e⟩:=h4.1 hb
  have hlk:=look_at hr hi e
  repeat' (first|refine Go.a rfl ?_|refine Go.rg ?_|refine GoR.nil ?_|refine Go.ret ?_|refine Go.b rfl ?_|(refine GoR.o (by rfl) (by rfl) ?_;(conv=>arg 1;simp only [G,Z,Y,Gx,un_neg,cutD,decide_true,decide_false,simprocAttr,fb2,fb3,fb9,fb33,fb51,fb53,fb59,attsAt hi,Val.c]);show GoR ..)|(refine GoR.c c57 (by rfl) (by rfl) rfl ?_;(refine (apart _ (hv _ (List.getElem_mem _)) _).ret ?_))|refine Go.condB rfl (fun hc => ?_) (fun hc => ?_))
  refine ⟨(by first | exact .inl rfl | exact .inr rfl),fin ?_⟩
  rw [resD_two (fn:=Tryz.f23) rfl]
  simp only [optThen_some,resultD_tmp,resultD_cell,G,Z,Y,Gx,un_neg,cutD,decide_true,decide_false,simprocAttr,fb2,fb3,fb9,fb33,fb51,fb53,fb59]
  rw [hlk]
  exact ⟨_,_,rfl,.of_low valD_low,rfl⟩
end Go.Proofs.DvT
namespace Go.Proofs.DvT
open Go Go.DM Go.Proofs.DvF
set_option maxRecDepth 100000
variable {orc:DOracle}
def printB (b:UInt8):Bool:=decide (32≤b.toNat)&&(decide (b.toNat≤126) && !decide (b.toNat=34))
def txtE (s:ByteArray):Int:=if 64<s.size then 4 else if s.data.toList.all printB then 0 else 2
def RiseI (l:List Int):Prop := ∀ j,∀ h:j<l.length - 1,l[j]'(by omega)<l[j+1]'(by omega)
instance {l:List Int} : Decidable (RiseI l):=by unfold RiseI;infer_instance
def lstE (l:List Int):Int:=if 16<l.length then 4 else if RiseI l then 0 else 2
def chkV (v:Val):Int:=if v.k=1 then 0 else if v.k=2 then txtE v.s else if v.k=3 then lstE v.l else 7
theorem txt_long {s:ByteArray} (h:64<s.size):txtE s=4:=if_pos h
theorem txt_ok {s:ByteArray} (h : ¬ 64<s.size) (hk : ∀ j (h:j<s.size),printB (s.data[j]'h)=true):txtE s=0:=by
 rw [txtE,if_neg h,if_pos (bytes_true hk)]
theorem txt_bad {s:ByteArray} (h : ¬ 64<s.size) {j:Nat} (hj:j<s.size) (hk:printB (s.data[j]'hj)=false):txtE s=2:=by
 rw [txtE,if_neg h,if_neg (by rw [bytes_false hj hk];decide)]
theorem lst_ok {l:List Int} (h : ¬ 16<l.length) (hk : ∀ j,(h0:1≤j)→(h:j<l.length)→l[j - 1]'(by omega)<l[j]):lstE l=0:=by
 rw [lstE,if_neg h,if_pos]
 intro j hj
 have:=hk (j+1) (by omega) (by omega)
 simpa using this
theorem lst_bad {l:List Int} (h : ¬ 16<l.length) {j:Nat} (h0:1≤j) (hj:j<l.length) (hk : ¬ l[j - 1]'(by omega)<l[j]):lstE l=2:=by
 rw [lstE,if_neg h,if_neg]
 intro hr
 have:=hr (j - 1) (by omega)
 obtain ⟨k,rfl⟩ : ∃ k,j=k+1:=⟨j - 1,by omega⟩
 exact hk (by simpa using this)
theorem pred_cast {i:Nat} (h:0<i) (h2:i<4611686018427387904):IntKind.i64.wrap ((i:Int) - 1)=((i - 1:Nat):Int):=by rw [wrap64 (by omega) (by omega)];omega
theorem refCheckValue (v:Val) (hs:v.s.size<1000000) (S:Mem):CallD Tryz.prog orc 63 [.agg v.c] S fun d S'=>S'=S∧d = .int .i64 (chkV v):=by
 obtain ⟨k,i,s,l⟩:=v
 simp only at hs
 simp only [Val.c]
 by_cases k1:k=1
 ·refine CallD.e Tryz.func63 rfl Tryz.ntmps63 (by rfl) ?_
  repeat' (first|refine Go.a rfl ?_|refine Go.rg ?_|refine GoR.nil ?_|refine Go.ret ?_|refine Go.b rfl ?_|refine Go.rgS dmx (by decide) ?_|(refine GoR.o (by rfl) (by rfl) ?_;(conv=>arg 1;simp only [G,Z,Y,Gx,un_neg,cutD,decide_true,decide_false,simprocAttr,fb2,fb3,fb5,fb9,fb51,fb85,k1,show ((1:Int)==1)=true from rfl]);show GoR ..)|refine GoR.s (by rfl) rfl rfl ?_|(refine GoR.splitG rfl (fun hc => ?_) (fun hc => ?_)<;>simp only [hc])|refine Go.condB rfl (fun hc => ?_) (fun hc => ?_))
  refine ⟨(by first | exact .inl rfl | exact .inr rfl),fin ?_⟩
  rw [resD_tmp (fn:=Tryz.f63) rfl]
  simp only [optThen_some,resultD_tmp,resultD_cell,G,Z,Y,Gx,un_neg,cutD,decide_true,decide_false,simprocAttr,fb2,fb3,fb5,fb9,fb51,fb85]
  exact ⟨_,_,rfl,.int,by rw [chkV,if_pos k1]⟩
 have b1:(k==1)=false:=by simpa using k1
 by_cases k2:k=2
 ·subst k2
  have hchk:chkV ⟨2,i,s,l⟩=txtE s:=by simp [chkV]
  rw [hchk]
  refine CallD.e Tryz.func63 rfl Tryz.ntmps63 (by rfl) ?_
  by_cases h64:64<s.size
  ·repeat' (first|refine Go.a rfl ?_|refine Go.rg ?_|refine GoR.nil ?_|refine Go.ret ?_|refine Go.b rfl ?_|refine Go.rgS dmx (by decide) ?_|(refine GoR.o (by rfl) (by rfl) ?_;(conv=>arg 1;simp only [G,Z,Y,Gx,un_neg,cutD,decide_true,decide_false,simprocAttr,fb2,fb3,fb5,fb9,fb51,fb85,b1,show ((2:Int)==2)=true from rfl,show (decide (64<(s.size:Int)))=true by simp;omega]);show GoR ..)|refine GoR.s (by rfl) rfl rfl ?_|(refine GoR.splitG rfl (fun hc => ?_) (fun hc => ?_)<;>simp only [hc])|refine Go.condB rfl (fun hc => ?_) (fun hc => ?_))
   refine ⟨(by first | exact .inl rfl | exact .inr rfl),fin ?_⟩
   rw [resD_tmp (fn:=Tryz.f63) rfl]
   simp only [optThen_some,resultD_tmp,resultD_cell,G,Z,Y,Gx,un_neg,cutD,decide_true,decide_false,simprocAttr,fb2,fb3,fb5,fb9,fb51,fb85]
   exact ⟨_,_,rfl,.int,by rw [txt_long h64]⟩
  ·repeat' (first|refine Go.a rfl ?_|refine Go.rg ?_|refine GoR.nil ?_|refine Go.ret ?_|refine Go.b rfl ?_|refine Go.rgS dmx (by decide) ?_|(refine GoR.o (by rfl) (by rfl) ?_;(conv=>arg 1;simp only [G,Z,Y,Gx,un_neg,cutD,decide_true,decide_false,simprocAttr,fb2,fb3,fb5,fb9,fb51,fb85,b1,show ((2:Int)==2)=true from rfl,show (decide (64<(s.size:Int)))=false by simp;omega]);show GoR ..)|refine GoR.s (by rfl) rfl rfl ?_|(refine GoR.splitG rfl (fun hc => ?_) (fun hc => ?_)<;>simp only [hc])|refine Go.condB rfl (fun hc => ?_) (fun hc => ?_))
   refine Go.keep [(1,.ptr S.length 0),(3,.int .i64 ((0:Nat):Int))] (.cons .refl (.cons .refl (.nil))) ?_
   refine Go.while (α:=Nat) (fun i=>s.size - i) (fun j=>[(1,.ptr S.length 0),(3,.int .i64 (j:Int))]) (fun _=>S++[.obj [.int .i64 2,.int .i64 i,.str s,.sl none 1 l.length (intsD l)]]) (fun i=>i≤s.size ∧ ∀ j (h:j<s.size),j<i→printB (s.data[j]'h)=true) ?_ 0 ⟨Nat.zero_le _,by simp⟩
   rintro j ⟨hj,hk⟩ next
   by_cases h1:j<s.size
   ·repeat' (first|refine Go.a rfl ?_|refine Go.rg ?_|refine GoR.nil ?_|refine Go.ret ?_|refine Go.b rfl ?_|refine Go.rgS dmx (by decide) ?_|(refine GoR.o (by rfl) (by rfl) ?_;(conv=>arg 1;simp only [G,Z,Y,Gx,un_neg,cutD,decide_true,decide_false,simprocAttr,fb2,fb3,fb5,fb9,fb51,fb85,show (decide ((j:Int)<(s.size:Int)))=true by simp;omega,indexStr_cast h1,wrap_succ (show j<4611686018427387904 by omega)]);show GoR ..)|refine GoR.s (by rfl) rfl rfl ?_|(refine GoR.splitG rfl (fun hc => ?_) (fun hc => ?_)<;>simp only [hc])|refine Go.condB rfl (fun hc => ?_) (fun hc => ?_))
    all_goals first
     | (
       refine Go.lpN ?_
       refine Go.keep [(1,.ptr S.length 0),(3,.int .i64 ((j+1:Nat):Int))] (.cons .refl (.cons .refl (.nil))) ?_
       refine next (j+1) (by omega) ⟨h1,fun q hq hlt => ?_⟩
       clear next
       rcases Nat.lt_or_ge q j with h | h
       ·exact hk q hq h
       ·obtain rfl:q=j:=by omega
        clear hk
        simp [printB] at *
        omega)
     | (
       clear next
       refine ⟨(by first | exact .inl rfl | exact .inr rfl),fin ?_⟩
       rw [resD_tmp (fn:=Tryz.f63) rfl]
       simp only [optThen_some,resultD_tmp,resultD_cell,G,Z,Y,Gx,un_neg,cutD,decide_true,decide_false,simprocAttr,fb2,fb3,fb5,fb9,fb51,fb85]
       refine ⟨_,_,rfl,.int,?_⟩
       rw [txt_bad h64 h1]
       clear hk
       simp [printB] at *
       omega)
   ·clear next
    repeat' (first|refine Go.a rfl ?_|refine Go.rg ?_|refine GoR.nil ?_|refine Go.ret ?_|refine Go.b rfl ?_|refine Go.rgS dmx (by decide) ?_|(refine GoR.o (by rfl) (by rfl) ?_;(conv=>arg 1;simp only [G,Z,Y,Gx,un_neg,cutD,decide_true,decide_false,simprocAttr,fb2,fb3,fb5,fb9,fb51,fb85,show (decide ((j:Int)<(s.size:Int)))=false by simp;omega]);show GoR ..)|refine GoR.s (by rfl) rfl rfl ?_|(refine GoR.splitG rfl (fun hc => ?_) (fun hc => ?_)<;>simp only [hc])|refine Go.condB rfl (fun hc => ?_) (fun hc => ?_))
    refine ⟨(by first | exact .inl rfl | exact .inr rfl),fin ?_⟩
    rw [resD_tmp (fn:=Tryz.f63) rfl]
    simp only [optThen_some,resultD_tmp,resultD_cell,G,Z,Y,Gx,un_neg,cutD,decide_true,decide_false,simprocAttr,fb2,fb3,fb5,fb9,fb51,fb85]
    exact ⟨_,_,rfl,.int,by rw [txt_ok h64 fun q hq=>hk q hq (by omega)]⟩
 have b2:(k==2)=false:=by simpa using k2
 by_cases k3:k=3
 ·subst k3
  have hchk:chkV ⟨3,i,s,l⟩=lstE l:=by simp [chkV]
  rw [hchk]
  refine CallD.e Tryz.func63 rfl Tryz.ntmps63 (by rfl) ?_
  by_cases h16:16<l.length
  ·repeat' (first|refine Go.a rfl ?_|refine Go.rg ?_|refine GoR.nil ?_|refine Go.ret ?_|refine Go.b rfl ?_|refine Go.rgS dmx (by decide) ?_|(refine GoR.o (by rfl) (by rfl) ?_;(conv=>arg 1;simp only [G,Z,Y,Gx,un_neg,cutD,decide_true,decide_false,simprocAttr,fb2,fb3,fb5,fb9,fb51,fb85,b1,b2,show ((3:Int)==3)=true from rfl,show (decide (16<(l.length:Int)))=true by simp;omega]);show GoR ..)|refine GoR.s (by rfl) rfl rfl ?_|(refine GoR.splitG rfl (fun hc => ?_) (fun hc => ?_)<;>simp only [hc])|refine Go.condB rfl (fun hc => ?_) (fun hc => ?_))
   refine ⟨(by first | exact .inl rfl | exact .inr rfl),fin ?_⟩
   rw [resD_tmp (fn:=Tryz.f63) rfl]
   simp only [optThen_some,resultD_tmp,resultD_cell,G,Z,Y,Gx,un_neg,cutD,decide_true,decide_false,simprocAttr,fb2,fb3,fb5,fb9,fb51,fb85]
   exact ⟨_,_,rfl,.int,by rw [lstE,if_pos h16]⟩
  ·repeat' (first|refine Go.a rfl ?_|refine Go.rg ?_|refine GoR.nil ?_|refine Go.ret ?_|refine Go.b rfl ?_|refine Go.rgS dmx (by decide) ?_|(refine GoR.o (by rfl) (by rfl) ?_;(conv=>arg 1;simp only [G,Z,Y,Gx,un_neg,cutD,decide_true,decide_false,simprocAttr,fb2,fb3,fb5,fb9,fb51,fb85,b1,b2,show ((3:Int)==3)=true from rfl,show (decide (16<(l.length:Int)))=false by simp;omega]);show GoR ..)|refine GoR.s (by rfl) rfl rfl ?_|(refine GoR.splitG rfl (fun hc => ?_) (fun hc => ?_)<;>simp only [hc])|refine Go.condB rfl (fun hc => ?_) (fun hc => ?_))
   refine Go.keep [(1,.ptr S.length 0),(4,.int .i64 ((1:Nat):Int))] (.cons .refl (.cons .refl (.nil))) ?_
   refine Go.while (α:=Nat) (fun i=>l.length - i) (fun j=>[(1,.ptr S.length 0),(4,.int .i64 (j:Int))]) (fun _=>S++[.obj [.int .i64 3,.int .i64 i,.str s,.sl none 1 l.length (intsD l)]]) (fun i=>1≤i ∧ ∀ j,(h0:1≤j)→(h:j<l.length)→j<i→l[j - 1]'(by omega)<l[j]) ?_ 1 ⟨Nat.le_refl _,fun j h0 _ h1=>absurd h1 (by omega)⟩
   rintro j ⟨hj,hk⟩ next
   by_cases h1:j<l.length
   ·by_cases hr:l[j - 1]'(by omega)<l[j]
    ·repeat' (first|refine Go.a rfl ?_|refine Go.rg ?_|refine GoR.nil ?_|refine Go.ret ?_|refine Go.b rfl ?_|refine Go.rgS dmx (by decide) ?_|(refine GoR.o (by rfl) (by rfl) ?_;(conv=>arg 1;simp only [G,Z,Y,Gx,un_neg,cutD,decide_true,decide_false,simprocAttr,fb2,fb3,fb5,fb9,fb51,fb85,show (decide ((j:Int)<(l.length:Int)))=true by simp;omega,intsAt h1,intsAt (show j - 1<l.length by omega),pred_cast (show 0<j by omega) (by omega),wrap_succ (show j<4611686018427387904 by omega),show (decide (l[j]≤l[j - 1]'(by omega)))=false by simp;omega]);show GoR ..)|refine GoR.s (by rfl) rfl rfl ?_|(refine GoR.splitG rfl (fun hc => ?_) (fun hc => ?_)<;>simp only [hc])|refine Go.condB rfl (fun hc => ?_) (fun hc => ?_))
     refine Go.lpN ?_
     refine Go.keep [(1,.ptr S.length 0),(4,.int .i64 ((j+1:Nat):Int))] (.cons .refl (.cons .refl (.nil))) ?_
     refine next (j+1) (by omega) ⟨by omega,fun q h0 hq hlt => ?_⟩
     rcases Nat.lt_or_ge q j with h | h
     ·exact hk q h0 hq h
     ·obtain rfl:q=j:=by omega
      exact hr
    ·clear next
     repeat' (first|refine Go.a rfl ?_|refine Go.rg ?_|refine GoR.nil ?_|refine Go.ret ?_|refine Go.b rfl ?_|refine Go.rgS dmx (by decide) ?_|(refine GoR.o (by rfl) (by rfl) ?_;(conv=>arg 1;simp only [G,Z,Y,Gx,un_neg,cutD,decide_true,decide_false,simprocAttr,fb2,fb3,fb5,fb9,fb51,fb85,show (decide ((j:Int)<(l.length:Int)))=true by simp;omega,intsAt h1,intsAt (show j - 1<l.length by omega),pred_cast (show 0<j by omega) (by omega),show (decide (l[j]≤l[j - 1]'(by omega)))=true by simp;omega]);show GoR ..)|refine GoR.s (by rfl) rfl rfl ?_|(refine GoR.splitG rfl (fun hc => ?_) (fun hc => ?_)<;>simp only [hc])|refine Go.condB rfl (fun hc => ?_) (fun hc => ?_))
     refine ⟨(by first | exact .inl rfl | exact .inr rfl),fin ?_⟩
     rw [resD_tmp (fn:=Tryz.f63) rfl]
     simp only [optThen_some,resultD_tmp,resultD_cell,G,Z,Y,Gx,un_neg,cutD,decide_true,decide_false,simprocAttr,fb2,fb3,fb5,fb9,fb51,fb85]
     exact ⟨_,_,rfl,.int,by rw [lst_bad h16 hj h1 hr]⟩
   ·clear next
    repeat' (first|refine Go.a rfl ?_|refine Go.rg ?_|refine GoR.nil ?_|refine Go.ret ?_|refine Go.b rfl ?_|refine Go.rgS dmx (by decide) ?_|(refine GoR.o (by rfl) (by rfl) ?_;(conv=>arg 1;simp only [G,Z,Y,Gx,un_neg,cutD,decide_true,decide_false,simprocAttr,fb2,fb3,fb5,fb9,fb51,fb85,show (decide ((j:Int)<(l.length:Int)))=false by simp;omega]);show GoR ..)|refine GoR.s (by rfl) rfl rfl ?_|(refine GoR.splitG rfl (fun hc => ?_) (fun hc => ?_)<;>simp only [hc])|refine Go.condB rfl (fun hc => ?_) (fun hc => ?_))
    refine ⟨(by first | exact .inl rfl | exact .inr rfl),fin ?_⟩
    rw [resD_tmp (fn:=Tryz.f63) rfl]
    simp only [optThen_some,resultD_tmp,resultD_cell,G,Z,Y,Gx,un_neg,cutD,decide_true,decide_false,simprocAttr,fb2,fb3,fb5,fb9,fb51,fb85]
    exact ⟨_,_,rfl,.int,by rw [lst_ok h16 fun q h0 hq=>hk q h0 hq (by omega)]⟩
 have b3:(k==3)=false:=by simpa using k3
 refine CallD.e Tryz.func63 rfl Tryz.ntmps63 (by rfl) ?_
 repeat' (first|refine Go.a rfl ?_|refine Go.rg ?_|refine GoR.nil ?_|refine Go.ret ?_|refine Go.b rfl ?_|refine Go.rgS dmx (by decide) ?_|(refine GoR.o (by rfl) (by rfl) ?_;(conv=>arg 1;simp only [G,Z,Y,Gx,un_neg,cutD,decide_true,decide_false,simprocAttr,fb2,fb3,fb5,fb9,fb51,fb85,b1,b2,b3]);show GoR ..)|refine GoR.s (by rfl) rfl rfl ?_|(refine GoR.splitG rfl (fun hc => ?_) (fun hc => ?_)<;>simp only [hc])|refine Go.condB rfl (fun hc => ?_) (fun hc => ?_))
 refine ⟨(by first | exact .inl rfl | exact .inr rfl),fin ?_⟩
 rw [resD_tmp (fn:=Tryz.f63) rfl]
 simp only [optThen_some,resultD_tmp,resultD_cell,G,Z,Y,Gx,un_neg,cutD,decide_true,decide_false,simprocAttr,fb2,fb3,fb5,fb9,fb51,fb85]
 exact ⟨_,_,rfl,.int,by simp [chkV,k1,k2,k3]⟩
end Go.Proofs.DvT
