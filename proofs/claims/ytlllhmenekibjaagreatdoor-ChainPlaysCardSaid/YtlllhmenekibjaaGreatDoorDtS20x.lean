/- What the law's own helpers on values and attributes do. -/
import Derived.Test.YtlllhmenekibjaaGreatDoorDtS10x
set_option linter.unusedSimpArgs false
set_option linter.unusedVariables false
namespace Go.Proofs.DtT
open Go Go.DM Go.Proofs.DtF
set_option maxRecDepth 100000
variable {orc:DOracle}
structure Val where
 k:Int
 i:Int
 s:ByteArray
 l:List Int
theorem intsD_low {n:Nat} {l:List Int} : LowL n (intsD l):=.of_mem (by simp [intsD];intros;constructor)
def Val.c (v:Val):List D:=[.int .i64 v.k,.int .i64 v.i,.str v.s,.sl none 1 v.l.length (intsD v.l)]
structure Att where
 n:ByteArray
 v:Val
def Att.c (a:Att):List D:=[.str a.n,.int .i64 a.v.k,.int .i64 a.v.i,.str a.v.s,.sl none 1 a.v.l.length (intsD a.v.l)]
def attsC (l:List Att):List D:=l.flatMap Att.c
theorem Val.low {n:Nat} {k i:Int} {s:ByteArray} {m:Nat} {l:List Int} : LowL n [.int .i64 k,.int .i64 i,.str s,.sl none 1 m (intsD l)]:=.cons (.int _ _) (.cons (.int _ _) (.cons (.str _) (.cons (.sl' intsD_low) .nil)))
theorem few2 (v:Val) (S:Mem):CallD Tryz.prog orc 86 [.agg v.c] S fun d S'=>S'=S∧d = .bool (decide (v.s.size≤200)&&decide (v.l.length≤40)):=by
 obtain ⟨k,i,s,l⟩:=v
 simp only [Val.c]
 refine CallD.e Tryz.func86 rfl Tryz.ntmps86 (by rfl) ?_
 repeat' (first|refine Go.a rfl ?_|refine Go.rg ?_|refine GoR.nil ?_|refine Go.ret ?_|refine Go.b rfl ?_|(refine GoR.o (by rfl) (by rfl) ?_;(conv=>arg 1;simp only [G,Z,Y,Gx,un_neg,cutD,decide_true,decide_false,simprocAttr,fb2,fb3,fb9,fb116,fb139]);show GoR ..)|refine GoR.s (by rfl) rfl rfl ?_|(refine GoR.splitG rfl (fun hc => ?_) (fun hc => ?_)<;>simp only [hc])|refine Go.condB rfl (fun hc => ?_) (fun hc => ?_))
 ·refine ⟨(by first | exact .inl rfl | exact .inr rfl),fin ?_⟩
  rw [resD_tmp (fn:=Tryz.f86) rfl]
  simp only [optThen_some,resultD_tmp,resultD_cell,G,Z,Y,Gx,un_neg,cutD,decide_true,decide_false,simprocAttr,fb2,fb3,fb9,fb116,fb139]
  refine ⟨_,_,rfl,.bool,?_⟩
  simp at hc
  congr 1
  rw [Bool.eq_iff_iff]
  simp
  omega
 ·refine ⟨(by first | exact .inl rfl | exact .inr rfl),fin ?_⟩
  rw [resD_tmp (fn:=Tryz.f86) rfl]
  simp only [optThen_some,resultD_tmp,resultD_cell,G,Z,Y,Gx,un_neg,cutD,decide_true,decide_false,simprocAttr,fb2,fb3,fb9,fb116,fb139]
  refine ⟨_,_,rfl,.bool,?_⟩
  simp at hc
  congr 1
  rw [Bool.eq_iff_iff]
  simp
  omega
theorem of2 (v:Val) (S:Mem):CallD Tryz.prog orc 89 [.agg v.c] S fun d S'=>S'=S∧d = .agg v.c:=by
 obtain ⟨k,i,s,l⟩:=v
 simp only [Val.c]
 refine CallD.e Tryz.func89 rfl Tryz.ntmps89 (by rfl) ?_
 repeat' (first|refine Go.a rfl ?_|refine Go.rg ?_|refine GoR.nil ?_|refine Go.ret ?_|refine Go.b rfl ?_|(refine GoR.o (by rfl) (by rfl) ?_;(conv=>arg 1;simp only [G,Z,Y,Gx,un_neg,cutD,decide_true,decide_false,simprocAttr,fb2,fb3,fb9,fb116,fb118,fb139]);show GoR ..)|refine Go.condB rfl (fun hc => ?_) (fun hc => ?_))
 refine ⟨(by first | exact .inl rfl | exact .inr rfl),fin ?_⟩
 rw [resD_cell (fn:=Tryz.f89) rfl]
 simp only [optThen_some,resultD_tmp,resultD_cell,G,Z,Y,Gx,un_neg,cutD,decide_true,decide_false,simprocAttr,fb2,fb3,fb9,fb116,fb118,fb139]
 exact ⟨_,_,rfl,.of_low (.agg' Val.low),rfl⟩
theorem clip1 (own:Option Nat) (l:List Int) (S:Mem):CallD Tryz.prog orc 128 [.sl own 1 l.length (intsD l)] S fun d S'=>S'=S∧d = .sl none 1 l.length (intsD l):=by
 refine CallD.e Tryz.func128 rfl Tryz.ntmps128 (by rfl) ?_
 have hll:(intsD l).length=l.length:=by simp [intsD]
 by_cases h0:l.length=0
 ·have hi:intsD l=[]:=by rw [List.length_eq_zero_iff.1 h0];rfl
  rw [hi,h0]
  have c:sliceD Tryz.prog 116 (.sl own 1 0 []) none (some (.int .i64 0)) (some (.int .i64 0))=some .sl0:=by
   simp [sliceD,optNatD,natD,Tryz.underlying116,dsz2]
  repeat' (first|refine Go.a rfl ?_|refine Go.rg ?_|refine GoR.nil ?_|refine Go.ret ?_|refine Go.b rfl ?_|(refine GoR.o (by rfl) (by rfl) ?_;(conv=>arg 1;simp only [G,Z,Y,Gx,un_neg,cutD,decide_true,decide_false,simprocAttr,fb116,c,Option.map_some,Option.map_none]);show GoR ..)|refine Go.condB rfl (fun hc => ?_) (fun hc => ?_))
  refine ⟨(by first | exact .inl rfl | exact .inr rfl),fin ?_⟩
  rw [resD_tmp (fn:=Tryz.f128) rfl]
  simp only [optThen_some,resultD_tmp,resultD_cell,G,Z,Y,Gx,un_neg,cutD,decide_true,decide_false,simprocAttr,fb116]
  exact ⟨_,[],by simp,.sl0E,rfl⟩
 ·generalize l.length=n at *
  have c : ∃ o',sliceD Tryz.prog 116 (.sl own 1 n (intsD l)) none (some (.int .i64 (n:Int))) (some (.int .i64 (n:Int)))=some (.sl o' 1 n (intsD l)):=by
   refine ⟨own,?_⟩
   simp [sliceD,optNatD,natD,Tryz.underlying116,dsz2,h0]
   rw [List.take_of_length_le (by omega)]
  obtain ⟨o',c⟩:=c
  repeat' (first|refine Go.a rfl ?_|refine Go.rg ?_|refine GoR.nil ?_|refine Go.ret ?_|refine Go.b rfl ?_|(refine GoR.o (by rfl) (by rfl) ?_;(conv=>arg 1;simp only [G,Z,Y,Gx,un_neg,cutD,decide_true,decide_false,simprocAttr,fb116,c,Option.map_some,Option.map_none]);show GoR ..)|refine Go.condB rfl (fun hc => ?_) (fun hc => ?_))
  refine ⟨(by first | exact .inl rfl | exact .inr rfl),fin ?_⟩
  rw [resD_tmp (fn:=Tryz.f128) rfl]
  simp only [optThen_some,resultD_tmp,resultD_cell,G,Z,Y,Gx,un_neg,cutD,decide_true,decide_false,simprocAttr,fb116]
  exact ⟨_,[],by simp,.disown intsD_low.get,rfl⟩
theorem Att.len (a:Att):a.c.length=5:=rfl
theorem attsAt {l:List Att} {i:Nat} (h:i<l.length) :
  ((0≤(i:Int)∧(i:Int)<(l.length:Int))=True)∧(attsC l)[i*5]?=some (.str l[i].n)∧((i*5+1+4≤(attsC l).length)=True)∧((attsC l).drop (i*5+1)).take 4=l[i].v.c ∧
  ((i*5+5≤(attsC l).length)=True)∧((attsC l).drop (i*5)).take 5=l[i].c:=
 ⟨ix_ok h,flat_cell0 Att.len l i h (by omega),flat_fits Att.len l i h (by omega),flat_part Att.len l i h (by omega),flat_fits0 Att.len l i h,flat_all Att.len l i h⟩
def fewV (v:Val):Bool:=decide (v.s.size≤200)&&decide (v.l.length≤40)
def fewA (a:Att):Bool:=decide (a.n.size≤100)&&fewV a.v
theorem fewAttrs (l:List Att) (S:Mem):CallD Tryz.prog orc 51 [.sl none 5 l.length (attsC l)] S fun d S'=>S'=S∧d = .bool (decide (l.length≤40)&&l.all fewA):=by
 refine CallD.e Tryz.func51 rfl Tryz.ntmps51 (by rfl) ?_
 repeat' (first|refine Go.a rfl ?_|refine Go.rg ?_|refine GoR.nil ?_|refine Go.ret ?_|refine Go.b rfl ?_|(refine GoR.o (by rfl) (by rfl) ?_;(conv=>arg 1;simp only [G,Z,Y,Gx,un_neg,cutD,decide_true,decide_false,simprocAttr,fb2,fb3,fb9,fb33,fb116,fb139,fb141]);show GoR ..)|refine GoR.s (by rfl) rfl rfl ?_|(refine GoR.splitG rfl (fun hc => ?_) (fun hc => ?_)<;>simp only [hc])|refine Go.condB rfl (fun hc => ?_) (fun hc => ?_))
 ·refine ⟨(by first | exact .inl rfl | exact .inr rfl),fin ?_⟩
  rw [resD_tmp (fn:=Tryz.f51) rfl]
  simp only [optThen_some,resultD_tmp,resultD_cell,G,Z,Y,Gx,un_neg,cutD,decide_true,decide_false,simprocAttr,fb2,fb3,fb9,fb33,fb116,fb139,fb141]
  refine ⟨_,[],by simp,.bool,?_⟩
  simp at hc
  congr 1
  symm
  simp
  omega
 ·have h40:l.length≤40:=by simp at hc;omega
  refine Go.keep [(0,.sl none 5 l.length (attsC l)),(3,.int .i64 ((0:Nat):Int))] (.cons .refl (.cons .refl (.nil))) ?_
  refine Go.while (α:=Nat) (fun i=>l.length - i) (fun i=>[(0,.sl none 5 l.length (attsC l)),(3,.int .i64 (i:Int))]) (fun _=>S) (fun i=>i≤l.length ∧ ∀ j (h:j<l.length),j<i→fewA l[j]=true) ?_ 0 ⟨Nat.zero_le _,by simp⟩
  rintro i ⟨hi,hk⟩ next
  repeat' (first|refine Go.a rfl ?_|refine Go.rg ?_|refine GoR.nil ?_|refine Go.ret ?_|refine Go.b rfl ?_|(refine GoR.o (by rfl) (by rfl) ?_;(conv=>arg 1;simp only [G,Z,Y,Gx,un_neg,cutD,decide_true,decide_false,simprocAttr,fb2,fb3,fb9,fb33,fb116,fb139,fb141]);show GoR ..)|refine GoR.s (by rfl) rfl rfl ?_|(refine GoR.splitG rfl (fun hc => ?_) (fun hc => ?_)<;>simp only [hc])|refine Go.condB rfl (fun hc => ?_) (fun hc => ?_))
  ·have h1:i<l.length:=by simpa using hc
   repeat' (first|refine Go.a rfl ?_|refine Go.rg ?_|refine GoR.nil ?_|refine Go.ret ?_|refine Go.b rfl ?_|(refine GoR.o (by rfl) (by rfl) ?_;(conv=>arg 1;simp only [G,Z,Y,Gx,un_neg,cutD,decide_true,decide_false,simprocAttr,fb2,fb3,fb9,fb33,fb116,fb139,fb141,attsAt h1,wrap_succ (show i<4611686018427387904 by omega)]);show GoR ..)|(refine GoR.c c86 (by rfl) (by rfl) rfl ?_;(refine (few2 _ _).ret ?_))|refine GoR.s (by rfl) rfl rfl ?_|(refine GoR.splitG rfl (fun hc => ?_) (fun hc => ?_)<;>simp only [hc])|refine Go.condB rfl (fun hc => ?_) (fun hc => ?_))
   ·clear next
    refine ⟨(by first | exact .inl rfl | exact .inr rfl),fin ?_⟩
    rw [resD_tmp (fn:=Tryz.f51) rfl]
    simp only [optThen_some,resultD_tmp,resultD_cell,G,Z,Y,Gx,un_neg,cutD,decide_true,decide_false,simprocAttr,fb2,fb3,fb9,fb33,fb116,fb139,fb141]
    refine ⟨_,[],by simp,.bool,?_⟩
    rw [all_false_at h1 (by simp at hc;simp [fewA];omega)]
    simp
   ·clear next
    refine ⟨(by first | exact .inl rfl | exact .inr rfl),fin ?_⟩
    rw [resD_tmp (fn:=Tryz.f51) rfl]
    simp only [optThen_some,resultD_tmp,resultD_cell,G,Z,Y,Gx,un_neg,cutD,decide_true,decide_false,simprocAttr,fb2,fb3,fb9,fb33,fb116,fb139,fb141]
    refine ⟨_,[],by simp,.bool,?_⟩
    have h2:fewV l[i].v=false:=by simp at hc;simp [fewV];omega
    rw [all_false_at h1 (by simp [fewA,h2])]
    simp
   ·refine Go.lpN ?_
    refine Go.keep [(0,.sl none 5 l.length (attsC l)),(3,.int .i64 ((i+1:Nat):Int))] (.cons .refl (.cons .refl (.nil))) ?_
    refine next (i+1) (by omega) ⟨h1,fun j hj hlt => ?_⟩
    clear next
    rcases Nat.lt_or_ge j i with h | h
    ·exact hk j hj h
    ·obtain rfl:j=i:=by omega
     rename_i h3 h4
     simp at h4 hc
     simp [fewA,fewV,hc]
     omega
  ·refine ⟨(by first | exact .inl rfl | exact .inr rfl),fin ?_⟩
   rw [resD_tmp (fn:=Tryz.f51) rfl]
   simp only [optThen_some,resultD_tmp,resultD_cell,G,Z,Y,Gx,un_neg,cutD,decide_true,decide_false,simprocAttr,fb2,fb3,fb9,fb33,fb116,fb139,fb141]
   refine ⟨_,[],by simp,.bool,?_⟩
   have hge:l.length≤i:=by simpa using hc
   rw [all_true_of fun j hj=>hk j hj (by omega)]
   simp [h40]
theorem att_low {n:Nat} (a:Att):LowL n a.c:=.cons (.str _) Val.low
theorem atts_low {n:Nat} (l:List Att):LowL n (attsC l):=.of_mem (by
 intro x hx
 simp only [attsC,List.mem_flatMap] at hx
 obtain ⟨a,_,hx⟩:=hx
 obtain ⟨i,hi,rfl⟩:=List.mem_iff_getElem.1 hx
 exact (att_low a).get i hi)
theorem ofAttrs (l:List Att) (hl:l.length≤1000000) (S:Mem):CallD Tryz.prog orc 56 [.sl none 5 l.length (attsC l)] S fun d S'=>S'=S∧d = .sl none 5 l.length (attsC l):=by
 refine CallD.e Tryz.func56 rfl Tryz.ntmps56 (by rfl) ?_
 repeat' (first|refine Go.a rfl ?_|refine Go.rg ?_|refine GoR.nil ?_|refine Go.ret ?_|refine Go.b rfl ?_|refine Go.rgS dmx (by decide) ?_|refine Go.rgD [5] (fun _=>True) dmx (by decide) 13 (by decide) (by trivial) ?_|refine GoW.nil rfl ?_|((first|refine GoR.o (by rfl) (by rfl) ?_|refine GoW.o (by rfl) (by rfl) ?_|refine GoW.rd (by rfl) (by rfl) ?_);(conv=>arg 1;simp only [G,Z,Y,Gx,un_neg,cutD,decide_true,decide_false,simprocAttr,fb2,fb3,fb9,fb33,fb42,fb116,fb118,fb120,fb139,fb141]);first|show GoR ..|(show _∧GoW ..;refine ⟨by exact fun _=>trivial,?_⟩)|(show _∧_∧_∧GoW ..;refine ⟨rfl,by trivial,(fun H _=>by simp only [G,Z,Y,Gx,un_neg,cutD,decide_true,decide_false,simprocAttr,fb2,fb3,fb9,fb33,fb42,fb116,fb118,fb120,fb139,fb141]),?_⟩))|refine Go.condB rfl (fun hc => ?_) (fun hc => ?_))
 refine Go.keep [(0,.sl none 5 l.length (attsC l)),(3,.nils),(4,.int .i64 ((0:Nat):Int))] (.cons .refl (.cons .refl (.cons .refl (.nil)))) ?_
 refine Go.while (α:=Nat×D×Mem) (fun a=>l.length - a.1) (fun a=>[(0,.sl none 5 l.length (attsC l)),(3,a.2.1),(4,.int .i64 (a.1:Int))]) (fun a=>a.2.2)
  (fun a=>a.1≤l.length∧AccD S.length a.2.1 5 a.1 (attsC (l.take a.1)) a.2.2∧Grown S.length S a.2.2) ?_ (0,.nils,S) ⟨Nat.zero_le _,.inl ⟨rfl,rfl,rfl⟩,.refl⟩
 rintro ⟨i,o,S1⟩ ⟨hi,hacc,hg⟩ next
 dsimp only at hi hacc hg next
 repeat' (first|refine Go.a rfl ?_|refine Go.rg ?_|refine GoR.nil ?_|refine Go.ret ?_|refine Go.b rfl ?_|refine Go.rgS dmx (by decide) ?_|refine Go.rgD [5] (fun _=>True) dmx (by decide) 13 (by decide) (by trivial) ?_|refine GoW.nil rfl ?_|((first|refine GoR.o (by rfl) (by rfl) ?_|refine GoW.o (by rfl) (by rfl) ?_|refine GoW.rd (by rfl) (by rfl) ?_);(conv=>arg 1;simp only [G,Z,Y,Gx,un_neg,cutD,decide_true,decide_false,simprocAttr,fb2,fb3,fb9,fb33,fb42,fb116,fb118,fb120,fb139,fb141]);first|show GoR ..|(show _∧GoW ..;refine ⟨by exact fun _=>trivial,?_⟩)|(show _∧_∧_∧GoW ..;refine ⟨rfl,by trivial,(fun H _=>by simp only [G,Z,Y,Gx,un_neg,cutD,decide_true,decide_false,simprocAttr,fb2,fb3,fb9,fb33,fb42,fb116,fb118,fb120,fb139,fb141]),?_⟩))|refine Go.condB rfl (fun hc => ?_) (fun hc => ?_))
 ·have h1:i<l.length:=by simpa using hc
  obtain ⟨o',S2,hap,hacc2,hg2⟩:=(hacc.app [.own]).append (P:=Tryz.prog) del42 (own:=some S1.length) (m:=1) (new:=l[i].c) (by simp;have:=hg.len;omega) (by omega) ⟨by omega,by omega,by omega,rfl⟩
  simp only [Att.c] at hap
  repeat' (first|refine Go.a rfl ?_|refine Go.rg ?_|refine GoR.nil ?_|refine Go.ret ?_|refine Go.b rfl ?_|refine Go.rgS dmx (by decide) ?_|refine Go.rgD [5] (fun _=>True) dmx (by decide) 13 (by decide) (by trivial) ?_|refine GoW.nil rfl ?_|((first|refine GoR.o (by rfl) (by rfl) ?_|refine GoW.o (by rfl) (by rfl) ?_|refine GoW.rd (by rfl) (by rfl) ?_);(conv=>arg 1;simp only [G,Z,Y,Gx,un_neg,cutD,decide_true,decide_false,simprocAttr,fb2,fb3,fb9,fb33,fb42,fb116,fb118,fb120,fb139,fb141,attsAt h1,wrap_succ (show i<4611686018427387904 by omega),Val.c,hap,builtin_append]);first|show GoR ..|(show _∧GoW ..;refine ⟨by exact fun _=>trivial,?_⟩)|(show _∧_∧_∧GoW ..;refine ⟨rfl,by trivial,(fun H _=>by simp only [G,Z,Y,Gx,un_neg,cutD,decide_true,decide_false,simprocAttr,fb2,fb3,fb9,fb33,fb42,fb116,fb118,fb120,fb139,fb141,attsAt h1,wrap_succ (show i<4611686018427387904 by omega),Val.c,hap,builtin_append]),?_⟩))|(refine GoW.c c89 (by rfl) (by rfl) rfl ?_;(refine (of2 _ _).ret ?_);refine ⟨by exact fun _=>trivial,?_⟩)|(refine GoR.c c89 (by rfl) (by rfl) rfl ?_;(refine (of2 _ _).ret ?_))|refine Go.condB rfl (fun hc => ?_) (fun hc => ?_))
  refine Go.lpN ?_
  refine Go.keep [(0,.sl none 5 l.length (attsC l)),(3,o'),(4,.int .i64 ((i+1:Nat):Int))] (.cons .refl (.cons .refl (.cons .refl (.nil)))) ?_
  refine next (i+1,o',S2) (by dsimp only;omega) ⟨h1,?_,hg.trans (Grown.app.trans hg2)⟩
  have e:attsC (l.take (i+1))=attsC (l.take i)++l[i].c:=flat_take_succ h1
  dsimp only
  rw [e]
  exact hacc2
 ·clear next
  refine ⟨(by first | exact .inl rfl | exact .inr rfl),fin ?_⟩
  rw [resD_tmp (fn:=Tryz.f56) rfl]
  simp only [optThen_some,resultD_tmp,resultD_cell,G,Z,Y,Gx,un_neg,cutD,decide_true,decide_false,simprocAttr,fb2,fb3,fb9,fb33,fb42,fb116,fb118,fb120,fb139,fb141]
  have hi':i=l.length:=by
                 have:l.length≤i:=by simpa using hc
                 omega
  subst hi'
  rw [List.take_length] at hacc
  obtain ⟨E,hE⟩:=hg.pre [] S rfl (by simp)
  exact ⟨_,E,hE,hacc.wf.to_Wk (.sl' (atts_low l)),rfl⟩
end Go.Proofs.DtT
namespace Go.Proofs.DtT
open Go Go.DM Go.Proofs.DtF
set_option maxRecDepth 100000
variable {orc:DOracle}
theorem shr1 (n:Nat):(n:Int).fdiv (2 ^ (min (1:Nat) IntKind.u64.bits))=((n/2:Nat):Int):=by
 rw [show (2:Int) ^ (min (1:Nat) IntKind.u64.bits)=((2:Nat):Int) from rfl,Int.fdiv_eq_ediv_of_nonneg _ (by omega)]
 omega
theorem add_cast {i j:Nat} (h:i+j<4611686018427387904):IntKind.i64.wrap ((i:Int)+(j:Int))=((i+j:Nat):Int):=by rw [wrap64 (by omega) (by omega)];omega
theorem i64_cast {i:Nat} (h:i<4611686018427387904):IntKind.i64.wrap (i:Int)=(i:Int):=wrap64 (by omega) (by omega)
theorem u64_cast {i:Nat} (h:i<4611686018427387904):IntKind.u64.wrap (i:Int)=(i:Int):=wrapu64 (by omega) (by omega)
theorem clone1 (l:List Int) (hl:l.length<1000000) (S:Mem):CallD Tryz.prog orc 129 [.sl none 1 l.length (intsD l)] S fun d S'=>S'=S∧d = .sl none 1 l.length (intsD l):=by
 cases l with
 | nil=>
  refine CallD.nilOr (pre:=[]) (post:=[]) ?_ ?_
  ·refine CallD.e Tryz.func129 rfl Tryz.ntmps129 (by rfl) ?_
   repeat' (first|refine Go.a rfl ?_|refine Go.rg ?_|refine GoR.nil ?_|refine Go.ret ?_|refine Go.b rfl ?_|(refine GoR.o (by rfl) (by rfl) ?_;(conv=>arg 1;simp only [G,Z,Y,Gx,un_neg,cutD,decide_true,decide_false,simprocAttr,fb116]);show GoR ..)|refine Go.condB rfl (fun hc => ?_) (fun hc => ?_))
   refine ⟨(by first | exact .inl rfl | exact .inr rfl),fin ?_⟩
   rw [resD_tmp (fn:=Tryz.f129) rfl]
   simp only [optThen_some,resultD_tmp,resultD_cell,G,Z,Y,Gx,un_neg,cutD,decide_true,decide_false,simprocAttr,fb116]
   exact ⟨_,[],by simp,.nilE,rfl⟩
  ·refine CallD.e Tryz.func129 rfl Tryz.ntmps129 (by rfl) ?_
   repeat' (first|refine Go.a rfl ?_|refine Go.rg ?_|refine GoR.nil ?_|refine Go.ret ?_|refine Go.b rfl ?_|(refine GoR.o (by rfl) (by rfl) ?_;(conv=>arg 1;simp only [G,Z,Y,Gx,un_neg,cutD,decide_true,decide_false,simprocAttr,fb116]);show GoR ..)|refine Go.condB rfl (fun hc => ?_) (fun hc => ?_))
   refine ⟨(by first | exact .inl rfl | exact .inr rfl),fin ?_⟩
   rw [resD_tmp (fn:=Tryz.f129) rfl]
   simp only [optThen_some,resultD_tmp,resultD_cell,G,Z,Y,Gx,un_neg,cutD,decide_true,decide_false,simprocAttr,fb116]
   exact ⟨_,_,rfl,.disown (by simp),rfl⟩
 | cons x l=>
  refine CallD.e Tryz.func129 rfl Tryz.ntmps129 (by rfl) ?_
  have hf:fitsD 8 (l.length+1) (intsD (x::l)):=⟨by simp at hl;omega,by simp at hl;omega,by omega,by simp [intsD,D.one]⟩
  repeat' (first|refine Go.a rfl ?_|refine Go.rg ?_|refine GoR.nil ?_|refine Go.ret ?_|refine Go.b rfl ?_|(refine GoR.o (by rfl) (by rfl) ?_;(conv=>arg 1;simp only [G,Z,Y,Gx,un_neg,cutD,decide_true,decide_false,simprocAttr,fb116,builtin_append,Nat.zero_add,hf,show (l.length+1=0)=False by simp]);show GoR ..)|refine Go.condB rfl (fun hc => ?_) (fun hc => ?_))
  refine ⟨(by first | exact .inl rfl | exact .inr rfl),fin ?_⟩
  rw [resD_tmp (fn:=Tryz.f129) rfl]
  simp only [optThen_some,resultD_tmp,resultD_cell,G,Z,Y,Gx,un_neg,cutD,decide_true,decide_false,simprocAttr,fb116]
  exact ⟨_,_,rfl,.disown intsD_low.get,rfl⟩
theorem apart (v:Val) (hl:v.l.length<1000000) (S:Mem):CallD Tryz.prog orc 114 [.agg v.c] S fun d S'=>S'=S∧d = .agg v.c:=by
 obtain ⟨k,i,s,l⟩:=v
 simp only [Val.c]
 refine CallD.e Tryz.func114 rfl Tryz.ntmps114 (by rfl) ?_
 repeat' (first|refine Go.a rfl ?_|refine Go.rg ?_|refine GoR.nil ?_|refine Go.ret ?_|refine Go.b rfl ?_|(refine GoR.o (by rfl) (by rfl) ?_;(conv=>arg 1;simp only [G,Z,Y,Gx,un_neg,cutD,decide_true,decide_false,simprocAttr,fb2,fb3,fb9,fb116,fb139]);show GoR ..)|(refine GoR.c c129 (by rfl) (by rfl) rfl ?_;(refine (clone1 l hl _).ret ?_))|(refine GoR.c c128 (by rfl) (by rfl) rfl ?_;(refine (clip1 _ _ _).ret ?_))|refine Go.condB rfl (fun hc => ?_) (fun hc => ?_))
 refine ⟨(by first | exact .inl rfl | exact .inr rfl),fin ?_⟩
 rw [resD_cell (fn:=Tryz.f114) rfl]
 simp only [optThen_some,resultD_tmp,resultD_cell,G,Z,Y,Gx,un_neg,cutD,decide_true,decide_false,simprocAttr,fb2,fb3,fb9,fb116,fb139]
 exact ⟨_,_,rfl,.of_low (.agg' Val.low),rfl⟩
end Go.Proofs.DtT
namespace Go.Proofs.DtT
open Go Go.DM Go.Proofs.DtF
set_option maxRecDepth 100000
variable {orc:DOracle}
def printB (b:UInt8):Bool:=decide (32≤b.toNat)&&(decide (b.toNat≤126) && !decide (b.toNat=34))
def txtE (s:ByteArray):Int:=if 64<s.size then 4 else if s.data.toList.all printB then 0 else 2
def RiseI (l:List Int):Prop := ∀ j,∀ h:j<l.length - 1,l[j]'(by omega)<l[j+1]'(by omega)
instance {l:List Int} : Decidable (RiseI l):=by unfold RiseI;infer_instance
def lstE (l:List Int):Int:=if 16<l.length then 4 else if RiseI l then 0 else 2
def chkV (v:Val):Int:=if v.k=1 then 0 else if v.k=2 then txtE v.s else if v.k=3 then lstE v.l else 7
theorem txt_long {s:ByteArray} (h:64<s.size):txtE s=4:=if_pos h
theorem txt_ok {s:ByteArray} (h : ¬ 64<s.size) (hk : ∀ j (h:j<s.size),printB (s.data[j]'h)=true):txtE s=0:=by
 rw [txtE,if_neg h,if_pos (bytes_true hk)]
theorem txt_bad {s:ByteArray} (h : ¬ 64<s.size) {j:Nat} (hj:j<s.size) (hk:printB (s.data[j]'hj)=false):txtE s=2:=by
 rw [txtE,if_neg h,if_neg (by rw [bytes_false hj hk];decide)]
theorem lst_ok {l:List Int} (h : ¬ 16<l.length) (hk : ∀ j,(h0:1≤j)→(h:j<l.length)→l[j - 1]'(by omega)<l[j]):lstE l=0:=by
 rw [lstE,if_neg h,if_pos]
 intro j hj
 have:=hk (j+1) (by omega) (by omega)
 simpa using this
theorem lst_bad {l:List Int} (h : ¬ 16<l.length) {j:Nat} (h0:1≤j) (hj:j<l.length) (hk : ¬ l[j - 1]'(by omega)<l[j]):lstE l=2:=by
 rw [lstE,if_neg h,if_neg]
 intro hr
 have:=hr (j - 1) (by omega)
 obtain ⟨k,rfl⟩ : ∃ k,j=k+1:=⟨j - 1,by omega⟩
 exact hk (by simpa using this)
theorem printable (b:UInt8) (S:Mem):CallD Tryz.prog orc 141 [.int .u8 (b.toNat:Int)] S fun d S'=>S'=S∧d = .bool (printB b):=by
 refine CallD.e Tryz.func141 rfl Tryz.ntmps141 (by rfl) ?_
 repeat' (first|refine Go.a rfl ?_|refine Go.rg ?_|refine GoR.nil ?_|refine Go.ret ?_|refine Go.b rfl ?_|(refine GoR.o (by rfl) (by rfl) ?_;(conv=>arg 1;simp only [G,Z,Y,Gx,un_neg,cutD,decide_true,decide_false,simprocAttr,fb5]);show GoR ..)|refine GoR.s (by rfl) rfl rfl ?_|(refine GoR.splitG rfl (fun hc => ?_) (fun hc => ?_)<;>simp only [hc])|refine Go.condB rfl (fun hc => ?_) (fun hc => ?_))
 all_goals
  refine ⟨(by first | exact .inl rfl | exact .inr rfl),fin ?_⟩
  rw [resD_tmp (fn:=Tryz.f141) rfl]
  simp only [optThen_some,resultD_tmp,resultD_cell,G,Z,Y,Gx,un_neg,cutD,decide_true,decide_false,simprocAttr,fb5]
  refine ⟨_,[],by simp,.bool,?_⟩
  congr 1
  unfold printB
  rw [Bool.eq_iff_iff]
  simp at *
  omega
theorem valText (s:ByteArray) (hs:s.size<4611686018427387904) (S:Mem):CallD Tryz.prog orc 131 [.str s] S fun d S'=>S'=S∧d = .int .i64 (txtE s):=by
 refine CallD.e Tryz.func131 rfl Tryz.ntmps131 (by rfl) ?_
 by_cases h64:64<s.size
 ·repeat' (first|refine Go.a rfl ?_|refine Go.rg ?_|refine GoR.nil ?_|refine Go.ret ?_|refine Go.b rfl ?_|(refine GoR.o (by rfl) (by rfl) ?_;(conv=>arg 1;simp only [G,Z,Y,Gx,un_neg,cutD,decide_true,decide_false,simprocAttr,fb3,fb9,show (decide (64<(s.size:Int)))=true by simp;omega]);show GoR ..)|refine Go.condB rfl (fun hc => ?_) (fun hc => ?_))
  refine ⟨(by first | exact .inl rfl | exact .inr rfl),fin ?_⟩
  rw [resD_tmp (fn:=Tryz.f131) rfl]
  simp only [optThen_some,resultD_tmp,resultD_cell,G,Z,Y,Gx,un_neg,cutD,decide_true,decide_false,simprocAttr,fb3,fb9]
  exact ⟨_,[],by simp,.int,by rw [txt_long h64]⟩
 ·repeat' (first|refine Go.a rfl ?_|refine Go.rg ?_|refine GoR.nil ?_|refine Go.ret ?_|refine Go.b rfl ?_|(refine GoR.o (by rfl) (by rfl) ?_;(conv=>arg 1;simp only [G,Z,Y,Gx,un_neg,cutD,decide_true,decide_false,simprocAttr,fb3,fb9,show (decide (64<(s.size:Int)))=false by simp;omega]);show GoR ..)|refine Go.condB rfl (fun hc => ?_) (fun hc => ?_))
  refine Go.keep [(0,.str s),(8,.int .i64 (s.size:Int)),(9,.int .i64 ((0:Nat):Int))] (.cons .refl (.cons .refl (.cons .refl (.nil)))) ?_
  refine Go.while (α:=Nat) (fun i=>s.size - i) (fun i=>[(0,.str s),(8,.int .i64 (s.size:Int)),(9,.int .i64 (i:Int))]) (fun _=>S) (fun i=>i≤s.size ∧ ∀ j (h:j<s.size),j<i→printB (s.data[j]'h)=true) ?_ 0 ⟨Nat.zero_le _,by simp⟩
  rintro i ⟨hi,hk⟩ next
  by_cases h1:i<s.size
  ·cases hp:printB (s.data[i]'h1) with
   | true=>
    repeat' (first|refine Go.a rfl ?_|refine Go.rg ?_|refine GoR.nil ?_|refine Go.ret ?_|refine Go.b rfl ?_|(refine GoR.o (by rfl) (by rfl) ?_;(conv=>arg 1;simp only [G,Z,Y,Gx,un_neg,cutD,decide_true,decide_false,simprocAttr,fb3,fb9,show (decide ((i:Int)<(s.size:Int)))=true by simp;omega,indexStr_cast h1,wrap_succ (show i<4611686018427387904 by omega),hp]);show GoR ..)|(refine GoR.c c141 (by rfl) (by rfl) rfl ?_;(refine (printable _ _).ret ?_))|refine Go.condB rfl (fun hc => ?_) (fun hc => ?_))
    refine Go.lpN ?_
    refine Go.keep [(0,.str s),(8,.int .i64 (s.size:Int)),(9,.int .i64 ((i+1:Nat):Int))] (.cons .refl (.cons .refl (.cons .refl (.nil)))) ?_
    refine next (i+1) (by omega) ⟨h1,fun j hj hlt => ?_⟩
    rcases Nat.lt_or_ge j i with h | h
    ·exact hk j hj h
    ·obtain rfl:j=i:=by omega
     exact hp
   | false=>
    clear next
    repeat' (first|refine Go.a rfl ?_|refine Go.rg ?_|refine GoR.nil ?_|refine Go.ret ?_|refine Go.b rfl ?_|(refine GoR.o (by rfl) (by rfl) ?_;(conv=>arg 1;simp only [G,Z,Y,Gx,un_neg,cutD,decide_true,decide_false,simprocAttr,fb3,fb9,show (decide ((i:Int)<(s.size:Int)))=true by simp;omega,indexStr_cast h1,hp]);show GoR ..)|(refine GoR.c c141 (by rfl) (by rfl) rfl ?_;(refine (printable _ _).ret ?_))|refine Go.condB rfl (fun hc => ?_) (fun hc => ?_))
    refine ⟨(by first | exact .inl rfl | exact .inr rfl),fin ?_⟩
    rw [resD_tmp (fn:=Tryz.f131) rfl]
    simp only [optThen_some,resultD_tmp,resultD_cell,G,Z,Y,Gx,un_neg,cutD,decide_true,decide_false,simprocAttr,fb3,fb9]
    exact ⟨_,[],by simp,.int,by rw [txt_bad h64 h1 hp]⟩
  ·clear next
   repeat' (first|refine Go.a rfl ?_|refine Go.rg ?_|refine GoR.nil ?_|refine Go.ret ?_|refine Go.b rfl ?_|(refine GoR.o (by rfl) (by rfl) ?_;(conv=>arg 1;simp only [G,Z,Y,Gx,un_neg,cutD,decide_true,decide_false,simprocAttr,fb3,fb9,show (decide ((i:Int)<(s.size:Int)))=false by simp;omega]);show GoR ..)|refine Go.condB rfl (fun hc => ?_) (fun hc => ?_))
   refine ⟨(by first | exact .inl rfl | exact .inr rfl),fin ?_⟩
   rw [resD_tmp (fn:=Tryz.f131) rfl]
   simp only [optThen_some,resultD_tmp,resultD_cell,G,Z,Y,Gx,un_neg,cutD,decide_true,decide_false,simprocAttr,fb3,fb9]
   exact ⟨_,[],by simp,.int,by rw [txt_ok h64 fun j hj=>hk j hj (by omega)]⟩
theorem pred_cast {i:Nat} (h:0<i) (h2:i<4611686018427387904):IntKind.i64.wrap ((i:Int) - 1)=((i - 1:Nat):Int):=by rw [wrap64 (by omega) (by omega)];omega
theorem valList (l:List Int) (S:Mem):CallD Tryz.prog orc 132 [.sl none 1 l.length (intsD l)] S fun d S'=>S'=S∧d = .int .i64 (lstE l):=by
 refine CallD.e Tryz.func132 rfl Tryz.ntmps132 (by rfl) ?_
 by_cases h16:16<l.length
 ·repeat' (first|refine Go.a rfl ?_|refine Go.rg ?_|refine GoR.nil ?_|refine Go.ret ?_|refine Go.b rfl ?_|refine Go.rgS dmx (by decide) ?_|(refine GoR.o (by rfl) (by rfl) ?_;(conv=>arg 1;simp only [G,Z,Y,Gx,un_neg,cutD,decide_true,decide_false,simprocAttr,fb2,fb3,fb116,show (decide (16<(l.length:Int)))=true by simp;omega]);show GoR ..)|refine Go.condB rfl (fun hc => ?_) (fun hc => ?_))
  refine ⟨(by first | exact .inl rfl | exact .inr rfl),fin ?_⟩
  rw [resD_tmp (fn:=Tryz.f132) rfl]
  simp only [optThen_some,resultD_tmp,resultD_cell,G,Z,Y,Gx,un_neg,cutD,decide_true,decide_false,simprocAttr,fb2,fb3,fb116]
  exact ⟨_,[],by simp,.int,by rw [lstE,if_pos h16]⟩
 ·repeat' (first|refine Go.a rfl ?_|refine Go.rg ?_|refine GoR.nil ?_|refine Go.ret ?_|refine Go.b rfl ?_|refine Go.rgS dmx (by decide) ?_|(refine GoR.o (by rfl) (by rfl) ?_;(conv=>arg 1;simp only [G,Z,Y,Gx,un_neg,cutD,decide_true,decide_false,simprocAttr,fb2,fb3,fb116,show (decide (16<(l.length:Int)))=false by simp;omega]);show GoR ..)|refine Go.condB rfl (fun hc => ?_) (fun hc => ?_))
  refine Go.keep [(0,.sl none 1 l.length (intsD l)),(3,.int .i64 ((1:Nat):Int))] (.cons .refl (.cons .refl (.nil))) ?_
  refine Go.while (α:=Nat) (fun i=>l.length - i) (fun i=>[(0,.sl none 1 l.length (intsD l)),(3,.int .i64 (i:Int))]) (fun _=>S) (fun i=>1≤i ∧ ∀ j,(h0:1≤j)→(h:j<l.length)→j<i→l[j - 1]'(by omega)<l[j]) ?_ 1 ⟨Nat.le_refl _,fun j h0 _ h1=>absurd h1 (by omega)⟩
  rintro i ⟨hi,hk⟩ next
  by_cases h1:i<l.length
  ·by_cases hr:l[i - 1]'(by omega)<l[i]
   ·repeat' (first|refine Go.a rfl ?_|refine Go.rg ?_|refine GoR.nil ?_|refine Go.ret ?_|refine Go.b rfl ?_|refine Go.rgS dmx (by decide) ?_|(refine GoR.o (by rfl) (by rfl) ?_;(conv=>arg 1;simp only [G,Z,Y,Gx,un_neg,cutD,decide_true,decide_false,simprocAttr,fb2,fb3,fb116,show (decide ((i:Int)<(l.length:Int)))=true by simp;omega,intsAt h1,intsAt (show i - 1<l.length by omega),pred_cast (show 0<i by omega) (by omega),wrap_succ (show i<4611686018427387904 by omega),show (decide (l[i]≤l[i - 1]'(by omega)))=false by simp;omega]);show GoR ..)|refine Go.condB rfl (fun hc => ?_) (fun hc => ?_))
    refine Go.lpN ?_
    refine Go.keep [(0,.sl none 1 l.length (intsD l)),(3,.int .i64 ((i+1:Nat):Int))] (.cons .refl (.cons .refl (.nil))) ?_
    refine next (i+1) (by omega) ⟨by omega,fun j h0 hj hlt => ?_⟩
    rcases Nat.lt_or_ge j i with h | h
    ·exact hk j h0 hj h
    ·obtain rfl:j=i:=by omega
     exact hr
   ·clear next
    repeat' (first|refine Go.a rfl ?_|refine Go.rg ?_|refine GoR.nil ?_|refine Go.ret ?_|refine Go.b rfl ?_|refine Go.rgS dmx (by decide) ?_|(refine GoR.o (by rfl) (by rfl) ?_;(conv=>arg 1;simp only [G,Z,Y,Gx,un_neg,cutD,decide_true,decide_false,simprocAttr,fb2,fb3,fb116,show (decide ((i:Int)<(l.length:Int)))=true by simp;omega,intsAt h1,intsAt (show i - 1<l.length by omega),pred_cast (show 0<i by omega) (by omega),show (decide (l[i]≤l[i - 1]'(by omega)))=true by simp;omega]);show GoR ..)|refine Go.condB rfl (fun hc => ?_) (fun hc => ?_))
    refine ⟨(by first | exact .inl rfl | exact .inr rfl),fin ?_⟩
    rw [resD_tmp (fn:=Tryz.f132) rfl]
    simp only [optThen_some,resultD_tmp,resultD_cell,G,Z,Y,Gx,un_neg,cutD,decide_true,decide_false,simprocAttr,fb2,fb3,fb116]
    exact ⟨_,[],by simp,.int,by rw [lst_bad h16 hi h1 hr]⟩
  ·clear next
   repeat' (first|refine Go.a rfl ?_|refine Go.rg ?_|refine GoR.nil ?_|refine Go.ret ?_|refine Go.b rfl ?_|refine Go.rgS dmx (by decide) ?_|(refine GoR.o (by rfl) (by rfl) ?_;(conv=>arg 1;simp only [G,Z,Y,Gx,un_neg,cutD,decide_true,decide_false,simprocAttr,fb2,fb3,fb116,show (decide ((i:Int)<(l.length:Int)))=false by simp;omega]);show GoR ..)|refine Go.condB rfl (fun hc => ?_) (fun hc => ?_))
   refine ⟨(by first | exact .inl rfl | exact .inr rfl),fin ?_⟩
   rw [resD_tmp (fn:=Tryz.f132) rfl]
   simp only [optThen_some,resultD_tmp,resultD_cell,G,Z,Y,Gx,un_neg,cutD,decide_true,decide_false,simprocAttr,fb2,fb3,fb116]
   exact ⟨_,[],by simp,.int,by rw [lst_ok h16 fun j h0 hj=>hk j h0 hj (by omega)]⟩
theorem valCheck (v:Val) (hs:v.s.size<1000000) (S:Mem):CallD Tryz.prog orc 118 [.agg v.c] S fun d S'=>S'=S∧d = .int .i64 (chkV v):=by
 obtain ⟨k,i,s,l⟩:=v
 simp only [Val.c]
 refine CallD.e Tryz.func118 rfl Tryz.ntmps118 (by rfl) ?_
 repeat' (first|refine Go.a rfl ?_|refine Go.rg ?_|refine GoR.nil ?_|refine Go.ret ?_|refine Go.b rfl ?_|(refine GoR.o (by rfl) (by rfl) ?_;(conv=>arg 1;simp only [G,Z,Y,Gx,un_neg,cutD,decide_true,decide_false,simprocAttr,fb2,fb3,fb9,fb116,fb139]);show GoR ..)|(refine GoR.c c131 (by rfl) (by rfl) rfl ?_;(refine (valText _ (by simp only at hs;omega) _).ret ?_))|(refine GoR.c c132 (by rfl) (by rfl) rfl ?_;(refine (valList _ _).ret ?_))|refine Go.condB rfl (fun hc => ?_) (fun hc => ?_))
 all_goals
  refine ⟨(by first | exact .inl rfl | exact .inr rfl),fin ?_⟩
  rw [resD_tmp (fn:=Tryz.f118) rfl]
  simp only [optThen_some,resultD_tmp,resultD_cell,G,Z,Y,Gx,un_neg,cutD,decide_true,decide_false,simprocAttr,fb2,fb3,fb9,fb116,fb139]
  refine ⟨_,_,rfl,.int,?_⟩
  simp_all [chkV]
theorem refCheckValue (v:Val) (hs:v.s.size<1000000) (S:Mem):CallD Tryz.prog orc 70 [.agg v.c] S fun d S'=>S'=S∧d = .int .i64 (chkV v):=by
 obtain ⟨k,i,s,l⟩:=v
 simp only at hs
 simp only [Val.c]
 by_cases k1:k=1
 ·refine CallD.e Tryz.func70 rfl Tryz.ntmps70 (by rfl) ?_
  repeat' (first|refine Go.a rfl ?_|refine Go.rg ?_|refine GoR.nil ?_|refine Go.ret ?_|refine Go.b rfl ?_|refine Go.rgS dmx (by decide) ?_|(refine GoR.o (by rfl) (by rfl) ?_;(conv=>arg 1;simp only [G,Z,Y,Gx,un_neg,cutD,decide_true,decide_false,simprocAttr,fb2,fb3,fb5,fb9,fb116,fb118,k1,show ((1:Int)==1)=true from rfl]);show GoR ..)|refine GoR.s (by rfl) rfl rfl ?_|(refine GoR.splitG rfl (fun hc => ?_) (fun hc => ?_)<;>simp only [hc])|refine Go.condB rfl (fun hc => ?_) (fun hc => ?_))
  refine ⟨(by first | exact .inl rfl | exact .inr rfl),fin ?_⟩
  rw [resD_tmp (fn:=Tryz.f70) rfl]
  simp only [optThen_some,resultD_tmp,resultD_cell,G,Z,Y,Gx,un_neg,cutD,decide_true,decide_false,simprocAttr,fb2,fb3,fb5,fb9,fb116,fb118]
  exact ⟨_,_,rfl,.int,by rw [chkV,if_pos k1]⟩
 have b1:(k==1)=false:=by simpa using k1
 by_cases k2:k=2
 ·subst k2
  have hchk:chkV ⟨2,i,s,l⟩=txtE s:=by simp [chkV]
  rw [hchk]
  refine CallD.e Tryz.func70 rfl Tryz.ntmps70 (by rfl) ?_
  by_cases h64:64<s.size
  ·repeat' (first|refine Go.a rfl ?_|refine Go.rg ?_|refine GoR.nil ?_|refine Go.ret ?_|refine Go.b rfl ?_|refine Go.rgS dmx (by decide) ?_|(refine GoR.o (by rfl) (by rfl) ?_;(conv=>arg 1;simp only [G,Z,Y,Gx,un_neg,cutD,decide_true,decide_false,simprocAttr,fb2,fb3,fb5,fb9,fb116,fb118,b1,show ((2:Int)==2)=true from rfl,show (decide (64<(s.size:Int)))=true by simp;omega]);show GoR ..)|refine GoR.s (by rfl) rfl rfl ?_|(refine GoR.splitG rfl (fun hc => ?_) (fun hc => ?_)<;>simp only [hc])|refine Go.condB rfl (fun hc => ?_) (fun hc => ?_))
   refine ⟨(by first | exact .inl rfl | exact .inr rfl),fin ?_⟩
   rw [resD_tmp (fn:=Tryz.f70) rfl]
   simp only [optThen_some,resultD_tmp,resultD_cell,G,Z,Y,Gx,un_neg,cutD,decide_true,decide_false,simprocAttr,fb2,fb3,fb5,fb9,fb116,fb118]
   exact ⟨_,_,rfl,.int,by rw [txt_long h64]⟩
  ·repeat' (first|refine Go.a rfl ?_|refine Go.rg ?_|refine GoR.nil ?_|refine Go.ret ?_|refine Go.b rfl ?_|refine Go.rgS dmx (by decide) ?_|(refine GoR.o (by rfl) (by rfl) ?_;(conv=>arg 1;simp only [G,Z,Y,Gx,un_neg,cutD,decide_true,decide_false,simprocAttr,fb2,fb3,fb5,fb9,fb116,fb118,b1,show ((2:Int)==2)=true from rfl,show (decide (64<(s.size:Int)))=false by simp;omega]);show GoR ..)|refine GoR.s (by rfl) rfl rfl ?_|(refine GoR.splitG rfl (fun hc => ?_) (fun hc => ?_)<;>simp only [hc])|refine Go.condB rfl (fun hc => ?_) (fun hc => ?_))
   refine Go.keep [(1,.ptr S.length 0),(3,.int .i64 ((0:Nat):Int))] (.cons .refl (.cons .refl (.nil))) ?_
   refine Go.while (α:=Nat) (fun i=>s.size - i) (fun j=>[(1,.ptr S.length 0),(3,.int .i64 (j:Int))]) (fun _=>S++[.obj [.int .i64 2,.int .i64 i,.str s,.sl none 1 l.length (intsD l)]]) (fun i=>i≤s.size ∧ ∀ j (h:j<s.size),j<i→printB (s.data[j]'h)=true) ?_ 0 ⟨Nat.zero_le _,by simp⟩
   rintro j ⟨hj,hk⟩ next
   by_cases h1:j<s.size
   ·repeat' (first|refine Go.a rfl ?_|refine Go.rg ?_|refine GoR.nil ?_|refine Go.ret ?_|refine Go.b rfl ?_|refine Go.rgS dmx (by decide) ?_|(refine GoR.o (by rfl) (by rfl) ?_;(conv=>arg 1;simp only [G,Z,Y,Gx,un_neg,cutD,decide_true,decide_false,simprocAttr,fb2,fb3,fb5,fb9,fb116,fb118,show (decide ((j:Int)<(s.size:Int)))=true by simp;omega,indexStr_cast h1,wrap_succ (show j<4611686018427387904 by omega)]);show GoR ..)|refine GoR.s (by rfl) rfl rfl ?_|(refine GoR.splitG rfl (fun hc => ?_) (fun hc => ?_)<;>simp only [hc])|refine Go.condB rfl (fun hc => ?_) (fun hc => ?_))
    all_goals first
     | (
       refine Go.lpN ?_
       refine Go.keep [(1,.ptr S.length 0),(3,.int .i64 ((j+1:Nat):Int))] (.cons .refl (.cons .refl (.nil))) ?_
       refine next (j+1) (by omega) ⟨h1,fun q hq hlt => ?_⟩
       clear next
       rcases Nat.lt_or_ge q j with h | h
       ·exact hk q hq h
       ·obtain rfl:q=j:=by omega
        clear hk
        simp [printB] at *
        omega)
     | (
       clear next
       refine ⟨(by first | exact .inl rfl | exact .inr rfl),fin ?_⟩
       rw [resD_tmp (fn:=Tryz.f70) rfl]
       simp only [optThen_some,resultD_tmp,resultD_cell,G,Z,Y,Gx,un_neg,cutD,decide_true,decide_false,simprocAttr,fb2,fb3,fb5,fb9,fb116,fb118]
       refine ⟨_,_,rfl,.int,?_⟩
       rw [txt_bad h64 h1]
       clear hk
       simp [printB] at *
       omega)
   ·clear next
    repeat' (first|refine Go.a rfl ?_|refine Go.rg ?_|refine GoR.nil ?_|refine Go.ret ?_|refine Go.b rfl ?_|refine Go.rgS dmx (by decide) ?_|(refine GoR.o (by rfl) (by rfl) ?_;(conv=>arg 1;simp only [G,Z,Y,Gx,un_neg,cutD,decide_true,decide_false,simprocAttr,fb2,fb3,fb5,fb9,fb116,fb118,show (decide ((j:Int)<(s.size:Int)))=false by simp;omega]);show GoR ..)|refine GoR.s (by rfl) rfl rfl ?_|(refine GoR.splitG rfl (fun hc => ?_) (fun hc => ?_)<;>simp only [hc])|refine Go.condB rfl (fun hc => ?_) (fun hc => ?_))
    refine ⟨(by first | exact .inl rfl | exact .inr rfl),fin ?_⟩
    rw [resD_tmp (fn:=Tryz.f70) rfl]
    simp only [optThen_some,resultD_tmp,resultD_cell,G,Z,Y,Gx,un_neg,cutD,decide_true,decide_false,simprocAttr,fb2,fb3,fb5,fb9,fb116,fb118]
    exact ⟨_,_,rfl,.int,by rw [txt_ok h64 fun q hq=>hk q hq (by omega)]⟩
 have b2:(k==2)=false:=by simpa using k2
 by_cases k3:k=3
 ·subst k3
  have hchk:chkV ⟨3,i,s,l⟩=lstE l:=by simp [chkV]
  rw [hchk]
  refine CallD.e Tryz.func70 rfl Tryz.ntmps70 (by rfl) ?_
  by_cases h16:16<l.length
  ·repeat' (first|refine Go.a rfl ?_|refine Go.rg ?_|refine GoR.nil ?_|refine Go.ret ?_|refine Go.b rfl ?_|refine Go.rgS dmx (by decide) ?_|(refine GoR.o (by rfl) (by rfl) ?_;(conv=>arg 1;simp only [G,Z,Y,Gx,un_neg,cutD,decide_true,decide_false,simprocAttr,fb2,fb3,fb5,fb9,fb116,fb118,b1,b2,show ((3:Int)==3)=true from rfl,show (decide (16<(l.length:Int)))=true by simp;omega]);show GoR ..)|refine GoR.s (by rfl) rfl rfl ?_|(refine GoR.splitG rfl (fun hc => ?_) (fun hc => ?_)<;>simp only [hc])|refine Go.condB rfl (fun hc => ?_) (fun hc => ?_))
   refine ⟨(by first | exact .inl rfl | exact .inr rfl),fin ?_⟩
   rw [resD_tmp (fn:=Tryz.f70) rfl]
   simp only [optThen_some,resultD_tmp,resultD_cell,G,Z,Y,Gx,un_neg,cutD,decide_true,decide_false,simprocAttr,fb2,fb3,fb5,fb9,fb116,fb118]
   exact ⟨_,_,rfl,.int,by rw [lstE,if_pos h16]⟩
  ·repeat' (first|refine Go.a rfl ?_|refine Go.rg ?_|refine GoR.nil ?_|refine Go.ret ?_|refine Go.b rfl ?_|refine Go.rgS dmx (by decide) ?_|(refine GoR.o (by rfl) (by rfl) ?_;(conv=>arg 1;simp only [G,Z,Y,Gx,un_neg,cutD,decide_true,decide_false,simprocAttr,fb2,fb3,fb5,fb9,fb116,fb118,b1,b2,show ((3:Int)==3)=true from rfl,show (decide (16<(l.length:Int)))=false by simp;omega]);show GoR ..)|refine GoR.s (by rfl) rfl rfl ?_|(refine GoR.splitG rfl (fun hc => ?_) (fun hc => ?_)<;>simp only [hc])|refine Go.condB rfl (fun hc => ?_) (fun hc => ?_))
   refine Go.keep [(1,.ptr S.length 0),(4,.int .i64 ((1:Nat):Int))] (.cons .refl (.cons .refl (.nil))) ?_
   refine Go.while (α:=Nat) (fun i=>l.length - i) (fun j=>[(1,.ptr S.length 0),(4,.int .i64 (j:Int))]) (fun _=>S++[.obj [.int .i64 3,.int .i64 i,.str s,.sl none 1 l.length (intsD l)]]) (fun i=>1≤i ∧ ∀ j,(h0:1≤j)→(h:j<l.length)→j<i→l[j - 1]'(by omega)<l[j]) ?_ 1 ⟨Nat.le_refl _,fun j h0 _ h1=>absurd h1 (by omega)⟩
   rintro j ⟨hj,hk⟩ next
   by_cases h1:j<l.length
   ·by_cases hr:l[j - 1]'(by omega)<l[j]
    ·repeat' (first|refine Go.a rfl ?_|refine Go.rg ?_|refine GoR.nil ?_|refine Go.ret ?_|refine Go.b rfl ?_|refine Go.rgS dmx (by decide) ?_|(refine GoR.o (by rfl) (by rfl) ?_;(conv=>arg 1;simp only [G,Z,Y,Gx,un_neg,cutD,decide_true,decide_false,simprocAttr,fb2,fb3,fb5,fb9,fb116,fb118,show (decide ((j:Int)<(l.length:Int)))=true by simp;omega,intsAt h1,intsAt (show j - 1<l.length by omega),pred_cast (show 0<j by omega) (by omega),wrap_succ (show j<4611686018427387904 by omega),show (decide (l[j]≤l[j - 1]'(by omega)))=false by simp;omega]);show GoR ..)|refine GoR.s (by rfl) rfl rfl ?_|(refine GoR.splitG rfl (fun hc => ?_) (fun hc => ?_)<;>simp only [hc])|refine Go.condB rfl (fun hc => ?_) (fun hc => ?_))
     refine Go.lpN ?_
     refine Go.keep [(1,.ptr S.length 0),(4,.int .i64 ((j+1:Nat):Int))] (.cons .refl (.cons .refl (.nil))) ?_
     refine next (j+1) (by omega) ⟨by omega,fun q h0 hq hlt => ?_⟩
     rcases Nat.lt_or_ge q j with h | h
     ·exact hk q h0 hq h
     ·obtain rfl:q=j:=by omega
      exact hr
    ·clear next
     repeat' (first|refine Go.a rfl ?_|refine Go.rg ?_|refine GoR.nil ?_|refine Go.ret ?_|refine Go.b rfl ?_|refine Go.rgS dmx (by decide) ?_|(refine GoR.o (by rfl) (by rfl) ?_;(conv=>arg 1;simp only [G,Z,Y,Gx,un_neg,cutD,decide_true,decide_false,simprocAttr,fb2,fb3,fb5,fb9,fb116,fb118,show (decide ((j:Int)<(l.length:Int)))=true by simp;omega,intsAt h1,intsAt (show j - 1<l.length by omega),pred_cast (show 0<j by omega) (by omega),show (decide (l[j]≤l[j - 1]'(by omega)))=true by simp;omega]);show GoR ..)|refine GoR.s (by rfl) rfl rfl ?_|(refine GoR.splitG rfl (fun hc => ?_) (fun hc => ?_)<;>simp only [hc])|refine Go.condB rfl (fun hc => ?_) (fun hc => ?_))
     refine ⟨(by first | exact .inl rfl | exact .inr rfl),fin ?_⟩
     rw [resD_tmp (fn:=Tryz.f70) rfl]
     simp only [optThen_some,resultD_tmp,resultD_cell,G,Z,Y,Gx,un_neg,cutD,decide_true,decide_false,simprocAttr,fb2,fb3,fb5,fb9,fb116,fb118]
     exact ⟨_,_,rfl,.int,by rw [lst_bad h16 hj h1 hr]⟩
   ·clear next
    repeat' (first|refine Go.a rfl ?_|refine Go.rg ?_|refine GoR.nil ?_|refine Go.ret ?_|refine Go.b rfl ?_|refine Go.rgS dmx (by decide) ?_|(refine GoR.o (by rfl) (by rfl) ?_;(conv=>arg 1;simp only [G,Z,Y,Gx,un_neg,cutD,decide_true,decide_false,simprocAttr,fb2,fb3,fb5,fb9,fb116,fb118,show (decide ((j:Int)<(l.length:Int)))=false by simp;omega]);show GoR ..)|refine GoR.s (by rfl) rfl rfl ?_|(refine GoR.splitG rfl (fun hc => ?_) (fun hc => ?_)<;>simp only [hc])|refine Go.condB rfl (fun hc => ?_) (fun hc => ?_))
    refine ⟨(by first | exact .inl rfl | exact .inr rfl),fin ?_⟩
    rw [resD_tmp (fn:=Tryz.f70) rfl]
    simp only [optThen_some,resultD_tmp,resultD_cell,G,Z,Y,Gx,un_neg,cutD,decide_true,decide_false,simprocAttr,fb2,fb3,fb5,fb9,fb116,fb118]
    exact ⟨_,_,rfl,.int,by rw [lst_ok h16 fun q h0 hq=>hk q h0 hq (by omega)]⟩
 have b3:(k==3)=false:=by simpa using k3
 refine CallD.e Tryz.func70 rfl Tryz.ntmps70 (by rfl) ?_
 repeat' (first|refine Go.a rfl ?_|refine Go.rg ?_|refine GoR.nil ?_|refine Go.ret ?_|refine Go.b rfl ?_|refine Go.rgS dmx (by decide) ?_|(refine GoR.o (by rfl) (by rfl) ?_;(conv=>arg 1;simp only [G,Z,Y,Gx,un_neg,cutD,decide_true,decide_false,simprocAttr,fb2,fb3,fb5,fb9,fb116,fb118,b1,b2,b3]);show GoR ..)|refine GoR.s (by rfl) rfl rfl ?_|(refine GoR.splitG rfl (fun hc => ?_) (fun hc => ?_)<;>simp only [hc])|refine Go.condB rfl (fun hc => ?_) (fun hc => ?_))
 refine ⟨(by first | exact .inl rfl | exact .inr rfl),fin ?_⟩
 rw [resD_tmp (fn:=Tryz.f70) rfl]
 simp only [optThen_some,resultD_tmp,resultD_cell,G,Z,Y,Gx,un_neg,cutD,decide_true,decide_false,simprocAttr,fb2,fb3,fb5,fb9,fb116,fb118]
 exact ⟨_,_,rfl,.int,by simp [chkV,k1,k2,k3]⟩
end Go.Proofs.DtT
