/- A map of attributes: made of some, told as some. -/
import Derived.Test.YtmbgelijgmmpbaaGreatDoorDvM1x
import Derived.Test.YtmbgelijgmmpbaaGreatDoorDvS33x
set_option linter.unusedSimpArgs false
set_option linter.unusedVariables false
namespace Go.Proofs.DvT
open Go Go.DM Go.Proofs.DvF
set_option maxRecDepth 100000
variable {orc:DOracle}
theorem val_low {n:Nat} (v:Val):LowL n v.c:=Val.low
theorem mapGetAt {S:Mem} {m a:Nat} {l:List Att} (h:MapAt S m a l) {i:Nat} (hi:i<l.length):CallD Tryz.prog orc 79 [.ptr m 0,.int .i64 (i:Int)] S fun d S'=>S'=S∧d = .tup [.str l[i].n,.agg l[i].v.c,.bool true]:=by
 rcases h with ⟨rfl,rfl,hm⟩ | ⟨hne,hm,ha⟩
 ·simp at hi
 have hm' : ∀ E,objAt (S++E) m=some [.msl a 5 l.length]:=fun E=>objAt_old hm
 have ha' : ∀ E,objAt (S++E) a=some (pairsC l):=fun E=>objAt_old ha
 have at1:=pairsAt hi
 simp only [Val.c,pairC,Att.c] at at1 ⊢
 refine CallD.e Tryz.func79 rfl Tryz.ntmps79 (by rfl) ?_
 repeat' (first|refine Go.a rfl ?_|refine Go.rg ?_|refine GoR.nil ?_|refine Go.ret ?_|refine Go.b rfl ?_|refine Go.rgS dmx (by decide) ?_|(refine GoR.o (by rfl) (by rfl) ?_;(conv=>arg 1;simp only [G,Z,Y,Gx,un_neg,cutD,decide_true,decide_false,simprocAttr,fb2,fb3,fb9,fb51,fb53,fb158,fb159,fb161,hm',ha',at1,show decide ((i:Int)<0)=false by simp,show decide ((l.length:Int)≤(i:Int))=false by simp;omega,len_msl (P:=Tryz.prog) (at_ := #[159]) (t:=159) rfl Tryz.underlying159,ix_msl (P:=Tryz.prog) (t:=159) (e:=158) (n:=5) Tryz.underlying159 dsz158]);show GoR ..)|refine GoR.s (by rfl) rfl rfl ?_|(refine GoR.splitG rfl (fun hc => ?_) (fun hc => ?_)<;>simp only [hc])|refine Go.condB rfl (fun hc => ?_) (fun hc => ?_))
 refine ⟨(by first | exact .inl rfl | exact .inr rfl),fin ?_⟩
 rw [resD_three (fn:=Tryz.f79) rfl]
 simp only [optThen_some,resultD_tmp,resultD_cell,G,Z,Y,Gx,un_neg,cutD,decide_true,decide_false,simprocAttr,fb2,fb3,fb9,fb51,fb53,fb158,fb159,fb161]
 exact ⟨_,_,rfl,.of_low (.tup' (.cons (.str _) (.cons (.agg' (val_low l[i].v)) (.cons (.bool _) .nil)))),rfl⟩
theorem sumWhole (l:List Att) (s:ByteArray) (hr:RiseB Att.n l) (hl:l.length<1000000) (hv : ∀ a∈l,a.v.l.length<1000000) (S:Mem) :
  CallD Tryz.prog orc 49 [.sl none 5 l.length (attsC l),.str s] S fun d S'=>S'=S∧d = .tup [.int .i64 (if (look l s).isSome&&((look l s).getD noVal).k==1 then ((look l s).getD noVal).i else 0),.bool ((look l s).isSome&&((look l s).getD noVal).k==1)]:=by
 have hg:=fun S=>rowGet (orc:=orc) l s hr hl hv S
 generalize (look l s).getD noVal=v at *
 generalize (look l s).isSome=b at *
 simp only [Val.c] at hg
 refine CallD.e Tryz.func49 rfl Tryz.ntmps49 (by rfl) ?_
 cases b with
 | false=>
  repeat' (first|refine Go.a rfl ?_|refine Go.rg ?_|refine GoR.nil ?_|refine Go.ret ?_|refine Go.b rfl ?_|(refine GoR.o (by rfl) (by rfl) ?_;(conv=>arg 1;simp only [G,Z,Y,Gx,un_neg,cutD,decide_true,decide_false,simprocAttr,fb2,fb3,fb9,fb51,fb53]);show GoR ..)|(refine GoR.c c23 (by rfl) (by rfl) rfl ?_;(refine (hg _).ret ?_))|refine GoR.s (by rfl) rfl rfl ?_|(refine GoR.splitG rfl (fun hc => ?_) (fun hc => ?_)<;>simp only [hc])|refine Go.condB rfl (fun hc => ?_) (fun hc => ?_))
  refine ⟨(by first | exact .inl rfl | exact .inr rfl),fin ?_⟩
  rw [resD_two (fn:=Tryz.f49) rfl]
  simp only [optThen_some,resultD_tmp,resultD_cell,G,Z,Y,Gx,un_neg,cutD,decide_true,decide_false,simprocAttr,fb2,fb3,fb9,fb51,fb53]
  exact ⟨_,_,rfl,.of_low (.tup' (.cons (.int _ _) (.cons (.bool _) .nil))),by simp⟩
 | true=>
  by_cases hk:v.k=1
  ·repeat' (first|refine Go.a rfl ?_|refine Go.rg ?_|refine GoR.nil ?_|refine Go.ret ?_|refine Go.b rfl ?_|(refine GoR.o (by rfl) (by rfl) ?_;(conv=>arg 1;simp only [G,Z,Y,Gx,un_neg,cutD,decide_true,decide_false,simprocAttr,fb2,fb3,fb9,fb51,fb53,hk,bne_self_eq_false]);show GoR ..)|(refine GoR.c c23 (by rfl) (by rfl) rfl ?_;(refine (hg _).ret ?_))|refine GoR.s (by rfl) rfl rfl ?_|(refine GoR.splitG rfl (fun hc => ?_) (fun hc => ?_)<;>simp only [hc])|refine Go.condB rfl (fun hc => ?_) (fun hc => ?_))
   refine ⟨(by first | exact .inl rfl | exact .inr rfl),fin ?_⟩
   rw [resD_two (fn:=Tryz.f49) rfl]
   simp only [optThen_some,resultD_tmp,resultD_cell,G,Z,Y,Gx,un_neg,cutD,decide_true,decide_false,simprocAttr,fb2,fb3,fb9,fb51,fb53]
   exact ⟨_,_,rfl,.of_low (.tup' (.cons (.int _ _) (.cons (.bool _) .nil))),by simp [hk]⟩
  ·have hk':(v.k==1)=false:=by simpa using hk
   repeat' (first|refine Go.a rfl ?_|refine Go.rg ?_|refine GoR.nil ?_|refine Go.ret ?_|refine Go.b rfl ?_|(refine GoR.o (by rfl) (by rfl) ?_;(conv=>arg 1;simp only [G,Z,Y,Gx,un_neg,cutD,decide_true,decide_false,simprocAttr,fb2,fb3,fb9,fb51,fb53,show (v.k != 1)=true by simpa using hk]);show GoR ..)|(refine GoR.c c23 (by rfl) (by rfl) rfl ?_;(refine (hg _).ret ?_))|refine GoR.s (by rfl) rfl rfl ?_|(refine GoR.splitG rfl (fun hc => ?_) (fun hc => ?_)<;>simp only [hc])|refine Go.condB rfl (fun hc => ?_) (fun hc => ?_))
   refine ⟨(by first | exact .inl rfl | exact .inr rfl),fin ?_⟩
   rw [resD_two (fn:=Tryz.f49) rfl]
   simp only [optThen_some,resultD_tmp,resultD_cell,G,Z,Y,Gx,un_neg,cutD,decide_true,decide_false,simprocAttr,fb2,fb3,fb9,fb51,fb53]
   exact ⟨_,_,rfl,.of_low (.tup' (.cons (.int _ _) (.cons (.bool _) .nil))),by simp [hk']⟩
end Go.Proofs.DvT
namespace Go.Proofs.DvT
open Go Go.DM Go.Proofs.DvF
set_option maxRecDepth 100000
variable {orc:DOracle}
end Go.Proofs.DvT
