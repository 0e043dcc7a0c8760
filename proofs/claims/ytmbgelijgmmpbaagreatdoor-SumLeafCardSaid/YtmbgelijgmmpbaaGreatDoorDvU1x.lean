/- A map of attributes: made of some, told as some. -/
import Derived.Test.YtmbgelijgmmpbaaGreatDoorDvM1x
import Derived.Test.YtmbgelijgmmpbaaGreatDoorDvS33x
set_option linter.unusedSimpArgs false
set_option linter.unusedVariables false
namespace Go.Proofs.DvT
open Go Go.DM Go.Proofs.DvF
set_option maxRecDepth 100000
variable {orc:DOracle}
theorem val_low {n:Nat} (v:Val):LowL n v.c:=Val.low
theorem mapGetAt {S:Mem} {m a:Nat} {l:List Att} (h:MapAt S m a l) {i:Nat} (hi:i<l.length):CallD Tryz.prog orc 79 [.ptr m 0,.int .i64 (i:Int)] S fun d S'=>S'=S∧d = .tup [.str l[i].n,.agg l[i].v.c,.bool true]:=by
 rcases h with ⟨rfl,rfl,hm⟩ | ⟨hne,hm,ha⟩
 ·simp at hi
 have hm' : ∀ E,objAt (S++E) m=some [.msl a 5 l.length]:=fun E=>objAt_old hm
 have ha' : ∀ E,objAt (S++E) a=some (pairsC l):=fun E=>objAt_old ha
 have at1:=pairsAt hi
 simp only [Val.c,pairC,Att.c] at at1 ⊢
 refine CallD.e Tryz.func79 rfl Tryz.ntmps79 (by rfl) ?_
 repeat' (first|refine Go.a rfl ?_|refine Go.rg ?_|refine GoR.nil ?_|refine Go.ret ?_|refine Go.b rfl ?_|refine Go.rgS dmx (by decide) ?_|(refine GoR.o (by rfl) (by rfl) ?_;(conv=>arg 1;simp only [G,Z,Y,Gx,un_neg,cutD,decide_true,decide_false,simprocAttr,fb2,fb3,fb9,fb51,fb53,fb158,fb159,fb161,hm',ha',at1,show decide ((i:Int)<0)=false by simp,show decide ((l.length:Int)≤(i:Int))=false by simp;omega,len_msl (P:=Tryz.prog) (at_ := #[159]) (t:=159) rfl Tryz.underlying159,ix_msl (P:=Tryz.prog) (t:=159) (e:=158) (n:=5) Tryz.underlying159 dsz158]);show GoR ..)|refine GoR.s (by rfl) rfl rfl ?_|(refine GoR.splitG rfl (fun hc => ?_) (fun hc => ?_)<;>simp only [hc])|refine Go.condB rfl (fun hc => ?_) (fun hc => ?_))
 refine ⟨(by first | exact .inl rfl | exact .inr rfl),fin ?_⟩
 rw [resD_three (fn:=Tryz.f79) rfl]
 simp only [optThen_some,resultD_tmp,resultD_cell,G,Z,Y,Gx,un_neg,cutD,decide_true,decide_false,simprocAttr,fb2,fb3,fb9,fb51,fb53,fb158,fb159,fb161]
 exact ⟨_,_,rfl,.of_low (.tup' (.cons (.str _) (.cons (.agg' (val_low l[i].v)) (.cons (.bool _) .nil)))),rfl⟩
theorem cloneF (l:List Att) (hl:l.length<100000) (hv : ∀ a∈l,a.v.l.length<1000000) (S:Mem):CallD Tryz.prog orc 76 [.sl none 5 l.length (attsC l)] S fun d S'=>S'=S∧d = .sl none 5 l.length (attsC l):=
 CallD.freeze ((clone l hl hv S).mono fun d S' h=>by
  rcases h with ⟨rfl,rfl,rfl⟩ | ⟨h1,rfl,rfl⟩
  ·exact ⟨_,[],[],by simp,by simp,.nilE,rfl⟩
  ·have ho:objAt (S++[.obj (attsC l)]) S.length=some (attsC l):=by rw [objAt_app0];rfl
   exact ⟨_,_,[S.length],rfl,fun o hm=>by rw [List.mem_singleton.1 hm];exact ⟨Nat.le_refl _,_,ho⟩,.freeze (List.mem_singleton.2 rfl) ho attsC_len (WzL_low (atts_low l)),rfl⟩)
theorem clipAtts (own:Option Nat) (l:List Att) (S:Mem):CallD Tryz.prog orc 80 [.sl own 5 l.length (attsC l)] S fun d S'=>S'=S∧d = .sl none 5 l.length (attsC l):=by
 refine CallD.e Tryz.func80 rfl Tryz.ntmps80 (by rfl) ?_
 have hll:(attsC l).length=l.length*5:=attsC_len
 by_cases h0:l.length=0
 ·have hi:attsC l=[]:=by rw [List.length_eq_zero_iff.1 h0];rfl
  rw [hi,h0]
  have c:sliceD Tryz.prog 33 (.sl own 5 0 []) none (some (.int .i64 0)) (some (.int .i64 0))=some .sl0:=by
   simp [sliceD,optNatD,natD,Tryz.underlying33,dsz59]
  repeat' (first|refine Go.a rfl ?_|refine Go.rg ?_|refine GoR.nil ?_|refine Go.ret ?_|refine Go.b rfl ?_|(refine GoR.o (by rfl) (by rfl) ?_;(conv=>arg 1;simp only [G,Z,Y,Gx,un_neg,cutD,decide_true,decide_false,simprocAttr,fb33,c,Option.map_some,Option.map_none]);show GoR ..)|refine Go.condB rfl (fun hc => ?_) (fun hc => ?_))
  refine ⟨(by first | exact .inl rfl | exact .inr rfl),fin ?_⟩
  rw [resD_tmp (fn:=Tryz.f80) rfl]
  simp only [optThen_some,resultD_tmp,resultD_cell,G,Z,Y,Gx,un_neg,cutD,decide_true,decide_false,simprocAttr,fb33]
  exact ⟨_,[],by simp,.sl0E,rfl⟩
 ·generalize l.length=n at *
  have c : ∃ o',sliceD Tryz.prog 33 (.sl own 5 n (attsC l)) none (some (.int .i64 (n:Int))) (some (.int .i64 (n:Int)))=some (.sl o' 5 n (attsC l)):=by
   refine ⟨own,?_⟩
   simp [sliceD,optNatD,natD,Tryz.underlying33,dsz59,h0]
   rw [List.take_of_length_le (by omega)]
  obtain ⟨o',c⟩:=c
  repeat' (first|refine Go.a rfl ?_|refine Go.rg ?_|refine GoR.nil ?_|refine Go.ret ?_|refine Go.b rfl ?_|(refine GoR.o (by rfl) (by rfl) ?_;(conv=>arg 1;simp only [G,Z,Y,Gx,un_neg,cutD,decide_true,decide_false,simprocAttr,fb33,c,Option.map_some,Option.map_none]);show GoR ..)|refine Go.condB rfl (fun hc => ?_) (fun hc => ?_))
  refine ⟨(by first | exact .inl rfl | exact .inr rfl),fin ?_⟩
  rw [resD_tmp (fn:=Tryz.f80) rfl]
  simp only [optThen_some,resultD_tmp,resultD_cell,G,Z,Y,Gx,un_neg,cutD,decide_true,decide_false,simprocAttr,fb33]
  exact ⟨_,[],by simp,.disown (atts_low l).get,rfl⟩
theorem sumAttrs {S:Mem} {m a:Nat} {l:List Att} (h:MapAt S m a l) (hl:l.length<1000000):CallD Tryz.prog orc 41 [.ptr m 0] S fun d S'=>S'=S∧d = .sl none 5 l.length (attsC l):=by
 have hln:=mapLen (orc:=orc) h
 refine CallD.e Tryz.func41 rfl Tryz.ntmps41 (by rfl) ?_
 repeat' (first|refine Go.a rfl ?_|refine Go.rg ?_|refine GoR.nil ?_|refine Go.ret ?_|refine Go.b rfl ?_|(refine GoR.o (by rfl) (by rfl) ?_;(conv=>arg 1;simp only [G,Z,Y,Gx,un_neg,cutD,decide_true,decide_false,simprocAttr,fb2,fb3,fb9,fb33,fb51,fb53,fb59]);show GoR ..)|(refine GoR.c c78 (by rfl) (by rfl) rfl ?_;(refine hln.ret ?_))|refine Go.condB rfl (fun hc => ?_) (fun hc => ?_))
 refine Go.keep [(0,.ptr m 0),(3,.nils),(9,.int .i64 (l.length:Int)),(10,.int .i64 ((0:Nat):Int))] (.cons .refl (.cons .refl (.cons .refl (.cons .refl (.nil))))) ?_
 refine Go.while (α:=Nat×D×Mem) (fun x=>l.length - x.1) (fun x=>[(0,.ptr m 0),(3,x.2.1),(9,.int .i64 (l.length:Int)),(10,.int .i64 (x.1:Int))]) (fun x=>x.2.2)
  (fun x=>x.1≤l.length∧AccD S.length x.2.1 5 x.1 (attsC (l.take x.1)) x.2.2∧Grown S.length S x.2.2) ?_ (0,.nils,S) ⟨Nat.zero_le _,.inl ⟨rfl,rfl,rfl⟩,.refl⟩
 rintro ⟨i,o,S1⟩ ⟨hi,hacc,hg⟩ next
 dsimp only at hi hacc hg next
 by_cases h1:i<l.length
 ·have hT:MapAt S1 m a l:=by
   obtain ⟨E,hE⟩:=hg.pre [] S rfl (by simp)
   rw [hE]
   exact h.fr (F:=[]) .app (by simp) (by simp)
  have hat:=mapGetAt (orc:=orc) hT h1
  obtain ⟨o',S2,hap,hacc2,hg2⟩:=(hacc.app [.obj l[i].v.c,.own]).append (P:=Tryz.prog) del33 (own:=some (S1.length+1)) (m:=1) (new:=l[i].c) (by simp;have:=hg.len;omega) (by omega) ⟨by omega,by omega,by omega,rfl⟩
  simp only [Val.c,Att.c] at hat hap
  repeat' (first|refine Go.a rfl ?_|refine Go.rg ?_|refine GoR.nil ?_|refine Go.ret ?_|refine Go.b rfl ?_|(refine GoR.o (by rfl) (by rfl) ?_;(conv=>arg 1;simp only [G,Z,Y,Gx,un_neg,cutD,decide_true,decide_false,simprocAttr,fb2,fb3,fb9,fb33,fb51,fb53,fb59,show decide ((i:Int)<(l.length:Int))=true by simp;omega,List.append_assoc,List.cons_append,List.nil_append,hap,builtin_append,wrap_succ (show i<4611686018427387904 by omega)]);show GoR ..)|(refine GoR.c c79 (by rfl) (by rfl) rfl ?_;(refine hat.ret ?_))|refine Go.condB rfl (fun hc => ?_) (fun hc => ?_))
  refine Go.lpN ?_
  refine Go.keep [(0,.ptr m 0),(3,o'),(9,.int .i64 (l.length:Int)),(10,.int .i64 ((i+1:Nat):Int))] (.cons .refl (.cons .refl (.cons .refl (.cons .refl (.nil))))) ?_
  refine next (i+1,o',S2) (by dsimp only;omega) ⟨h1,?_,hg.trans (Grown.app.trans hg2)⟩
  dsimp only
  rw [show attsC (l.take (i+1))=attsC (l.take i)++l[i].c from flat_take_succ h1]
  exact hacc2
 ·clear next
  have hi':i=l.length:=by omega
  subst hi'
  rw [List.take_length] at hacc
  obtain ⟨E,hE⟩:=hg.pre [] S rfl (by simp)
  have hcl:=fun S=>CallD.weak (.cons hacc.wf .nil) (clipAtts (orc:=orc) none l S)
  repeat' (first|refine Go.a rfl ?_|refine Go.rg ?_|refine GoR.nil ?_|refine Go.ret ?_|refine Go.b rfl ?_|(refine GoR.o (by rfl) (by rfl) ?_;(conv=>arg 1;simp only [G,Z,Y,Gx,un_neg,cutD,decide_true,decide_false,simprocAttr,fb2,fb3,fb9,fb33,fb51,fb53,fb59,show decide ((l.length:Int)<(l.length:Int))=false by simp]);show GoR ..)|(refine GoR.c c80 (by rfl) (by rfl) rfl ?_;(refine (hcl _).ret ?_))|refine Go.condB rfl (fun hc => ?_) (fun hc => ?_))
  refine ⟨(by first | exact .inl rfl | exact .inr rfl),fin ?_⟩
  rw [resD_tmp (fn:=Tryz.f41) rfl]
  simp only [optThen_some,resultD_tmp,resultD_cell,G,Z,Y,Gx,un_neg,cutD,decide_true,decide_false,simprocAttr,fb2,fb3,fb9,fb33,fb51,fb53,fb59]
  exact ⟨_,E,hE,.of_low (.sl' (atts_low l)),rfl⟩
theorem putK_end {l:List Att} (hr:RiseB Att.n l) {i:Nat} (h:i<l.length):putK Att.n (l.take i) l[i]=l.take (i+1):=by
 have hlt : ∀ b∈l.take i,ltB b.n l[i].n=true:=fun b hb=>by
  obtain ⟨j,hj,rfl⟩:=List.mem_iff_getElem.1 hb
  rw [List.length_take] at hj
  rw [List.getElem_take]
  exact hr.lt h (by omega)
 have hn:lookK Att.n (l.take i) l[i].n=none:=lookK_miss fun b hb e=>by
  have:=hlt b hb
  rw [e,ltB_irrefl] at this
  cases this
 have hp:posK Att.n (l.take i) l[i].n=(l.take i).length:=by
  have:=posK_app (f:=Att.n) (x:=l.take i) (z:=[]) (s:=l[i].n) hlt (by simp)
  rwa [List.append_nil] at this
 rw [putK_new (by rw [hn];rfl),hp,List.take_length,List.drop_length,List.take_succ_eq_append_getElem h]
set_option maxHeartbeats 2000000 in
theorem sumOf {l:List Att} (hr:RiseB Att.n l) (hl:l.length<100000) (hv : ∀ a∈l,a.v.l.length<1000000) (S:Mem) :
  CallD Tryz.prog O 36 [.sl none 5 l.length (attsC l)] S fun d S' => ∃ m a,d = .ptr m 0∧MapAt S' m a l∧S.length≤m∧S.length≤a∧Fr [] S S':=by
 have hn:=fun S=>mapNew (orc:=O) S
 have hc:=fun S=>cloneF (orc:=O) l hl hv S
 refine CallD.eb Tryz.func36 rfl Tryz.ntmps36 (by rfl) ?_
 repeat' (first|refine Go.a rfl ?_|refine Go.rg ?_|refine GoR.nil ?_|refine Go.ret ?_|refine Go.b rfl ?_|(refine GoR.o (by rfl) (by rfl) ?_;(conv=>arg 1;simp only [G,Z,Y,Gx,un_neg,cutD,decide_true,decide_false,simprocAttr,fb2,fb3,fb9,fb33,fb51,fb53,fb59]);show GoR ..)|(refine GoR.c c75 (by rfl) (by rfl) rfl ?_;(refine (hn _).mono ?_;rintro _ _ ⟨rfl,rfl⟩))|(refine GoR.c c76 (by rfl) (by rfl) rfl ?_;(refine (hc _).ret ?_))|refine Go.condB rfl (fun hc => ?_) (fun hc => ?_))
 refine Go.keep [(3,.ptr S.length 0),(8,.sl none 5 l.length (attsC l)),(9,.int .i64 (l.length:Int)),(10,.int .i64 ((0:Nat):Int))] (.cons .refl (.cons .refl (.cons .refl (.cons .refl (.nil))))) ?_
 refine Go.while (α:=Nat×Nat×Mem) (fun x=>l.length - x.1) (fun x=>[(3,.ptr S.length 0),(8,.sl none 5 l.length (attsC l)),(9,.int .i64 (l.length:Int)),(10,.int .i64 (x.1:Int))]) (fun x=>x.2.2)
  (fun x=>x.1≤l.length∧MapAt x.2.2 S.length x.2.1 (l.take x.1)∧S.length≤x.2.1∧Fr [] S x.2.2) ?_ (0,S.length,_) ⟨Nat.zero_le _,.inl ⟨rfl,rfl,by rw [objAt_app0];rfl⟩,Nat.le_refl _,.app⟩
 rintro ⟨i,a,S1⟩ ⟨hi,hm,ha,hf⟩ next
 dsimp only at hi hm ha hf next
 by_cases h1:i<l.length
 ·have at1:=attsAt h1
  have hrt:RiseB Att.n (l.take i):=fun j hj=>by
   rw [List.length_take] at hj
   rw [List.getElem_take,List.getElem_take]
   exact hr j (by omega)
  have hp:=fun E=>mapPut (hm.fr (F:=[]) (S':=S1++E) .app (by simp) (by simp)) hrt (by rw [List.length_take];omega) l[i]
  rw [putK_end hr h1] at hp
  simp only [Val.c,Att.c] at at1 hp
  repeat' (first|refine Go.a rfl ?_|refine Go.rg ?_|refine GoR.nil ?_|refine Go.ret ?_|refine Go.b rfl ?_|(refine GoR.o (by rfl) (by rfl) ?_;(conv=>arg 1;simp only [G,Z,Y,Gx,un_neg,cutD,decide_true,decide_false,simprocAttr,fb2,fb3,fb9,fb33,fb51,fb53,fb59,show decide ((i:Int)<(l.length:Int))=true by simp;omega,at1,wrap_succ (show i<4611686018427387904 by omega)]);show GoR ..)|(refine GoR.c c38 (by rfl) (by rfl) rfl ?_;(refine (hp _).mono ?_;rintro _ S2 ⟨rfl,a',h2,h3,h4⟩))|refine Go.condB rfl (fun hc => ?_) (fun hc => ?_))
  refine Go.lpN ?_
  refine Go.keep [(3,.ptr S.length 0),(8,.sl none 5 l.length (attsC l)),(9,.int .i64 (l.length:Int)),(10,.int .i64 ((i+1:Nat):Int))] (.cons .refl (.cons .refl (.cons .refl (.cons .refl (.nil))))) ?_
  refine next (i+1,a',S2) (by dsimp only;omega) ⟨h1,h2,?_,?_⟩
  ·have:=hf.len
   dsimp only
   rcases h3 with rfl | rfl | h3
   ·exact ha
   ·exact Nat.le_refl _
   ·simp at h3;omega
  ·exact (hf.trans (F:=[]) (G:=[]) .app (by simp)).trans (F:=[]) h4 (by simp;omega)
 ·clear next
  obtain rfl:i=l.length:=by omega
  rw [List.take_length] at hm
  repeat' (first|refine Go.a rfl ?_|refine Go.rg ?_|refine GoR.nil ?_|refine Go.ret ?_|refine Go.b rfl ?_|(refine GoR.o (by rfl) (by rfl) ?_;(conv=>arg 1;simp only [G,Z,Y,Gx,un_neg,cutD,decide_true,decide_false,simprocAttr,fb2,fb3,fb9,fb33,fb51,fb53,fb59,show decide ((l.length:Int)<(l.length:Int))=false by simp]);show GoR ..)|refine Go.condB rfl (fun hc => ?_) (fun hc => ?_))
  refine ⟨(by first | exact .inl rfl | exact .inr rfl),fin ?_⟩
  rw [resD_tmp (fn:=Tryz.f36) rfl]
  simp only [optThen_some,resultD_tmp,resultD_cell,G,Z,Y,Gx,un_neg,cutD,decide_true,decide_false,simprocAttr,fb2,fb3,fb9,fb33,fb51,fb53,fb59]
  exact ⟨S.length,a,rfl,hm,Nat.le_refl _,ha,hf⟩
theorem sumWhole (l:List Att) (s:ByteArray) (hr:RiseB Att.n l) (hl:l.length<1000000) (hv : ∀ a∈l,a.v.l.length<1000000) (S:Mem) :
  CallD Tryz.prog orc 49 [.sl none 5 l.length (attsC l),.str s] S fun d S'=>S'=S∧d = .tup [.int .i64 (if (look l s).isSome&&((look l s).getD noVal).k==1 then ((look l s).getD noVal).i else 0),.bool ((look l s).isSome&&((look l s).getD noVal).k==1)]:=by
 have hg:=fun S=>rowGet (orc:=orc) l s hr hl hv S
 generalize (look l s).getD noVal=v at *
 generalize (look l s).isSome=b at *
 simp only [Val.c] at hg
 refine CallD.e Tryz.func49 rfl Tryz.ntmps49 (by rfl) ?_
 cases b with
 | false=>
  repeat' (first|refine Go.a rfl ?_|refine Go.rg ?_|refine GoR.nil ?_|refine Go.ret ?_|refine Go.b rfl ?_|(refine GoR.o (by rfl) (by rfl) ?_;(conv=>arg 1;simp only [G,Z,Y,Gx,un_neg,cutD,decide_true,decide_false,simprocAttr,fb2,fb3,fb9,fb51,fb53]);show GoR ..)|(refine GoR.c c23 (by rfl) (by rfl) rfl ?_;(refine (hg _).ret ?_))|refine GoR.s (by rfl) rfl rfl ?_|(refine GoR.splitG rfl (fun hc => ?_) (fun hc => ?_)<;>simp only [hc])|refine Go.condB rfl (fun hc => ?_) (fun hc => ?_))
  refine ⟨(by first | exact .inl rfl | exact .inr rfl),fin ?_⟩
  rw [resD_two (fn:=Tryz.f49) rfl]
  simp only [optThen_some,resultD_tmp,resultD_cell,G,Z,Y,Gx,un_neg,cutD,decide_true,decide_false,simprocAttr,fb2,fb3,fb9,fb51,fb53]
  exact ⟨_,_,rfl,.of_low (.tup' (.cons (.int _ _) (.cons (.bool _) .nil))),by simp⟩
 | true=>
  by_cases hk:v.k=1
  ·repeat' (first|refine Go.a rfl ?_|refine Go.rg ?_|refine GoR.nil ?_|refine Go.ret ?_|refine Go.b rfl ?_|(refine GoR.o (by rfl) (by rfl) ?_;(conv=>arg 1;simp only [G,Z,Y,Gx,un_neg,cutD,decide_true,decide_false,simprocAttr,fb2,fb3,fb9,fb51,fb53,hk,bne_self_eq_false]);show GoR ..)|(refine GoR.c c23 (by rfl) (by rfl) rfl ?_;(refine (hg _).ret ?_))|refine GoR.s (by rfl) rfl rfl ?_|(refine GoR.splitG rfl (fun hc => ?_) (fun hc => ?_)<;>simp only [hc])|refine Go.condB rfl (fun hc => ?_) (fun hc => ?_))
   refine ⟨(by first | exact .inl rfl | exact .inr rfl),fin ?_⟩
   rw [resD_two (fn:=Tryz.f49) rfl]
   simp only [optThen_some,resultD_tmp,resultD_cell,G,Z,Y,Gx,un_neg,cutD,decide_true,decide_false,simprocAttr,fb2,fb3,fb9,fb51,fb53]
   exact ⟨_,_,rfl,.of_low (.tup' (.cons (.int _ _) (.cons (.bool _) .nil))),by simp [hk]⟩
  ·have hk':(v.k==1)=false:=by simpa using hk
   repeat' (first|refine Go.a rfl ?_|refine Go.rg ?_|refine GoR.nil ?_|refine Go.ret ?_|refine Go.b rfl ?_|(refine GoR.o (by rfl) (by rfl) ?_;(conv=>arg 1;simp only [G,Z,Y,Gx,un_neg,cutD,decide_true,decide_false,simprocAttr,fb2,fb3,fb9,fb51,fb53,show (v.k != 1)=true by simpa using hk]);show GoR ..)|(refine GoR.c c23 (by rfl) (by rfl) rfl ?_;(refine (hg _).ret ?_))|refine GoR.s (by rfl) rfl rfl ?_|(refine GoR.splitG rfl (fun hc => ?_) (fun hc => ?_)<;>simp only [hc])|refine Go.condB rfl (fun hc => ?_) (fun hc => ?_))
   refine ⟨(by first | exact .inl rfl | exact .inr rfl),fin ?_⟩
   rw [resD_two (fn:=Tryz.f49) rfl]
   simp only [optThen_some,resultD_tmp,resultD_cell,G,Z,Y,Gx,un_neg,cutD,decide_true,decide_false,simprocAttr,fb2,fb3,fb9,fb51,fb53]
   exact ⟨_,_,rfl,.of_low (.tup' (.cons (.int _ _) (.cons (.bool _) .nil))),by simp [hk']⟩
end Go.Proofs.DvT
namespace Go.Proofs.DvT
open Go Go.DM Go.Proofs.DvF
set_option maxRecDepth 100000
variable {orc:DOracle}
def numV (n:Int):Val:=⟨1,n,⟨#[]⟩,[]⟩
def txtV (s:ByteArray):Val:=⟨2,0,s,[]⟩
theorem val_wk {n:Nat} {k i:Int} {s:ByteArray} : Wk n (.agg [.int .i64 k,.int .i64 i,.str s,.nils]) (.agg (Val.c ⟨k,i,s,[]⟩)):=(Wf.agg' (.cons .refl (.cons .refl (.cons .refl (.cons .nilE .nil))))).to_Wk (.agg' (val_low ⟨k,i,s,[]⟩))
theorem sumNumber (n:Int) (S:Mem):CallD Tryz.prog orc 39 [.int .i64 n] S fun d S'=>S'=S∧d = .agg (numV n).c:=by
 refine CallD.e Tryz.func39 rfl Tryz.ntmps39 (by rfl) ?_
 repeat' (first|refine Go.a rfl ?_|refine Go.rg ?_|refine GoR.nil ?_|refine Go.ret ?_|refine Go.b rfl ?_|(refine GoR.o (by rfl) (by rfl) ?_;(conv=>arg 1;simp only [G,Z,Y,Gx,un_neg,cutD,decide_true,decide_false,simprocAttr,fb2,fb3,fb9,fb51,fb53]);show GoR ..)|refine Go.condB rfl (fun hc => ?_) (fun hc => ?_))
 refine ⟨(by first | exact .inl rfl | exact .inr rfl),fin ?_⟩
 rw [resD_cell (fn:=Tryz.f39) rfl]
 simp only [optThen_some,resultD_tmp,resultD_cell,G,Z,Y,Gx,un_neg,cutD,decide_true,decide_false,simprocAttr,fb2,fb3,fb9,fb51,fb53]
 exact ⟨_,_,rfl,val_wk,rfl⟩
theorem sumText (s:ByteArray) (S:Mem):CallD Tryz.prog orc 40 [.str s] S fun d S'=>S'=S∧d = .agg (txtV s).c:=by
 refine CallD.e Tryz.func40 rfl Tryz.ntmps40 (by rfl) ?_
 repeat' (first|refine Go.a rfl ?_|refine Go.rg ?_|refine GoR.nil ?_|refine Go.ret ?_|refine Go.b rfl ?_|(refine GoR.o (by rfl) (by rfl) ?_;(conv=>arg 1;simp only [G,Z,Y,Gx,un_neg,cutD,decide_true,decide_false,simprocAttr,fb2,fb3,fb9,fb51,fb53]);show GoR ..)|refine Go.condB rfl (fun hc => ?_) (fun hc => ?_))
 refine ⟨(by first | exact .inl rfl | exact .inr rfl),fin ?_⟩
 rw [resD_cell (fn:=Tryz.f40) rfl]
 simp only [optThen_some,resultD_tmp,resultD_cell,G,Z,Y,Gx,un_neg,cutD,decide_true,decide_false,simprocAttr,fb2,fb3,fb9,fb51,fb53]
 exact ⟨_,_,rfl,val_wk,rfl⟩
theorem refNumber (n:Int) (S:Mem):CallD Tryz.prog orc 46 [.int .i64 n] S fun d S'=>S'=S∧d = .agg (numV n).c:=by
 refine CallD.e Tryz.func46 rfl Tryz.ntmps46 (by rfl) ?_
 repeat' (first|refine Go.a rfl ?_|refine Go.rg ?_|refine GoR.nil ?_|refine Go.ret ?_|refine Go.b rfl ?_|(refine GoR.o (by rfl) (by rfl) ?_;(conv=>arg 1;simp only [G,Z,Y,Gx,un_neg,cutD,decide_true,decide_false,simprocAttr,fb2,fb3,fb9,fb51,fb85]);show GoR ..)|refine Go.condB rfl (fun hc => ?_) (fun hc => ?_))
 refine ⟨(by first | exact .inl rfl | exact .inr rfl),fin ?_⟩
 rw [resD_cell (fn:=Tryz.f46) rfl]
 simp only [optThen_some,resultD_tmp,resultD_cell,G,Z,Y,Gx,un_neg,cutD,decide_true,decide_false,simprocAttr,fb2,fb3,fb9,fb51,fb85]
 exact ⟨_,_,rfl,val_wk,rfl⟩
theorem refText (s:ByteArray) (S:Mem):CallD Tryz.prog orc 48 [.str s] S fun d S'=>S'=S∧d = .agg (txtV s).c:=by
 refine CallD.e Tryz.func48 rfl Tryz.ntmps48 (by rfl) ?_
 repeat' (first|refine Go.a rfl ?_|refine Go.rg ?_|refine GoR.nil ?_|refine Go.ret ?_|refine Go.b rfl ?_|(refine GoR.o (by rfl) (by rfl) ?_;(conv=>arg 1;simp only [G,Z,Y,Gx,un_neg,cutD,decide_true,decide_false,simprocAttr,fb2,fb3,fb9,fb51,fb85]);show GoR ..)|refine Go.condB rfl (fun hc => ?_) (fun hc => ?_))
 refine ⟨(by first | exact .inl rfl | exact .inr rfl),fin ?_⟩
 rw [resD_cell (fn:=Tryz.f48) rfl]
 simp only [optThen_some,resultD_tmp,resultD_cell,G,Z,Y,Gx,un_neg,cutD,decide_true,decide_false,simprocAttr,fb2,fb3,fb9,fb51,fb85]
 exact ⟨_,_,rfl,val_wk,rfl⟩
structure Map0 (S0 S:Mem) (m:Nat) (l:List Att):Prop where
 ex : ∃ a,MapAt S m a l∧S0.length≤a
 lo:S0.length≤m
 fr:Fr [] S0 S
theorem map0Put {S0 S:Mem} {m:Nat} {l:List Att} (h:Map0 S0 S m l) (hr:RiseB Att.n l) (hl:l.length<1000000) (s:ByteArray) (v:Val) :
  CallD Tryz.prog O 38 [.ptr m 0,.str s,.agg v.c] S fun d S'=>d = .bool (!(lookK Att.n l s).isSome)∧Map0 S0 S' m (putK Att.n l ⟨s,v⟩):=by
 obtain ⟨⟨a,hm,ha⟩,hlo,hf⟩:=h
 refine (mapPut hm hr hl ⟨s,v⟩).mono fun d S' ⟨h1,a',h2,h3,h4⟩=>⟨h1,⟨a',h2,?_⟩,hlo,hf.trans (F:=[]) h4 (by simp;omega)⟩
 have:=hf.len
 rcases h3 with rfl | rfl | h3<;>omega
theorem map0Attrs {S0 S:Mem} {m:Nat} {l:List Att} (h:Map0 S0 S m l) (hl:l.length<1000000):CallD Tryz.prog orc 41 [.ptr m 0] S fun d S'=>S'=S∧d = .sl none 5 l.length (attsC l):=by
 obtain ⟨⟨a,hm,_⟩,_,_⟩:=h
 exact sumAttrs hm hl
theorem len_put {l:List Att} (hr:RiseB Att.n l) (a:Att):(putK Att.n l a).length≤l.length+1:=by rw [lenK_put hr];split<;>omega
def wholeI (l:List Att):Int:=if (look l (⟨#[108,111,97,100]⟩:ByteArray)).isSome&&((look l (⟨#[108,111,97,100]⟩:ByteArray)).getD noVal).k==1 then ((look l (⟨#[108,111,97,100]⟩:ByteArray)).getD noVal).i else 0
def leafP (own:ByteArray) (l:List Att) (ver:Int):List Att:=
 putK Att.n (putK Att.n (putK Att.n (putK Att.n l ⟨(⟨#[114,101,112]⟩:ByteArray),txtV own⟩) ⟨(⟨#[108,111,97,100]⟩:ByteArray),numV (wholeI l)⟩) ⟨(⟨#[110]⟩:ByteArray),numV 1⟩) ⟨(⟨#[118,101,114]⟩:ByteArray),numV ver⟩
set_option maxHeartbeats 2000000 in
theorem sumLeaf (own:ByteArray) {l:List Att} (ver:Int) (hr:RiseB Att.n l) (hl:l.length<100000) (hv : ∀ a∈l,a.v.l.length<1000000) (S:Mem) :
  CallD Tryz.prog O 19 [.str own,.sl none 5 l.length (attsC l),.int .i64 ver] S fun d S'=>S'=S∧d=attsD (leafP own l ver):=by
 have hof:=fun S=>sumOf hr hl hv S
 have hw:=fun S=>sumWhole (orc:=O) l (⟨#[108,111,97,100]⟩:ByteArray) hr (by omega) hv S
 have hnm:=fun n S=>sumNumber (orc:=O) n S
 have htx:=fun S=>sumText (orc:=O) own S
 have e:(if (look l (⟨#[108,111,97,100]⟩:ByteArray)).isSome&&((look l (⟨#[108,111,97,100]⟩:ByteArray)).getD noVal).k==1 then ((look l (⟨#[108,111,97,100]⟩:ByteArray)).getD noVal).i else 0)=wholeI l:=rfl
 simp only [e] at hw
 unfold leafP
 generalize wholeI l=n at *
 generalize ((look l (⟨#[108,111,97,100]⟩:ByteArray)).isSome&&((look l (⟨#[108,111,97,100]⟩:ByteArray)).getD noVal).k==1)=ok at *
 have r1:=riseK_put hr ⟨(⟨#[114,101,112]⟩:ByteArray),txtV own⟩
 have r2:=riseK_put r1 ⟨(⟨#[108,111,97,100]⟩:ByteArray),numV n⟩
 have r3:=riseK_put r2 ⟨(⟨#[110]⟩:ByteArray),numV 1⟩
 have r4:=riseK_put r3 ⟨(⟨#[118,101,114]⟩:ByteArray),numV ver⟩
 have l1:=len_put hr ⟨(⟨#[114,101,112]⟩:ByteArray),txtV own⟩
 have l2:=len_put r1 ⟨(⟨#[108,111,97,100]⟩:ByteArray),numV n⟩
 have l3:=len_put r2 ⟨(⟨#[110]⟩:ByteArray),numV 1⟩
 have l4:=len_put r3 ⟨(⟨#[118,101,114]⟩:ByteArray),numV ver⟩
 have p1:=fun {S1 m} (h:Map0 S S1 m l)=>map0Put h hr (by omega) (⟨#[114,101,112]⟩:ByteArray) (txtV own)
 generalize putK Att.n l ⟨(⟨#[114,101,112]⟩:ByteArray),txtV own⟩=q1 at *
 have p2:=fun {S1 m} (h:Map0 S S1 m q1)=>map0Put h r1 (by omega) (⟨#[108,111,97,100]⟩:ByteArray) (numV n)
 generalize putK Att.n q1 ⟨(⟨#[108,111,97,100]⟩:ByteArray),numV n⟩=q2 at *
 have p3:=fun {S1 m} (h:Map0 S S1 m q2)=>map0Put h r2 (by omega) (⟨#[110]⟩:ByteArray) (numV 1)
 generalize putK Att.n q2 ⟨(⟨#[110]⟩:ByteArray),numV 1⟩=q3 at *
 have p4:=fun {S1 m} (h:Map0 S S1 m q3)=>map0Put h r3 (by omega) (⟨#[118,101,114]⟩:ByteArray) (numV ver)
 generalize putK Att.n q3 ⟨(⟨#[118,101,114]⟩:ByteArray),numV ver⟩=q4 at *
 refine CallD.e Tryz.func19 rfl Tryz.ntmps19 (by rfl) ?_
 repeat' (first|refine Go.a rfl ?_|refine Go.rg ?_|refine GoR.nil ?_|refine Go.ret ?_|refine Go.b rfl ?_|(refine GoR.o (by rfl) (by rfl) ?_;(conv=>arg 1;simp only [G,Z,Y,Gx,un_neg,cutD,decide_true,decide_false,simprocAttr]);show GoR ..)|(refine GoR.c c36 (by rfl) (by rfl) rfl ?_;(refine (hof _).mono ?_;rintro _ S1 ⟨m,a,rfl,h1,h2,h3,h4⟩))|(refine GoR.c c49 (by rfl) (by rfl) rfl ?_;(refine (hw _).ret ?_))|(refine GoR.c c40 (by rfl) (by rfl) rfl ?_;(refine (htx _).ret ?_)))
 have m0:Map0 S S1 m l:=⟨⟨a,h1,h3⟩,h2,h4⟩
 repeat' (first|refine Go.a rfl ?_|refine Go.rg ?_|refine GoR.nil ?_|refine Go.ret ?_|refine Go.b rfl ?_|(refine GoR.o (by rfl) (by rfl) ?_;(conv=>arg 1;simp only [G,Z,Y,Gx,un_neg,cutD,decide_true,decide_false,simprocAttr]);show GoR ..)|(refine GoR.c c38 (by rfl) (by rfl) rfl ?_;(refine (p1 m0).mono ?_;rintro _ S2 ⟨rfl,m1⟩))|(refine GoR.c c39 (by rfl) (by rfl) rfl ?_;(refine (hnm _ _).ret ?_)))
 repeat' (first|refine Go.a rfl ?_|refine Go.rg ?_|refine GoR.nil ?_|refine Go.ret ?_|refine Go.b rfl ?_|(refine GoR.o (by rfl) (by rfl) ?_;(conv=>arg 1;simp only [G,Z,Y,Gx,un_neg,cutD,decide_true,decide_false,simprocAttr]);show GoR ..)|(refine GoR.c c38 (by rfl) (by rfl) rfl ?_;(refine (p2 m1).mono ?_;rintro _ S3 ⟨rfl,m2⟩))|(refine GoR.c c39 (by rfl) (by rfl) rfl ?_;(refine (hnm _ _).ret ?_)))
 repeat' (first|refine Go.a rfl ?_|refine Go.rg ?_|refine GoR.nil ?_|refine Go.ret ?_|refine Go.b rfl ?_|(refine GoR.o (by rfl) (by rfl) ?_;(conv=>arg 1;simp only [G,Z,Y,Gx,un_neg,cutD,decide_true,decide_false,simprocAttr]);show GoR ..)|(refine GoR.c c38 (by rfl) (by rfl) rfl ?_;(refine (p3 m2).mono ?_;rintro _ S4 ⟨rfl,m3⟩))|(refine GoR.c c39 (by rfl) (by rfl) rfl ?_;(refine (hnm _ _).ret ?_)))
 have hat:=fun {S5} (m4:Map0 S S5 m q4)=>map0Attrs (orc:=O) m4 (by omega)
 repeat' (first|refine Go.a rfl ?_|refine Go.rg ?_|refine GoR.nil ?_|refine Go.ret ?_|refine Go.b rfl ?_|(refine GoR.o (by rfl) (by rfl) ?_;(conv=>arg 1;simp only [G,Z,Y,Gx,un_neg,cutD,decide_true,decide_false,simprocAttr]);show GoR ..)|(refine GoR.c c38 (by rfl) (by rfl) rfl ?_;(refine (p4 m3).mono ?_;rintro _ S5 ⟨rfl,m4⟩))|(refine GoR.c c41 (by rfl) (by rfl) rfl ?_;(refine (hat m4).ret ?_))|refine Go.condB rfl (fun hc => ?_) (fun hc => ?_))
 refine ⟨(by first | exact .inl rfl | exact .inr rfl),fin ?_⟩
 rw [resD_tmp (fn:=Tryz.f19) rfl]
 simp only [optThen_some,resultD_tmp,resultD_cell,G,Z,Y,Gx,un_neg,cutD,decide_true,decide_false,simprocAttr]
 obtain ⟨E,hE⟩:=m4.fr.pre (by simp)
 exact ⟨_,E,hE,.of_low (attsD_low _),rfl⟩
def loadV (l:List Att):Val:=if (look l (⟨#[108,111,97,100]⟩:ByteArray)).isSome&&((look l (⟨#[108,111,97,100]⟩:ByteArray)).getD noVal).k==1 then (look l (⟨#[108,111,97,100]⟩:ByteArray)).getD noVal else numV 0
def leafR (own:ByteArray) (l:List Att) (ver:Int):List Att:=withL (withL (withL (withL l (⟨#[108,111,97,100]⟩:ByteArray) (loadV l)) (⟨#[114,101,112]⟩:ByteArray) (txtV own)) (⟨#[110]⟩:ByteArray) (numV 1)) (⟨#[118,101,114]⟩:ByteArray) (numV ver)
theorem with_len (l:List Att) (s:ByteArray) (v:Val):(withL l s v).length≤l.length+1:=by
 have h1:=restL_le l s
 have h2:=posN_le (restL l s) s
 rw [withL,List.length_append,List.length_cons,List.length_take,List.length_drop]
 omega
set_option maxHeartbeats 2000000 in
theorem refLeaf (own:ByteArray) {l:List Att} (ver:Int) (hr:RiseB Att.n l) (hl:l.length<90000) (S:Mem) :
  CallD Tryz.prog orc 20 [.str own,.sl none 5 l.length (attsC l),.int .i64 ver] S fun d S'=>S'=S∧d=attsD (leafR own l ver):=by
 have hg:=fun S=>refGet (orc:=orc) l (⟨#[108,111,97,100]⟩:ByteArray) hr (by omega) S
 have hnm:=fun n S=>refNumber (orc:=orc) n S
 have htx:=fun S=>refText (orc:=orc) own S
 unfold leafR
 have w1:=fun S=>refWith (orc:=orc) l (⟨#[108,111,97,100]⟩:ByteArray) (loadV l) (by omega) S
 have l1:=with_len l (⟨#[108,111,97,100]⟩:ByteArray) (loadV l)
 have hlv:loadV l=if (look l (⟨#[108,111,97,100]⟩:ByteArray)).isSome&&((look l (⟨#[108,111,97,100]⟩:ByteArray)).getD noVal).k==1 then (look l (⟨#[108,111,97,100]⟩:ByteArray)).getD noVal else numV 0:=rfl
 generalize loadV l=lv at *
 generalize withL l (⟨#[108,111,97,100]⟩:ByteArray) lv=q1 at *
 have w2:=fun S=>refWith (orc:=orc) q1 (⟨#[114,101,112]⟩:ByteArray) (txtV own) (by omega) S
 have l2:=with_len q1 (⟨#[114,101,112]⟩:ByteArray) (txtV own)
 generalize withL q1 (⟨#[114,101,112]⟩:ByteArray) (txtV own)=q2 at *
 have w3:=fun S=>refWith (orc:=orc) q2 (⟨#[110]⟩:ByteArray) (numV 1) (by omega) S
 have l3:=with_len q2 (⟨#[110]⟩:ByteArray) (numV 1)
 generalize withL q2 (⟨#[110]⟩:ByteArray) (numV 1)=q3 at *
 have w4:=fun S=>refWith (orc:=orc) q3 (⟨#[118,101,114]⟩:ByteArray) (numV ver) (by omega) S
 have l4:=with_len q3 (⟨#[118,101,114]⟩:ByteArray) (numV ver)
 generalize withL q3 (⟨#[118,101,114]⟩:ByteArray) (numV ver)=q4 at *
 generalize (look l (⟨#[108,111,97,100]⟩:ByteArray)).getD noVal=v at *
 generalize (look l (⟨#[108,111,97,100]⟩:ByteArray)).isSome=b at *
 unfold attsD at w1 w2 w3 w4
 simp only [Val.c,numV,txtV] at hg hnm htx w1 w2 w3 w4 hlv
 refine CallD.e Tryz.func20 rfl Tryz.ntmps20 (by rfl) ?_
 by_cases hb:b=true∧v.k=1
 ·obtain ⟨rfl,hk⟩:=hb
  rw [if_pos (by simp [hk])] at hlv
  subst hlv
  have hk':(lv.k==1)=true:=by simpa using hk
  repeat' (first|refine Go.a rfl ?_|refine Go.rg ?_|refine GoR.nil ?_|refine Go.ret ?_|refine Go.b rfl ?_|(refine GoR.o (by rfl) (by rfl) ?_;(conv=>arg 1;simp only [G,Z,Y,Gx,un_neg,cutD,decide_true,decide_false,simprocAttr,fb2,fb3,fb9,fb51,fb85,show (lv.k != 1)=false by simp [hk]]);show GoR ..)|(refine GoR.c c50 (by rfl) (by rfl) rfl ?_;(refine (hg _).ret ?_))|(refine GoR.c c46 (by rfl) (by rfl) rfl ?_;(refine (hnm _ _).ret ?_))|(refine GoR.c c48 (by rfl) (by rfl) rfl ?_;(refine (htx _).ret ?_))|(refine GoR.c c45 (by rfl) (by rfl) rfl ?_;(first | refine (w1 _).ret ?_ | refine (w2 _).ret ?_ | refine (w3 _).ret ?_ | refine (w4 _).ret ?_))|refine GoR.s (by rfl) rfl rfl ?_|(refine GoR.splitG rfl (fun hc => ?_) (fun hc => ?_)<;>simp only [hc])|refine Go.condB rfl (fun hc => ?_) (fun hc => ?_))
  refine ⟨(by first | exact .inl rfl | exact .inr rfl),fin ?_⟩
  rw [resD_tmp (fn:=Tryz.f20) rfl]
  simp only [optThen_some,resultD_tmp,resultD_cell,G,Z,Y,Gx,un_neg,cutD,decide_true,decide_false,simprocAttr,fb2,fb3,fb9,fb51,fb85]
  exact ⟨_,_,rfl,.of_low (attsD_low _),rfl⟩
 ·have hb':(b&&v.k==1)=false:=by
   cases b
   ·rfl
   ·simpa using hb
  rw [hb'] at hlv
  simp only [Bool.false_eq_true,if_false] at hlv
  subst hlv
  cases b with
  | false=>
   repeat' (first|refine Go.a rfl ?_|refine Go.rg ?_|refine GoR.nil ?_|refine Go.ret ?_|refine Go.b rfl ?_|(refine GoR.o (by rfl) (by rfl) ?_;(conv=>arg 1;simp only [G,Z,Y,Gx,un_neg,cutD,decide_true,decide_false,simprocAttr,fb2,fb3,fb9,fb51,fb85]);show GoR ..)|(refine GoR.c c50 (by rfl) (by rfl) rfl ?_;(refine (hg _).ret ?_))|(refine GoR.c c46 (by rfl) (by rfl) rfl ?_;(refine (hnm _ _).ret ?_))|(refine GoR.c c48 (by rfl) (by rfl) rfl ?_;(refine (htx _).ret ?_))|(refine GoR.c c45 (by rfl) (by rfl) rfl ?_;(first | refine (w1 _).ret ?_ | refine (w2 _).ret ?_ | refine (w3 _).ret ?_ | refine (w4 _).ret ?_))|refine GoR.s (by rfl) rfl rfl ?_|(refine GoR.splitG rfl (fun hc => ?_) (fun hc => ?_)<;>simp only [hc])|refine Go.condB rfl (fun hc => ?_) (fun hc => ?_))
   refine ⟨(by first | exact .inl rfl | exact .inr rfl),fin ?_⟩
   rw [resD_tmp (fn:=Tryz.f20) rfl]
   simp only [optThen_some,resultD_tmp,resultD_cell,G,Z,Y,Gx,un_neg,cutD,decide_true,decide_false,simprocAttr,fb2,fb3,fb9,fb51,fb85]
   exact ⟨_,_,rfl,.of_low (attsD_low _),rfl⟩
  | true=>
   have hk:(v.k != 1)=true:=by simpa using hb
   repeat' (first|refine Go.a rfl ?_|refine Go.rg ?_|refine GoR.nil ?_|refine Go.ret ?_|refine Go.b rfl ?_|(refine GoR.o (by rfl) (by rfl) ?_;(conv=>arg 1;simp only [G,Z,Y,Gx,un_neg,cutD,decide_true,decide_false,simprocAttr,fb2,fb3,fb9,fb51,fb85,hk]);show GoR ..)|(refine GoR.c c50 (by rfl) (by rfl) rfl ?_;(refine (hg _).ret ?_))|(refine GoR.c c46 (by rfl) (by rfl) rfl ?_;(refine (hnm _ _).ret ?_))|(refine GoR.c c48 (by rfl) (by rfl) rfl ?_;(refine (htx _).ret ?_))|(refine GoR.c c45 (by rfl) (by rfl) rfl ?_;(first | refine (w1 _).ret ?_ | refine (w2 _).ret ?_ | refine (w3 _).ret ?_ | refine (w4 _).ret ?_))|refine GoR.s (by rfl) rfl rfl ?_|(refine GoR.splitG rfl (fun hc => ?_) (fun hc => ?_)<;>simp only [hc])|refine Go.condB rfl (fun hc => ?_) (fun hc => ?_))
   refine ⟨(by first | exact .inl rfl | exact .inr rfl),fin ?_⟩
   rw [resD_tmp (fn:=Tryz.f20) rfl]
   simp only [optThen_some,resultD_tmp,resultD_cell,G,Z,Y,Gx,un_neg,cutD,decide_true,decide_false,simprocAttr,fb2,fb3,fb9,fb51,fb85]
   exact ⟨_,_,rfl,.of_low (attsD_low _),rfl⟩
end Go.Proofs.DvT
