/- A table: made, looked at. -/
import Derived.Test.YtlllhmenekibjaaGreatDoorDtT1x
import Derived.Test.YtlllhmenekibjaaGreatDoorDmOx
set_option linter.unusedSimpArgs false
set_option linter.unusedVariables false
namespace Go.Proofs.DtT
open Go Go.DM Go.Proofs.DtF
set_option maxRecDepth 100000
variable {orc:DOracle}
structure OkR (r:Rw):Prop where
 len:r.at_.length<100000
 atl : ∀ a∈r.at_,a.v.l.length<1000000
structure OkT (l:List Rw):Prop where
 rise:RiseB Rw.key l
 len:l.length<1000000
 ok : ∀ r∈l,OkR r
theorem cloneF (l:List Att) (hl:l.length<100000) (hv : ∀ a∈l,a.v.l.length<1000000) (S:Mem):CallD Tryz.prog orc 84 [.sl none 5 l.length (attsC l)] S fun d S'=>S'=S∧d = .sl none 5 l.length (attsC l):=
 CallD.freeze ((clone l hl hv S).mono fun d S' h=>by
  rcases h with ⟨rfl,rfl,rfl⟩ | ⟨h1,rfl,rfl⟩
  ·exact ⟨_,[],[],by simp,by simp,.nilE,rfl⟩
  ·have ho:objAt (S++[.obj (attsC l)]) S.length=some (attsC l):=by rw [objAt_app0];rfl
   exact ⟨_,_,[S.length],rfl,fun o hm=>by rw [List.mem_singleton.1 hm];exact ⟨Nat.le_refl _,_,ho⟩,.freeze (List.mem_singleton.2 rfl) ho attsC_len (WzL_low (atts_low l)),rfl⟩)
theorem rowApart (r:Rw) (h:OkR r) (S:Mem):CallD Tryz.prog orc 63 [.agg r.c] S fun d S'=>S'=S∧d = .agg r.c:=by
 have hc:=fun S=>cloneF (orc:=orc) r.at_ h.len h.atl S
 obtain ⟨k,⟨a,b,c,o⟩,l⟩:=r
 simp only [Rw.c] at hc ⊢
 refine CallD.e Tryz.func63 rfl Tryz.ntmps63 (by rfl) ?_
 repeat' (first|refine Go.a rfl ?_|refine Go.rg ?_|refine GoR.nil ?_|refine Go.ret ?_|refine Go.b rfl ?_|(refine GoR.o (by rfl) (by rfl) ?_;(conv=>arg 1;simp only [G,Z,Y,Gx,un_neg,cutD,decide_true,decide_false,simprocAttr,fb9,fb32,fb33,fb35]);show GoR ..)|(refine GoR.c c84 (by rfl) (by rfl) rfl ?_;(refine (hc _).ret ?_))|refine Go.condB rfl (fun hc => ?_) (fun hc => ?_))
 refine ⟨(by first | exact .inl rfl | exact .inr rfl),fin ?_⟩
 rw [resD_cell (fn:=Tryz.f63) rfl]
 simp only [optThen_some,resultD_tmp,resultD_cell,G,Z,Y,Gx,un_neg,cutD,decide_true,decide_false,simprocAttr,fb9,fb32,fb33,fb35]
 exact ⟨_,_,rfl,.of_low (.agg' (row_low ⟨k,⟨a,b,c,o⟩,l⟩)),rfl⟩
theorem newer (a b:St) (S:Mem):CallD Tryz.prog orc 28 [.agg a.c,.agg b.c] S fun d S'=>S'=S∧d = .bool (decide (0<cmpSt a b)):=by
 have hc:=fun S=>compareSt (orc:=orc) a b S
 obtain ⟨a1,a2,a3,a4⟩:=a
 obtain ⟨b1,b2,b3,b4⟩:=b
 simp only [St.c] at hc ⊢
 refine CallD.e Tryz.func28 rfl Tryz.ntmps28 (by rfl) ?_
 repeat' (first|refine Go.a rfl ?_|refine Go.rg ?_|refine GoR.nil ?_|refine Go.ret ?_|refine Go.b rfl ?_|(refine GoR.o (by rfl) (by rfl) ?_;(conv=>arg 1;simp only [G,Z,Y,Gx,un_neg,cutD,decide_true,decide_false,simprocAttr,fb2,fb3,fb9,fb32]);show GoR ..)|(refine GoR.c c25 (by rfl) (by rfl) rfl ?_;(refine (hc _).ret ?_))|refine Go.condB rfl (fun hc => ?_) (fun hc => ?_))
 refine ⟨(by first | exact .inl rfl | exact .inr rfl),fin ?_⟩
 rw [resD_tmp (fn:=Tryz.f28) rfl]
 simp only [optThen_some,resultD_tmp,resultD_cell,G,Z,Y,Gx,un_neg,cutD,decide_true,decide_false,simprocAttr,fb2,fb3,fb9,fb32]
 exact ⟨_,_,rfl,.bool,rfl⟩
structure Tb where
 t:Nat
 m:Nat
 a:Nat
structure TabAt (S:Mem) (T:Tb) (most:Int) (l:List Rw):Prop where
 tab:objAt S T.t=some [.int .i64 most,.ptr T.m 0]
 map:MapAt S T.m T.a l
 tm:T.t≠T.m
 ta:T.t≠T.a
def Tb.own (T:Tb):List Nat:=[T.t,T.m,T.a]
theorem TabAt.fr {F S S' T most l} (h:TabAt S T most l) (x:Fr F S S') (hF : ∀ o∈T.own,o∉F):TabAt S' T most l:=
 ⟨x.obj h.tab (hF _ (by simp [Tb.own])),h.map.fr x (hF _ (by simp [Tb.own])) (hF _ (by simp [Tb.own])),h.tm,h.ta⟩
theorem TabAt.app {S T most l} (h:TabAt S T most l) (E:Mem):TabAt (S++E) T most l:=h.fr (F:=[]) .app (by simp)
theorem TabAt.lt {S T most l} (h:TabAt S T most l) : ∀ o∈T.own,o<S.length:=fun o ho=>by
 have h1:=objAt_lt h.tab
 have h2:=h.map.lt
 simp only [Tb.own,List.mem_cons,List.not_mem_nil,or_false] at ho
 rcases ho with rfl | rfl | rfl
 ·exact h1
 ·exact h2.1
 ·exact h2.2
def MovedT (S:Mem) (T:Tb) (most:Int) (l:List Rw) (S':Mem):Prop := ∃ T':Tb,T'.t=T.t∧T'.m=T.m∧TabAt S' T' most l∧(∀ o∈T'.own,o∈T.own∨S.length≤o)∧Fr T.own S S'
theorem Moved.tab {S0 E:Mem} {T:Tb} {most:Int} {l0 l:List Rw} {S':Mem} (h:Moved (S0++E) T.m T.a l S') (t0:TabAt S0 T most l0):MovedT S0 T most l S':=by
 obtain ⟨a',h1,h2,h3⟩:=h
 have t1:=t0.app E
 have hlt:=t0.lt
 have ht:=hlt T.t (by simp [Tb.own])
 simp only [List.length_append] at h2
 refine ⟨⟨T.t,T.m,a'⟩,rfl,rfl,⟨h3.obj t1.tab ?_,h1,t0.tm,?_⟩,fun o ho => ?_,Fr.app.trans (F:=T.own) h3 fun o ho => ?_⟩
 ·simp only [List.mem_cons,List.not_mem_nil,or_false,not_or]
  exact ⟨t0.tm,t0.ta⟩
 ·dsimp only
  rintro rfl
  rcases h2 with h2 | h2 | h2
  ·exact t0.ta h2
  ·exact t0.tm h2
  ·omega
 ·simp only [Tb.own,List.mem_cons,List.not_mem_nil,or_false] at ho ⊢
  rcases ho with rfl | rfl | rfl
  ·simp
  ·simp
  ·rcases h2 with h2 | h2 | h2
   ·simp [h2]
   ·simp [h2]
   ·right;omega
 ·left
  simp only [Tb.own,List.mem_cons,List.not_mem_nil,or_false] at ho ⊢
  rcases ho with rfl | rfl<;>simp
theorem MovedT.same {S T most l} (h:TabAt S T most l):MovedT S T most l S:=⟨T,rfl,rfl,h,fun o ho=>.inl ho,.refl⟩
theorem tabNew {most:Int} (h1:1≤most) (h2:most≤64) (S:Mem):CallD Tryz.prog orc 8 [.int .i64 most] S fun d S' => ∃ T,d = .tup [.ptr T.t 0,.int .i64 0]∧TabAt S' T most []∧(∀ o∈T.own,S.length≤o)∧Fr [] S S':=by
 refine CallD.eb Tryz.func8 rfl Tryz.ntmps8 (by rfl) ?_
 repeat' (first|refine Go.a rfl ?_|refine Go.rg ?_|refine GoR.nil ?_|refine Go.ret ?_|refine Go.b rfl ?_|(refine GoR.o (by rfl) (by rfl) ?_;(conv=>arg 1;simp only [G,Z,Y,Gx,un_neg,cutD,decide_true,decide_false,simprocAttr,fb3,fb99,fb102,show decide (most<1)=false by simp;omega,show decide (64<most)=false by simp;omega]);show GoR ..)|(refine GoR.c c50 (by rfl) (by rfl) rfl ?_;(refine (mapNew _).mono ?_;rintro _ _ ⟨rfl,rfl⟩))|refine GoR.s (by rfl) rfl rfl ?_|(refine GoR.splitG rfl (fun hc => ?_) (fun hc => ?_)<;>simp only [hc])|refine Go.condB rfl (fun hc => ?_) (fun hc => ?_))
 refine ⟨(by first | exact .inl rfl | exact .inr rfl),fin ?_⟩
 rw [resD_two (fn:=Tryz.f8) rfl]
 simp only [optThen_some,resultD_tmp,resultD_cell,G,Z,Y,Gx,un_neg,cutD,decide_true,decide_false,simprocAttr,fb3,fb99,fb102]
 refine ⟨⟨S.length+1,S.length,S.length⟩,by simp,⟨by simp [objAt],.inl ⟨rfl,rfl,by simp [objAt]⟩,by simp,by simp⟩,by simp [Tb.own],.app⟩
theorem tabNew1 {most:Int} (h : ¬ (1≤most∧most≤64)) (S:Mem):CallD Tryz.prog orc 8 [.int .i64 most] S fun d S'=>S'=S∧d = .tup [.nilp,.int .i64 1]:=by
 by_cases h1:1≤most
 ·refine CallD.e Tryz.func8 rfl Tryz.ntmps8 (by rfl) ?_
  repeat' (first|refine Go.a rfl ?_|refine Go.rg ?_|refine GoR.nil ?_|refine Go.ret ?_|refine Go.b rfl ?_|(refine GoR.o (by rfl) (by rfl) ?_;(conv=>arg 1;simp only [G,Z,Y,Gx,un_neg,cutD,decide_true,decide_false,simprocAttr,fb3,fb99,fb102,show decide (most<1)=false by simp;omega,show decide (64<most)=true by simp;omega]);show GoR ..)|refine GoR.s (by rfl) rfl rfl ?_|(refine GoR.splitG rfl (fun hc => ?_) (fun hc => ?_)<;>simp only [hc])|refine Go.condB rfl (fun hc => ?_) (fun hc => ?_))
  refine ⟨(by first | exact .inl rfl | exact .inr rfl),fin ?_⟩
  rw [resD_two (fn:=Tryz.f8) rfl]
  simp only [optThen_some,resultD_tmp,resultD_cell,G,Z,Y,Gx,un_neg,cutD,decide_true,decide_false,simprocAttr,fb3,fb99,fb102]
  exact ⟨_,[],by simp,.of_low (.tup' (.cons .nilp (.cons (.int _ _) .nil))),rfl⟩
 ·refine CallD.e Tryz.func8 rfl Tryz.ntmps8 (by rfl) ?_
  repeat' (first|refine Go.a rfl ?_|refine Go.rg ?_|refine GoR.nil ?_|refine Go.ret ?_|refine Go.b rfl ?_|(refine GoR.o (by rfl) (by rfl) ?_;(conv=>arg 1;simp only [G,Z,Y,Gx,un_neg,cutD,decide_true,decide_false,simprocAttr,fb3,fb99,fb102,show decide (most<1)=true by simp;omega]);show GoR ..)|refine GoR.s (by rfl) rfl rfl ?_|(refine GoR.splitG rfl (fun hc => ?_) (fun hc => ?_)<;>simp only [hc])|refine Go.condB rfl (fun hc => ?_) (fun hc => ?_))
  refine ⟨(by first | exact .inl rfl | exact .inr rfl),fin ?_⟩
  rw [resD_two (fn:=Tryz.f8) rfl]
  simp only [optThen_some,resultD_tmp,resultD_cell,G,Z,Y,Gx,un_neg,cutD,decide_true,decide_false,simprocAttr,fb3,fb99,fb102]
  exact ⟨_,[],by simp,.of_low (.tup' (.cons .nilp (.cons (.int _ _) .nil))),rfl⟩
end Go.Proofs.DtT
namespace Go.Proofs.DtT
open Go Go.DM Go.Proofs.DtF
set_option maxRecDepth 100000
variable {orc:DOracle}
theorem mapGetAt {S:Mem} {m a:Nat} {l:List Rw} (h:MapAt S m a l) {i:Nat} (hi:i<l.length):CallD Tryz.prog orc 98 [.ptr m 0,.int .i64 (i:Int)] S fun d S'=>S'=S∧d = .tup [.str l[i].key,.agg l[i].c,.bool true]:=by
 rcases h with ⟨rfl,rfl,hm⟩ | ⟨hne,hm,ha⟩
 ·simp at hi
 have hm' : ∀ E,objAt (S++E) m=some [.msl a 7 l.length]:=fun E=>objAt_old hm
 have ha' : ∀ E,objAt (S++E) a=some (pairsC l):=fun E=>objAt_old ha
 have at1:=pairsAt hi
 simp only [Rw.c,pairC] at at1 ⊢
 refine CallD.e Tryz.func98 rfl Tryz.ntmps98 (by rfl) ?_
 repeat' (first|refine Go.a rfl ?_|refine Go.rg ?_|refine GoR.nil ?_|refine Go.ret ?_|refine Go.b rfl ?_|refine Go.rgS dmx (by decide) ?_|(refine GoR.o (by rfl) (by rfl) ?_;(conv=>arg 1;simp only [G,Z,Y,Gx,un_neg,cutD,decide_true,decide_false,simprocAttr,fb3,fb9,fb32,fb33,fb35,fb136,fb138,fb148,hm',ha',at1,show decide ((i:Int)<0)=false by simp,show decide ((l.length:Int)≤(i:Int))=false by simp;omega,len_msl (P:=Tryz.prog) (at_ := #[136]) (t:=136) rfl Tryz.underlying136,ix_msl (P:=Tryz.prog) (t:=136) (e:=148) (n:=7) Tryz.underlying136 dsz148]);show GoR ..)|refine GoR.s (by rfl) rfl rfl ?_|(refine GoR.splitG rfl (fun hc => ?_) (fun hc => ?_)<;>simp only [hc])|refine Go.condB rfl (fun hc => ?_) (fun hc => ?_))
 refine ⟨(by first | exact .inl rfl | exact .inr rfl),fin ?_⟩
 rw [resD_three (fn:=Tryz.f98) rfl]
 simp only [optThen_some,resultD_tmp,resultD_cell,G,Z,Y,Gx,un_neg,cutD,decide_true,decide_false,simprocAttr,fb3,fb9,fb32,fb33,fb35,fb136,fb138,fb148]
 exact ⟨_,_,rfl,.of_low (.tup' (.cons (.str _) (.cons (.agg' (row_low l[i])) (.cons (.bool _) .nil)))),rfl⟩
theorem tabAll {S:Mem} {T:Tb} {most:Int} {l:List Rw} (h:TabAt S T most l) (hl:l.length<1000000):CallD Tryz.prog orc 64 [.ptr T.t 0] S fun d S'=>S'=S∧d = .sl none 6 l.length (rowsC l):=by
 have ht:=h.tab
 have hln:=mapLen (orc:=orc) h.map
 refine CallD.e Tryz.func64 rfl Tryz.ntmps64 (by rfl) ?_
 repeat' (first|refine Go.a rfl ?_|refine Go.rg ?_|refine GoR.nil ?_|refine Go.ret ?_|refine Go.b rfl ?_|(refine GoR.o (by rfl) (by rfl) ?_;(conv=>arg 1;simp only [G,Z,Y,Gx,un_neg,cutD,decide_true,decide_false,simprocAttr,fb3,fb9,fb32,fb33,fb35,fb62,fb99,fb102,ht]);show GoR ..)|(refine GoR.c c59 (by rfl) (by rfl) rfl ?_;(refine hln.ret ?_))|refine Go.condB rfl (fun hc => ?_) (fun hc => ?_))
 refine Go.keep [(0,.ptr T.t 0),(3,.nils),(12,.int .i64 (l.length:Int)),(13,.int .i64 ((0:Nat):Int))] (.cons .refl (.cons .refl (.cons .refl (.cons .refl (.nil))))) ?_
 refine Go.while (α:=Nat×D×Mem) (fun x=>l.length - x.1) (fun x=>[(0,.ptr T.t 0),(3,x.2.1),(12,.int .i64 (l.length:Int)),(13,.int .i64 (x.1:Int))]) (fun x=>x.2.2)
  (fun x=>x.1≤l.length∧AccD S.length x.2.1 6 x.1 (rowsC (l.take x.1)) x.2.2∧Grown S.length S x.2.2) ?_ (0,.nils,S) ⟨Nat.zero_le _,.inl ⟨rfl,rfl,rfl⟩,.refl⟩
 rintro ⟨i,o,S1⟩ ⟨hi,hacc,hg⟩ next
 dsimp only at hi hacc hg next
 by_cases h1:i<l.length
 ·have hT:TabAt S1 T most l:=by
   obtain ⟨E,hE⟩:=hg.pre [] S rfl (by simp)
   rw [hE]
   exact h.app E
  have ht1:=hT.tab
  have hat:=mapGetAt (orc:=orc) hT.map h1
  obtain ⟨o',S2,hap,hacc2,hg2⟩:=(hacc.app [.obj l[i].c,.own]).append (P:=Tryz.prog) del62 (own:=some (S1.length+1)) (m:=1) (new:=l[i].c) (by simp;have:=hg.len;omega) (by omega) ⟨by omega,by omega,by omega,rfl⟩
  simp only [Rw.c] at hat hap
  repeat' (first|refine Go.a rfl ?_|refine Go.rg ?_|refine GoR.nil ?_|refine Go.ret ?_|refine Go.b rfl ?_|(refine GoR.o (by rfl) (by rfl) ?_;(conv=>arg 1;simp only [G,Z,Y,Gx,un_neg,cutD,decide_true,decide_false,simprocAttr,fb3,fb9,fb32,fb33,fb35,fb62,fb99,fb102,ht1,show decide ((i:Int)<(l.length:Int))=true by simp;omega,List.append_assoc,List.cons_append,List.nil_append,hap,builtin_append,wrap_succ (show i<4611686018427387904 by omega)]);show GoR ..)|(refine GoR.c c98 (by rfl) (by rfl) rfl ?_;(refine hat.ret ?_))|refine Go.condB rfl (fun hc => ?_) (fun hc => ?_))
  refine Go.lpN ?_
  refine Go.keep [(0,.ptr T.t 0),(3,o'),(12,.int .i64 (l.length:Int)),(13,.int .i64 ((i+1:Nat):Int))] (.cons .refl (.cons .refl (.cons .refl (.cons .refl (.nil))))) ?_
  refine next (i+1,o',S2) (by dsimp only;omega) ⟨h1,?_,hg.trans (Grown.app.trans hg2)⟩
  dsimp only
  rw [show rowsC (l.take (i+1))=rowsC (l.take i)++l[i].c from flat_take_succ h1]
  exact hacc2
 ·clear next
  have hi':i=l.length:=by omega
  subst hi'
  rw [List.take_length] at hacc
  obtain ⟨E,hE⟩:=hg.pre [] S rfl (by simp)
  repeat' (first|refine Go.a rfl ?_|refine Go.rg ?_|refine GoR.nil ?_|refine Go.ret ?_|refine Go.b rfl ?_|(refine GoR.o (by rfl) (by rfl) ?_;(conv=>arg 1;simp only [G,Z,Y,Gx,un_neg,cutD,decide_true,decide_false,simprocAttr,fb3,fb9,fb32,fb33,fb35,fb62,fb99,fb102,show decide ((l.length:Int)<(l.length:Int))=false by simp]);show GoR ..)|refine Go.condB rfl (fun hc => ?_) (fun hc => ?_))
  refine ⟨(by first | exact .inl rfl | exact .inr rfl),fin ?_⟩
  rw [resD_tmp (fn:=Tryz.f64) rfl]
  simp only [optThen_some,resultD_tmp,resultD_cell,G,Z,Y,Gx,un_neg,cutD,decide_true,decide_false,simprocAttr,fb3,fb9,fb32,fb33,fb35,fb62,fb99,fb102]
  exact ⟨_,E,hE,hacc.wf.to_Wk (.sl' (rows_low l)),rfl⟩
theorem clipRows (own:Option Nat) (l:List Rw) (S:Mem):CallD Tryz.prog orc 74 [.sl own 6 l.length (rowsC l)] S fun d S'=>S'=S∧d = .sl none 6 l.length (rowsC l):=by
 refine CallD.e Tryz.func74 rfl Tryz.ntmps74 (by rfl) ?_
 have hll:(rowsC l).length=l.length*6:=rowsC_len
 by_cases h0:l.length=0
 ·have hi:rowsC l=[]:=by rw [List.length_eq_zero_iff.1 h0];rfl
  rw [hi,h0]
  have c:sliceD Tryz.prog 62 (.sl own 6 0 []) none (some (.int .i64 0)) (some (.int .i64 0))=some .sl0:=by
   simp [sliceD,optNatD,natD,Tryz.underlying62,dsz35]
  repeat' (first|refine Go.a rfl ?_|refine Go.rg ?_|refine GoR.nil ?_|refine Go.ret ?_|refine Go.b rfl ?_|(refine GoR.o (by rfl) (by rfl) ?_;(conv=>arg 1;simp only [G,Z,Y,Gx,un_neg,cutD,decide_true,decide_false,simprocAttr,fb62,c,Option.map_some,Option.map_none]);show GoR ..)|refine Go.condB rfl (fun hc => ?_) (fun hc => ?_))
  refine ⟨(by first | exact .inl rfl | exact .inr rfl),fin ?_⟩
  rw [resD_tmp (fn:=Tryz.f74) rfl]
  simp only [optThen_some,resultD_tmp,resultD_cell,G,Z,Y,Gx,un_neg,cutD,decide_true,decide_false,simprocAttr,fb62]
  exact ⟨_,[],by simp,.sl0E,rfl⟩
 ·generalize l.length=n at *
  have c : ∃ o',sliceD Tryz.prog 62 (.sl own 6 n (rowsC l)) none (some (.int .i64 (n:Int))) (some (.int .i64 (n:Int)))=some (.sl o' 6 n (rowsC l)):=by
   refine ⟨own,?_⟩
   simp [sliceD,optNatD,natD,Tryz.underlying62,dsz35,h0]
   rw [List.take_of_length_le (by omega)]
  obtain ⟨o',c⟩:=c
  repeat' (first|refine Go.a rfl ?_|refine Go.rg ?_|refine GoR.nil ?_|refine Go.ret ?_|refine Go.b rfl ?_|(refine GoR.o (by rfl) (by rfl) ?_;(conv=>arg 1;simp only [G,Z,Y,Gx,un_neg,cutD,decide_true,decide_false,simprocAttr,fb62,c,Option.map_some,Option.map_none]);show GoR ..)|refine Go.condB rfl (fun hc => ?_) (fun hc => ?_))
  refine ⟨(by first | exact .inl rfl | exact .inr rfl),fin ?_⟩
  rw [resD_tmp (fn:=Tryz.f74) rfl]
  simp only [optThen_some,resultD_tmp,resultD_cell,G,Z,Y,Gx,un_neg,cutD,decide_true,decide_false,simprocAttr,fb62]
  exact ⟨_,[],by simp,.disown (rows_low l).get,rfl⟩
theorem tabRows {S:Mem} {T:Tb} {most:Int} {l:List Rw} (h:TabAt S T most l) (hl:l.length<1000000) (hok : ∀ r∈l,OkR r):CallD Tryz.prog orc 26 [.ptr T.t 0] S fun d S'=>S'=S∧d = .sl none 6 l.length (rowsC l):=by
 have hall:=tabAll (orc:=orc) h hl
 refine CallD.e Tryz.func26 rfl Tryz.ntmps26 (by rfl) ?_
 repeat' (first|refine Go.a rfl ?_|refine Go.rg ?_|refine GoR.nil ?_|refine Go.ret ?_|refine Go.b rfl ?_|(refine GoR.o (by rfl) (by rfl) ?_;(conv=>arg 1;simp only [G,Z,Y,Gx,un_neg,cutD,decide_true,decide_false,simprocAttr,fb3,fb9,fb32,fb33,fb35,fb62]);show GoR ..)|(refine GoR.c c64 (by rfl) (by rfl) rfl ?_;(refine hall.ret ?_))|refine Go.condB rfl (fun hc => ?_) (fun hc => ?_))
 refine Go.keep [(3,.nils),(7,.sl none 6 l.length (rowsC l)),(8,.int .i64 (l.length:Int)),(9,.int .i64 ((0:Nat):Int))] (.cons .refl (.cons .refl (.cons .refl (.cons .refl (.nil))))) ?_
 refine Go.while (α:=Nat×D×Mem) (fun x=>l.length - x.1) (fun x=>[(3,x.2.1),(7,.sl none 6 l.length (rowsC l)),(8,.int .i64 (l.length:Int)),(9,.int .i64 (x.1:Int))]) (fun x=>x.2.2)
  (fun x=>x.1≤l.length∧AccD S.length x.2.1 6 x.1 (rowsC (l.take x.1)) x.2.2∧Grown S.length S x.2.2) ?_ (0,.nils,S) ⟨Nat.zero_le _,.inl ⟨rfl,rfl,rfl⟩,.refl⟩
 rintro ⟨i,o,S1⟩ ⟨hi,hacc,hg⟩ next
 dsimp only at hi hacc hg next
 by_cases h1:i<l.length
 ·have hap0:=fun S=>rowApart (orc:=orc) l[i] (hok _ (List.getElem_mem h1)) S
  have at1:=rowsAt h1
  obtain ⟨o',S2,hap,hacc2,hg2⟩:=(hacc.app [.obj l[i].c,.own]).append (P:=Tryz.prog) del62 (own:=some (S1.length+1)) (m:=1) (new:=l[i].c) (by simp;have:=hg.len;omega) (by omega) ⟨by omega,by omega,by omega,rfl⟩
  simp only [Rw.c] at hap0 hap at1
  repeat' (first|refine Go.a rfl ?_|refine Go.rg ?_|refine GoR.nil ?_|refine Go.ret ?_|refine Go.b rfl ?_|(refine GoR.o (by rfl) (by rfl) ?_;(conv=>arg 1;simp only [G,Z,Y,Gx,un_neg,cutD,decide_true,decide_false,simprocAttr,fb3,fb9,fb32,fb33,fb35,fb62,show decide ((i:Int)<(l.length:Int))=true by simp;omega,at1,List.append_assoc,List.cons_append,List.nil_append,hap,builtin_append,wrap_succ (show i<4611686018427387904 by omega)]);show GoR ..)|(refine GoR.c c63 (by rfl) (by rfl) rfl ?_;(refine (hap0 _).ret ?_))|refine Go.condB rfl (fun hc => ?_) (fun hc => ?_))
  refine Go.lpN ?_
  refine Go.keep [(3,o'),(7,.sl none 6 l.length (rowsC l)),(8,.int .i64 (l.length:Int)),(9,.int .i64 ((i+1:Nat):Int))] (.cons .refl (.cons .refl (.cons .refl (.cons .refl (.nil))))) ?_
  refine next (i+1,o',S2) (by dsimp only;omega) ⟨h1,?_,hg.trans (Grown.app.trans hg2)⟩
  dsimp only
  rw [show rowsC (l.take (i+1))=rowsC (l.take i)++l[i].c from flat_take_succ h1]
  exact hacc2
 ·clear next
  have hi':i=l.length:=by omega
  subst hi'
  rw [List.take_length] at hacc
  obtain ⟨E,hE⟩:=hg.pre [] S rfl (by simp)
  have hcl:=fun S=>CallD.weak (.cons hacc.wf .nil) (clipRows (orc:=orc) none l S)
  repeat' (first|refine Go.a rfl ?_|refine Go.rg ?_|refine GoR.nil ?_|refine Go.ret ?_|refine Go.b rfl ?_|(refine GoR.o (by rfl) (by rfl) ?_;(conv=>arg 1;simp only [G,Z,Y,Gx,un_neg,cutD,decide_true,decide_false,simprocAttr,fb3,fb9,fb32,fb33,fb35,fb62,show decide ((l.length:Int)<(l.length:Int))=false by simp]);show GoR ..)|(refine GoR.c c74 (by rfl) (by rfl) rfl ?_;(refine (hcl _).ret ?_))|refine Go.condB rfl (fun hc => ?_) (fun hc => ?_))
  refine ⟨(by first | exact .inl rfl | exact .inr rfl),fin ?_⟩
  rw [resD_tmp (fn:=Tryz.f26) rfl]
  simp only [optThen_some,resultD_tmp,resultD_cell,G,Z,Y,Gx,un_neg,cutD,decide_true,decide_false,simprocAttr,fb3,fb9,fb32,fb33,fb35,fb62]
  exact ⟨_,E,hE,.of_low (.sl' (rows_low l)),rfl⟩
end Go.Proofs.DtT
namespace Go.Proofs.DtT
open Go Go.DM Go.Proofs.DtF
set_option maxRecDepth 100000
variable {orc:DOracle}
def noRow:Rw:=⟨⟨#[]⟩,⟨0,0,0,⟨#[]⟩⟩,[]⟩
def zRow:List D:=[.str ⟨#[]⟩,.int .i64 0,.int .i64 0,.int .i64 0,.str ⟨#[]⟩,.nils]
def leastR:Rw→List Rw→Rw
 | m,[]=>m
 | m,y::l=>leastR (if cmpSt y.st m.st<0 then y else m) l
def least:List Rw→Rw
 | []=>noRow
 | x::l=>leastR x l
theorem leastR_mem : ∀ (l:List Rw) (m:Rw),leastR m l=m∨leastR m l∈l
 | [],m=>.inl rfl
 | y::l,m=>by
  rw [leastR]
  rcases leastR_mem l (if cmpSt y.st m.st<0 then y else m) with h | h
  ·by_cases hc:cmpSt y.st m.st<0
   ·rw [if_pos hc] at h ⊢
    rw [h]
    exact .inr (by simp)
   ·rw [if_neg hc] at h ⊢
    exact .inl h
  ·exact .inr (List.mem_cons_of_mem _ h)
theorem least_mem {l:List Rw} (h:l≠[]):least l∈l:=by
 cases l with
 | nil=>exact absurd rfl h
 | cons x l=>
  rcases leastR_mem l x with h | h
  ·rw [least,h];simp
  ·exact List.mem_cons_of_mem _ h
theorem oldest1 (a b:Rw) (S:Mem):CallD Tryz.prog orc 95 [.agg a.c,.agg b.c] S fun d S'=>S'=S∧d = .int .i64 (cmpSt a.st b.st):=by
 have hc:=fun S=>compareSt (orc:=orc) a.st b.st S
 simp only [Rw.c,St.c] at *
 refine CallD.e Tryz.func95 rfl Tryz.ntmps95 (by rfl) ?_
 repeat' (first|refine Go.a rfl ?_|refine Go.rg ?_|refine GoR.nil ?_|refine Go.ret ?_|refine Go.b rfl ?_|(refine GoR.o (by rfl) (by rfl) ?_;(conv=>arg 1;simp only [G,Z,Y,Gx,un_neg,cutD,decide_true,decide_false,simprocAttr,fb2,fb9,fb32,fb33,fb35]);show GoR ..)|(refine GoR.c c25 (by rfl) (by rfl) rfl ?_;(refine (hc _).ret ?_))|refine Go.condB rfl (fun hc => ?_) (fun hc => ?_))
 refine ⟨(by first | exact .inl rfl | exact .inr rfl),fin ?_⟩
 rw [resD_tmp (fn:=Tryz.f95) rfl]
 simp only [optThen_some,resultD_tmp,resultD_cell,G,Z,Y,Gx,un_neg,cutD,decide_true,decide_false,simprocAttr,fb2,fb9,fb32,fb33,fb35]
 exact ⟨_,_,rfl,.int,rfl⟩
theorem minFunc (x:Rw) (l:List Rw) (hl:l.length<1000000) (S:Mem):CallD Tryz.prog orc 94 [.sl none 6 (x::l).length (rowsC (x::l)),.fn (.func 95) [] []] S fun d S'=>S'=S∧d = .agg (leastR x l).c:=by
 have at0:=rowsAt (l:=x::l) (i:=0) (by simp)
 have g0:((0:Int)<((l.length+1:Nat):Int))=True:=by simp<;>omega
 have g1:Int.toNat 0=0:=rfl
 simp only [List.getElem_cons_zero,Rw.c,List.length_cons,Nat.zero_mul,Nat.zero_add,List.drop_zero] at at0 ⊢
 refine CallD.e Tryz.func94 rfl Tryz.ntmps94 (by rfl) ?_
 repeat' (first|refine Go.a rfl ?_|refine Go.rg ?_|refine GoR.nil ?_|refine Go.ret ?_|refine Go.b rfl ?_|refine Go.rgS dmx (by decide) ?_|(refine GoR.o (by rfl) (by rfl) ?_;(conv=>arg 1;simp only [G,Z,Y,Gx,un_neg,cutD,decide_true,decide_false,simprocAttr,fb3,fb9,fb32,fb33,fb35,fb62,at0,g0,g1,show decide (((l.length+1:Nat):Int)<1)=false by simp;omega]);show GoR ..)|refine Go.condB rfl (fun hc => ?_) (fun hc => ?_))
 refine Go.keep [(0,.sl none 6 (l.length+1) (rowsC (x::l))),(1,.fn (.func 95) [] []),(4,.ptr S.length 0),(5,.ptr (S.length+1) 0),(6,.int .i64 ((0+1:Nat):Int))] (.cons .refl (.cons .refl (.cons .refl (.cons .refl (.cons .refl (.nil)))))) ?_
 refine Go.while (α:=Nat×Rw) (fun a=>l.length - a.1) (fun a=>[(0,.sl none 6 (l.length+1) (rowsC (x::l))),(1,.fn (.func 95) [] []),(4,.ptr S.length 0),(5,.ptr (S.length+1) 0),(6,.int .i64 ((a.1+1:Nat):Int))]) (fun a=>S++[.obj zRow,.obj a.2.c])
  (fun a=>a.1≤l.length∧leastR a.2 (l.drop a.1)=leastR x l) ?_ (0,x) ⟨Nat.zero_le _,rfl⟩
 rintro ⟨i,m⟩ ⟨hi,hm⟩ next
 dsimp only at hi hm next
 have hcm:=fun S b=>oldest1 (orc:=orc) b m S
 simp only [Rw.c] at hcm
 by_cases h1:i<l.length
 ·have at1:=rowsAt (l:=x::l) (i:=i+1) (by simpa using h1)
  simp only [List.getElem_cons_succ,List.length_cons,Rw.c] at at1
  rw [List.drop_eq_getElem_cons h1,leastR] at hm
  have dl:decide (((i+1:Nat):Int)<((l.length+1:Nat):Int))=true:=by simp;omega
  by_cases hc:cmpSt l[i].st m.st<0
  ·rw [if_pos hc] at hm
   repeat' (first|refine Go.a rfl ?_|refine Go.rg ?_|refine GoR.nil ?_|refine Go.ret ?_|refine Go.b rfl ?_|refine Go.rgS dmx (by decide) ?_|(refine GoR.o (by rfl) (by rfl) ?_;(conv=>arg 1;simp only [G,Z,Y,Gx,un_neg,cutD,decide_true,decide_false,simprocAttr,fb3,fb9,fb32,fb33,fb35,fb62,dl,at1,hc,wrap_succ (show i+1<4611686018427387904 by omega)]);show GoR ..)|(refine GoR.c c95 (by rfl) (by rfl) rfl ?_;(refine (hcm _ l[i]).ret ?_))|refine Go.condB rfl (fun hc => ?_) (fun hc => ?_))
   refine Go.lpN ?_
   refine Go.keep [(0,.sl none 6 (l.length+1) (rowsC (x::l))),(1,.fn (.func 95) [] []),(4,.ptr S.length 0),(5,.ptr (S.length+1) 0),(6,.int .i64 ((i+1+1:Nat):Int))] (.cons .refl (.cons .refl (.cons .refl (.cons .refl (.cons .refl (.nil)))))) ?_
   exact next (i+1,l[i]) (by dsimp only;omega) ⟨h1,hm⟩
  ·rw [if_neg hc] at hm
   repeat' (first|refine Go.a rfl ?_|refine Go.rg ?_|refine GoR.nil ?_|refine Go.ret ?_|refine Go.b rfl ?_|refine Go.rgS dmx (by decide) ?_|(refine GoR.o (by rfl) (by rfl) ?_;(conv=>arg 1;simp only [G,Z,Y,Gx,un_neg,cutD,decide_true,decide_false,simprocAttr,fb3,fb9,fb32,fb33,fb35,fb62,dl,at1,hc,wrap_succ (show i+1<4611686018427387904 by omega)]);show GoR ..)|(refine GoR.c c95 (by rfl) (by rfl) rfl ?_;(refine (hcm _ l[i]).ret ?_))|refine Go.condB rfl (fun hc => ?_) (fun hc => ?_))
   refine Go.lpN ?_
   refine Go.keep [(0,.sl none 6 (l.length+1) (rowsC (x::l))),(1,.fn (.func 95) [] []),(4,.ptr S.length 0),(5,.ptr (S.length+1) 0),(6,.int .i64 ((i+1+1:Nat):Int))] (.cons .refl (.cons .refl (.cons .refl (.cons .refl (.cons .refl (.nil)))))) ?_
   exact next (i+1,m) (by dsimp only;omega) ⟨h1,hm⟩
 ·clear next
  have dl:decide (((i+1:Nat):Int)<((l.length+1:Nat):Int))=false:=by simp;omega
  rw [List.drop_of_length_le (by omega),leastR] at hm
  subst hm
  repeat' (first|refine Go.a rfl ?_|refine Go.rg ?_|refine GoR.nil ?_|refine Go.ret ?_|refine Go.b rfl ?_|refine Go.rgS dmx (by decide) ?_|(refine GoR.o (by rfl) (by rfl) ?_;(conv=>arg 1;simp only [G,Z,Y,Gx,un_neg,cutD,decide_true,decide_false,simprocAttr,fb3,fb9,fb32,fb33,fb35,fb62,dl,Rw.c,zRow]);show GoR ..)|refine Go.condB rfl (fun hc => ?_) (fun hc => ?_))
  refine ⟨(by first | exact .inl rfl | exact .inr rfl),fin ?_⟩
  rw [resD_cell (fn:=Tryz.f94) rfl]
  simp only [optThen_some,resultD_tmp,resultD_cell,G,Z,Y,Gx,un_neg,cutD,decide_true,decide_false,simprocAttr,fb3,fb9,fb32,fb33,fb35,fb62]
  exact ⟨_,_,rfl,.of_low (.agg' (row_low _)),rfl⟩
theorem tabOldest {S:Mem} {T:Tb} {most:Int} {l:List Rw} (h:TabAt S T most l) (hl:l.length<1000000) (h0:l≠[]):CallD Tryz.prog orc 60 [.ptr T.t 0] S fun d S'=>S'=S∧d = .agg (least l).c:=by
 obtain ⟨x,l,rfl⟩ : ∃ x l',l=x::l':=by
  cases l with
  | nil=>exact absurd rfl h0
  | cons x l=>exact ⟨x,l,rfl⟩
 have hall:=fun E=>tabAll (orc:=orc) (h.app E) hl
 have hmin:=fun S=>minFunc (orc:=orc) x l (by simp at hl;omega) S
 simp only [least,Rw.c] at hmin ⊢
 refine CallD.e Tryz.func60 rfl Tryz.ntmps60 (by rfl) ?_
 repeat' (first|refine Go.a rfl ?_|refine Go.rg ?_|refine GoR.nil ?_|refine Go.ret ?_|refine Go.b rfl ?_|(refine GoR.o (by rfl) (by rfl) ?_;(conv=>arg 1;simp only [G,Z,Y,Gx,un_neg,cutD,decide_true,decide_false,simprocAttr,fb9,fb32,fb33,fb35]);show GoR ..)|(refine GoR.c c64 (by rfl) (by rfl) rfl ?_;(refine (hall _).ret ?_))|(refine GoR.c c94 (by rfl) (by rfl) rfl ?_;(refine (hmin _).ret ?_))|refine Go.condB rfl (fun hc => ?_) (fun hc => ?_))
 refine ⟨(by first | exact .inl rfl | exact .inr rfl),fin ?_⟩
 rw [resD_cell (fn:=Tryz.f60) rfl]
 simp only [optThen_some,resultD_tmp,resultD_cell,G,Z,Y,Gx,un_neg,cutD,decide_true,decide_false,simprocAttr,fb9,fb32,fb33,fb35]
 exact ⟨_,_,rfl,.of_low (.agg' (row_low _)),rfl⟩
theorem tabGet {S:Mem} {T:Tb} {most:Int} {l:List Rw} (h:TabAt S T most l) (ho:OkT l) (s:ByteArray) :
  CallD Tryz.prog orc 21 [.ptr T.t 0,.str s] S fun d S'=>S'=S∧d = .tup [.agg ((lookK Rw.key l s).getD noRow).c,.bool (lookK Rw.key l s).isSome]:=by
 have ht : ∀ E,objAt (S++E) T.t=some [.int .i64 most,.ptr T.m 0]:=fun E=>objAt_old h.tab
 have hg:=fun E=>mapGet (orc:=orc) (h.app E).map ho.rise ho.len s
 have hok:OkR ((lookK Rw.key l s).getD noRow):=by
  cases hq:lookK Rw.key l s with
  | none=>exact ⟨by decide,by simp [noRow]⟩
  | some r=>exact ho.ok r (lookK_mem hq).1
 have hap:=fun S=>rowApart (orc:=orc) _ hok S
 show CallD _ _ _ _ _ fun d S'=>S'=S∧d = .tup [.agg ((lookK Rw.key l s).getD ⟨⟨#[]⟩,⟨0,0,0,⟨#[]⟩⟩,[]⟩).c,.bool (lookK Rw.key l s).isSome]
 unfold noRow at hap
 generalize (lookK Rw.key l s).getD ⟨⟨#[]⟩,⟨0,0,0,⟨#[]⟩⟩,[]⟩=r at *
 simp only [Rw.c] at *
 refine CallD.e Tryz.func21 rfl Tryz.ntmps21 (by rfl) ?_
 repeat' (first|refine Go.a rfl ?_|refine Go.rg ?_|refine GoR.nil ?_|refine Go.ret ?_|refine Go.b rfl ?_|(refine GoR.o (by rfl) (by rfl) ?_;(conv=>arg 1;simp only [G,Z,Y,Gx,un_neg,cutD,decide_true,decide_false,simprocAttr,fb3,fb9,fb32,fb33,fb35,fb99,fb102,ht]);show GoR ..)|(refine GoR.c c58 (by rfl) (by rfl) rfl ?_;(refine (hg _).ret ?_))|(refine GoR.c c63 (by rfl) (by rfl) rfl ?_;(refine (hap _).ret ?_))|refine Go.condB rfl (fun hc => ?_) (fun hc => ?_))
 refine ⟨(by first | exact .inl rfl | exact .inr rfl),fin ?_⟩
 rw [resD_two (fn:=Tryz.f21) rfl]
 simp only [optThen_some,resultD_tmp,resultD_cell,G,Z,Y,Gx,un_neg,cutD,decide_true,decide_false,simprocAttr,fb3,fb9,fb32,fb33,fb35,fb99,fb102]
 exact ⟨_,_,rfl,.of_low (.tup' (.cons (.agg' (row_low r)) (.cons (.bool _) .nil))),rfl⟩
theorem tabTwin {S:Mem} {T:Tb} {most:Int} {l:List Rw} (h:TabAt S T most l) (ho:OkT l) :
  CallD Tryz.prog orc 19 [.ptr T.t 0] S fun d S' => ∃ T':Tb,d = .ptr T'.t 0∧TabAt S' T' most l∧(∀ o∈T'.own,S.length≤o)∧Fr [] S S':=by
 have ht:=h.tab
 have hd:=mapTwin (orc:=orc) h.map ho.len
 refine CallD.eb Tryz.func19 rfl Tryz.ntmps19 (by rfl) ?_
 repeat' (first|refine Go.a rfl ?_|refine Go.rg ?_|refine GoR.nil ?_|refine Go.ret ?_|refine Go.b rfl ?_|refine Go.rgS dmx (by decide) ?_|refine Go.rgD [3] (fun H=>objAt H T.t=some [.int .i64 most,.ptr T.m 0]) dmx (by decide) 10 (by decide) (by (first | exact ht | exact h4.obj ht (by simp))) ?_|refine GoW.nil rfl ?_|((first|refine GoR.o (by rfl) (by rfl) ?_|refine GoW.o (by rfl) (by rfl) ?_|refine GoW.rd (by rfl) (by rfl) ?_);(conv=>arg 1;simp only [G,Z,Y,Gx,un_neg,cutD,decide_true,decide_false,simprocAttr,fb3,fb99,fb102,ht]);first|show GoR ..|(show _∧GoW ..;refine ⟨by (first|exact fun h=>absurd h (by decide)|(intro _;(first | exact ht | exact h4.obj ht (by simp)))),?_⟩)|(show _∧_∧_∧GoW ..;refine ⟨rfl,by (first | exact ht | exact h4.obj ht (by simp)),(fun H hI=>by (try dsimp only at hI);simp only [G,Z,Y,Gx,un_neg,cutD,decide_true,decide_false,simprocAttr,fb3,fb99,fb102,ht,hI]),?_⟩))|(refine GoW.c c66 (by rfl) (by rfl) rfl ?_;(refine hd.mono ?_;rintro _ S2 ⟨m',a',rfl,h1,h2,h3,h4⟩);refine ⟨by (first|exact fun h=>absurd h (by decide)|(intro _;(first | exact ht | exact h4.obj ht (by simp)))),?_⟩)|(refine GoR.c c66 (by rfl) (by rfl) rfl ?_;(refine hd.mono ?_;rintro _ S2 ⟨m',a',rfl,h1,h2,h3,h4⟩))|refine Go.condB rfl (fun hc => ?_) (fun hc => ?_))
 refine ⟨(by first | exact .inl rfl | exact .inr rfl),fin ?_⟩
 rw [resD_tmp (fn:=Tryz.f19) rfl]
 simp only [optThen_some,resultD_tmp,resultD_cell,G,Z,Y,Gx,un_neg,cutD,decide_true,decide_false,simprocAttr,fb3,fb99,fb102]
 have hlt:=h1.lt
 refine ⟨⟨S2.length,m',a'⟩,rfl,⟨by rw [objAt_app0];rfl,h1.fr (F:=[]) .app (by simp) (by simp),?_,?_⟩,fun o ho => ?_,h4.trans (F:=[]) (G:=[]) .app (by simp)⟩
 ·dsimp only;omega
 ·dsimp only;omega
 ·have:=h4.len
  simp only [Tb.own,List.mem_cons,List.not_mem_nil,or_false] at ho
  omega
end Go.Proofs.DtT
