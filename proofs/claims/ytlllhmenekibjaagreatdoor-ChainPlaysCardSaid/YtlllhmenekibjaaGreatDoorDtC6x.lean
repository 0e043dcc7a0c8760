/- The chain of tables: made, told apart. -/
import Derived.Test.YtlllhmenekibjaaGreatDoorDtC4x
set_option linter.unusedSimpArgs false
set_option linter.unusedVariables false
namespace Go.DM
open Go Go.AM
theorem accV {P:Program} {b t e n bytes len u:Nat} {q q' o:D} {cells new:List D} {own:Option Nat} {S1:Mem} (h:ElemT P t e n bytes) (hu:objAt S1 u=some [q,q',o]) (hub:u<b) (hb:b≤S1.length) (hacc:AccD b o n len cells S1) (hf:fitsD bytes (len+1) new) :
  ∃ o' S2,appendD P #[t,t] o (.sl own n 1 new) S1=some (o',S2)∧objAt S2 u=some [q,q',o]∧(cellsD o'=some [o']∧D.one o'=true)∧objAt (S2.set u (.obj [q,q',o'])) u=some [q,q',o']∧AccD b o' n (len+1) (cells++new) (S2.set u (.obj [q,q',o'])) ∧
   (∀ j c,j≠u→objAt S1 j=some c→objAt (S2.set u (.obj [q,q',o'])) j=some c)∧(∀ S0,Fr [] S0 S1→S0.length≤u→Fr [] S0 (S2.set u (.obj [q,q',o'])))∧S1.length≤(S2.set u (.obj [q,q',o'])).length:=by
 obtain ⟨o',S2,hap,hacc2,hg⟩:=hacc.append (P:=P) h (own:=own) (m:=1) (new:=new) hb (by omega) hf
 have hu2:=hg.obj _ _ hu
 have h1:=hacc2.one
 refine ⟨o',S2,hap,hu2,⟨h1.2,h1.1⟩,objAt_set_eq (objAt_lt hu2),hacc2.set hub,fun j c hj hc=>(objAt_set_ne (fun e=>hj e.symm)).trans (hg.obj _ _ hc),fun S0 hF h0 => ?_,by have:=hg.len;simp;omega⟩
 exact (hF.grown' (b:=b) (by omega) hb hg).trans (F:=[]) (G:=[u]) (.set (by simp)) (by simp;omega)
end Go.DM
namespace Go.Proofs.DtT
open Go Go.DM Go.Proofs.DtF
set_option maxRecDepth 100000
variable {orc:DOracle}
theorem TabAt.keep {S S':Mem} {T:Tb} {most:Int} {l:List Rw} (h:TabAt S T most l) (k : ∀ j∈T.own,∀ c,objAt S j=some c→objAt S' j=some c):TabAt S' T most l:=by
 refine ⟨k _ (by simp [Tb.own]) _ h.tab,?_,h.tm,h.ta⟩
 have hm:=k T.m (by simp [Tb.own])
 have ha:=k T.a (by simp [Tb.own])
 rcases h.map with ⟨h1,h2,h3⟩ | ⟨h1,h2,h3⟩
 ·exact .inl ⟨h1,h2,hm _ h3⟩
 ·exact .inr ⟨h1,hm _ h2,ha _ h3⟩
structure TabsAt (S:Mem) (most:Int) (l:Tl):Prop where
 tab : ∀ i (h:i<l.length),TabAt S l[i].1 most l[i].2∧OkT l[i].2
 apart : ∀ i (h:i<l.length) j (k:j<l.length),¬ i=j → ∀ o∈l[i].1.own,o∉l[j].1.own
theorem TabsAt.keep {S S':Mem} {most:Int} {l:Tl} (h:TabsAt S most l) (k : ∀ j∈ownC l,∀ c,objAt S j=some c→objAt S' j=some c):TabsAt S' most l:=
 ⟨fun i hi=>⟨(h.tab i hi).1.keep fun j hj=>k j (ownC_at hi hj),(h.tab i hi).2⟩,h.apart⟩
theorem TabsAt.lt {S:Mem} {most:Int} {l:Tl} (h:TabsAt S most l) : ∀ o∈ownC l,o<S.length:=fun o ho=>by
 obtain ⟨i,hi,ho⟩:=ownC_of ho
 exact (h.tab i hi).1.lt o ho
theorem TabsAt.more {S:Mem} {most:Int} {l:Tl} {T:Tb} {m:List Rw} (h:TabsAt S most l) (t:TabAt S T most m) (hok:OkT m) (hd : ∀ o∈T.own,o∉ownC l):TabsAt S most (l++[(T,m)]):=by
 have get : ∀ i (h:i<(l++[(T,m)]).length),(∃ h2:i<l.length,(l++[(T,m)])[i]=l[i])∨(i=l.length∧(l++[(T,m)])[i]=(T,m)):=fun i h=>by
  rcases Nat.lt_or_ge i l.length with h1 | h1
  ·exact .inl ⟨h1,List.getElem_append_left h1⟩
  ·have:i=l.length:=by simp at h;omega
   subst this
   exact .inr ⟨rfl,by simp⟩
 refine ⟨fun i hi => ?_,fun i hi j hj hij o ho => ?_⟩
 ·rcases get i hi with ⟨h2,e⟩ | ⟨_,e⟩<;>rw [e]
  ·exact h.tab i h2
  ·exact ⟨t,hok⟩
 ·rcases get i hi with ⟨h2,e⟩ | ⟨h2,e⟩<;>rcases get j hj with ⟨h3,e'⟩ | ⟨h3,e'⟩<;>rw [e']<;>rw [e] at ho
  ·exact h.apart i h2 j h3 hij o ho
  ·exact fun hx=>hd o hx (ownC_at h2 ho)
  ·exact fun hx=>hd o ho (ownC_at h3 hx)
  ·omega
theorem ChAt.keep {S S' c ps zs most w l} (h:ChAt S c ps zs most w l) (k : ∀ j,j=c∨j∈ownC l → ∀ x,objAt S j=some x→objAt S' j=some x):ChAt S' c ps zs most w l:=
 ⟨k c (.inl rfl) _ h.obj,fun i hi=>⟨(h.tab i hi).1.keep fun j hj=>k j (.inr (ownC_at hi hj)),(h.tab i hi).2⟩,h.apart,h.nc,h.z,h.p,h.n⟩
theorem ownC_more {l:Tl} {T:Tb} {m:List Rw} {o:Nat} : o∈ownC (l++[(T,m)])↔o∈ownC l∨o∈T.own:=by simp [ownC]
theorem ptrsC_more {l:Tl} {T:Tb} {m:List Rw} : ptrsC (l++[(T,m)])=ptrsC l++[.ptr T.t 0]:=by simp [ptrsC]
theorem AccD.full {b n len:Nat} {o:D} {cells:List D} {S:Mem} (h:AccD b o n len cells S) (hl:0<len) : ∃ id,o = .sl (some id) n len cells:=by
 rcases h with ⟨_,h2,_⟩ | ⟨_,h2,_⟩ | ⟨id,_,h2,_⟩
 ·omega
 ·omega
 ·exact ⟨id,h2⟩
set_option maxHeartbeats 4000000 in
theorem chTwin {S c ps zs most w l} (h:ChAt S c ps zs most w l) (h0:0<l.length) :
  CallD Tryz.prog orc 38 [.ptr c 0] S fun d S' => ∃ x w' l',d = .ptr x 0∧ChAt S' x ps zs most w' l'∧rowsOf l'=rowsOf l∧S.length≤x∧(∀ o∈ownC l',S.length≤o)∧Fr [] S S':=by
 have hob:=h.obj
 have hob':=fun E=>(h.app E).obj
 have hc:=h.lt.1
 have hn4:=h.n
 have hsx : ∀ E,objAt (S++(.obj [strsD ps,strsD zs,.nils]::E)) S.length=some [strsD ps,strsD zs,.nils]:=fun E=>by simp [objAt]
 refine CallD.eb Tryz.func38 rfl Tryz.ntmps38 (by rfl) ?_
 unfold strsD at *
 repeat' (first|refine Go.a rfl ?_|refine Go.rg ?_|refine GoR.nil ?_|refine Go.ret ?_|refine Go.b rfl ?_|refine Go.rgS dmx (by decide) ?_|refine Go.rgD [1] (fun _=>True) dmx (by decide) 5 (by decide) (by trivial) ?_|refine GoW.nil rfl ?_|((first|refine GoR.o (by rfl) (by rfl) ?_|refine GoW.o (by rfl) (by rfl) ?_|refine GoW.rd (by rfl) (by rfl) ?_);(conv=>arg 1;simp only [G,Z,Y,Gx,un_neg,cutD,decide_true,decide_false,simprocAttr,fb3,fb24,fb51,fb128,fb130,hob,hob',hsx]);first|show GoR ..|(show _∧GoW ..;refine ⟨by exact fun _=>trivial,?_⟩)|(show _∧_∧_∧GoW ..;refine ⟨rfl,by trivial,(fun H _=>by simp only [G,Z,Y,Gx,un_neg,cutD,decide_true,decide_false,simprocAttr,fb3,fb24,fb51,fb128,fb130,hob,hob',hsx]),?_⟩))|refine Go.condB rfl (fun hc => ?_) (fun hc => ?_))
 have hC0:ChAt (S++[.obj [strsD ps,strsD zs,.nils]]) c ps zs most w l:=h.app _
 unfold strsD at hC0
 refine Go.keep [(0,.ptr c 0),(3,.ptr S.length 0),(13,.sl w 1 l.length (ptrsC l)),(14,.int .i64 (l.length:Int)),(15,.int .i64 ((0:Nat):Int))] (.cons .refl (.cons .refl (.cons .refl (.cons .refl (.cons .refl (.nil)))))) ?_
 refine Go.while (α:=Nat×D×Tl×Mem) (fun x=>l.length - x.1) (fun x=>[(0,.ptr c 0),(3,.ptr S.length 0),(13,.sl w 1 l.length (ptrsC l)),(14,.int .i64 (l.length:Int)),(15,.int .i64 (x.1:Int))]) (fun x=>x.2.2.2)
  (fun x=>x.1≤l.length∧x.2.2.1.length=x.1∧rowsOf x.2.2.1=(rowsOf l).take x.1∧TabsAt x.2.2.2 most x.2.2.1∧(∀ j∈ownC x.2.2.1,S.length<j)∧objAt x.2.2.2 S.length=some [.sl none 1 ps.length (ps.map .str),.sl none 1 zs.length (zs.map .str),x.2.1]∧AccD (S.length+1) x.2.1 1 x.1 (ptrsC x.2.2.1) x.2.2.2∧Fr [] S x.2.2.2∧ChAt x.2.2.2 c ps zs most w l) ?_
  (0,.nils,[],_) ⟨Nat.zero_le _,rfl,rfl,⟨by simp,by simp⟩,by simp [ownC],by rw [objAt_app0];rfl,.inl ⟨rfl,rfl,rfl⟩,.app,hC0⟩
 clear hsx hob' hob hC0
 rintro ⟨i,o,l1,S1⟩ ⟨hi,hln,hrw,hts,hlo,hx,hacc,hfr,hC⟩ next
 dsimp only at hi hln hrw hts hlo hx hacc hfr hC next
 by_cases h1:i<l.length
 ·have a1:=ptrAt h1
  obtain ⟨t1,t2⟩:=hC.tab i h1
  have htw:=tabTwin (orc:=orc) t1 t2
  have hxl:=objAt_lt hx
  repeat' (first|refine Go.a rfl ?_|refine Go.rg ?_|refine GoR.nil ?_|refine Go.ret ?_|refine Go.b rfl ?_|refine Go.rgS dmx (by decide) ?_|refine Go.rgD [1] (fun H=>objAt H S.length=some [.sl none 1 ps.length (ps.map .str),.sl none 1 zs.length (zs.map .str),o]) dmx (by decide) 5 (by decide) (by (first | exact hx | exact Fr.obj (F:=[]) (by assumption) hx (by simp) | exact objAt_old (Fr.obj (F:=[]) (by assumption) hx (by simp)))) ?_|refine GoW.nil rfl ?_|((first|refine GoR.o (by rfl) (by rfl) ?_|refine GoW.o (by rfl) (by rfl) ?_|refine GoW.rd (by rfl) (by rfl) ?_);(conv=>arg 1;simp only [G,Z,Y,Gx,un_neg,cutD,decide_true,decide_false,simprocAttr,fb3,fb24,fb51,fb128,fb130,show decide ((i:Int)<(l.length:Int))=true by simp;omega,a1,hx,wrap_succ (show i<4611686018427387904 by omega)]);first|show GoR ..|(show _∧GoW ..;refine ⟨by (first|exact fun h=>absurd h (by decide)|(intro _;(first | exact hx | exact Fr.obj (F:=[]) (by assumption) hx (by simp) | exact objAt_old (Fr.obj (F:=[]) (by assumption) hx (by simp))))),?_⟩)|(show _∧_∧_∧GoW ..;refine ⟨rfl,by (first | exact hx | exact Fr.obj (F:=[]) (by assumption) hx (by simp) | exact objAt_old (Fr.obj (F:=[]) (by assumption) hx (by simp))),(fun H hI=>by (try dsimp only at hI);simp only [G,Z,Y,Gx,un_neg,cutD,decide_true,decide_false,simprocAttr,fb3,fb24,fb51,fb128,fb130,show decide ((i:Int)<(l.length:Int))=true by simp;omega,a1,hx,wrap_succ (show i<4611686018427387904 by omega),hI]),?_⟩))|(refine GoW.c c19 (by rfl) (by rfl) rfl ?_;(refine htw.mono ?_;rintro _ S2 ⟨T',rfl,hT',hlo',hfr2⟩);refine ⟨by (first|exact fun h=>absurd h (by decide)|(intro _;(first | exact hx | exact Fr.obj (F:=[]) (by assumption) hx (by simp) | exact objAt_old (Fr.obj (F:=[]) (by assumption) hx (by simp))))),?_⟩)|(refine GoR.c c19 (by rfl) (by rfl) rfl ?_;(refine htw.mono ?_;rintro _ S2 ⟨T',rfl,hT',hlo',hfr2⟩))|refine Go.condB rfl (fun hc => ?_) (fun hc => ?_))
  have hx2:=hfr2.obj hx (by simp)
  have hxo:=fun E=>objAt_old (E:=E) hx2
  obtain ⟨o',S3,hap,hx3,hone,hx4,hacc4,hkeep,hfr4,hlen⟩:=accV (P:=Tryz.prog) del128 (own:=some S2.length) (new:=[.ptr T'.t 0]) (hxo [.own]) (by omega) (by have:=hfr2.len;simp;omega) ((hacc.fr hfr2 (by simp)).app [.own]) ⟨by omega,by omega,by omega,rfl⟩
  repeat' (first|refine Go.a rfl ?_|refine Go.rg ?_|refine GoR.nil ?_|refine Go.ret ?_|refine Go.b rfl ?_|refine Go.rgS dmx (by decide) ?_|refine Go.rgD [1] (fun H=>objAt H S.length=some [.sl none 1 ps.length (ps.map .str),.sl none 1 zs.length (zs.map .str),o]) dmx (by decide) 5 (by decide) (by (first | exact hx | exact Fr.obj (F:=[]) (by assumption) hx (by simp) | exact objAt_old (Fr.obj (F:=[]) (by assumption) hx (by simp)))) ?_|refine GoW.nil rfl ?_|((first|refine GoR.o (by rfl) (by rfl) ?_|refine GoW.o (by rfl) (by rfl) ?_|refine GoW.rd (by rfl) (by rfl) ?_);(conv=>arg 1;simp only [G,Z,Y,Gx,un_neg,cutD,decide_true,decide_false,simprocAttr,fb3,fb24,fb51,fb128,fb130,hap,builtin_append,hx3,hone,wrap_succ (show i<4611686018427387904 by omega)]);first|show GoR ..|(show _∧GoW ..;refine ⟨by (first|exact fun h=>absurd h (by decide)|(intro _;(first | exact hx | exact Fr.obj (F:=[]) (by assumption) hx (by simp) | exact objAt_old (Fr.obj (F:=[]) (by assumption) hx (by simp))))),?_⟩)|(show _∧_∧_∧GoW ..;refine ⟨rfl,by (first | exact hx | exact Fr.obj (F:=[]) (by assumption) hx (by simp) | exact objAt_old (Fr.obj (F:=[]) (by assumption) hx (by simp))),(fun H hI=>by (try dsimp only at hI);simp only [G,Z,Y,Gx,un_neg,cutD,decide_true,decide_false,simprocAttr,fb3,fb24,fb51,fb128,fb130,hap,builtin_append,hx3,hone,wrap_succ (show i<4611686018427387904 by omega),hI]),?_⟩))|refine Go.condB rfl (fun hc => ?_) (fun hc => ?_))
  have hown:=h.lt.2
  have hts2:TabsAt S2 most (l1++[(T',l[i].2)]):=(hts.keep fun j hj x hx=>hfr2.obj hx (by simp)).more hT' t2 fun j hj hx=>by
   have:=hlo' j hj
   have:=hts.lt j hx
   omega
  refine Go.lpN ?_
  refine Go.keep [(0,.ptr c 0),(3,.ptr S.length 0),(13,.sl w 1 l.length (ptrsC l)),(14,.int .i64 (l.length:Int)),(15,.int .i64 ((i+1:Nat):Int))] (.cons .refl (.cons .refl (.cons .refl (.cons .refl (.cons .refl (.nil)))))) ?_
  refine next (i+1,o',l1++[(T',l[i].2)],_) (by dsimp only;omega) ⟨h1,by simp [hln],?_,?_,?_,hx4,?_,hfr4 S ((hfr.trans (F:=[]) (G:=[]) hfr2 (by simp)).trans (F:=[]) (G:=[]) .app (by simp)) (Nat.le_refl _),?_⟩
  ·dsimp only
   rw [List.take_succ_eq_append_getElem (by simpa [rowsOf] using h1),← hrw]
   simp [rowsOf]
  ·refine hts2.keep fun j hj x hx=>hkeep j x ?_ (objAt_old hx)
   rcases ownC_more.1 hj with hh | hh
   ·have:=hlo j hh;omega
   ·have:=hlo' j hh;omega
  ·intro j hj
   rcases ownC_more.1 hj with hh | hh
   ·exact hlo j hh
   ·have:=hlo' j hh;omega
  ·dsimp only
   rw [ptrsC_more]
   exact hacc4
  ·refine hC.keep fun j hj x hx=>hkeep j x ?_ (objAt_old (hfr2.obj hx (by simp)))
   rcases hj with rfl | hh
   ·omega
   ·have:=hown j hh;omega
 ·clear next
  obtain rfl:i=l.length:=by omega
  obtain ⟨id,rfl⟩:=AccD.full hacc h0
  repeat' (first|refine Go.a rfl ?_|refine Go.rg ?_|refine GoR.nil ?_|refine Go.ret ?_|refine Go.b rfl ?_|refine Go.rgS dmx (by decide) ?_|refine Go.rgD [1] (fun _=>True) dmx (by decide) 5 (by decide) (by trivial) ?_|refine GoW.nil rfl ?_|((first|refine GoR.o (by rfl) (by rfl) ?_|refine GoW.o (by rfl) (by rfl) ?_|refine GoW.rd (by rfl) (by rfl) ?_);(conv=>arg 1;simp only [G,Z,Y,Gx,un_neg,cutD,decide_true,decide_false,simprocAttr,fb3,fb24,fb51,fb128,fb130,show decide ((l.length:Int)<(l.length:Int))=false by simp]);first|show GoR ..|(show _∧GoW ..;refine ⟨by exact fun _=>trivial,?_⟩)|(show _∧_∧_∧GoW ..;refine ⟨rfl,by trivial,(fun H _=>by simp only [G,Z,Y,Gx,un_neg,cutD,decide_true,decide_false,simprocAttr,fb3,fb24,fb51,fb128,fb130,show decide ((l.length:Int)<(l.length:Int))=false by simp]),?_⟩))|refine Go.condB rfl (fun hc => ?_) (fun hc => ?_))
  refine ⟨(by first | exact .inl rfl | exact .inr rfl),fin ?_⟩
  rw [resD_tmp (fn:=Tryz.f38) rfl]
  simp only [optThen_some,resultD_tmp,resultD_cell,G,Z,Y,Gx,un_neg,cutD,decide_true,decide_false,simprocAttr,fb3,fb24,fb51,fb128,fb130]
  have hrl:(rowsOf l).length=l.length:=by simp [rowsOf]
  rw [← hrl,List.take_length] at hrw
  refine ⟨S.length,some id,l1,rfl,⟨?_,hts.tab,hts.apart,fun j hj hc => ?_,by rw [hln];exact h.z,by rw [hln];exact h.p,by omega⟩,hrw,Nat.le_refl _,fun j hj=>Nat.le_of_lt (hlo j hj),hfr⟩
  ·rw [hln]
   exact hx
  ·have:=hlo _ (ownC_at hj hc)
   omega
end Go.Proofs.DtT
namespace Go.Proofs.DtT
open Go Go.DM Go.Proofs.DtF
set_option maxRecDepth 100000
variable {orc:DOracle}
theorem chNew0 (own:ByteArray) (hs:own.size<1000000) (h:pathR own=false∨partsP own=[]) (most:Int) (S:Mem):CallD Tryz.prog O 30 [.str own,.int .i64 most] S fun d S'=>S'=S∧d = .tup [.nilp,.int .i64 5]:=by
 have hp:=fun S=>pathParse own hs S
 have he:=parE_zero own
 refine CallD.e Tryz.func30 rfl Tryz.ntmps30 (by rfl) ?_
 unfold strsD at hp
 by_cases hr:pathR own=true
 ·have h0:partsP own=[]:=by
   rcases h with h | h
   ·rw [hr] at h;cases h
   ·exact h
  rw [h0,he.2 hr] at hp
  repeat' (first|refine Go.a rfl ?_|refine Go.rg ?_|refine GoR.nil ?_|refine Go.ret ?_|refine Go.b rfl ?_|(refine GoR.o (by rfl) (by rfl) ?_;(conv=>arg 1;simp only [G,Z,Y,Gx,un_neg,cutD,decide_true,decide_false,simprocAttr,fb3,fb25,fb51,fb128,fb130,bne_self_eq_false,beq_self_eq_true]);show GoR ..)|(refine GoR.c c76 (by rfl) (by rfl) rfl ?_;(refine (hp _).ret ?_))|refine GoR.s (by rfl) rfl rfl ?_|(refine GoR.splitG rfl (fun hc => ?_) (fun hc => ?_)<;>simp only [hc])|refine Go.condB rfl (fun hc => ?_) (fun hc => ?_))
  refine ⟨(by first | exact .inl rfl | exact .inr rfl),fin ?_⟩
  rw [resD_two (fn:=Tryz.f30) rfl]
  simp only [optThen_some,resultD_tmp,resultD_cell,G,Z,Y,Gx,un_neg,cutD,decide_true,decide_false,simprocAttr,fb3,fb25,fb51,fb128,fb130]
  exact ⟨_,[],by simp,.of_low (.tup' (.cons .nilp (.cons (.int _ _) .nil))),rfl⟩
 ·have h0 : ¬ parE own=0:=fun e=>hr (he.1 e)
  generalize parE own=e at *
  generalize partsP own=l at *
  repeat' (first|refine Go.a rfl ?_|refine Go.rg ?_|refine GoR.nil ?_|refine Go.ret ?_|refine Go.b rfl ?_|(refine GoR.o (by rfl) (by rfl) ?_;(conv=>arg 1;simp only [G,Z,Y,Gx,un_neg,cutD,decide_true,decide_false,simprocAttr,fb3,fb25,fb51,fb128,fb130,show (e != 0)=true by simpa using h0]);show GoR ..)|(refine GoR.c c76 (by rfl) (by rfl) rfl ?_;(refine (hp _).ret ?_))|refine GoR.s (by rfl) rfl rfl ?_|(refine GoR.splitG rfl (fun hc => ?_) (fun hc => ?_)<;>simp only [hc])|refine Go.condB rfl (fun hc => ?_) (fun hc => ?_))
  refine ⟨(by first | exact .inl rfl | exact .inr rfl),fin ?_⟩
  rw [resD_two (fn:=Tryz.f30) rfl]
  simp only [optThen_some,resultD_tmp,resultD_cell,G,Z,Y,Gx,un_neg,cutD,decide_true,decide_false,simprocAttr,fb3,fb25,fb51,fb128,fb130]
  exact ⟨_,[],by simp,.of_low (.tup' (.cons .nilp (.cons (.int _ _) .nil))),rfl⟩
theorem chNew1 (own:ByteArray) (hs:own.size<1000000) (hr:pathR own=true) (h0:0<(partsP own).length) {most:Int} (hm : ¬ (1≤most∧most≤64)) (S:Mem):CallD Tryz.prog O 30 [.str own,.int .i64 most] S fun d S'=>S'=S∧d = .tup [.nilp,.int .i64 1]:=by
 have hp:=fun S=>pathParse own hs S
 have hz:=fun S=>pathZones own hs S
 rw [(parE_zero own).2 hr] at hp
 have hzl:=zonesP_len (partsP own)
 have hn:=fun S=>tabNew1 (orc:=O) hm S
 generalize partsP own=l at *
 generalize zonesP l=zs at *
 unfold strsD at *
 refine CallD.e Tryz.func30 rfl Tryz.ntmps30 (by rfl) ?_
 have b0:((l.length:Int)==0)=false:=by rw [beq_eq_false_iff_ne];omega
 have hx : ∀ E,objAt (S++(.obj [.sl none 1 l.length (l.map .str),.sl none 1 zs.length (zs.map .str),.nils]::E)) S.length=some [.sl none 1 l.length (l.map .str),.sl none 1 zs.length (zs.map .str),.nils]:=fun E=>by simp [objAt]
 repeat' (first|refine Go.a rfl ?_|refine Go.rg ?_|refine GoR.nil ?_|refine Go.ret ?_|refine Go.b rfl ?_|(refine GoR.o (by rfl) (by rfl) ?_;(conv=>arg 1;simp only [G,Z,Y,Gx,un_neg,cutD,decide_true,decide_false,simprocAttr,fb3,fb25,fb51,fb128,fb130,bne_self_eq_false,b0,hx]);show GoR ..)|(refine GoR.c c76 (by rfl) (by rfl) rfl ?_;(refine (hp _).ret ?_))|(refine GoR.c c77 (by rfl) (by rfl) rfl ?_;(refine (hz _).ret ?_))|refine GoR.s (by rfl) rfl rfl ?_|(refine GoR.splitG rfl (fun hc => ?_) (fun hc => ?_)<;>simp only [hc])|refine Go.condB rfl (fun hc => ?_) (fun hc => ?_))
 refine Go.loop ?_
 repeat' (first|refine Go.a rfl ?_|refine Go.rg ?_|refine GoR.nil ?_|refine Go.ret ?_|refine Go.b rfl ?_|(refine GoR.o (by rfl) (by rfl) ?_;(conv=>arg 1;simp only [G,Z,Y,Gx,un_neg,cutD,decide_true,decide_false,simprocAttr,fb3,fb25,fb51,fb128,fb130,show decide ((0:Int)<(zs.length:Int))=true by simp;omega]);show GoR ..)|(refine GoR.c c8 (by rfl) (by rfl) rfl ?_;(refine (hn _).ret ?_))|refine GoR.s (by rfl) rfl rfl ?_|(refine GoR.splitG rfl (fun hc => ?_) (fun hc => ?_)<;>simp only [hc])|refine Go.condB rfl (fun hc => ?_) (fun hc => ?_))
 refine ⟨(by first | exact .inl rfl | exact .inr rfl),fin ?_⟩
 rw [resD_two (fn:=Tryz.f30) rfl]
 simp only [optThen_some,resultD_tmp,resultD_cell,G,Z,Y,Gx,un_neg,cutD,decide_true,decide_false,simprocAttr,fb3,fb25,fb51,fb128,fb130]
 exact ⟨_,_,rfl,.of_low (.tup' (.cons .nilp (.cons (.int _ _) .nil))),rfl⟩
set_option maxHeartbeats 4000000 in
theorem chNew (own:ByteArray) (hs:own.size<1000000) (hr:pathR own=true) (h0:0<(partsP own).length) {most:Int} (hm1:1≤most) (hm2:most≤64) (S:Mem) :
  CallD Tryz.prog O 30 [.str own,.int .i64 most] S fun d S' => ∃ x w l,d = .tup [.ptr x 0,.int .i64 0]∧ChAt S' x (partsP own) (zonesP (partsP own)) most w l∧rowsOf l=(partsP own).map (fun _=>[])∧S.length≤x∧(∀ o∈ownC l,S.length≤o)∧Fr [] S S':=by
 have hp:=fun S=>pathParse own hs S
 have hz:=fun S=>pathZones own hs S
 rw [(parE_zero own).2 hr] at hp
 have hzl:=zonesP_len (partsP own)
 have h4:=partsP_len own
 generalize partsP own=ps at *
 generalize zonesP ps=zs at *
 have hn:=fun S=>tabNew (orc:=O) hm1 hm2 S
 unfold strsD at hp hz
 refine CallD.eb Tryz.func30 rfl Tryz.ntmps30 (by rfl) ?_
 have b0:((ps.length:Int)==0)=false:=by rw [beq_eq_false_iff_ne];omega
 have hx : ∀ E,objAt (S++(.obj [.sl none 1 ps.length (ps.map .str),.sl none 1 zs.length (zs.map .str),.nils]::E)) S.length=some [.sl none 1 ps.length (ps.map .str),.sl none 1 zs.length (zs.map .str),.nils]:=fun E=>by simp [objAt]
 repeat' (first|refine Go.a rfl ?_|refine Go.rg ?_|refine GoR.nil ?_|refine Go.ret ?_|refine Go.b rfl ?_|(refine GoR.o (by rfl) (by rfl) ?_;(conv=>arg 1;simp only [G,Z,Y,Gx,un_neg,cutD,decide_true,decide_false,simprocAttr,fb3,fb25,fb51,fb128,fb130,bne_self_eq_false,b0,hx]);show GoR ..)|(refine GoR.c c76 (by rfl) (by rfl) rfl ?_;(refine (hp _).ret ?_))|(refine GoR.c c77 (by rfl) (by rfl) rfl ?_;(refine (hz _).ret ?_))|refine GoR.s (by rfl) rfl rfl ?_|(refine GoR.splitG rfl (fun hc => ?_) (fun hc => ?_)<;>simp only [hc])|refine Go.condB rfl (fun hc => ?_) (fun hc => ?_))
 rw [hzl]
 refine Go.keep [(1,.int .i64 most),(8,.ptr S.length 0),(32,.int .i64 (ps.length:Int)),(33,.int .i64 ((0:Nat):Int))] (.cons .refl (.cons .refl (.cons .refl (.cons .refl (.nil))))) ?_
 refine Go.while (α:=Nat×D×Tl×Mem) (fun x=>ps.length - x.1) (fun x=>[(1,.int .i64 most),(8,.ptr S.length 0),(32,.int .i64 (ps.length:Int)),(33,.int .i64 (x.1:Int))]) (fun x=>x.2.2.2)
  (fun x=>x.1≤ps.length∧x.2.2.1.length=x.1∧rowsOf x.2.2.1=(ps.take x.1).map (fun _=>[])∧TabsAt x.2.2.2 most x.2.2.1∧(∀ j∈ownC x.2.2.1,S.length<j)∧objAt x.2.2.2 S.length=some [.sl none 1 ps.length (ps.map .str),.sl none 1 zs.length (zs.map .str),x.2.1]∧AccD (S.length+1) x.2.1 1 x.1 (ptrsC x.2.2.1) x.2.2.2∧Fr [] S x.2.2.2) ?_
  (0,.nils,[],_) ⟨Nat.zero_le _,rfl,rfl,⟨by simp,by simp⟩,by simp [ownC],by rw [objAt_app0,hzl];rfl,.inl ⟨rfl,rfl,rfl⟩,.app⟩
 clear hx
 rintro ⟨i,o,l1,S1⟩ ⟨hi,hln,hrw,hts,hlo,hx,hacc,hfr⟩ next
 dsimp only at hi hln hrw hts hlo hx hacc hfr next
 by_cases h1:i<ps.length
 ·have hxl:=objAt_lt hx
  repeat' (first|refine Go.a rfl ?_|refine Go.rg ?_|refine GoR.nil ?_|refine Go.ret ?_|refine Go.b rfl ?_|(refine GoR.o (by rfl) (by rfl) ?_;(conv=>arg 1;simp only [G,Z,Y,Gx,un_neg,cutD,decide_true,decide_false,simprocAttr,fb3,fb25,fb51,fb128,fb130,show decide ((i:Int)<(ps.length:Int))=true by simp;omega,bne_self_eq_false]);show GoR ..)|(refine GoR.c c8 (by rfl) (by rfl) rfl ?_;(refine (hn _).mono ?_;rintro _ S2 ⟨T',rfl,hT',hlo',hfr2⟩))|refine GoR.s (by rfl) rfl rfl ?_|(refine GoR.splitG rfl (fun hc => ?_) (fun hc => ?_)<;>simp only [hc])|refine Go.condB rfl (fun hc => ?_) (fun hc => ?_))
  have hx2:=hfr2.obj hx (by simp)
  have hxo:=fun E=>objAt_old (E:=E) hx2
  obtain ⟨o',S3,hap,hx3,hone,hx4,hacc4,hkeep,hfr4,hlen⟩:=accV (P:=Tryz.prog) del128 (own:=some S2.length) (new:=[.ptr T'.t 0]) (hxo [.own]) (by omega) (by have:=hfr2.len;simp;omega) ((hacc.fr hfr2 (by simp)).app [.own]) ⟨by omega,by omega,by omega,rfl⟩
  repeat' (first|refine Go.a rfl ?_|refine Go.rg ?_|refine GoR.nil ?_|refine Go.ret ?_|refine Go.b rfl ?_|(refine GoR.o (by rfl) (by rfl) ?_;(conv=>arg 1;simp only [G,Z,Y,Gx,un_neg,cutD,decide_true,decide_false,simprocAttr,fb3,fb25,fb51,fb128,fb130,hx2,hap,builtin_append,hx3,hone,wrap_succ (show i<4611686018427387904 by omega)]);show GoR ..)|refine GoR.s (by rfl) rfl rfl ?_|(refine GoR.splitG rfl (fun hc => ?_) (fun hc => ?_)<;>simp only [hc])|refine Go.condB rfl (fun hc => ?_) (fun hc => ?_))
  have hts2:TabsAt S2 most (l1++[(T',[])]):=(hts.keep fun j hj x hx=>hfr2.obj hx (by simp)).more hT' .nil fun j hj hx=>by
   have:=hlo' j hj
   have:=hts.lt j hx
   omega
  refine Go.lpN ?_
  refine Go.keep [(1,.int .i64 most),(8,.ptr S.length 0),(32,.int .i64 (ps.length:Int)),(33,.int .i64 ((i+1:Nat):Int))] (.cons .refl (.cons .refl (.cons .refl (.cons .refl (.nil))))) ?_
  refine next (i+1,o',l1++[(T',[])],_) (by dsimp only;omega) ⟨h1,by simp [hln],?_,?_,?_,hx4,?_,hfr4 S ((hfr.trans (F:=[]) (G:=[]) hfr2 (by simp)).trans (F:=[]) (G:=[]) .app (by simp)) (Nat.le_refl _)⟩
  ·dsimp only
   rw [List.take_succ_eq_append_getElem h1,List.map_append,← hrw]
   simp [rowsOf]
  ·refine hts2.keep fun j hj x hx=>hkeep j x ?_ (objAt_old hx)
   rcases ownC_more.1 hj with hh | hh
   ·have:=hlo j hh;omega
   ·have:=hlo' j hh;omega
  ·intro j hj
   rcases ownC_more.1 hj with hh | hh
   ·exact hlo j hh
   ·have:=hlo' j hh;omega
  ·dsimp only
   rw [ptrsC_more]
   exact hacc4
 ·clear next
  obtain rfl:i=ps.length:=by omega
  obtain ⟨id,rfl⟩:=AccD.full hacc h0
  repeat' (first|refine Go.a rfl ?_|refine Go.rg ?_|refine GoR.nil ?_|refine Go.ret ?_|refine Go.b rfl ?_|(refine GoR.o (by rfl) (by rfl) ?_;(conv=>arg 1;simp only [G,Z,Y,Gx,un_neg,cutD,decide_true,decide_false,simprocAttr,fb3,fb25,fb51,fb128,fb130,show decide ((ps.length:Int)<(ps.length:Int))=false by simp]);show GoR ..)|refine GoR.s (by rfl) rfl rfl ?_|(refine GoR.splitG rfl (fun hc => ?_) (fun hc => ?_)<;>simp only [hc])|refine Go.condB rfl (fun hc => ?_) (fun hc => ?_))
  refine ⟨(by first | exact .inl rfl | exact .inr rfl),fin ?_⟩
  rw [resD_two (fn:=Tryz.f30) rfl]
  simp only [optThen_some,resultD_tmp,resultD_cell,G,Z,Y,Gx,un_neg,cutD,decide_true,decide_false,simprocAttr,fb3,fb25,fb51,fb128,fb130]
  rw [List.take_length] at hrw
  refine ⟨S.length,some id,l1,rfl,⟨?_,hts.tab,hts.apart,fun j hj hc => ?_,by rw [hln];exact hzl,hln.symm,by omega⟩,hrw,Nat.le_refl _,fun j hj=>Nat.le_of_lt (hlo j hj),hfr⟩
  ·rw [hln]
   exact hx
  ·have:=hlo _ (ownC_at hj hc)
   omega
end Go.Proofs.DtT
namespace Go.Proofs.DtT
open Go Go.DM Go.Proofs.DtF
set_option maxRecDepth 100000
variable {orc:DOracle}
def Off (l:Tl) (S:Mem) (l':Tl) (S':Mem):Prop := ∀ o x,o∉ownC l→objAt S o=some x→objAt S' o=some x∧o∉ownC l'
theorem Off.of {l l':Tl} {S S':Mem} (f:Fr (ownC l) S S') (h : ∀ o∈ownC l',o∈ownC l∨S.length≤o):Off l S l' S':=fun o x ho hx=>
 ⟨f.obj hx ho,fun hm=>by
  rcases h o hm with hh | hh
  ·exact ho hh
  ·have:=objAt_lt hx;omega⟩
theorem ChAt.objs {S c ps zs most w l} (h:ChAt S c ps zs most w l) : ∀ o∈ownC l,∃ x,objAt S o=some x:=fun o ho=>by
 obtain ⟨i,hi,ho⟩:=ownC_of ho
 exact (h.tab i hi).1.objs o ho
theorem Off.chain {l l':Tl} {S S':Mem} (k:Off l S l' S') {t ps zs most w m} (h:ChAt S t ps zs most w m) (ht:t∉ownC l) (hd : ∀ o∈ownC m,o∉ownC l):ChAt S' t ps zs most w m∧t∉ownC l' ∧ ∀ o∈ownC m,o∉ownC l' :=
 ⟨h.keep fun j hj x hx=>(k j x (by
  rcases hj with rfl | hj
  ·exact ht
  ·exact hd j hj) hx).1,(k t _ ht h.obj).2,fun o ho=>by
  obtain ⟨x,hx⟩:=h.objs o ho
  exact (k o x (hd o ho) hx).2⟩
structure Ch0 (S0 S:Mem) (c:Nat) (ps zs:List ByteArray) (most:Int) (w:Option Nat) (l:Tl):Prop where
 at_:ChAt S c ps zs most w l
 lo:S0.length≤c
 low : ∀ o∈ownC l,S0.length≤o
 fr:Fr [] S0 S
theorem Ch0.app {S0 S c ps zs most w l} (h:Ch0 S0 S c ps zs most w l) (E:Mem):Ch0 S0 (S++E) c ps zs most w l:=⟨h.at_.app E,h.lo,h.low,h.fr.trans (F:=[]) (G:=[]) .app (by simp)⟩
theorem Ch0.moved {S0 S S' c ps zs most w l l'} (h:Ch0 S0 S c ps zs most w l) (a:ChAt S' c ps zs most w l') (f:Fr (ownC l) S S') (g : ∀ o∈ownC l',o∈ownC l∨S.length≤o):Ch0 S0 S' c ps zs most w l' :=
 ⟨a,h.lo,fun o ho=>by
  rcases g o ho with hh | hh
  ·exact h.low o hh
  ·exact Nat.le_trans h.fr.len hh,h.fr.trans (F:=[]) f fun o ho=>.inr (h.low o ho)⟩
theorem rowsOf_some {l:Tl} {i:Nat} {m:List Rw} (h:(rowsOf l)[i]?=some m) : ∃ hi:i<l.length,l[i].2=m:=by
 rw [rowsOf,List.getElem?_map] at h
 obtain ⟨x,hx,rfl⟩:=Option.map_eq_some_iff.1 h
 obtain ⟨hi,rfl⟩:=List.getElem?_eq_some_iff.1 hx
 exact ⟨hi,rfl⟩
theorem ch0Rows {S0 S c ps zs most w l} (h:Ch0 S0 S c ps zs most w l) {s:ByteArray} {i:Nat} (hs:findS zs s=(i:Int)) {m:List Rw} (hm:(rowsOf l)[i]?=some m):CallD Tryz.prog orc 44 [.ptr c 0,.str s] S fun d S'=>S'=S∧d = .sl none 6 m.length (rowsC m):=by
 obtain ⟨hi,rfl⟩:=rowsOf_some hm
 exact chRows h.at_ hi hs
theorem ch0Get {S0 S c ps zs most w l} (h:Ch0 S0 S c ps zs most w l) {s:ByteArray} {i:Nat} (hs:findS zs s=(i:Int)) {m:List Rw} (hm:(rowsOf l)[i]?=some m) (k:ByteArray):CallD Tryz.prog orc 39 [.ptr c 0,.str s,.str k] S fun d S'=>S'=S∧d = .tup [.agg ((lookK Rw.key m k).getD noRow).c,.bool (lookK Rw.key m k).isSome]:=by
 obtain ⟨hi,rfl⟩:=rowsOf_some hm
 exact chGet h.at_ hi hs k
theorem ch0Put {S0 S c ps zs most w l} (h:Ch0 S0 S c ps zs most w l) {s:ByteArray} {i:Nat} (hs:findS zs s=(i:Int)) {m:List Rw} (hm:(rowsOf l)[i]?=some m) (h1:1≤most) (r:Rw) (hr:FewR r) (hrl:OkR r) (hll:m.length<900000) {m':List Rw} {e:Int} (hp:putT most m r=(m',e)) :
  CallD Tryz.prog O 35 [.ptr c 0,.str s,.agg r.c] S fun d S'=>d = .int .i64 e ∧ ∃ l',rowsOf l'=(rowsOf l).set i m'∧Ch0 S0 S' c ps zs most w l'∧Off l S l' S':=by
 obtain ⟨hi,rfl⟩:=rowsOf_some hm
 refine (chPut h.at_ hi hs h1 r hr hrl hll).mono fun d S' ⟨g1,T',e1,g2,g3,g4⟩ => ?_
 rw [hp] at g1 g2 g4
 exact ⟨g1,_,rowsOf_set,h.moved g2 g3 g4,.of g3 g4⟩
theorem ch0Sweep {S0 S c ps zs most w l} (h:Ch0 S0 S c ps zs most w l) (now age:Int) (hsm : ∀ m∈rowsOf l,m.length≤1000) {ls:List (List Rw)} {n:Nat} (he:swC now age ps (rowsOf l) l.length=(ls,n)) :
  CallD Tryz.prog O 37 [.ptr c 0,.int .i64 now,.int .i64 age] S fun d S'=>d = .int .i64 (n:Int) ∧ ∃ l',rowsOf l'=ls∧Ch0 S0 S' c ps zs most w l'∧Off l S l' S':=by
 refine (chSweep h.at_ now age fun i hi=>hsm _ (List.mem_map.2 ⟨_,List.getElem_mem hi,rfl⟩)).mono fun d S' ⟨g1,l',g2,g3,_,g4,g5⟩ => ?_
 rw [he] at g1 g2
 exact ⟨g1,l',g2,h.moved g3 g4 g5,.of g4 g5⟩
theorem ch0Twin {S0 S c ps zs most w l} (h:Ch0 S0 S c ps zs most w l) (h0:0<l.length):CallD Tryz.prog orc 38 [.ptr c 0] S fun d S' => ∃ x w' l',d = .ptr x 0∧Ch0 S0 S' x ps zs most w' l'∧rowsOf l'=rowsOf l∧Ch0 S0 S' c ps zs most w l∧x∉ownC l∧(∀ o∈ownC l',o∉ownC l)∧Fr [] S S' :=
 (chTwin h.at_ h0).mono fun d S' ⟨x,w',l',g1,g2,g3,g4,g5,g6⟩=>⟨x,w',l',g1,⟨g2,Nat.le_trans h.fr.len g4,fun o ho=>Nat.le_trans h.fr.len (g5 o ho),h.fr.trans (F:=[]) (G:=[]) g6 (by simp)⟩,g3,
  ⟨h.at_.fr g6 (by simp) (by simp),h.lo,h.low,h.fr.trans (F:=[]) (G:=[]) g6 (by simp)⟩,fun hx=>by have:=h.at_.lt.2 x hx;omega,fun o ho hx=>by have:=g5 o ho;have:=h.at_.lt.2 o hx;omega,g6⟩
theorem ch0New (own:ByteArray) (hs:own.size<1000000) (hr:pathR own=true) (h0:0<(partsP own).length) {most:Int} (hm1:1≤most) (hm2:most≤64) {S0 S:Mem} (hf:Fr [] S0 S) :
  CallD Tryz.prog O 30 [.str own,.int .i64 most] S fun d S' => ∃ x w l,d = .tup [.ptr x 0,.int .i64 0]∧Ch0 S0 S' x (partsP own) (zonesP (partsP own)) most w l∧rowsOf l=(partsP own).map (fun _=>[])∧Fr [] S S' :=
 (chNew own hs hr h0 hm1 hm2 S).mono fun d S' ⟨x,w,l,g1,g2,g3,g4,g5,g6⟩=>⟨x,w,l,g1,⟨g2,Nat.le_trans hf.len g4,fun o ho=>Nat.le_trans hf.len (g5 o ho),hf.trans (F:=[]) (G:=[]) g6 (by simp)⟩,g3,g6⟩
end Go.Proofs.DtT
