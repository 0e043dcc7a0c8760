/- The document's table: a row dropped, the least row. -/
import Derived.Test.YtlllhmenekibjaaGreatDoorDtT10x
set_option linter.unusedSimpArgs false
set_option linter.unusedVariables false
namespace Go.DM
open Go.AM
theorem Fr.grown' {F:List Nat} {b:Nat} {S S1 S2:Mem} (x:Fr F S S1) (hb:S.length≤b) (hl:b≤S1.length) (g:Grown b S1 S2):Fr F S S2:=by
 refine ⟨Nat.le_trans x.len g.len,fun o ho hF => ?_⟩
 have hl:(S1.take b).length=b:=by rw [List.length_take];omega
 obtain ⟨E',e⟩:=g.pre (S1.drop b) (S1.take b) hl (List.take_append_drop _ _).symm
 rw [e,List.getElem?_append_left (by omega),List.getElem?_take,if_pos (by omega)]
 exact x.at_ o ho hF
theorem accU {P:Program} {b t e n bytes len u:Nat} {q o:D} {cells new:List D} {S1:Mem} (h:ElemT P t e n bytes) (hu:objAt S1 u=some [q,o]) (hub:u<b) (hb:b≤S1.length) (hacc:AccD b o n len cells S1) (hf:fitsD bytes (len+1) new) :
  ∃ o' S2,appendD P #[t,t] o (.sl (some S1.length) n 1 new) (S1++[.own])=some (o',S2)∧objAt S2 u=some [q,o]∧(cellsD o'=some [o']∧D.one o'=true)∧objAt (S2.set u (.obj [q,o'])) u=some [q,o']∧AccD b o' n (len+1) (cells++new) (S2.set u (.obj [q,o'])) ∧
   (∀ j c,j≠u→objAt S1 j=some c→objAt (S2.set u (.obj [q,o'])) j=some c)∧(∀ S0,Fr [] S0 S1→S0.length≤u→Fr [] S0 (S2.set u (.obj [q,o'])))∧b≤(S2.set u (.obj [q,o'])).length:=by
 obtain ⟨o',S2,hap,hacc2,hg2⟩:=(hacc.app [.own]).append (P:=P) h (own:=some S1.length) (m:=1) (new:=new) (by simp;omega) (by omega) hf
 have hg:Grown b S1 S2:=Grown.app.trans hg2
 have hu2:=hg.obj _ _ hu
 have h1:=hacc2.one
 refine ⟨o',S2,hap,hu2,⟨h1.2,h1.1⟩,objAt_set_eq (objAt_lt hu2),hacc2.set hub,fun j c hj hc=>(objAt_set_ne (fun e=>hj e.symm)).trans (hg.obj _ _ hc),fun S0 hF h0 => ?_,by have:=hg.len;simp;omega⟩
 exact (hF.grown' (b:=b) (by omega) hb hg).trans (F:=[]) (G:=[u]) (.set (by simp)) (by simp;omega)
end Go.DM
namespace Go.Proofs.DtT
open Go Go.DM Go.Proofs.DtF
set_option maxRecDepth 100000
variable {orc:DOracle}
def restK (l:List Rw) (s:ByteArray):List Rw:=l.filter fun r => !decide (r.key=s)
theorem restK_succ {l:List Rw} {s:ByteArray} {i:Nat} (h:i<l.length):restK (l.take (i+1)) s=restK (l.take i) s++if l[i].key=s then [] else [l[i]]:=by
 rw [List.take_succ_eq_append_getElem h,restK,List.filter_append]
 by_cases he:l[i].key=s
 ·rw [if_pos he]
  simp [restK,he]
 ·rw [if_neg he]
  simp [restK,he]
theorem restK_le (l:List Rw) (s:ByteArray):(restK l s).length≤l.length:=List.length_filter_le _ _
theorem rowsC_app {x y:List Rw} : rowsC (x++y)=rowsC x++rowsC y:=by simp [rowsC]
structure DropI (S S1:Mem) (most:Int) (l:List Rw) (k:List Rw) (o:D):Prop where
 fr:Fr [] S S1
 t:objAt S1 S.length=some [.int .i64 most,.sl none 6 l.length (rowsC l)]
 z:objAt S1 (S.length+1)=some [.int .i64 0,.nils]
 u:objAt S1 (S.length+2)=some [.int .i64 most,o]
 acc:AccD (S.length+3) o 6 k.length (rowsC k) S1
theorem refDropT {most:Int} {l:List Rw} (hl:l.length<1000000) (s:ByteArray) (S:Mem):CallD Tryz.prog orc 15 [.agg (refT most l),.str s] S fun d S'=>S'=S∧d = .agg (refT most (restK l s)):=by
 unfold refT
 refine CallD.e Tryz.func15 rfl Tryz.ntmps15 (by rfl) ?_
 repeat' (first|refine Go.a rfl ?_|refine Go.rg ?_|refine GoR.nil ?_|refine Go.ret ?_|refine Go.b rfl ?_|refine Go.rgS dmx (by decide) ?_|refine Go.rgD [1] (fun _=>True) dmx (by decide) 8 (by decide) (by trivial) ?_|refine GoW.nil rfl ?_|((first|refine GoR.o (by rfl) (by rfl) ?_|refine GoW.o (by rfl) (by rfl) ?_|refine GoW.rd (by rfl) (by rfl) ?_);(conv=>arg 1;simp only [G,Z,Y,Gx,un_neg,cutD,decide_true,decide_false,simprocAttr,fb3,fb9,fb28,fb30,fb41,fb42,fb44]);first|show GoR ..|(show _∧GoW ..;refine ⟨by exact fun _=>trivial,?_⟩)|(show _∧_∧_∧GoW ..;refine ⟨rfl,by trivial,(fun H _=>by simp only [G,Z,Y,Gx,un_neg,cutD,decide_true,decide_false,simprocAttr,fb3,fb9,fb28,fb30,fb41,fb42,fb44]),?_⟩))|refine Go.condB rfl (fun hc => ?_) (fun hc => ?_))
 refine Go.keep [(1,.str s),(2,.ptr S.length 0),(4,.ptr (S.length+1) 0),(5,.ptr (S.length+2) 0),(6,.int .i64 ((0:Nat):Int))] (.cons .refl (.cons .refl (.cons .refl (.cons .refl (.cons .refl (.nil)))))) ?_
 refine Go.while (α:=Nat×D×Mem) (fun x=>l.length - x.1) (fun x=>[(1,.str s),(2,.ptr S.length 0),(4,.ptr (S.length+1) 0),(5,.ptr (S.length+2) 0),(6,.int .i64 (x.1:Int))]) (fun x=>x.2.2)
  (fun x=>x.1≤l.length∧DropI S x.2.2 most l (restK (l.take x.1) s) x.2.1) ?_ (0,.nils,_) ⟨Nat.zero_le _,.app,by simp [objAt,List.getElem?_append_right],by simp [objAt,List.getElem?_append_right],by simp [objAt,List.getElem?_append_right],.inl ⟨rfl,rfl,rfl⟩⟩
 rintro ⟨i,o,S1⟩ ⟨hi,hI⟩ next
 dsimp only at hi hI next
 have hb:S.length+3≤S1.length:=objAt_lt hI.u
 have hT:=hI.t
 have hU:=hI.u
 have hZ:=hI.z
 by_cases h1:i<l.length
 ·have dl:decide ((i:Int)<(l.length:Int))=true:=by simp;omega
  have at1:=rowsAt h1
  have hsu:=restK_succ (s:=s) h1
  have hle:=restK_le (l.take i) s
  rw [List.length_take] at hle
  by_cases hk:l[i].key=s
  ·rw [if_pos hk,List.append_nil] at hsu
   repeat' (first|refine Go.a rfl ?_|refine Go.rg ?_|refine GoR.nil ?_|refine Go.ret ?_|refine Go.b rfl ?_|refine Go.rgS dmx (by decide) ?_|refine Go.rgD [1] (fun _=>True) dmx (by decide) 8 (by decide) (by trivial) ?_|refine GoW.nil rfl ?_|((first|refine GoR.o (by rfl) (by rfl) ?_|refine GoW.o (by rfl) (by rfl) ?_|refine GoW.rd (by rfl) (by rfl) ?_);(conv=>arg 1;simp only [G,Z,Y,Gx,un_neg,cutD,decide_true,decide_false,simprocAttr,fb3,fb9,fb28,fb30,fb41,fb42,fb44,dl,hT,hU,at1,rowKey h1,hk,decide_true,Bool.not_true,wrap_succ (show i<4611686018427387904 by omega)]);first|show GoR ..|(show _∧GoW ..;refine ⟨by exact fun _=>trivial,?_⟩)|(show _∧_∧_∧GoW ..;refine ⟨rfl,by trivial,(fun H _=>by simp only [G,Z,Y,Gx,un_neg,cutD,decide_true,decide_false,simprocAttr,fb3,fb9,fb28,fb30,fb41,fb42,fb44,dl,hT,hU,at1,rowKey h1,hk,decide_true,Bool.not_true,wrap_succ (show i<4611686018427387904 by omega)]),?_⟩))|refine Go.condB rfl (fun hc => ?_) (fun hc => ?_))
   refine Go.lpN ?_
   refine Go.keep [(1,.str s),(2,.ptr S.length 0),(4,.ptr (S.length+1) 0),(5,.ptr (S.length+2) 0),(6,.int .i64 ((i+1:Nat):Int))] (.cons .refl (.cons .refl (.cons .refl (.cons .refl (.cons .refl (.nil)))))) ?_
   refine next (i+1,o,S1) (by dsimp only;omega) ⟨h1,?_⟩
   dsimp only
   rw [hsu]
   exact hI
  ·rw [if_neg hk] at hsu
   obtain ⟨o',S2,hap,hU2,hone,hU3,hacc3,hobj,hfr,_⟩:=accU (P:=Tryz.prog) del28 (new:=l[i].c) hI.u (by omega) hb hI.acc ⟨by omega,by omega,by omega,rfl⟩
   simp only [Rw.c] at hap at1
   repeat' (first|refine Go.a rfl ?_|refine Go.rg ?_|refine GoR.nil ?_|refine Go.ret ?_|refine Go.b rfl ?_|refine Go.rgS dmx (by decide) ?_|refine Go.rgD [1] (fun H=>objAt H (S.length+2)=some [.int .i64 most,o]∧objAt H S.length=some [.int .i64 most,.sl none 6 l.length (rowsC l)]) dmx (by decide) 8 (by decide) (by (first | exact ⟨hU,hT⟩ | exact ⟨objAt_old hU,objAt_old hT⟩)) ?_|refine GoW.nil rfl ?_|((first|refine GoR.o (by rfl) (by rfl) ?_|refine GoW.o (by rfl) (by rfl) ?_|refine GoW.rd (by rfl) (by rfl) ?_);(conv=>arg 1;simp only [G,Z,Y,Gx,un_neg,cutD,decide_true,decide_false,simprocAttr,fb3,fb9,fb28,fb30,fb41,fb42,fb44,dl,hT,hU,hU2,hap,hone,builtin_append,at1,rowKey h1,show decide (l[i].key=s)=false by simpa using hk,wrap_succ (show i<4611686018427387904 by omega)]);first|show GoR ..|(show _∧GoW ..;refine ⟨by (first|exact fun h=>absurd h (by decide)|(intro _;(first | exact ⟨hU,hT⟩ | exact ⟨objAt_old hU,objAt_old hT⟩))),?_⟩)|(show _∧_∧_∧GoW ..;refine ⟨rfl,by (first | exact ⟨hU,hT⟩ | exact ⟨objAt_old hU,objAt_old hT⟩),(fun H hI=>by (try dsimp only at hI);simp only [G,Z,Y,Gx,un_neg,cutD,decide_true,decide_false,simprocAttr,fb3,fb9,fb28,fb30,fb41,fb42,fb44,dl,hT,hU,hU2,hap,hone,builtin_append,at1,rowKey h1,show decide (l[i].key=s)=false by simpa using hk,wrap_succ (show i<4611686018427387904 by omega),hI]),?_⟩))|refine Go.condB rfl (fun hc => ?_) (fun hc => ?_))
   refine Go.lpN ?_
   refine Go.keep [(1,.str s),(2,.ptr S.length 0),(4,.ptr (S.length+1) 0),(5,.ptr (S.length+2) 0),(6,.int .i64 ((i+1:Nat):Int))] (.cons .refl (.cons .refl (.cons .refl (.cons .refl (.cons .refl (.nil)))))) ?_
   refine next (i+1,o',_) (by dsimp only;omega) ⟨h1,hfr _ hI.fr (by omega),hobj _ _ (by omega) hI.t,hobj _ _ (by omega) hI.z,hU3,?_⟩
   dsimp only
   rw [hsu,List.length_append,rowsC_app]
   have:rowsC [l[i]]=l[i].c:=by simp [rowsC]
   rw [this]
   exact hacc3
 ·clear next
  have hi':i=l.length:=by omega
  subst hi'
  have hacc:=hI.acc
  rw [List.take_length] at hacc
  have hone:=hacc.one
  have hs : ∀ c,objAt (S1.set (S.length+1) (.obj c)) (S.length+1)=some c:=fun c=>objAt_set_eq (objAt_lt hZ)
  repeat' (first|refine Go.a rfl ?_|refine Go.rg ?_|refine GoR.nil ?_|refine Go.ret ?_|refine Go.b rfl ?_|refine Go.rgS dmx (by decide) ?_|refine Go.rgD [1] (fun _=>True) dmx (by decide) 8 (by decide) (by trivial) ?_|refine GoW.nil rfl ?_|((first|refine GoR.o (by rfl) (by rfl) ?_|refine GoW.o (by rfl) (by rfl) ?_|refine GoW.rd (by rfl) (by rfl) ?_);(conv=>arg 1;simp only [G,Z,Y,Gx,un_neg,cutD,decide_true,decide_false,simprocAttr,fb3,fb9,fb28,fb30,fb41,fb42,fb44,show decide ((l.length:Int)<(l.length:Int))=false by simp,hT,hU,hZ,hone]);first|show GoR ..|(show _∧GoW ..;refine ⟨by exact fun _=>trivial,?_⟩)|(show _∧_∧_∧GoW ..;refine ⟨rfl,by trivial,(fun H _=>by simp only [G,Z,Y,Gx,un_neg,cutD,decide_true,decide_false,simprocAttr,fb3,fb9,fb28,fb30,fb41,fb42,fb44,show decide ((l.length:Int)<(l.length:Int))=false by simp,hT,hU,hZ,hone]),?_⟩))|refine Go.condB rfl (fun hc => ?_) (fun hc => ?_))
  refine ⟨(by first | exact .inl rfl | exact .inr rfl),fin ?_⟩
  rw [resD_cell (fn:=Tryz.f15) rfl]
  simp only [optThen_some,resultD_tmp,resultD_cell,G,Z,Y,Gx,un_neg,cutD,decide_true,decide_false,simprocAttr,fb3,fb9,fb28,fb30,fb41,fb42,fb44,hs]
  obtain ⟨E,hE⟩:=(hI.fr.trans (F:=[]) (G:=[S.length+1]) (.set (o:=S.length+1) (x:=.obj [.int .i64 most,o]) (by simp)) (by simp)).pre (by simp)
  exact ⟨_,E,hE,(Wf.agg' (.cons .refl (.cons hacc.wf .nil))).to_Wk (.agg' (refT_low (l:=restK l s))),rfl⟩
theorem refLeast {most:Int} {x:Rw} {l:List Rw} (hl:l.length<1000000) (S:Mem):CallD Tryz.prog orc 53 [.agg (refT most (x::l))] S fun d S'=>S'=S∧d = .agg (leastR x l).c:=by
 have at0:=rowsAt (l:=x::l) (i:=0) (by simp)
 have g0:((0:Int)<((l.length+1:Nat):Int))=True:=by simp<;>omega
 have g1:Int.toNat 0=0:=rfl
 simp only [List.getElem_cons_zero,Rw.c,List.length_cons,Nat.zero_mul,Nat.zero_add,List.drop_zero,refT] at at0 ⊢
 refine CallD.e Tryz.func53 rfl Tryz.ntmps53 (by rfl) ?_
 repeat' (first|refine Go.a rfl ?_|refine Go.rg ?_|refine GoR.nil ?_|refine Go.ret ?_|refine Go.b rfl ?_|refine Go.rgS dmx (by decide) ?_|(refine GoR.o (by rfl) (by rfl) ?_;(conv=>arg 1;simp only [G,Z,Y,Gx,un_neg,cutD,decide_true,decide_false,simprocAttr,fb2,fb3,fb9,fb28,fb30,fb41,fb42,fb44,at0,g0,g1]);show GoR ..)|refine Go.condB rfl (fun hc => ?_) (fun hc => ?_))
 refine Go.keep [(1,.ptr S.length 0),(2,.ptr (S.length+1) 0),(3,.ptr (S.length+2) 0),(4,.int .i64 ((0+1:Nat):Int))] (.cons .refl (.cons .refl (.cons .refl (.cons .refl (.nil))))) ?_
 refine Go.while (α:=Nat×Rw) (fun a=>l.length - a.1) (fun a=>[(1,.ptr S.length 0),(2,.ptr (S.length+1) 0),(3,.ptr (S.length+2) 0),(4,.int .i64 ((a.1+1:Nat):Int))]) (fun a=>S++[.obj (refT most (x::l)),.obj zRow,.obj a.2.c])
  (fun a=>a.1≤l.length∧leastR a.2 (l.drop a.1)=leastR x l) ?_ (0,x) ⟨Nat.zero_le _,rfl⟩
 rintro ⟨i,m⟩ ⟨hi,hm⟩ next
 dsimp only at hi hm next
 have hcm:=fun S (b:Rw)=>refCompare (orc:=orc) b.st m.st S
 simp only [St.c] at hcm
 unfold refT
 by_cases h1:i<l.length
 ·have at1:=rowsAt (l:=x::l) (i:=i+1) (by simpa using h1)
  have at2:=rowSt (l:=x::l) (i:=i+1) (by simpa using h1)
  simp only [List.getElem_cons_succ,List.length_cons,Rw.c,St.c] at at1 at2
  rw [List.drop_eq_getElem_cons h1,leastR] at hm
  have dl:decide (((i+1:Nat):Int)<((l.length+1:Nat):Int))=true:=by simp;omega
  by_cases hc:cmpSt l[i].st m.st<0
  ·rw [if_pos hc] at hm
   repeat' (first|refine Go.a rfl ?_|refine Go.rg ?_|refine GoR.nil ?_|refine Go.ret ?_|refine Go.b rfl ?_|refine Go.rgS dmx (by decide) ?_|(refine GoR.o (by rfl) (by rfl) ?_;(conv=>arg 1;simp only [G,Z,Y,Gx,un_neg,cutD,decide_true,decide_false,simprocAttr,fb2,fb3,fb9,fb28,fb30,fb41,fb42,fb44,dl,at1,at2,hc,Rw.c,List.length_cons,wrap_succ (show i+1<4611686018427387904 by omega)]);show GoR ..)|(refine GoR.c c52 (by rfl) (by rfl) rfl ?_;(refine (hcm _ l[i]).ret ?_))|refine Go.condB rfl (fun hc => ?_) (fun hc => ?_))
   refine Go.lpN ?_
   refine Go.keep [(1,.ptr S.length 0),(2,.ptr (S.length+1) 0),(3,.ptr (S.length+2) 0),(4,.int .i64 ((i+1+1:Nat):Int))] (.cons .refl (.cons .refl (.cons .refl (.cons .refl (.nil))))) ?_
   exact next (i+1,l[i]) (by dsimp only;omega) ⟨h1,hm⟩
  ·rw [if_neg hc] at hm
   repeat' (first|refine Go.a rfl ?_|refine Go.rg ?_|refine GoR.nil ?_|refine Go.ret ?_|refine Go.b rfl ?_|refine Go.rgS dmx (by decide) ?_|(refine GoR.o (by rfl) (by rfl) ?_;(conv=>arg 1;simp only [G,Z,Y,Gx,un_neg,cutD,decide_true,decide_false,simprocAttr,fb2,fb3,fb9,fb28,fb30,fb41,fb42,fb44,dl,at1,at2,hc,Rw.c,List.length_cons,wrap_succ (show i+1<4611686018427387904 by omega)]);show GoR ..)|(refine GoR.c c52 (by rfl) (by rfl) rfl ?_;(refine (hcm _ l[i]).ret ?_))|refine Go.condB rfl (fun hc => ?_) (fun hc => ?_))
   refine Go.lpN ?_
   refine Go.keep [(1,.ptr S.length 0),(2,.ptr (S.length+1) 0),(3,.ptr (S.length+2) 0),(4,.int .i64 ((i+1+1:Nat):Int))] (.cons .refl (.cons .refl (.cons .refl (.cons .refl (.nil))))) ?_
   exact next (i+1,m) (by dsimp only;omega) ⟨h1,hm⟩
 ·clear next
  have dl:decide (((i+1:Nat):Int)<((l.length+1:Nat):Int))=false:=by simp;omega
  rw [List.drop_of_length_le (by omega),leastR] at hm
  subst hm
  repeat' (first|refine Go.a rfl ?_|refine Go.rg ?_|refine GoR.nil ?_|refine Go.ret ?_|refine Go.b rfl ?_|refine Go.rgS dmx (by decide) ?_|(refine GoR.o (by rfl) (by rfl) ?_;(conv=>arg 1;simp only [G,Z,Y,Gx,un_neg,cutD,decide_true,decide_false,simprocAttr,fb2,fb3,fb9,fb28,fb30,fb41,fb42,fb44,dl,Rw.c,zRow,List.length_cons]);show GoR ..)|refine Go.condB rfl (fun hc => ?_) (fun hc => ?_))
  refine ⟨(by first | exact .inl rfl | exact .inr rfl),fin ?_⟩
  rw [resD_cell (fn:=Tryz.f53) rfl]
  simp only [optThen_some,resultD_tmp,resultD_cell,G,Z,Y,Gx,un_neg,cutD,decide_true,decide_false,simprocAttr,fb2,fb3,fb9,fb28,fb30,fb41,fb42,fb44]
  exact ⟨_,_,rfl,.of_low (.agg' (row_low _)),rfl⟩
end Go.Proofs.DtT
namespace Go.DM
open Go.AM
def tok:D→Option Nat
 | .sl own _ _ _=>own
 | _=>none
theorem AccD.own {b n len:Nat} {o:D} {cells:List D} {S:Mem} (h:AccD b o n len cells S) : ∀ j,tok o=some j→S[j]?=some .own:=fun j hj=>by
 rcases h with ⟨rfl,_⟩ | ⟨rfl,_⟩ | ⟨id,_,rfl,h⟩
 ·cases hj
 ·cases hj
 ·cases hj;exact h
theorem AccD.other {b n len:Nat} {o:D} {cells:List D} {S S':Mem} (h:AccD b o n len cells S) (k : ∀ j,tok o=some j→S'[j]?=some .own):AccD b o n len cells S':=by
 rcases h with h | h | ⟨id,h1,rfl,h3⟩
 ·exact .inl h
 ·exact .inr (.inl h)
 ·exact .inr (.inr ⟨id,h1,rfl,k id rfl⟩)
theorem AccD.append' {P:Program} {b t e n bytes len m:Nat} {o:D} {own:Option Nat} {cells new:List D} {S:Mem} (h:ElemT P t e n bytes) (ha:AccD b o n len cells S) (hb:b≤S.length) (hm:m≠0) (hf:fitsD bytes (len+m) new) :
  ∃ o' S',appendD P #[t,t] o (.sl own n m new) S=some (o',S')∧tok o'=some S.length∧AccD b o' n (len+m) (cells++new) S'∧Grown b S S' ∧ ∀ j,tok o≠some j→S[j]?=some .own→S'[j]?=some .own:=by
 obtain ⟨o',S',h1,h2,h3⟩:=ha.append (P:=P) (own:=own) h hb hm hf
 have hself:=h1
 rcases ha with ⟨rfl,rfl,rfl⟩ | ⟨rfl,rfl,rfl⟩ | ⟨id,_,rfl,hid⟩
 ·rw [ap_nils h,if_neg hm,if_pos (by simpa using hf)] at h1
  cases h1
  exact ⟨_,_,hself,rfl,h2,h3,fun j _ hj=>by rw [List.getElem?_append_left (List.getElem?_eq_some_iff.1 hj).1];exact hj⟩
 ·rw [ap_sl0 h,if_neg hm,if_pos (by simpa using hf)] at h1
  cases h1
  exact ⟨_,_,hself,rfl,h2,h3,fun j _ hj=>by rw [List.getElem?_append_left (List.getElem?_eq_some_iff.1 hj).1];exact hj⟩
 ·rw [ap_own h,if_neg hm,if_pos hf,hid] at h1
  cases h1
  refine ⟨_,_,hself,rfl,h2,h3,fun j hne hj => ?_⟩
  have hlt:=(List.getElem?_eq_some_iff.1 hj).1
  rw [List.getElem?_append_left (by simpa using hlt),List.getElem?_set_ne (fun e=>hne (by rw [e];rfl))]
  exact hj
end Go.DM
namespace Go.Proofs.DtT
open Go Go.DM Go.Proofs.DtF
set_option maxRecDepth 100000
variable {orc:DOracle}
theorem refSweepNo {most:Int} {l:List Rw} {now age:Int} (hn:now<0∨age<0) (keep:ByteArray) (S:Mem):CallD Tryz.prog orc 16 [.agg (refT most l),.int .i64 now,.int .i64 age,.str keep] S fun d S'=>S'=S∧d = .tup [.agg (refT most l),strsD []]:=by
 unfold refT
 by_cases h1:now<0
 ·refine CallD.e Tryz.func16 rfl Tryz.ntmps16 (by rfl) ?_
  repeat' (first|refine Go.a rfl ?_|refine Go.rg ?_|refine GoR.nil ?_|refine Go.ret ?_|refine Go.b rfl ?_|refine Go.rgS dmx (by decide) ?_|refine Go.rgD [1] (fun _=>True) dmx (by decide) 8 (by decide) (by trivial) ?_|refine GoW.nil rfl ?_|((first|refine GoR.o (by rfl) (by rfl) ?_|refine GoW.o (by rfl) (by rfl) ?_|refine GoW.rd (by rfl) (by rfl) ?_);(conv=>arg 1;simp only [G,Z,Y,Gx,un_neg,cutD,decide_true,decide_false,simprocAttr,fb2,fb3,fb9,fb28,fb30,fb41,fb42,fb44,fb51,show decide (now<0)=true by simpa using h1]);first|show GoR ..|(show _∧GoW ..;refine ⟨by exact fun _=>trivial,?_⟩)|(show _∧_∧_∧GoW ..;refine ⟨rfl,by trivial,(fun H _=>by simp only [G,Z,Y,Gx,un_neg,cutD,decide_true,decide_false,simprocAttr,fb2,fb3,fb9,fb28,fb30,fb41,fb42,fb44,fb51,show decide (now<0)=true by simpa using h1]),?_⟩))|refine GoR.s (by rfl) rfl rfl ?_|refine GoW.s (by rfl) rfl rfl (by exact fun _=>trivial) ?_|(refine GoR.splitG rfl (fun hc => ?_) (fun hc => ?_)<;>simp only [hc])|refine Go.condB rfl (fun hc => ?_) (fun hc => ?_))
  refine ⟨(by first | exact .inl rfl | exact .inr rfl),fin ?_⟩
  rw [resD_two (fn:=Tryz.f16) rfl]
  simp only [optThen_some,resultD_tmp,resultD_cell,G,Z,Y,Gx,un_neg,cutD,decide_true,decide_false,simprocAttr,fb2,fb3,fb9,fb28,fb30,fb41,fb42,fb44,fb51]
  exact ⟨_,_,rfl,(Wf.tup' (.cons .refl (.cons .nilE .nil))).to_Wk (.tup' (.cons (.agg' (refT_low (l:=l))) (.cons (.sl' (strs_low [])) .nil))),rfl⟩
 ·refine CallD.e Tryz.func16 rfl Tryz.ntmps16 (by rfl) ?_
  repeat' (first|refine Go.a rfl ?_|refine Go.rg ?_|refine GoR.nil ?_|refine Go.ret ?_|refine Go.b rfl ?_|refine Go.rgS dmx (by decide) ?_|refine Go.rgD [1] (fun _=>True) dmx (by decide) 8 (by decide) (by trivial) ?_|refine GoW.nil rfl ?_|((first|refine GoR.o (by rfl) (by rfl) ?_|refine GoW.o (by rfl) (by rfl) ?_|refine GoW.rd (by rfl) (by rfl) ?_);(conv=>arg 1;simp only [G,Z,Y,Gx,un_neg,cutD,decide_true,decide_false,simprocAttr,fb2,fb3,fb9,fb28,fb30,fb41,fb42,fb44,fb51,show decide (now<0)=false by simpa using h1,show decide (age<0)=true by simp;omega]);first|show GoR ..|(show _∧GoW ..;refine ⟨by exact fun _=>trivial,?_⟩)|(show _∧_∧_∧GoW ..;refine ⟨rfl,by trivial,(fun H _=>by simp only [G,Z,Y,Gx,un_neg,cutD,decide_true,decide_false,simprocAttr,fb2,fb3,fb9,fb28,fb30,fb41,fb42,fb44,fb51,show decide (now<0)=false by simpa using h1,show decide (age<0)=true by simp;omega]),?_⟩))|refine GoR.s (by rfl) rfl rfl ?_|refine GoW.s (by rfl) rfl rfl (by exact fun _=>trivial) ?_|(refine GoR.splitG rfl (fun hc => ?_) (fun hc => ?_)<;>simp only [hc])|refine Go.condB rfl (fun hc => ?_) (fun hc => ?_))
  refine ⟨(by first | exact .inl rfl | exact .inr rfl),fin ?_⟩
  rw [resD_two (fn:=Tryz.f16) rfl]
  simp only [optThen_some,resultD_tmp,resultD_cell,G,Z,Y,Gx,un_neg,cutD,decide_true,decide_false,simprocAttr,fb2,fb3,fb9,fb28,fb30,fb41,fb42,fb44,fb51]
  exact ⟨_,_,rfl,(Wf.tup' (.cons .refl (.cons .nilE .nil))).to_Wk (.tup' (.cons (.agg' (refT_low (l:=l))) (.cons (.sl' (strs_low [])) .nil))),rfl⟩
structure SweepI (S S1:Mem) (most:Int) (l:List Rw) (k:List Rw) (g:List ByteArray) (o q:D):Prop where
 fr:Fr [] S S1
 t:objAt S1 S.length=some [.int .i64 most,.sl none 6 l.length (rowsC l)]
 z:objAt S1 (S.length+1)=some [.int .i64 0,.nils]
 u:objAt S1 (S.length+2)=some [.int .i64 most,o]
 acc:AccD (S.length+3) o 6 k.length (rowsC k) S1
 gone:AccD (S.length+3) q 1 g.length (g.map .str) S1
 apart : ∀ j,tok o=some j→tok q≠some j
theorem keptL_succ {now age:Int} {keep:ByteArray} {l:List Rw} {i:Nat} (h:i<l.length):keptL now age keep (l.take (i+1))=keptL now age keep (l.take i)++if goneP now age keep l[i] then [] else [l[i]]:=by
 rw [List.take_succ_eq_append_getElem h,keptL,List.filter_append]
 cases hg:goneP now age keep l[i]<;>simp [keptL,hg]
set_option maxHeartbeats 4000000 in
theorem refSweep {most:Int} {l:List Rw} (hl:l.length<1000000) {now age:Int} (hn:0≤now) (ha:0≤age) (keep:ByteArray) (S:Mem) :
  CallD Tryz.prog orc 16 [.agg (refT most l),.int .i64 now,.int .i64 age,.str keep] S fun d S'=>S'=S∧d = .tup [.agg (refT most (keptL now age keep l)),strsD (goneL now age keep l)]:=by
 unfold refT
 refine CallD.e Tryz.func16 rfl Tryz.ntmps16 (by rfl) ?_
 repeat' (first|refine Go.a rfl ?_|refine Go.rg ?_|refine GoR.nil ?_|refine Go.ret ?_|refine Go.b rfl ?_|refine Go.rgS dmx (by decide) ?_|refine Go.rgD [1] (fun _=>True) dmx (by decide) 8 (by decide) (by trivial) ?_|refine GoW.nil rfl ?_|((first|refine GoR.o (by rfl) (by rfl) ?_|refine GoW.o (by rfl) (by rfl) ?_|refine GoW.rd (by rfl) (by rfl) ?_);(conv=>arg 1;simp only [G,Z,Y,Gx,un_neg,cutD,decide_true,decide_false,simprocAttr,fb2,fb3,fb9,fb28,fb30,fb41,fb42,fb44,fb51,show decide (now<0)=false by simp;omega,show decide (age<0)=false by simp;omega]);first|show GoR ..|(show _∧GoW ..;refine ⟨by exact fun _=>trivial,?_⟩)|(show _∧_∧_∧GoW ..;refine ⟨rfl,by trivial,(fun H _=>by simp only [G,Z,Y,Gx,un_neg,cutD,decide_true,decide_false,simprocAttr,fb2,fb3,fb9,fb28,fb30,fb41,fb42,fb44,fb51,show decide (now<0)=false by simp;omega,show decide (age<0)=false by simp;omega]),?_⟩))|refine GoR.s (by rfl) rfl rfl ?_|refine GoW.s (by rfl) rfl rfl (by exact fun _=>trivial) ?_|(refine GoR.splitG rfl (fun hc => ?_) (fun hc => ?_)<;>simp only [hc])|refine Go.condB rfl (fun hc => ?_) (fun hc => ?_))
 refine Go.keep [(1,.int .i64 now),(2,.int .i64 age),(3,.str keep),(4,.ptr S.length 0),(8,.ptr (S.length+1) 0),(10,.ptr (S.length+2) 0),(11,.nils),(12,.int .i64 ((0:Nat):Int))] (.cons .refl (.cons .refl (.cons .refl (.cons .refl (.cons .refl (.cons .refl (.cons .refl (.cons .refl (.nil))))))))) ?_
 refine Go.while (α:=Nat×D×D×Mem) (fun x=>l.length - x.1) (fun x=>[(1,.int .i64 now),(2,.int .i64 age),(3,.str keep),(4,.ptr S.length 0),(8,.ptr (S.length+1) 0),(10,.ptr (S.length+2) 0),(11,x.2.2.1),(12,.int .i64 (x.1:Int))]) (fun x=>x.2.2.2)
  (fun x=>x.1≤l.length∧SweepI S x.2.2.2 most l (keptL now age keep (l.take x.1)) (goneL now age keep (l.take x.1)) x.2.1 x.2.2.1) ?_ (0,.nils,.nils,_) ⟨Nat.zero_le _,.app,by simp [objAt,List.getElem?_append_right],by simp [objAt,List.getElem?_append_right],by simp [objAt,List.getElem?_append_right],.inl ⟨rfl,rfl,rfl⟩,.inl ⟨rfl,rfl,rfl⟩,by simp [tok]⟩
 rintro ⟨i,o,q,S1⟩ ⟨hi,hI⟩ next
 dsimp only at hi hI next
 have hb:S.length+3≤S1.length:=objAt_lt hI.u
 have hT:=hI.t
 have hU:=hI.u
 have hZ:=hI.z
 by_cases h1:i<l.length
 ·have dl:decide ((i:Int)<(l.length:Int))=true:=by simp;omega
  have at1:=rowsAt h1
  have htk:=rowTick h1
  have hk1:=rowKey h1
  have hks:=keptL_succ (now:=now) (age:=age) (keep:=keep) h1
  have hgs:=goneL_succ (now:=now) (age:=age) (keep:=keep) h1
  have hle1:(keptL now age keep (l.take i)).length≤i:=Nat.le_trans (List.length_filter_le _ _) (by simp;omega)
  have hle2:(goneL now age keep (l.take i)).length≤i:=by
   unfold goneL
   rw [List.length_map]
   exact Nat.le_trans (List.length_filter_le _ _) (by simp;omega)
  cases hg:goneP now age keep l[i] with
  | true=>
   rw [hg,if_pos rfl] at hks hgs
   rw [List.append_nil] at hks
   have hk:decide (l[i].key=keep)=false:=by simp [goneP] at hg;simpa using hg.1
   have ht:decide (l[i].st.tick<IntKind.i64.wrap (now - age))=true:=by simp [goneP] at hg;simpa using hg.2
   obtain ⟨q',S2,hap,htq,hacc2,hg2,hoth⟩:=(hI.gone.app [.own]).append' (P:=Tryz.prog) del51 (own:=some S1.length) (m:=1) (new:=[.str l[i].key]) (by simp;omega) (by omega) ⟨by omega,by omega,by omega,rfl⟩
   have hg:Grown (S.length+3) S1 S2:=Grown.app.trans hg2
   have hown : ∀ j,tok o=some j→S2[j]?=some .own:=fun j hj=>hoth j (hI.apart j hj) (by
    have:=hI.acc.own j hj
    rw [List.getElem?_append_left (List.getElem?_eq_some_iff.1 this).1];exact this)
   repeat' (first|refine Go.a rfl ?_|refine Go.rg ?_|refine GoR.nil ?_|refine Go.ret ?_|refine Go.b rfl ?_|refine Go.rgS dmx (by decide) ?_|refine Go.rgD [1] (fun _=>True) dmx (by decide) 8 (by decide) (by trivial) ?_|refine GoW.nil rfl ?_|((first|refine GoR.o (by rfl) (by rfl) ?_|refine GoW.o (by rfl) (by rfl) ?_|refine GoW.rd (by rfl) (by rfl) ?_);(conv=>arg 1;simp only [G,Z,Y,Gx,un_neg,cutD,decide_true,decide_false,simprocAttr,fb2,fb3,fb9,fb28,fb30,fb41,fb42,fb44,fb51,dl,hT,hU,at1,htk,hk1,hk,ht,hap,builtin_append,wrap_succ (show i<4611686018427387904 by omega)]);first|show GoR ..|(show _∧GoW ..;refine ⟨by exact fun _=>trivial,?_⟩)|(show _∧_∧_∧GoW ..;refine ⟨rfl,by trivial,(fun H _=>by simp only [G,Z,Y,Gx,un_neg,cutD,decide_true,decide_false,simprocAttr,fb2,fb3,fb9,fb28,fb30,fb41,fb42,fb44,fb51,dl,hT,hU,at1,htk,hk1,hk,ht,hap,builtin_append,wrap_succ (show i<4611686018427387904 by omega)]),?_⟩))|refine GoR.s (by rfl) rfl rfl ?_|refine GoW.s (by rfl) rfl rfl (by exact fun _=>trivial) ?_|(refine GoR.splitG rfl (fun hc => ?_) (fun hc => ?_)<;>simp only [hc])|refine Go.condB rfl (fun hc => ?_) (fun hc => ?_))
   refine Go.lpN ?_
   refine Go.keep [(1,.int .i64 now),(2,.int .i64 age),(3,.str keep),(4,.ptr S.length 0),(8,.ptr (S.length+1) 0),(10,.ptr (S.length+2) 0),(11,q'),(12,.int .i64 ((i+1:Nat):Int))] (.cons .refl (.cons .refl (.cons .refl (.cons .refl (.cons .refl (.cons .refl (.cons .refl (.cons .refl (.nil))))))))) ?_
   refine next (i+1,o,q',S2) (by dsimp only;omega) ⟨h1,hI.fr.grown' (by omega) hb hg,hg.obj _ _ hT,hg.obj _ _ hZ,hg.obj _ _ hU,?_,?_,fun j hj => ?_⟩
   ·dsimp only;rw [hks];exact hI.acc.other hown
   ·dsimp only;rw [hgs,List.length_append,List.map_append];exact hacc2
   ·dsimp only;rw [htq]
    rintro h
    cases h
    have h2:=hI.acc.own _ hj
    have:=(List.getElem?_eq_some_iff.1 h2).1
    simp at this
    omega
  | false=>
   rw [hg,if_neg (by decide)] at hks hgs
   rw [List.append_nil] at hgs
   obtain ⟨o',S2,hap,hto,hacc2,hg2,hoth⟩:=(hI.acc.app [.own]).append' (P:=Tryz.prog) del28 (own:=some S1.length) (m:=1) (new:=l[i].c) (by simp;omega) (by omega) ⟨by omega,by omega,by omega,rfl⟩
   have hg0:Grown (S.length+3) S1 S2:=Grown.app.trans hg2
   have hU2:=hg0.obj _ _ hU
   have hone:=hacc2.one
   have hown : ∀ j,tok q=some j→S2[j]?=some .own:=fun j hj=>hoth j (fun h=>hI.apart j h hj) (by
    have:=hI.gone.own j hj
    rw [List.getElem?_append_left (List.getElem?_eq_some_iff.1 this).1];exact this)
   have hset : ∀ j:Nat,S2[j]?=some Ob.own→(S2.set (S.length+2) (Ob.obj [.int .i64 most,o']))[j]?=some Ob.own:=fun j hj=>by
    rw [List.getElem?_set_ne]
    ·exact hj
    ·rintro rfl
     rw [objAt_some hU2] at hj
     cases hj
   have hobj : ∀ j c,j≠S.length+2→objAt S1 j=some c→objAt (S2.set (S.length+2) (.obj [.int .i64 most,o'])) j=some c:=fun j c hj hc=>(objAt_set_ne (fun e=>hj e.symm)).trans (hg0.obj _ _ hc)
   have hfr:Fr [] S (S2.set (S.length+2) (.obj [.int .i64 most,o'])):=(hI.fr.grown' (by omega) hb hg0).trans (F:=[]) (G:=[S.length+2]) (.set (by simp)) (by simp)
   have hnext:SweepI S (S2.set (S.length+2) (.obj [.int .i64 most,o'])) most l (keptL now age keep (l.take (i+1))) (goneL now age keep (l.take (i+1))) o' q:=by
    refine ⟨hfr,hobj _ _ (by omega) hT,hobj _ _ (by omega) hZ,objAt_set_eq (objAt_lt hU2),?_,?_,fun j hj => ?_⟩
    ·rw [hks,List.length_append,rowsC_app]
     have:rowsC [l[i]]=l[i].c:=by simp [rowsC]
     rw [this]
     exact hacc2.set (by omega)
    ·rw [hgs]
     exact hI.gone.other fun j hj=>hset j (hown j hj)
    ·rw [hto] at hj
     cases hj
     intro h
     have h2:=hI.gone.own _ h
     have:=(List.getElem?_eq_some_iff.1 h2).1
     simp at this
     omega
   have hcase:decide (l[i].st.tick<IntKind.i64.wrap (now - age))=false∨(decide (l[i].st.tick<IntKind.i64.wrap (now - age))=true∧decide (l[i].key=keep)=true):=by
    cases ht:decide (l[i].st.tick<IntKind.i64.wrap (now - age)) with
    | false=>exact .inl rfl
    | true=>
     right
     refine ⟨rfl,?_⟩
     unfold goneP at hg
     rw [ht] at hg
     simpa using hg
   simp only [Rw.c] at hap at1
   rcases hcase with ht | ⟨ht,hk⟩
   ·repeat' (first|refine Go.a rfl ?_|refine Go.rg ?_|refine GoR.nil ?_|refine Go.ret ?_|refine Go.b rfl ?_|refine Go.rgS dmx (by decide) ?_|refine Go.rgD [1] (fun H=>objAt H (S.length+2)=some [.int .i64 most,o]∧objAt H S.length=some [.int .i64 most,.sl none 6 l.length (rowsC l)]) dmx (by decide) 8 (by decide) (by (first | exact ⟨hU,hT⟩ | exact ⟨objAt_old hU,objAt_old hT⟩)) ?_|refine GoW.nil rfl ?_|((first|refine GoR.o (by rfl) (by rfl) ?_|refine GoW.o (by rfl) (by rfl) ?_|refine GoW.rd (by rfl) (by rfl) ?_);(conv=>arg 1;simp only [G,Z,Y,Gx,un_neg,cutD,decide_true,decide_false,simprocAttr,fb2,fb3,fb9,fb28,fb30,fb41,fb42,fb44,fb51,dl,hT,hU,hU2,hone,at1,htk,hk1,ht,hap,builtin_append,wrap_succ (show i<4611686018427387904 by omega)]);first|show GoR ..|(show _∧GoW ..;refine ⟨by (first|exact fun h=>absurd h (by decide)|(intro _;(first | exact ⟨hU,hT⟩ | exact ⟨objAt_old hU,objAt_old hT⟩))),?_⟩)|(show _∧_∧_∧GoW ..;refine ⟨rfl,by (first | exact ⟨hU,hT⟩ | exact ⟨objAt_old hU,objAt_old hT⟩),(fun H hI=>by (try dsimp only at hI);simp only [G,Z,Y,Gx,un_neg,cutD,decide_true,decide_false,simprocAttr,fb2,fb3,fb9,fb28,fb30,fb41,fb42,fb44,fb51,dl,hT,hU,hU2,hone,at1,htk,hk1,ht,hap,builtin_append,wrap_succ (show i<4611686018427387904 by omega),hI]),?_⟩))|refine GoR.s (by rfl) rfl rfl ?_|refine GoW.s (by rfl) rfl rfl (by (first|exact fun h=>absurd h (by decide)|(intro _;(first | exact ⟨hU,hT⟩ | exact ⟨objAt_old hU,objAt_old hT⟩)))) ?_|(refine GoR.splitG rfl (fun hc => ?_) (fun hc => ?_)<;>simp only [hc])|refine Go.condB rfl (fun hc => ?_) (fun hc => ?_))
    refine Go.lpN ?_
    refine Go.keep [(1,.int .i64 now),(2,.int .i64 age),(3,.str keep),(4,.ptr S.length 0),(8,.ptr (S.length+1) 0),(10,.ptr (S.length+2) 0),(11,q),(12,.int .i64 ((i+1:Nat):Int))] (.cons .refl (.cons .refl (.cons .refl (.cons .refl (.cons .refl (.cons .refl (.cons .refl (.cons .refl (.nil))))))))) ?_
    exact next (i+1,o',q,_) (by dsimp only;omega) ⟨h1,hnext⟩
   ·repeat' (first|refine Go.a rfl ?_|refine Go.rg ?_|refine GoR.nil ?_|refine Go.ret ?_|refine Go.b rfl ?_|refine Go.rgS dmx (by decide) ?_|refine Go.rgD [1] (fun H=>objAt H (S.length+2)=some [.int .i64 most,o]∧objAt H S.length=some [.int .i64 most,.sl none 6 l.length (rowsC l)]) dmx (by decide) 8 (by decide) (by (first | exact ⟨hU,hT⟩ | exact ⟨objAt_old hU,objAt_old hT⟩)) ?_|refine GoW.nil rfl ?_|((first|refine GoR.o (by rfl) (by rfl) ?_|refine GoW.o (by rfl) (by rfl) ?_|refine GoW.rd (by rfl) (by rfl) ?_);(conv=>arg 1;simp only [G,Z,Y,Gx,un_neg,cutD,decide_true,decide_false,simprocAttr,fb2,fb3,fb9,fb28,fb30,fb41,fb42,fb44,fb51,dl,hT,hU,hU2,hone,at1,htk,hk1,ht,hk,hap,builtin_append,wrap_succ (show i<4611686018427387904 by omega)]);first|show GoR ..|(show _∧GoW ..;refine ⟨by (first|exact fun h=>absurd h (by decide)|(intro _;(first | exact ⟨hU,hT⟩ | exact ⟨objAt_old hU,objAt_old hT⟩))),?_⟩)|(show _∧_∧_∧GoW ..;refine ⟨rfl,by (first | exact ⟨hU,hT⟩ | exact ⟨objAt_old hU,objAt_old hT⟩),(fun H hI=>by (try dsimp only at hI);simp only [G,Z,Y,Gx,un_neg,cutD,decide_true,decide_false,simprocAttr,fb2,fb3,fb9,fb28,fb30,fb41,fb42,fb44,fb51,dl,hT,hU,hU2,hone,at1,htk,hk1,ht,hk,hap,builtin_append,wrap_succ (show i<4611686018427387904 by omega),hI]),?_⟩))|refine GoR.s (by rfl) rfl rfl ?_|refine GoW.s (by rfl) rfl rfl (by (first|exact fun h=>absurd h (by decide)|(intro _;(first | exact ⟨hU,hT⟩ | exact ⟨objAt_old hU,objAt_old hT⟩)))) ?_|(refine GoR.splitG rfl (fun hc => ?_) (fun hc => ?_)<;>simp only [hc])|refine Go.condB rfl (fun hc => ?_) (fun hc => ?_))
    refine Go.lpN ?_
    refine Go.keep [(1,.int .i64 now),(2,.int .i64 age),(3,.str keep),(4,.ptr S.length 0),(8,.ptr (S.length+1) 0),(10,.ptr (S.length+2) 0),(11,q),(12,.int .i64 ((i+1:Nat):Int))] (.cons .refl (.cons .refl (.cons .refl (.cons .refl (.cons .refl (.cons .refl (.cons .refl (.cons .refl (.nil))))))))) ?_
    exact next (i+1,o',q,_) (by dsimp only;omega) ⟨h1,hnext⟩
 ·clear next
  have hi':i=l.length:=by omega
  subst hi'
  have hacc:=hI.acc
  have hgone:=hI.gone
  rw [List.take_length] at hacc hgone
  have hone:=hacc.one
  have hs : ∀ c,objAt (S1.set (S.length+1) (.obj c)) (S.length+1)=some c:=fun c=>objAt_set_eq (objAt_lt hZ)
  repeat' (first|refine Go.a rfl ?_|refine Go.rg ?_|refine GoR.nil ?_|refine Go.ret ?_|refine Go.b rfl ?_|refine Go.rgS dmx (by decide) ?_|refine Go.rgD [1] (fun _=>True) dmx (by decide) 8 (by decide) (by trivial) ?_|refine GoW.nil rfl ?_|((first|refine GoR.o (by rfl) (by rfl) ?_|refine GoW.o (by rfl) (by rfl) ?_|refine GoW.rd (by rfl) (by rfl) ?_);(conv=>arg 1;simp only [G,Z,Y,Gx,un_neg,cutD,decide_true,decide_false,simprocAttr,fb2,fb3,fb9,fb28,fb30,fb41,fb42,fb44,fb51,show decide ((l.length:Int)<(l.length:Int))=false by simp,hT,hU,hZ,hone]);first|show GoR ..|(show _∧GoW ..;refine ⟨by exact fun _=>trivial,?_⟩)|(show _∧_∧_∧GoW ..;refine ⟨rfl,by trivial,(fun H _=>by simp only [G,Z,Y,Gx,un_neg,cutD,decide_true,decide_false,simprocAttr,fb2,fb3,fb9,fb28,fb30,fb41,fb42,fb44,fb51,show decide ((l.length:Int)<(l.length:Int))=false by simp,hT,hU,hZ,hone]),?_⟩))|refine GoR.s (by rfl) rfl rfl ?_|refine GoW.s (by rfl) rfl rfl (by exact fun _=>trivial) ?_|(refine GoR.splitG rfl (fun hc => ?_) (fun hc => ?_)<;>simp only [hc])|refine Go.condB rfl (fun hc => ?_) (fun hc => ?_))
  refine ⟨(by first | exact .inl rfl | exact .inr rfl),fin ?_⟩
  rw [resD_two (fn:=Tryz.f16) rfl]
  simp only [optThen_some,resultD_tmp,resultD_cell,G,Z,Y,Gx,un_neg,cutD,decide_true,decide_false,simprocAttr,fb2,fb3,fb9,fb28,fb30,fb41,fb42,fb44,fb51,hs]
  obtain ⟨E,hE⟩:=(hI.fr.trans (F:=[]) (G:=[S.length+1]) (.set (o:=S.length+1) (x:=.obj [.int .i64 most,o]) (by simp)) (by simp)).pre (by simp)
  exact ⟨_,E,hE,(Wf.tup' (.cons (.agg' (.cons .refl (.cons hacc.wf .nil))) (.cons hgone.wf .nil))).to_Wk (.tup' (.cons (.agg' (refT_low (l:=keptL now age keep l))) (.cons (.sl' (strs_low _)) .nil))),rfl⟩
end Go.Proofs.DtT
namespace Go.DM
open Go.AM
theorem Go.atMem {P:Program} {orc:DOracle} {fl sz:Nat} {k:List AM.K} {e:AM.AExit} {ρ:DEnv} {S:Mem} {Q:AM.AExit→DEnv→Mem→Prop} (p:Mem→Prop) (hp:p S) (h : ∀ M,p M→Go P orc fl sz k e ρ M Q):Go P orc fl sz k e ρ S Q:=h S hp
theorem AccD.appendZ {P:Program} {b t e n bytes len m:Nat} {o:D} {own:Option Nat} {cells new:List D} {S:Mem} (h:ElemT P t e n bytes) (ha:AccD b o n len cells S) (hb:b≤S.length) (hm:m=0→new=[]) (hf:fitsD bytes (len+m) new) :
  ∃ o' S',appendD P #[t,t] o (.sl own n m new) S=some (o',S')∧AccD b o' n (len+m) (cells++new) S'∧Grown b S S':=by
 by_cases h0:m=0
 ·have:=hm h0
  subst h0 this
  refine ⟨o,S,?_,by simpa using ha,.refl⟩
  rcases ha with ⟨rfl,_⟩ | ⟨rfl,_⟩ | ⟨id,_,rfl,_⟩
  ·rw [ap_nils h,if_pos rfl]
  ·rw [ap_sl0 h,if_pos rfl]
  ·rw [ap_own h,if_pos rfl]
 ·exact ha.append h hb h0 hf
end Go.DM
namespace Go.Proofs.DtT
open Go Go.DM Go.Proofs.DtF
set_option maxRecDepth 100000
variable {orc:DOracle}
theorem rows_take {l:List Rw} {i:Nat} (h:i≤l.length):(rowsC l).take (i*6)=rowsC (l.take i):=by
 have hl:(rowsC (l.take i)).length=i*6:=by rw [rowsC_len,List.length_take];omega
 have e:rowsC l=rowsC (l.take i)++rowsC (l.drop i):=by rw [← rowsC_app,List.take_append_drop]
 rw [e,← hl,List.take_left]
theorem rows_drop {l:List Rw} {i:Nat} (h:i≤l.length):(rowsC l).drop (i*6)=rowsC (l.drop i):=flat_drop row_len l i
theorem rows_cut0 {x:List Rw} {k:Nat} (h:k≤x.length) {P:Program} {t e:TypeId} (hu:P.underlying t=some (.slice e)) (hs:AM.sizeA P e=some 6) {kk:IntKind} :
  sliceD P t (.sl none 6 x.length (rowsC x)) none (some (.int kk (k:Int))) none=some (.sl none 6 (x.take k).length (rowsC (x.take k))):=by
 rw [cut_sl hu hs]
 simp only [optNatD,natD,Int.natCast_nonneg,if_true,Option.map_some,Option.bind_some,Int.toNat_natCast,DM.cutD]
 simp [List.length_take,Nat.min_eq_left h,rows_take h,h]
theorem rows_cut1 {x:List Rw} {k:Nat} (h:k≤x.length) {P:Program} {t e:TypeId} (hu:P.underlying t=some (.slice e)) (hs:AM.sizeA P e=some 6) {kk:IntKind} :
  sliceD P t (.sl none 6 x.length (rowsC x)) (some (.int kk (k:Int))) none none=some (.sl none 6 (x.drop k).length (rowsC (x.drop k))):=by
 rw [cut_sl hu hs]
 simp only [optNatD,natD,Int.natCast_nonneg,if_true,Option.map_some,Option.bind_some,Int.toNat_natCast,DM.cutD]
 have:(rowsC (x.drop k)).length≤(x.length - k)*6:=by rw [rowsC_len,List.length_drop];exact Nat.le_refl _
 simp [rows_drop h,h,List.take_of_length_le this]
theorem restK_drop {l:List Rw} (hr:RiseB Rw.key l) (s:ByteArray):restK l s=dropK Rw.key l s:=(dropK_filter hr s).symm
theorem putK_dropK {l:List Rw} (hr:RiseB Rw.key l) (r:Rw):putK Rw.key (dropK Rw.key l r.key) r=putK Rw.key l r:=by
 have h1:=riseK_drop hr r.key
 refine extK (riseK_put h1 r) (riseK_put hr r) fun s => ?_
 by_cases hs:r.key=s
 ·subst hs
  rw [lookK_put h1,lookK_put hr]
 ·rw [lookK_put_ne h1 r hs,lookK_put_ne hr r hs,lookK_drop_ne hr hs]
theorem old_iff {a b:St} : decide (0≤cmpSt b a) = !decide (0<cmpSt a b):=by
 have:=cmpSt_swap a b
 rw [Bool.eq_iff_iff]
 simp
 omega
set_option maxHeartbeats 8000000 in
theorem refPutT {most:Int} {l:List Rw} (ho:OkT l) (hm:1≤most) (r:Rw) (hr:FewR r) (S:Mem):CallD Tryz.prog O 10 [.agg (refT most l),.agg r.c] S fun d S'=>S'=S∧d = .tup [.agg (refT most (putT most l r).1),.int .i64 (putT most l r).2]:=by
 have hck:=fun S=>refCheck r hr S
 have hll:=ho.len
 have hl0:DLow 0 (D.sl none 5 r.at_.length (attsC r.at_)):=.sl' (atts_low _)
 have hget:=fun S=>refGetT (orc:=O) (most:=most) ho.rise ho.len r.key S
 have hlow : ∀ x,LowL S.length [D.agg (refT most x),D.int .i64 (putT most l r).2]:=fun x=>.cons (.agg' (refT_low (l:=x))) (.cons (.int _ _) .nil)
 by_cases hc:chkR r=0
 rotate_left
 ·have hp:=putT_bad (most:=most) (l:=l) hc
  rw [hp] at hlow ⊢
  simp only [Rw.c,refT] at *
  refine CallD.e Tryz.func10 rfl Tryz.ntmps10 (by rfl) ?_
  repeat' (first|refine Go.a rfl ?_|refine Go.rg ?_|refine GoR.nil ?_|refine Go.ret ?_|refine Go.b rfl ?_|refine Go.rgS dmx (by decide) ?_|(refine GoR.o (by rfl) (by rfl) ?_;(conv=>arg 1;simp only [G,Z,Y,Gx,un_neg,cutD,decide_true,decide_false,simprocAttr,fb2,fb3,fb9,fb28,fb30,fb41,fb42,fb44,show (chkR r != 0)=true by simpa using hc]);show GoR ..)|(refine GoR.c c24 (by rfl) (by rfl) rfl ?_;(refine (hck _).ret ?_))|refine GoR.s (by rfl) rfl rfl ?_|(refine GoR.splitG rfl (fun hc => ?_) (fun hc => ?_)<;>simp only [hc])|refine Go.condB rfl (fun hc => ?_) (fun hc => ?_))
  refine ⟨(by first | exact .inl rfl | exact .inr rfl),fin ?_⟩
  rw [resD_two (fn:=Tryz.f10) rfl]
  simp only [optThen_some,resultD_tmp,resultD_cell,G,Z,Y,Gx,un_neg,cutD,decide_true,decide_false,simprocAttr,fb2,fb3,fb9,fb28,fb30,fb41,fb42,fb44]
  exact ⟨_,_,rfl,.of_low (.tup' (hlow l)),rfl⟩
 have hc0:(chkR r != 0)=false:=by simpa using hc
 have finish : ∀ (t':List Rw) (e:putT most l r=(putK Rw.key t' r,0)) (hq:lookK Rw.key t' r.key=none),putT most l r=(t'.take (posK Rw.key t' r.key)++r::t'.drop (posK Rw.key t' r.key),0):=fun t' e hq=>by
  rw [e,putK_new (by rw [hq];rfl)]
 cases hq:lookK Rw.key l r.key with
 | some x=>
  rw [hq] at hget
  have hcm:=fun S=>refCompare (orc:=O) x.st r.st S
  simp only [Option.getD_some,Option.isSome_some] at hget
  have hoi:=old_iff (a:=r.st) (b:=x.st)
  by_cases hn:0<cmpSt r.st x.st
  ·have hput0:=putT_newer (most:=most) hc hq hn
   have hdr:=fun S=>refDropT (orc:=O) (most:=most) ho.len r.key S
   rw [restK_drop ho.rise] at hdr
   have hod:=ho.drop r.key
   have hput:putT most l r=(putK Rw.key (dropK Rw.key l r.key) r,0):=by rw [hput0,putK_dropK ho.rise]
   have hq':=lookK_drop (f:=Rw.key) ho.rise r.key
   have hat:=fun S=>refAt (orc:=O) (most:=most) hod.rise hod.len r.key S
   rw [hq'] at hat
   simp only [hn,decide_true,Bool.not_true] at hoi
   generalize dropK Rw.key l r.key=t' at *
   simp only [Rw.c,St.c,refT] at *
   refine CallD.e Tryz.func10 rfl Tryz.ntmps10 (by rfl) ?_
   repeat' (first|refine Go.a rfl ?_|refine Go.rg ?_|refine GoR.nil ?_|refine Go.ret ?_|refine Go.b rfl ?_|refine Go.rgS dmx (by decide) ?_|(refine GoR.o (by rfl) (by rfl) ?_;(conv=>arg 1;simp only [G,Z,Y,Gx,un_neg,cutD,decide_true,decide_false,simprocAttr,fb2,fb3,fb9,fb28,fb30,fb41,fb42,fb44,hc0,hoi]);show GoR ..)|(refine GoR.c c24 (by rfl) (by rfl) rfl ?_;(refine (hck _).ret ?_))|(refine GoR.c c13 (by rfl) (by rfl) rfl ?_;(refine (hget _).ret ?_))|(refine GoR.c c52 (by rfl) (by rfl) rfl ?_;(refine (hcm _).ret ?_))|(refine GoR.c c15 (by rfl) (by rfl) rfl ?_;(refine (hdr _).ret ?_))|(refine GoR.c c54 (by rfl) (by rfl) rfl ?_;(refine (hat _).ret ?_))|refine GoR.s (by rfl) rfl rfl ?_|(refine GoR.splitG rfl (fun hc => ?_) (fun hc => ?_)<;>simp only [hc])|refine Go.condB rfl (fun hc => ?_) (fun hc => ?_))
   have hpl:=posK_le (f:=Rw.key) t' r.key
   have hp:=finish t' hput hq'
   have hlen':=hod.len
   rw [hp]
   generalize posK Rw.key t' r.key=i at *
   have c0:=fun kk=>rows_cut0 (x:=t') hpl (P:=Tryz.prog) (t:=28) Tryz.underlying28 dsz44 (kk:=kk)
   have c1:=fun kk=>rows_cut1 (x:=t') hpl (P:=Tryz.prog) (t:=28) Tryz.underlying28 dsz44 (kk:=kk)
   refine Go.keep [(2,.ptr S.length 0),(3,.ptr (S.length+1) 0),(4,.ptr (S.length+2) 0),(5,.int .i64 0),(10,.int .i64 (i:Int))] (.cons .refl (.cons .refl (.cons .refl (.cons .refl (.cons .refl (.nil)))))) ?_
   refine Go.atMem (fun M=>Fr [] S M∧objAt M S.length=some [.int .i64 most,.sl none 6 (t').length (rowsC t')]∧objAt M (S.length+1)=some [.str r.key,.int .i64 r.st.tick,.int .i64 r.st.inc,.int .i64 r.st.seq,.str r.st.org,.sl none 5 r.at_.length (attsC r.at_)]∧objAt M (S.length+2)=some [.int .i64 0,.nils]) ⟨.app,by simp [objAt,List.getElem?_append_right],by simp [objAt,List.getElem?_append_right],by simp [objAt,List.getElem?_append_right]⟩ ?_
   rintro M ⟨hF,hT,hR,hZ⟩
   have hb:S.length+3≤M.length:=objAt_lt hZ
   have hT0 : ∀ E,objAt (M++E) S.length=some [.int .i64 most,.sl none 6 (t').length (rowsC t')]:=fun E=>objAt_old hT
   have hR0 : ∀ E,objAt (M++E) (S.length+1)=some [.str r.key,.int .i64 r.st.tick,.int .i64 r.st.inc,.int .i64 r.st.seq,.str r.st.org,.sl none 5 r.at_.length (attsC r.at_)]:=fun E=>objAt_old hR
   have hacc0:AccD (S.length+3) (.sl (some M.length) 6 0 []) 6 0 [] (M++[.own]):=.inr (.inr ⟨M.length,by omega,rfl,by simp⟩)
   obtain ⟨o1,S2,hap1,hacc1,hg1⟩:=hacc0.appendZ (P:=Tryz.prog) del28 (own:=none) (m:=((t').take i).length) (new:=rowsC ((t').take i)) (by simp;omega) (fun h=>by rw [List.eq_nil_of_length_eq_zero h];rfl) ⟨by rw [List.length_take];omega,by rw [List.length_take];omega,by omega,rows_one _⟩
   have hG1:Grown (S.length+3) M S2:=Grown.app.trans hg1
   obtain ⟨o2,S3,hap2,hacc2,hg2⟩:=hacc1.appendZ (P:=Tryz.prog) del28 (own:=none) (m:=1) (new:=[.str r.key,.int .i64 r.st.tick,.int .i64 r.st.inc,.int .i64 r.st.seq,.str r.st.org,.sl none 5 r.at_.length (attsC r.at_)]) (Nat.le_trans hb hG1.len) (by omega) ⟨by rw [List.length_take];omega,by rw [List.length_take];omega,by omega,rfl⟩
   have hG2:=hG1.trans hg2
   have ho2:=hacc2.one
   obtain ⟨o3,S4,hap3,hacc3,hg3⟩:=(hacc2.app [.obj [.int .i64 most,o2]]).appendZ (P:=Tryz.prog) del28 (own:=none) (m:=((t').drop i).length) (new:=rowsC ((t').drop i)) (by simp;have:=hG2.len;omega) (fun h=>by rw [List.eq_nil_of_length_eq_zero h];rfl) ⟨by rw [List.length_take,List.length_drop];omega,by rw [List.length_take,List.length_drop];omega,by omega,rows_one _⟩
   have hG3:Grown (S.length+3) M S4:=hG2.trans (Grown.app.trans hg3)
   have ho3:=hacc3.one
   have hT1:=hG1.obj _ _ hT
   have hR1:=hG1.obj _ _ hR
   have hT2:=hG2.obj _ _ hT
   have hR2:=hG2.obj _ _ hR
   have hT2' : ∀ E,objAt (S3++E) S.length=some [.int .i64 most,.sl none 6 (t').length (rowsC t')]:=fun E=>objAt_old hT2
   have hU4:objAt S4 S3.length=some [.int .i64 most,o2]:=hg3.obj _ _ (by rw [objAt_app0];rfl)
   have hZ4:=hG3.obj _ _ hZ
   have hle3:=hG2.len
   have hs5 : ∀ c,objAt (S4.set S3.length (.obj c)) S3.length=some c:=fun c=>objAt_set_eq (objAt_lt hU4)
   have hz5 : ∀ c,objAt (S4.set S3.length (.obj c)) (S.length+2)=some [.int .i64 0,.nils]:=fun c=>(objAt_set_ne (by omega)).trans hZ4
   have hs6 : ∀ c c',objAt ((S4.set S3.length (.obj c)).set (S.length+2) (.obj c')) (S.length+2)=some c':=fun c c'=>objAt_set_eq (by rw [List.length_set];exact objAt_lt hZ4)
   repeat' (first|refine Go.a rfl ?_|refine Go.rg ?_|refine GoR.nil ?_|refine Go.ret ?_|refine Go.b rfl ?_|refine Go.rgS dmx (by decide) ?_|refine Go.rgF 12 [2,7,10] [1,4,8,9] (fun H=>objAt H S.length=some [.int .i64 most,.sl none 6 (t').length (rowsC t')]∧objAt H (S.length+1)=some [.str r.key,.int .i64 r.st.tick,.int .i64 r.st.inc,.int .i64 r.st.seq,.str r.st.org,.sl none 5 r.at_.length (attsC r.at_)]) dmx (by decide) 13 (by decide) (by decide) rfl rfl rfl rfl dze30 (by simp [AM.scalarV,Value.cells]) (by (first | exact ⟨hT,hR⟩ | exact ⟨objAt_old hT,objAt_old hR⟩ | exact ⟨hT1,hR1⟩ | exact ⟨hT2,hR2⟩ | exact ⟨objAt_old hT2,objAt_old hR2⟩)) ?_|refine GoW.nil rfl ?_|(refine GoW.newL (by decide) (by rfl) rfl (by (first | exact ⟨hT,hR⟩ | exact ⟨objAt_old hT,objAt_old hR⟩ | exact ⟨hT1,hR1⟩ | exact ⟨hT2,hR2⟩ | exact ⟨objAt_old hT2,objAt_old hR2⟩)) ?_;(conv=>arg 1;simp only [G,Z,Y,Gx,un_neg,cutD,decide_true,decide_false,simprocAttr,fb2,fb3,fb9,fb28,fb30,fb41,fb42,fb44,hT0,hR0,hT,hR,hT1,hR1,hT2,hR2,hT2',hU4,hs5,hz5,c0,c1,hap1,hap2,hap3,ho2,ho3,builtin_append]);refine ⟨by first|rfl|simp,by first|rfl|simp,LowL.mem (by repeat' (first | exact .nil | refine .cons ?_ ?_ | exact .str _ | exact .int _ _ | exact .bool _ | exact .nils | assumption)),?_⟩;show GoW ..)|((first|refine GoR.o (by rfl) (by rfl) ?_|refine GoW.o (by rfl) (by rfl) ?_|refine GoW.rd (by rfl) (by rfl) ?_);(conv=>arg 1;simp only [G,Z,Y,Gx,un_neg,cutD,decide_true,decide_false,simprocAttr,fb2,fb3,fb9,fb28,fb30,fb41,fb42,fb44,hT0,hR0,hT,hR,hT1,hR1,hT2,hR2,hT2',hU4,hs5,hz5,c0,c1,hap1,hap2,hap3,ho2,ho3,builtin_append]);first|show GoR ..|(show _∧GoW ..;refine ⟨by (first|exact fun h=>absurd h (by decide)|(intro _;(first | exact ⟨hT,hR⟩ | exact ⟨objAt_old hT,objAt_old hR⟩ | exact ⟨hT1,hR1⟩ | exact ⟨hT2,hR2⟩ | exact ⟨objAt_old hT2,objAt_old hR2⟩))),?_⟩)|(show _∧_∧_∧GoW ..;refine ⟨rfl,by (first | exact ⟨hT,hR⟩ | exact ⟨objAt_old hT,objAt_old hR⟩ | exact ⟨hT1,hR1⟩ | exact ⟨hT2,hR2⟩ | exact ⟨objAt_old hT2,objAt_old hR2⟩),(fun H hI=>by (try dsimp only at hI);simp only [G,Z,Y,Gx,un_neg,cutD,decide_true,decide_false,simprocAttr,fb2,fb3,fb9,fb28,fb30,fb41,fb42,fb44,hT0,hR0,hT,hR,hT1,hR1,hT2,hR2,hT2',hU4,hs5,hz5,c0,c1,hap1,hap2,hap3,ho2,ho3,builtin_append,hI]),?_⟩))|refine GoR.s (by rfl) rfl rfl ?_|refine GoW.s (by rfl) rfl rfl (by (first|exact fun h=>absurd h (by decide)|(intro _;(first | exact ⟨hT,hR⟩ | exact ⟨objAt_old hT,objAt_old hR⟩ | exact ⟨hT1,hR1⟩ | exact ⟨hT2,hR2⟩ | exact ⟨objAt_old hT2,objAt_old hR2⟩)))) ?_|(refine GoR.splitG rfl (fun hc => ?_) (fun hc => ?_)<;>simp only [hc])|refine Go.condB rfl (fun hc => ?_) (fun hc => ?_))
   refine ⟨(by first | exact .inl rfl | exact .inr rfl),fin ?_⟩
   rw [resD_two (fn:=Tryz.f10) rfl]
   simp only [optThen_some,resultD_tmp,resultD_cell,G,Z,Y,Gx,un_neg,cutD,decide_true,decide_false,simprocAttr,fb2,fb3,fb9,fb28,fb30,fb41,fb42,fb44,hs6]
   have hF4:Fr [] S S4:=hF.grown' (b:=S.length+3) (by omega) hb hG3
   obtain ⟨E,hE⟩:=((hF4.trans (F:=[]) (G:=[S3.length]) (.set (o:=S3.length) (x:=.obj [.int .i64 most,o3]) (by simp)) (by simp;omega)).trans (F:=[]) (G:=[S.length+2]) (.set (o:=S.length+2) (x:=.obj [.int .i64 most,o3]) (by simp)) (by simp)).pre (by simp)
   have hw:=hacc3.wf
   have hl5:0+((t').take i).length+1+((t').drop i).length=((t').take i++r::(t').drop i).length:=by simp;omega
   have hc5:[]++rowsC ((t').take i)++[.str r.key,.int .i64 r.st.tick,.int .i64 r.st.inc,.int .i64 r.st.seq,.str r.st.org,.sl none 5 r.at_.length (attsC r.at_)]++rowsC ((t').drop i)=rowsC ((t').take i++r::(t').drop i):=by simp [rowsC,Rw.c]
   rw [hl5,hc5] at hw
   exact ⟨_,E,hE,(Wf.tup' (.cons (.agg' (.cons .refl (.cons hw .nil))) (.cons .refl .nil))).to_Wk (.tup' (.cons (.agg' (refT_low (most:=most) (l:=(t').take i++r::(t').drop i))) (.cons (.int _ _) .nil))),by simp only [List.length_append,List.length_cons]⟩
  ·have hp:=putT_old (most:=most) hc hq hn
   rw [hp] at hlow ⊢
   simp only [hn,decide_false,Bool.not_false] at hoi
   simp only [Rw.c,St.c,refT] at *
   refine CallD.e Tryz.func10 rfl Tryz.ntmps10 (by rfl) ?_
   repeat' (first|refine Go.a rfl ?_|refine Go.rg ?_|refine GoR.nil ?_|refine Go.ret ?_|refine Go.b rfl ?_|refine Go.rgS dmx (by decide) ?_|(refine GoR.o (by rfl) (by rfl) ?_;(conv=>arg 1;simp only [G,Z,Y,Gx,un_neg,cutD,decide_true,decide_false,simprocAttr,fb2,fb3,fb9,fb28,fb30,fb41,fb42,fb44,hc0,hoi]);show GoR ..)|(refine GoR.c c24 (by rfl) (by rfl) rfl ?_;(refine (hck _).ret ?_))|(refine GoR.c c13 (by rfl) (by rfl) rfl ?_;(refine (hget _).ret ?_))|(refine GoR.c c52 (by rfl) (by rfl) rfl ?_;(refine (hcm _).ret ?_))|refine GoR.s (by rfl) rfl rfl ?_|(refine GoR.splitG rfl (fun hc => ?_) (fun hc => ?_)<;>simp only [hc])|refine Go.condB rfl (fun hc => ?_) (fun hc => ?_))
   refine ⟨(by first | exact .inl rfl | exact .inr rfl),fin ?_⟩
   rw [resD_two (fn:=Tryz.f10) rfl]
   simp only [optThen_some,resultD_tmp,resultD_cell,G,Z,Y,Gx,un_neg,cutD,decide_true,decide_false,simprocAttr,fb2,fb3,fb9,fb28,fb30,fb41,fb42,fb44]
   exact ⟨_,_,rfl,.of_low (.tup' (hlow l)),rfl⟩
 | none=>
  rw [hq] at hget
  simp only [Option.getD_none,Option.isSome_none,noRow] at hget
  by_cases hf:most≤l.length
  ·have h0:l≠[]:=by rintro rfl;simp at hf;omega
   obtain ⟨x0,l0,hl0'⟩ : ∃ x l',l=x::l':=by
    cases l with
    | nil=>exact absurd rfl h0
    | cons x l=>exact ⟨x,l,rfl⟩
   have hlst : ∀ S,CallD Tryz.prog O 53 [.agg (refT most l)] S fun d S'=>S'=S∧d = .agg (least l).c:=fun S=>by
    have hlen0:=ho.len
    subst hl0'
    exact refLeast (orc:=O) (most:=most) (by simp at hlen0;omega) S
   have hcm:=fun S=>refCompare (orc:=O) (least l).st r.st S
   have hoi:=old_iff (a:=r.st) (b:=(least l).st)
   have hmem:=least_mem h0
   by_cases hn:0<cmpSt r.st (least l).st
   ·have hput:=putT_out (most:=most) hc hq hf hn
    have hdr:=fun S=>refDropT (orc:=O) (most:=most) ho.len (least l).key S
    rw [restK_drop ho.rise] at hdr
    have hod:=ho.drop (least l).key
    have hne : ¬ (least l).key=r.key:=fun e=>by
     have:=lookK_of_mem ho.rise hmem
     rw [e,hq] at this
     cases this
    have hq':lookK Rw.key (dropK Rw.key l (least l).key) r.key=none:=by rw [lookK_drop_ne ho.rise hne];exact hq
    have hat:=fun S=>refAt (orc:=O) (most:=most) hod.rise hod.len r.key S
    rw [hq'] at hat
    simp only [hn,decide_true,Bool.not_true] at hoi
    generalize dropK Rw.key l (least l).key=t' at *
    generalize least l=y at *
    simp only [Rw.c,St.c,refT] at *
    refine CallD.e Tryz.func10 rfl Tryz.ntmps10 (by rfl) ?_
    repeat' (first|refine Go.a rfl ?_|refine Go.rg ?_|refine GoR.nil ?_|refine Go.ret ?_|refine Go.b rfl ?_|refine Go.rgS dmx (by decide) ?_|(refine GoR.o (by rfl) (by rfl) ?_;(conv=>arg 1;simp only [G,Z,Y,Gx,un_neg,cutD,decide_true,decide_false,simprocAttr,fb2,fb3,fb9,fb28,fb30,fb41,fb42,fb44,hc0,hoi,show decide (most≤(l.length:Int))=true by simpa using hf]);show GoR ..)|(refine GoR.c c24 (by rfl) (by rfl) rfl ?_;(refine (hck _).ret ?_))|(refine GoR.c c13 (by rfl) (by rfl) rfl ?_;(refine (hget _).ret ?_))|(refine GoR.c c53 (by rfl) (by rfl) rfl ?_;(refine (hlst _).ret ?_))|(refine GoR.c c52 (by rfl) (by rfl) rfl ?_;(refine (hcm _).ret ?_))|(refine GoR.c c15 (by rfl) (by rfl) rfl ?_;(refine (hdr _).ret ?_))|(refine GoR.c c54 (by rfl) (by rfl) rfl ?_;(refine (hat _).ret ?_))|refine GoR.s (by rfl) rfl rfl ?_|(refine GoR.splitG rfl (fun hc => ?_) (fun hc => ?_)<;>simp only [hc])|refine Go.condB rfl (fun hc => ?_) (fun hc => ?_))
    have hpl:=posK_le (f:=Rw.key) t' r.key
    have hp:=finish t' hput hq'
    have hlen':=hod.len
    rw [hp]
    generalize posK Rw.key t' r.key=i at *
    have c0:=fun kk=>rows_cut0 (x:=t') hpl (P:=Tryz.prog) (t:=28) Tryz.underlying28 dsz44 (kk:=kk)
    have c1:=fun kk=>rows_cut1 (x:=t') hpl (P:=Tryz.prog) (t:=28) Tryz.underlying28 dsz44 (kk:=kk)
    refine Go.keep [(2,.ptr S.length 0),(3,.ptr (S.length+1) 0),(4,.ptr (S.length+2) 0),(5,.int .i64 0),(10,.int .i64 (i:Int))] (.cons .refl (.cons .refl (.cons .refl (.cons .refl (.cons .refl (.nil)))))) ?_
    refine Go.atMem (fun M=>Fr [] S M∧objAt M S.length=some [.int .i64 most,.sl none 6 (t').length (rowsC t')]∧objAt M (S.length+1)=some [.str r.key,.int .i64 r.st.tick,.int .i64 r.st.inc,.int .i64 r.st.seq,.str r.st.org,.sl none 5 r.at_.length (attsC r.at_)]∧objAt M (S.length+2)=some [.int .i64 0,.nils]) ⟨.app,by simp [objAt,List.getElem?_append_right],by simp [objAt,List.getElem?_append_right],by simp [objAt,List.getElem?_append_right]⟩ ?_
    rintro M ⟨hF,hT,hR,hZ⟩
    have hb:S.length+3≤M.length:=objAt_lt hZ
    have hT0 : ∀ E,objAt (M++E) S.length=some [.int .i64 most,.sl none 6 (t').length (rowsC t')]:=fun E=>objAt_old hT
    have hR0 : ∀ E,objAt (M++E) (S.length+1)=some [.str r.key,.int .i64 r.st.tick,.int .i64 r.st.inc,.int .i64 r.st.seq,.str r.st.org,.sl none 5 r.at_.length (attsC r.at_)]:=fun E=>objAt_old hR
    have hacc0:AccD (S.length+3) (.sl (some M.length) 6 0 []) 6 0 [] (M++[.own]):=.inr (.inr ⟨M.length,by omega,rfl,by simp⟩)
    obtain ⟨o1,S2,hap1,hacc1,hg1⟩:=hacc0.appendZ (P:=Tryz.prog) del28 (own:=none) (m:=((t').take i).length) (new:=rowsC ((t').take i)) (by simp;omega) (fun h=>by rw [List.eq_nil_of_length_eq_zero h];rfl) ⟨by rw [List.length_take];omega,by rw [List.length_take];omega,by omega,rows_one _⟩
    have hG1:Grown (S.length+3) M S2:=Grown.app.trans hg1
    obtain ⟨o2,S3,hap2,hacc2,hg2⟩:=hacc1.appendZ (P:=Tryz.prog) del28 (own:=none) (m:=1) (new:=[.str r.key,.int .i64 r.st.tick,.int .i64 r.st.inc,.int .i64 r.st.seq,.str r.st.org,.sl none 5 r.at_.length (attsC r.at_)]) (Nat.le_trans hb hG1.len) (by omega) ⟨by rw [List.length_take];omega,by rw [List.length_take];omega,by omega,rfl⟩
    have hG2:=hG1.trans hg2
    have ho2:=hacc2.one
    obtain ⟨o3,S4,hap3,hacc3,hg3⟩:=(hacc2.app [.obj [.int .i64 most,o2]]).appendZ (P:=Tryz.prog) del28 (own:=none) (m:=((t').drop i).length) (new:=rowsC ((t').drop i)) (by simp;have:=hG2.len;omega) (fun h=>by rw [List.eq_nil_of_length_eq_zero h];rfl) ⟨by rw [List.length_take,List.length_drop];omega,by rw [List.length_take,List.length_drop];omega,by omega,rows_one _⟩
    have hG3:Grown (S.length+3) M S4:=hG2.trans (Grown.app.trans hg3)
    have ho3:=hacc3.one
    have hT1:=hG1.obj _ _ hT
    have hR1:=hG1.obj _ _ hR
    have hT2:=hG2.obj _ _ hT
    have hR2:=hG2.obj _ _ hR
    have hT2' : ∀ E,objAt (S3++E) S.length=some [.int .i64 most,.sl none 6 (t').length (rowsC t')]:=fun E=>objAt_old hT2
    have hU4:objAt S4 S3.length=some [.int .i64 most,o2]:=hg3.obj _ _ (by rw [objAt_app0];rfl)
    have hZ4:=hG3.obj _ _ hZ
    have hle3:=hG2.len
    have hs5 : ∀ c,objAt (S4.set S3.length (.obj c)) S3.length=some c:=fun c=>objAt_set_eq (objAt_lt hU4)
    have hz5 : ∀ c,objAt (S4.set S3.length (.obj c)) (S.length+2)=some [.int .i64 0,.nils]:=fun c=>(objAt_set_ne (by omega)).trans hZ4
    have hs6 : ∀ c c',objAt ((S4.set S3.length (.obj c)).set (S.length+2) (.obj c')) (S.length+2)=some c':=fun c c'=>objAt_set_eq (by rw [List.length_set];exact objAt_lt hZ4)
    repeat' (first|refine Go.a rfl ?_|refine Go.rg ?_|refine GoR.nil ?_|refine Go.ret ?_|refine Go.b rfl ?_|refine Go.rgS dmx (by decide) ?_|refine Go.rgF 12 [2,7,10] [1,4,8,9] (fun H=>objAt H S.length=some [.int .i64 most,.sl none 6 (t').length (rowsC t')]∧objAt H (S.length+1)=some [.str r.key,.int .i64 r.st.tick,.int .i64 r.st.inc,.int .i64 r.st.seq,.str r.st.org,.sl none 5 r.at_.length (attsC r.at_)]) dmx (by decide) 13 (by decide) (by decide) rfl rfl rfl rfl dze30 (by simp [AM.scalarV,Value.cells]) (by (first | exact ⟨hT,hR⟩ | exact ⟨objAt_old hT,objAt_old hR⟩ | exact ⟨hT1,hR1⟩ | exact ⟨hT2,hR2⟩ | exact ⟨objAt_old hT2,objAt_old hR2⟩)) ?_|refine GoW.nil rfl ?_|(refine GoW.newL (by decide) (by rfl) rfl (by (first | exact ⟨hT,hR⟩ | exact ⟨objAt_old hT,objAt_old hR⟩ | exact ⟨hT1,hR1⟩ | exact ⟨hT2,hR2⟩ | exact ⟨objAt_old hT2,objAt_old hR2⟩)) ?_;(conv=>arg 1;simp only [G,Z,Y,Gx,un_neg,cutD,decide_true,decide_false,simprocAttr,fb2,fb3,fb9,fb28,fb30,fb41,fb42,fb44,hT0,hR0,hT,hR,hT1,hR1,hT2,hR2,hT2',hU4,hs5,hz5,c0,c1,hap1,hap2,hap3,ho2,ho3,builtin_append]);refine ⟨by first|rfl|simp,by first|rfl|simp,LowL.mem (by repeat' (first | exact .nil | refine .cons ?_ ?_ | exact .str _ | exact .int _ _ | exact .bool _ | exact .nils | assumption)),?_⟩;show GoW ..)|((first|refine GoR.o (by rfl) (by rfl) ?_|refine GoW.o (by rfl) (by rfl) ?_|refine GoW.rd (by rfl) (by rfl) ?_);(conv=>arg 1;simp only [G,Z,Y,Gx,un_neg,cutD,decide_true,decide_false,simprocAttr,fb2,fb3,fb9,fb28,fb30,fb41,fb42,fb44,hT0,hR0,hT,hR,hT1,hR1,hT2,hR2,hT2',hU4,hs5,hz5,c0,c1,hap1,hap2,hap3,ho2,ho3,builtin_append]);first|show GoR ..|(show _∧GoW ..;refine ⟨by (first|exact fun h=>absurd h (by decide)|(intro _;(first | exact ⟨hT,hR⟩ | exact ⟨objAt_old hT,objAt_old hR⟩ | exact ⟨hT1,hR1⟩ | exact ⟨hT2,hR2⟩ | exact ⟨objAt_old hT2,objAt_old hR2⟩))),?_⟩)|(show _∧_∧_∧GoW ..;refine ⟨rfl,by (first | exact ⟨hT,hR⟩ | exact ⟨objAt_old hT,objAt_old hR⟩ | exact ⟨hT1,hR1⟩ | exact ⟨hT2,hR2⟩ | exact ⟨objAt_old hT2,objAt_old hR2⟩),(fun H hI=>by (try dsimp only at hI);simp only [G,Z,Y,Gx,un_neg,cutD,decide_true,decide_false,simprocAttr,fb2,fb3,fb9,fb28,fb30,fb41,fb42,fb44,hT0,hR0,hT,hR,hT1,hR1,hT2,hR2,hT2',hU4,hs5,hz5,c0,c1,hap1,hap2,hap3,ho2,ho3,builtin_append,hI]),?_⟩))|refine GoR.s (by rfl) rfl rfl ?_|refine GoW.s (by rfl) rfl rfl (by (first|exact fun h=>absurd h (by decide)|(intro _;(first | exact ⟨hT,hR⟩ | exact ⟨objAt_old hT,objAt_old hR⟩ | exact ⟨hT1,hR1⟩ | exact ⟨hT2,hR2⟩ | exact ⟨objAt_old hT2,objAt_old hR2⟩)))) ?_|(refine GoR.splitG rfl (fun hc => ?_) (fun hc => ?_)<;>simp only [hc])|refine Go.condB rfl (fun hc => ?_) (fun hc => ?_))
    refine ⟨(by first | exact .inl rfl | exact .inr rfl),fin ?_⟩
    rw [resD_two (fn:=Tryz.f10) rfl]
    simp only [optThen_some,resultD_tmp,resultD_cell,G,Z,Y,Gx,un_neg,cutD,decide_true,decide_false,simprocAttr,fb2,fb3,fb9,fb28,fb30,fb41,fb42,fb44,hs6]
    have hF4:Fr [] S S4:=hF.grown' (b:=S.length+3) (by omega) hb hG3
    obtain ⟨E,hE⟩:=((hF4.trans (F:=[]) (G:=[S3.length]) (.set (o:=S3.length) (x:=.obj [.int .i64 most,o3]) (by simp)) (by simp;omega)).trans (F:=[]) (G:=[S.length+2]) (.set (o:=S.length+2) (x:=.obj [.int .i64 most,o3]) (by simp)) (by simp)).pre (by simp)
    have hw:=hacc3.wf
    have hl5:0+((t').take i).length+1+((t').drop i).length=((t').take i++r::(t').drop i).length:=by simp;omega
    have hc5:[]++rowsC ((t').take i)++[.str r.key,.int .i64 r.st.tick,.int .i64 r.st.inc,.int .i64 r.st.seq,.str r.st.org,.sl none 5 r.at_.length (attsC r.at_)]++rowsC ((t').drop i)=rowsC ((t').take i++r::(t').drop i):=by simp [rowsC,Rw.c]
    rw [hl5,hc5] at hw
    exact ⟨_,E,hE,(Wf.tup' (.cons (.agg' (.cons .refl (.cons hw .nil))) (.cons .refl .nil))).to_Wk (.tup' (.cons (.agg' (refT_low (most:=most) (l:=(t').take i++r::(t').drop i))) (.cons (.int _ _) .nil))),by simp only [List.length_append,List.length_cons]⟩
   ·have hp:=putT_full (most:=most) hc hq hf hn
    rw [hp] at hlow ⊢
    simp only [hn,decide_false,Bool.not_false] at hoi
    generalize least l=y at *
    simp only [Rw.c,St.c,refT] at *
    refine CallD.e Tryz.func10 rfl Tryz.ntmps10 (by rfl) ?_
    repeat' (first|refine Go.a rfl ?_|refine Go.rg ?_|refine GoR.nil ?_|refine Go.ret ?_|refine Go.b rfl ?_|refine Go.rgS dmx (by decide) ?_|(refine GoR.o (by rfl) (by rfl) ?_;(conv=>arg 1;simp only [G,Z,Y,Gx,un_neg,cutD,decide_true,decide_false,simprocAttr,fb2,fb3,fb9,fb28,fb30,fb41,fb42,fb44,hc0,hoi,show decide (most≤(l.length:Int))=true by simpa using hf]);show GoR ..)|(refine GoR.c c24 (by rfl) (by rfl) rfl ?_;(refine (hck _).ret ?_))|(refine GoR.c c13 (by rfl) (by rfl) rfl ?_;(refine (hget _).ret ?_))|(refine GoR.c c53 (by rfl) (by rfl) rfl ?_;(refine (hlst _).ret ?_))|(refine GoR.c c52 (by rfl) (by rfl) rfl ?_;(refine (hcm _).ret ?_))|refine GoR.s (by rfl) rfl rfl ?_|(refine GoR.splitG rfl (fun hc => ?_) (fun hc => ?_)<;>simp only [hc])|refine Go.condB rfl (fun hc => ?_) (fun hc => ?_))
    refine ⟨(by first | exact .inl rfl | exact .inr rfl),fin ?_⟩
    rw [resD_two (fn:=Tryz.f10) rfl]
    simp only [optThen_some,resultD_tmp,resultD_cell,G,Z,Y,Gx,un_neg,cutD,decide_true,decide_false,simprocAttr,fb2,fb3,fb9,fb28,fb30,fb41,fb42,fb44]
    exact ⟨_,_,rfl,.of_low (.tup' (hlow l)),rfl⟩
  ·have hput:=putT_new (most:=most) hc hq (by omega)
   have hat:=fun S=>refAt (orc:=O) (most:=most) ho.rise ho.len r.key S
   rw [hq] at hat
   simp only [Rw.c,St.c,refT] at *
   refine CallD.e Tryz.func10 rfl Tryz.ntmps10 (by rfl) ?_
   repeat' (first|refine Go.a rfl ?_|refine Go.rg ?_|refine GoR.nil ?_|refine Go.ret ?_|refine Go.b rfl ?_|refine Go.rgS dmx (by decide) ?_|(refine GoR.o (by rfl) (by rfl) ?_;(conv=>arg 1;simp only [G,Z,Y,Gx,un_neg,cutD,decide_true,decide_false,simprocAttr,fb2,fb3,fb9,fb28,fb30,fb41,fb42,fb44,hc0,show decide (most≤(l.length:Int))=false by simpa using hf]);show GoR ..)|(refine GoR.c c24 (by rfl) (by rfl) rfl ?_;(refine (hck _).ret ?_))|(refine GoR.c c13 (by rfl) (by rfl) rfl ?_;(refine (hget _).ret ?_))|(refine GoR.c c54 (by rfl) (by rfl) rfl ?_;(refine (hat _).ret ?_))|refine GoR.s (by rfl) rfl rfl ?_|(refine GoR.splitG rfl (fun hc => ?_) (fun hc => ?_)<;>simp only [hc])|refine Go.condB rfl (fun hc => ?_) (fun hc => ?_))
   have hpl:=posK_le (f:=Rw.key) l r.key
   have hp:=finish l hput hq
   have hlen':=ho.len
   rw [hp]
   generalize posK Rw.key l r.key=i at *
   have c0:=fun kk=>rows_cut0 (x:=l) hpl (P:=Tryz.prog) (t:=28) Tryz.underlying28 dsz44 (kk:=kk)
   have c1:=fun kk=>rows_cut1 (x:=l) hpl (P:=Tryz.prog) (t:=28) Tryz.underlying28 dsz44 (kk:=kk)
   refine Go.keep [(2,.ptr S.length 0),(3,.ptr (S.length+1) 0),(4,.ptr (S.length+2) 0),(5,.int .i64 0),(10,.int .i64 (i:Int))] (.cons .refl (.cons .refl (.cons .refl (.cons .refl (.cons .refl (.nil)))))) ?_
   refine Go.atMem (fun M=>Fr [] S M∧objAt M S.length=some [.int .i64 most,.sl none 6 (l).length (rowsC l)]∧objAt M (S.length+1)=some [.str r.key,.int .i64 r.st.tick,.int .i64 r.st.inc,.int .i64 r.st.seq,.str r.st.org,.sl none 5 r.at_.length (attsC r.at_)]∧objAt M (S.length+2)=some [.int .i64 0,.nils]) ⟨.app,by simp [objAt,List.getElem?_append_right],by simp [objAt,List.getElem?_append_right],by simp [objAt,List.getElem?_append_right]⟩ ?_
   rintro M ⟨hF,hT,hR,hZ⟩
   have hb:S.length+3≤M.length:=objAt_lt hZ
   have hT0 : ∀ E,objAt (M++E) S.length=some [.int .i64 most,.sl none 6 (l).length (rowsC l)]:=fun E=>objAt_old hT
   have hR0 : ∀ E,objAt (M++E) (S.length+1)=some [.str r.key,.int .i64 r.st.tick,.int .i64 r.st.inc,.int .i64 r.st.seq,.str r.st.org,.sl none 5 r.at_.length (attsC r.at_)]:=fun E=>objAt_old hR
   have hacc0:AccD (S.length+3) (.sl (some M.length) 6 0 []) 6 0 [] (M++[.own]):=.inr (.inr ⟨M.length,by omega,rfl,by simp⟩)
   obtain ⟨o1,S2,hap1,hacc1,hg1⟩:=hacc0.appendZ (P:=Tryz.prog) del28 (own:=none) (m:=((l).take i).length) (new:=rowsC ((l).take i)) (by simp;omega) (fun h=>by rw [List.eq_nil_of_length_eq_zero h];rfl) ⟨by rw [List.length_take];omega,by rw [List.length_take];omega,by omega,rows_one _⟩
   have hG1:Grown (S.length+3) M S2:=Grown.app.trans hg1
   obtain ⟨o2,S3,hap2,hacc2,hg2⟩:=hacc1.appendZ (P:=Tryz.prog) del28 (own:=none) (m:=1) (new:=[.str r.key,.int .i64 r.st.tick,.int .i64 r.st.inc,.int .i64 r.st.seq,.str r.st.org,.sl none 5 r.at_.length (attsC r.at_)]) (Nat.le_trans hb hG1.len) (by omega) ⟨by rw [List.length_take];omega,by rw [List.length_take];omega,by omega,rfl⟩
   have hG2:=hG1.trans hg2
   have ho2:=hacc2.one
   obtain ⟨o3,S4,hap3,hacc3,hg3⟩:=(hacc2.app [.obj [.int .i64 most,o2]]).appendZ (P:=Tryz.prog) del28 (own:=none) (m:=((l).drop i).length) (new:=rowsC ((l).drop i)) (by simp;have:=hG2.len;omega) (fun h=>by rw [List.eq_nil_of_length_eq_zero h];rfl) ⟨by rw [List.length_take,List.length_drop];omega,by rw [List.length_take,List.length_drop];omega,by omega,rows_one _⟩
   have hG3:Grown (S.length+3) M S4:=hG2.trans (Grown.app.trans hg3)
   have ho3:=hacc3.one
   have hT1:=hG1.obj _ _ hT
   have hR1:=hG1.obj _ _ hR
   have hT2:=hG2.obj _ _ hT
   have hR2:=hG2.obj _ _ hR
   have hT2' : ∀ E,objAt (S3++E) S.length=some [.int .i64 most,.sl none 6 (l).length (rowsC l)]:=fun E=>objAt_old hT2
   have hU4:objAt S4 S3.length=some [.int .i64 most,o2]:=hg3.obj _ _ (by rw [objAt_app0];rfl)
   have hZ4:=hG3.obj _ _ hZ
   have hle3:=hG2.len
   have hs5 : ∀ c,objAt (S4.set S3.length (.obj c)) S3.length=some c:=fun c=>objAt_set_eq (objAt_lt hU4)
   have hz5 : ∀ c,objAt (S4.set S3.length (.obj c)) (S.length+2)=some [.int .i64 0,.nils]:=fun c=>(objAt_set_ne (by omega)).trans hZ4
   have hs6 : ∀ c c',objAt ((S4.set S3.length (.obj c)).set (S.length+2) (.obj c')) (S.length+2)=some c':=fun c c'=>objAt_set_eq (by rw [List.length_set];exact objAt_lt hZ4)
   repeat' (first|refine Go.a rfl ?_|refine Go.rg ?_|refine GoR.nil ?_|refine Go.ret ?_|refine Go.b rfl ?_|refine Go.rgS dmx (by decide) ?_|refine Go.rgF 12 [2,7,10] [1,4,8,9] (fun H=>objAt H S.length=some [.int .i64 most,.sl none 6 (l).length (rowsC l)]∧objAt H (S.length+1)=some [.str r.key,.int .i64 r.st.tick,.int .i64 r.st.inc,.int .i64 r.st.seq,.str r.st.org,.sl none 5 r.at_.length (attsC r.at_)]) dmx (by decide) 13 (by decide) (by decide) rfl rfl rfl rfl dze30 (by simp [AM.scalarV,Value.cells]) (by (first | exact ⟨hT,hR⟩ | exact ⟨objAt_old hT,objAt_old hR⟩ | exact ⟨hT1,hR1⟩ | exact ⟨hT2,hR2⟩ | exact ⟨objAt_old hT2,objAt_old hR2⟩)) ?_|refine GoW.nil rfl ?_|(refine GoW.newL (by decide) (by rfl) rfl (by (first | exact ⟨hT,hR⟩ | exact ⟨objAt_old hT,objAt_old hR⟩ | exact ⟨hT1,hR1⟩ | exact ⟨hT2,hR2⟩ | exact ⟨objAt_old hT2,objAt_old hR2⟩)) ?_;(conv=>arg 1;simp only [G,Z,Y,Gx,un_neg,cutD,decide_true,decide_false,simprocAttr,fb2,fb3,fb9,fb28,fb30,fb41,fb42,fb44,hT0,hR0,hT,hR,hT1,hR1,hT2,hR2,hT2',hU4,hs5,hz5,c0,c1,hap1,hap2,hap3,ho2,ho3,builtin_append]);refine ⟨by first|rfl|simp,by first|rfl|simp,LowL.mem (by repeat' (first | exact .nil | refine .cons ?_ ?_ | exact .str _ | exact .int _ _ | exact .bool _ | exact .nils | assumption)),?_⟩;show GoW ..)|((first|refine GoR.o (by rfl) (by rfl) ?_|refine GoW.o (by rfl) (by rfl) ?_|refine GoW.rd (by rfl) (by rfl) ?_);(conv=>arg 1;simp only [G,Z,Y,Gx,un_neg,cutD,decide_true,decide_false,simprocAttr,fb2,fb3,fb9,fb28,fb30,fb41,fb42,fb44,hT0,hR0,hT,hR,hT1,hR1,hT2,hR2,hT2',hU4,hs5,hz5,c0,c1,hap1,hap2,hap3,ho2,ho3,builtin_append]);first|show GoR ..|(show _∧GoW ..;refine ⟨by (first|exact fun h=>absurd h (by decide)|(intro _;(first | exact ⟨hT,hR⟩ | exact ⟨objAt_old hT,objAt_old hR⟩ | exact ⟨hT1,hR1⟩ | exact ⟨hT2,hR2⟩ | exact ⟨objAt_old hT2,objAt_old hR2⟩))),?_⟩)|(show _∧_∧_∧GoW ..;refine ⟨rfl,by (first | exact ⟨hT,hR⟩ | exact ⟨objAt_old hT,objAt_old hR⟩ | exact ⟨hT1,hR1⟩ | exact ⟨hT2,hR2⟩ | exact ⟨objAt_old hT2,objAt_old hR2⟩),(fun H hI=>by (try dsimp only at hI);simp only [G,Z,Y,Gx,un_neg,cutD,decide_true,decide_false,simprocAttr,fb2,fb3,fb9,fb28,fb30,fb41,fb42,fb44,hT0,hR0,hT,hR,hT1,hR1,hT2,hR2,hT2',hU4,hs5,hz5,c0,c1,hap1,hap2,hap3,ho2,ho3,builtin_append,hI]),?_⟩))|refine GoR.s (by rfl) rfl rfl ?_|refine GoW.s (by rfl) rfl rfl (by (first|exact fun h=>absurd h (by decide)|(intro _;(first | exact ⟨hT,hR⟩ | exact ⟨objAt_old hT,objAt_old hR⟩ | exact ⟨hT1,hR1⟩ | exact ⟨hT2,hR2⟩ | exact ⟨objAt_old hT2,objAt_old hR2⟩)))) ?_|(refine GoR.splitG rfl (fun hc => ?_) (fun hc => ?_)<;>simp only [hc])|refine Go.condB rfl (fun hc => ?_) (fun hc => ?_))
   refine ⟨(by first | exact .inl rfl | exact .inr rfl),fin ?_⟩
   rw [resD_two (fn:=Tryz.f10) rfl]
   simp only [optThen_some,resultD_tmp,resultD_cell,G,Z,Y,Gx,un_neg,cutD,decide_true,decide_false,simprocAttr,fb2,fb3,fb9,fb28,fb30,fb41,fb42,fb44,hs6]
   have hF4:Fr [] S S4:=hF.grown' (b:=S.length+3) (by omega) hb hG3
   obtain ⟨E,hE⟩:=((hF4.trans (F:=[]) (G:=[S3.length]) (.set (o:=S3.length) (x:=.obj [.int .i64 most,o3]) (by simp)) (by simp;omega)).trans (F:=[]) (G:=[S.length+2]) (.set (o:=S.length+2) (x:=.obj [.int .i64 most,o3]) (by simp)) (by simp)).pre (by simp)
   have hw:=hacc3.wf
   have hl5:0+((l).take i).length+1+((l).drop i).length=((l).take i++r::(l).drop i).length:=by simp;omega
   have hc5:[]++rowsC ((l).take i)++[.str r.key,.int .i64 r.st.tick,.int .i64 r.st.inc,.int .i64 r.st.seq,.str r.st.org,.sl none 5 r.at_.length (attsC r.at_)]++rowsC ((l).drop i)=rowsC ((l).take i++r::(l).drop i):=by simp [rowsC,Rw.c]
   rw [hl5,hc5] at hw
   exact ⟨_,E,hE,(Wf.tup' (.cons (.agg' (.cons .refl (.cons hw .nil))) (.cons .refl .nil))).to_Wk (.tup' (.cons (.agg' (refT_low (most:=most) (l:=(l).take i++r::(l).drop i))) (.cons (.int _ _) .nil))),by simp only [List.length_append,List.length_cons]⟩
end Go.Proofs.DtT
namespace Go.Proofs.DtT
open Go Go.DM Go.Proofs.DtF
set_option maxRecDepth 100000
variable {orc:DOracle}
theorem texts6 (l:List ByteArray) (hl:l.length<1000000) (S:Mem):CallD Tryz.prog orc 17 [strsD l,strsD l] S fun d S'=>S'=S∧d = .bool true:=by
 unfold strsD
 refine CallD.e Tryz.func17 rfl Tryz.ntmps17 (by rfl) ?_
 repeat' (first|refine Go.a rfl ?_|refine Go.rg ?_|refine GoR.nil ?_|refine Go.ret ?_|refine Go.b rfl ?_|refine Go.rgS dmx (by decide) ?_|(refine GoR.o (by rfl) (by rfl) ?_;(conv=>arg 1;simp only [G,Z,Y,Gx,un_neg,cutD,decide_true,decide_false,simprocAttr,fb3,fb9,fb51,bne_self_eq_false]);show GoR ..)|refine Go.condB rfl (fun hc => ?_) (fun hc => ?_))
 refine Go.keep [(0,.sl none 1 l.length (l.map .str)),(1,.sl none 1 l.length (l.map .str)),(5,.int .i64 ((0:Nat):Int))] (.cons .refl (.cons .refl (.cons .refl (.nil)))) ?_
 refine Go.while (α:=Nat) (fun i=>l.length - i) (fun i=>[(0,.sl none 1 l.length (l.map .str)),(1,.sl none 1 l.length (l.map .str)),(5,.int .i64 (i:Int))]) (fun _=>S) (fun i=>i≤l.length) ?_ 0 (Nat.zero_le _)
 intro i hi next
 by_cases h1:i<l.length
 ·have a1:=strsAt h1
  repeat' (first|refine Go.a rfl ?_|refine Go.rg ?_|refine GoR.nil ?_|refine Go.ret ?_|refine Go.b rfl ?_|refine Go.rgS dmx (by decide) ?_|(refine GoR.o (by rfl) (by rfl) ?_;(conv=>arg 1;simp only [G,Z,Y,Gx,un_neg,cutD,decide_true,decide_false,simprocAttr,fb3,fb9,fb51,show decide ((i:Int)<(l.length:Int))=true by simp;omega,a1,wrap_succ (show i<4611686018427387904 by omega)]);show GoR ..)|refine Go.condB rfl (fun hc => ?_) (fun hc => ?_))
  refine Go.lpN ?_
  refine Go.keep [(0,.sl none 1 l.length (l.map .str)),(1,.sl none 1 l.length (l.map .str)),(5,.int .i64 ((i+1:Nat):Int))] (.cons .refl (.cons .refl (.cons .refl (.nil)))) ?_
  exact next (i+1) (by omega) h1
 ·clear next
  repeat' (first|refine Go.a rfl ?_|refine Go.rg ?_|refine GoR.nil ?_|refine Go.ret ?_|refine Go.b rfl ?_|refine Go.rgS dmx (by decide) ?_|(refine GoR.o (by rfl) (by rfl) ?_;(conv=>arg 1;simp only [G,Z,Y,Gx,un_neg,cutD,decide_true,decide_false,simprocAttr,fb3,fb9,fb51,show decide ((i:Int)<(l.length:Int))=false by simp;omega]);show GoR ..)|refine Go.condB rfl (fun hc => ?_) (fun hc => ?_))
  refine ⟨(by first | exact .inl rfl | exact .inr rfl),fin ?_⟩
  rw [resD_tmp (fn:=Tryz.f17) rfl]
  simp only [optThen_some,resultD_tmp,resultD_cell,G,Z,Y,Gx,un_neg,cutD,decide_true,decide_false,simprocAttr,fb3,fb9,fb51]
  exact ⟨_,[],by simp,.bool,rfl⟩
end Go.Proofs.DtT
