/- Rows as the document has them; each zone once. -/
import Derived.Test.YtlllhmenekibjaaGreatDoorDtC11x
set_option linter.unusedSimpArgs false
set_option linter.unusedVariables false
namespace Go.Proofs.DtT
open Go Go.DM Go.Proofs.DtF
set_option maxRecDepth 100000
variable {orc:DOracle}
theorem sameRows (l:List Rw) (hl:l.length<1000000) (hok : ∀ r∈l,OkR r) (S:Mem):CallD Tryz.prog orc 45 [.sl none 6 l.length (rowsC l),.sl none 6 l.length (rowsC l)] S fun d S'=>S'=S∧d = .bool true:=by
 refine CallD.e Tryz.func45 rfl Tryz.ntmps45 (by rfl) ?_
 repeat' (first|refine Go.a rfl ?_|refine Go.rg ?_|refine GoR.nil ?_|refine Go.ret ?_|refine Go.b rfl ?_|refine Go.rgS dmx (by decide) ?_|(refine GoR.o (by rfl) (by rfl) ?_;(conv=>arg 1;simp only [G,Z,Y,Gx,un_neg,cutD,decide_true,decide_false,simprocAttr,fb3,fb9,fb28,fb41,fb42,fb44,bne_self_eq_false]);show GoR ..)|refine Go.condB rfl (fun hc => ?_) (fun hc => ?_))
 refine Go.keep [(0,.sl none 6 l.length (rowsC l)),(1,.sl none 6 l.length (rowsC l)),(5,.int .i64 ((0:Nat):Int))] (.cons .refl (.cons .refl (.cons .refl (.nil)))) ?_
 refine Go.while (α:=Nat) (fun i=>l.length - i) (fun i=>[(0,.sl none 6 l.length (rowsC l)),(1,.sl none 6 l.length (rowsC l)),(5,.int .i64 (i:Int))]) (fun _=>S) (fun i=>i≤l.length) ?_ 0 (Nat.zero_le _)
 intro i hi next
 by_cases h1:i<l.length
 ·have at1:=rowsAt h1
  have hr:=hok _ (List.getElem_mem h1)
  have hsr:=fun S=>refSame (orc:=orc) l[i] l[i] (by have:=hr.len;omega) hr.atl hr.atl S
  rw [sameR_self] at hsr
  simp only [Rw.c] at at1 hsr
  repeat' (first|refine Go.a rfl ?_|refine Go.rg ?_|refine GoR.nil ?_|refine Go.ret ?_|refine Go.b rfl ?_|refine Go.rgS dmx (by decide) ?_|(refine GoR.o (by rfl) (by rfl) ?_;(conv=>arg 1;simp only [G,Z,Y,Gx,un_neg,cutD,decide_true,decide_false,simprocAttr,fb3,fb9,fb28,fb41,fb42,fb44,show decide ((i:Int)<(l.length:Int))=true by simp;omega,at1,wrap_succ (show i<4611686018427387904 by omega)]);show GoR ..)|(refine GoR.c c22 (by rfl) (by rfl) rfl ?_;(refine (hsr _).ret ?_))|refine Go.condB rfl (fun hc => ?_) (fun hc => ?_))
  refine Go.lpN ?_
  refine Go.keep [(0,.sl none 6 l.length (rowsC l)),(1,.sl none 6 l.length (rowsC l)),(5,.int .i64 ((i+1:Nat):Int))] (.cons .refl (.cons .refl (.cons .refl (.nil)))) ?_
  exact next (i+1) (by omega) h1
 ·clear next
  repeat' (first|refine Go.a rfl ?_|refine Go.rg ?_|refine GoR.nil ?_|refine Go.ret ?_|refine Go.b rfl ?_|refine Go.rgS dmx (by decide) ?_|(refine GoR.o (by rfl) (by rfl) ?_;(conv=>arg 1;simp only [G,Z,Y,Gx,un_neg,cutD,decide_true,decide_false,simprocAttr,fb3,fb9,fb28,fb41,fb42,fb44,show decide ((i:Int)<(l.length:Int))=false by simp;omega]);show GoR ..)|refine Go.condB rfl (fun hc => ?_) (fun hc => ?_))
  refine ⟨(by first | exact .inl rfl | exact .inr rfl),fin ?_⟩
  rw [resD_tmp (fn:=Tryz.f45) rfl]
  simp only [optThen_some,resultD_tmp,resultD_cell,G,Z,Y,Gx,un_neg,cutD,decide_true,decide_false,simprocAttr,fb3,fb9,fb28,fb41,fb42,fb44]
  exact ⟨_,[],by simp,.bool,rfl⟩
theorem ofRows (l:List Rw) (hl:l.length<1000000) (hok : ∀ r∈l,OkR r) (S:Mem):CallD Tryz.prog orc 46 [.sl none 6 l.length (rowsC l)] S fun d S'=>S'=S∧d = .sl none 6 l.length (rowsC l):=by
 refine CallD.e Tryz.func46 rfl Tryz.ntmps46 (by rfl) ?_
 repeat' (first|refine Go.a rfl ?_|refine Go.rg ?_|refine GoR.nil ?_|refine Go.ret ?_|refine Go.b rfl ?_|(refine GoR.o (by rfl) (by rfl) ?_;(conv=>arg 1;simp only [G,Z,Y,Gx,un_neg,cutD,decide_true,decide_false,simprocAttr,fb3,fb9,fb28,fb32,fb33,fb35,fb62]);show GoR ..)|refine Go.condB rfl (fun hc => ?_) (fun hc => ?_))
 refine Go.keep [(0,.sl none 6 l.length (rowsC l)),(3,.nils),(4,.int .i64 ((0:Nat):Int))] (.cons .refl (.cons .refl (.cons .refl (.nil)))) ?_
 refine Go.while (α:=Nat×D×Mem) (fun x=>l.length - x.1) (fun x=>[(0,.sl none 6 l.length (rowsC l)),(3,x.2.1),(4,.int .i64 (x.1:Int))]) (fun x=>x.2.2)
  (fun x=>x.1≤l.length∧AccD S.length x.2.1 6 x.1 (rowsC (l.take x.1)) x.2.2∧Grown S.length S x.2.2) ?_ (0,.nils,S) ⟨Nat.zero_le _,.inl ⟨rfl,rfl,rfl⟩,.refl⟩
 rintro ⟨i,o,S1⟩ ⟨hi,hacc,hg⟩ next
 dsimp only at hi hacc hg next
 by_cases h1:i<l.length
 ·have at1:=rowsAt h1
  have hr:=hok _ (List.getElem_mem h1)
  have h4:=fun S=>of4 (orc:=orc) l[i] (by have:=hr.len;omega) S
  obtain ⟨o',S2,hap,hacc2,hg2⟩:=(hacc.app [.own]).append (P:=Tryz.prog) del28 (own:=some S1.length) (m:=1) (new:=l[i].c) (by simp;have:=hg.len;omega) (by omega) ⟨by omega,by omega,by omega,rfl⟩
  simp only [Rw.c] at at1 h4 hap
  repeat' (first|refine Go.a rfl ?_|refine Go.rg ?_|refine GoR.nil ?_|refine Go.ret ?_|refine Go.b rfl ?_|(refine GoR.o (by rfl) (by rfl) ?_;(conv=>arg 1;simp only [G,Z,Y,Gx,un_neg,cutD,decide_true,decide_false,simprocAttr,fb3,fb9,fb28,fb32,fb33,fb35,fb62,show decide ((i:Int)<(l.length:Int))=true by simp;omega,at1,hap,builtin_append,wrap_succ (show i<4611686018427387904 by omega)]);show GoR ..)|(refine GoR.c c11 (by rfl) (by rfl) rfl ?_;(refine (h4 _).ret ?_))|refine Go.condB rfl (fun hc => ?_) (fun hc => ?_))
  refine Go.lpN ?_
  refine Go.keep [(0,.sl none 6 l.length (rowsC l)),(3,o'),(4,.int .i64 ((i+1:Nat):Int))] (.cons .refl (.cons .refl (.cons .refl (.nil)))) ?_
  refine next (i+1,o',S2) (by dsimp only;omega) ⟨h1,?_,hg.trans (Grown.app.trans hg2)⟩
  dsimp only
  rw [List.take_succ_eq_append_getElem h1,rowsC_app,show rowsC [l[i]]=l[i].c by simp [rowsC]]
  exact hacc2
 ·clear next
  have hi':i=l.length:=by omega
  subst hi'
  rw [List.take_length] at hacc
  obtain ⟨E,hE⟩:=hg.pre [] S rfl (by simp)
  repeat' (first|refine Go.a rfl ?_|refine Go.rg ?_|refine GoR.nil ?_|refine Go.ret ?_|refine Go.b rfl ?_|(refine GoR.o (by rfl) (by rfl) ?_;(conv=>arg 1;simp only [G,Z,Y,Gx,un_neg,cutD,decide_true,decide_false,simprocAttr,fb3,fb9,fb28,fb32,fb33,fb35,fb62,show decide ((l.length:Int)<(l.length:Int))=false by simp]);show GoR ..)|refine Go.condB rfl (fun hc => ?_) (fun hc => ?_))
  refine ⟨(by first | exact .inl rfl | exact .inr rfl),fin ?_⟩
  rw [resD_tmp (fn:=Tryz.f46) rfl]
  simp only [optThen_some,resultD_tmp,resultD_cell,G,Z,Y,Gx,un_neg,cutD,decide_true,decide_false,simprocAttr,fb3,fb9,fb28,fb32,fb33,fb35,fb62]
  exact ⟨_,E,hE,hacc.wf.to_Wk (.sl' (rows_low l)),rfl⟩
theorem ptext_size {l:List ByteArray} (hx : ∀ x∈l,nameOk x=true) : ∀ i,i≤l.length→i+1≤(ptext (l.take i)).size∧(0<i→(ptext (l.take i)).size=(catP (l.take i)).size)
 | 0,_=>⟨by simp [ptext_nil];decide,fun h=>by omega⟩
 | i+1,h=>by
  have hc:=catP_succ (l:=l) (i:=i) (by omega)
  have h1:1≤l[i].size:=by
   have:=hx l[i] (List.getElem_mem _)
   rcases Nat.eq_zero_or_pos l[i].size with h0 | h0
   ·exfalso
    have e:l[i]=⟨#[]⟩:=by
     cases hq:l[i] with
     | mk d=>
      rw [hq] at h0
      have:d.size=0:=h0
      rw [Array.size_eq_zero_iff.1 this]
    rw [e] at this
    revert this
    decide
   ·exact h0
  obtain ⟨h2,h3⟩:=ptext_size hx i (by omega)
  have hs:(catP (l.take (i+1))).size=(catP (l.take i)).size+1+l[i].size:=by
   rw [hc,ByteArray.size_append,ByteArray.size_append]
   rfl
  have hne : ¬ catP (l.take (i+1))=⟨#[]⟩:=fun e=>by
   rw [e] at hs
   have:ByteArray.size ⟨#[]⟩=0:=rfl
   omega
  have hp:ptext (l.take (i+1))=catP (l.take (i+1)):=by rw [ptext,if_neg hne]
  rw [hp]
  refine ⟨?_,fun _=>rfl⟩
  rcases Nat.eq_zero_or_pos i with h0 | h0
  ·omega
  ·have:=h3 h0
   omega
theorem ptext_step {l:List ByteArray} (hx : ∀ x∈l,nameOk x=true) {i:Nat} (h:i<l.length):(ptext (l.take i)).size<(ptext (l.take (i+1))).size:=by
 have h2:=ptext_size hx (i+1) h
 rcases Nat.eq_zero_or_pos i with h0 | h0
 ·subst h0
  have:(ptext (l.take 0)).size=1:=rfl
  omega
 ·have h3:=(ptext_size hx i (by omega)).2 h0
  have h4:=h2.2 (by omega)
  have hs:(catP (l.take (i+1))).size=(catP (l.take i)).size+1+l[i].size:=by
   rw [catP_succ h,ByteArray.size_append,ByteArray.size_append]
   rfl
  omega
theorem ptext_up {l:List ByteArray} (hx : ∀ x∈l,nameOk x=true) {i:Nat} : ∀ j,i<j→j≤l.length→(ptext (l.take i)).size<(ptext (l.take j)).size
 | 0,h,_=>by omega
 | j+1,h,hj=>by
  have h1:=ptext_step hx (i:=j) (by omega)
  rcases Nat.lt_or_ge i j with h2 | h2
  ·have:=ptext_up hx j h2 (by omega)
   omega
  ·obtain rfl:i=j:=by omega
   exact h1
theorem zones_find {l:List ByteArray} (hx : ∀ x∈l,nameOk x=true) {i:Nat} (h:i<l.length):findS (zonesP l) ((zonesP l).getD i ⟨#[]⟩)=(i:Int):=by
 have hz:i<(zonesP l).length:=by rw [zonesP_len];exact h
 rw [show (zonesP l).getD i ⟨#[]⟩=(zonesP l)[i] by simp [hz]]
 refine findS_hit hz rfl fun j hj hji e => ?_
 rw [zonesP_at,zonesP_at] at e
 have:=ptext_up hx i hji (by omega)
 rw [e] at this
 omega
end Go.Proofs.DtT
namespace Go.Proofs.DtT
open Go Go.DM Go.Proofs.DtF
set_option maxRecDepth 100000
theorem node_no {s:ByteArray} (h:pathOk s=false):pathR s=false∨partsP s=[]:=by
 by_cases e:s=⟨#[47]⟩
 ·subst e
  exact .inr (by decide +kernel)
 ·exact .inl (by rw [nodeR_eq s e,h])
theorem node_yes {s:ByteArray} (h:pathOk s=true):pathR s=true∧0<(partsP s).length:=by
 have e:s≠⟨#[47]⟩:=by
  rintro rfl
  rw [root_not] at h
  cases h
 have hr:pathR s=true:=by rw [nodeR_eq s e,h]
 refine ⟨hr,?_⟩
 have h47:s.data[0]?=some 47:=by
  simp only [pathR,Bool.and_eq_true,decide_eq_true_eq] at hr
  exact hr.1.1
 rw [partsP,if_pos hr,piecesR,if_neg fun h1=>e (one_slash h47 h1),AtT.cutP]
 simp
structure Ac8 where
 op:Int
 z:ByteArray
 r:Rw
 now:Int
 age:Int
def Ac8.c (a:Ac8):List D:=[.int .i64 a.op,.str a.z,.str a.r.key,.int .i64 a.r.st.tick,.int .i64 a.r.st.inc,.int .i64 a.r.st.seq,.str a.r.st.org,.sl none 5 a.r.at_.length (attsC a.r.at_),.int .i64 a.now,.int .i64 a.age]
theorem Ac8.len (a:Ac8):a.c.length=10:=rfl
def acs8C (l:List Ac8):List D:=l.flatMap Ac8.c
theorem acs8At {l:List Ac8} {i:Nat} (h:i<l.length):((0≤(i:Int)∧(i:Int)<(l.length:Int))=True)∧((i*10+10≤(acs8C l).length)=True)∧((acs8C l).drop (i*10)).take 10=l[i].c:=
 ⟨ix_ok h,flat_fits0 Ac8.len l i h,flat_all Ac8.len l i h⟩
structure PlayC (S M:Mem) (c mo:Nat) (own:ByteArray) (ps zs:List ByteArray) (most:Int) (w:Option Nat) (l:Tl):Prop where
 ch:Ch0 S M c ps zs most w l
 m:objAt M mo=some [.str own,.sl none 1 zs.length (zs.map .str),.sl none 2 l.length (tabsC most (rowsOf l))]
 nt:mo∉ownC l
 lo:S.length≤mo
theorem PlayC.app {S M c mo own ps zs most w l} (h:PlayC S M c mo own ps zs most w l) (E:Mem):PlayC S (M++E) c mo own ps zs most w l:=⟨h.ch.app E,objAt_old h.m,h.nt,h.lo⟩
theorem PlayC.stored {S M2:Mem} {c mo:Nat} {own:ByteArray} {ps zs:List ByteArray} {most:Int} {w:Option Nat} {l':Tl} {x:List D} (h:Ch0 S M2 c ps zs most w l') (hm:objAt M2 mo=some x) (hc:mo≠c) (hn:mo∉ownC l') (hlo:S.length≤mo) :
  PlayC S (M2.set mo (.obj [.str own,.sl none 1 zs.length (zs.map .str),.sl none 2 l'.length (tabsC most (rowsOf l'))])) c mo own ps zs most w l' :=
 have x:Fr [mo] M2 (M2.set mo (.obj [.str own,.sl none 1 zs.length (zs.map .str),.sl none 2 l'.length (tabsC most (rowsOf l'))])):=.set (by simp)
 ⟨⟨h.at_.fr x (by simpa using fun e=>hc e.symm) (fun o ho hx=>hn (by simp at hx;exact hx▸ho)),h.lo,h.low,h.fr.trans (F:=[]) x (by simpa using hlo)⟩,objAt_set_eq (objAt_lt hm),hn,hlo⟩
end Go.Proofs.DtT
namespace Go.DM
open Go Go.AM
section
variable {P:Program} {orc:DOracle} {fl sz:Nat} {k:List K} {Q Q1:AExit→DEnv→Mem→Prop}
theorem Go.app (hq : ∀ e ρ H,Q1 e ρ H→Go P orc fl sz k e ρ H Q) : ∀ (a:List K) {e:AExit} {ρ:DEnv} {H:Mem},Go P orc fl sz a e ρ H Q1→Go P orc fl sz (a++k) e ρ H Q:=by
 intro a
 induction a with
 | nil=>exact fun h=>hq _ _ _ h
 | cons x a ih=>
  intro e ρ H h
  cases x with
  | code c=>
   cases e with
   | normal=>exact WPcD.mono h fun e ρ' H' h=>ih h
   | exit id=>exact ih h
   | ret=>exact ih h
  | blk id=>
   cases e with
   | normal=>exact ih h
   | exit id' =>
    simp only [List.cons_append,Go] at h ⊢
    split at h
    ·rename_i e;rw [if_pos e];exact ih h
    ·rename_i e;rw [if_neg e];exact ih h
   | ret=>exact ih h
  | lp c=>
   cases e with
   | normal=>exact WPcD.mono h fun e ρ' H' h=>ih h
   | exit id=>exact ih h
   | ret=>exact ih h
theorem Go.cut {e:AExit} {ρ:DEnv} {H:Mem} (a:List K) (R:DEnv→Mem→Prop) (h1:Go P orc fl sz a e ρ H fun e ρ' H'=>e = .normal∧R ρ' H') (h2 : ∀ ρ' H',R ρ' H'→Go P orc fl sz k .normal ρ' H' Q):Go P orc fl sz (a++k) e ρ H Q:=
 Go.app (fun e ρ H ⟨he,hr⟩=>by subst he;exact h2 ρ H hr) a h1
end
end Go.DM
namespace Go.Proofs.DtT
open Go Go.DM Go.Proofs.DtF
set_option maxRecDepth 100000
theorem putT_le {most:Int} {l:List Rw} (hr:RiseB Rw.key l) {r:Rw} : (putT most l r).1.length≤l.length+1:=by
 unfold putT
 split
 ·simp
 ·split
  ·split
   ·rw [lenK_put hr];split<;>omega
   ·simp
  ·split
   ·split
    ·rw [lenK_put (riseK_drop hr _),lenK_drop hr];split<;>split<;>omega
    ·simp
   ·rw [lenK_put hr];split<;>omega
theorem swC_le {now age:Int} {ps:List ByteArray} {ls:List (List Rw)} {B:Nat} (h : ∀ m∈ls,m.length≤B) : ∀ i,∀ m∈(swC now age ps ls i).1,m.length≤B
 | 0=>h
 | i+1=>fun m hm=>by
  rw [swC] at hm
  rcases List.mem_or_eq_of_mem_set hm with hm | rfl
  ·exact swC_le h i m hm
  ·refine Nat.le_trans keptX_sub.length_le ?_
   rw [List.getD_eq_getElem?_getD]
   rcases Nat.lt_or_ge i ls.length with h1 | h1
   ·rw [List.getElem?_eq_getElem h1]
    exact h _ (List.getElem_mem h1)
   ·rw [List.getElem?_eq_none h1]
    exact Nat.zero_le _
def PlayR (S:Mem) (l:List Ac8) (a:Nat) (x:Ac8) (i mo:Nat) (own:ByteArray) (ps zs:List ByteArray) (most:Int) (ρ:DEnv) (M:Mem):Prop:=
 ∃ c w t,WfE ρ [(2,.sl none 10 l.length (acs8C l)),(7,.ptr c 0),(10,.ptr mo 0),(11,.int .i64 (i:Int)),(12,.ptr a 0)]∧PlayC S M c mo own ps zs most w t∧objAt M a=some x.c ∧ ∀ m∈rowsOf t,m.length≤i+1
set_option maxHeartbeats 16000000 in
theorem lawChain (own:ByteArray) (most:Int) (l:List Ac8) (S:Mem):CallD Tryz.prog O 5 [.str own,.int .i64 most,.sl none 10 l.length (acs8C l)] S fun d S'=>S'=S∧d = .bool true:=by
 refine CallD.e Tryz.func5 rfl Tryz.ntmps5 (by rfl) ?_
 by_cases h100:100<own.size
 ·repeat' (first|refine Go.a rfl ?_|refine Go.rg ?_|refine GoR.nil ?_|refine Go.ret ?_|refine Go.b rfl ?_|refine Go.rgS dmx (by decide) ?_|refine Go.rgD (id:=16) [3] (fun _=>True) dmx (by decide) 4 (by decide) (by trivial) ?_|refine Go.rgF (id:=26) 10 [5,6] [0,2] (fun _=>True) dmx (by decide) 6 (by decide) (by decide) rfl rfl rfl rfl dze76 (by simp [AM.scalarV,Value.cells]) (by trivial) ?_|refine Go.rgD (id:=43) [12,14] (fun _=>True) dmx (by decide) 15 (by decide) (by trivial) ?_|refine Go.rgF (id:=48) 12 [8] [] (fun _=>True) dmx (by decide) 8 (by decide) (by decide) rfl rfl rfl rfl dze44 (by simp [AM.scalarV,Value.cells]) (by trivial) ?_|refine Go.rgD (id:=49) [6] (fun _=>True) dmx (by decide) 7 (by decide) (by trivial) ?_|refine Go.rgD (id:=54) [9,13] (fun _=>True) dmx (by decide) 14 (by decide) (by trivial) ?_|refine GoW.nil rfl ?_|((first|refine GoR.o (by rfl) (by rfl) ?_|refine GoW.o (by rfl) (by rfl) ?_|refine GoW.rd (by rfl) (by rfl) ?_);(conv=>arg 1;simp only [G,Z,Y,Gx,un_neg,cutD,decide_true,decide_false,simprocAttr,fb2,fb3,fb4,fb9,fb28,fb30,fb32,fb33,fb35,fb41,fb42,fb44,fb51,fb62,fb70,fb71,fb74,fb76,fb80,show decide (100<(own.size:Int))=true by simp;omega]);first|show GoR ..|(show _∧GoW ..;refine ⟨by exact fun _=>trivial,?_⟩)|(show _∧_∧_∧GoW ..;refine ⟨rfl,by trivial,(fun H _=>by simp only [G,Z,Y,Gx,un_neg,cutD,decide_true,decide_false,simprocAttr,fb2,fb3,fb4,fb9,fb28,fb30,fb32,fb33,fb35,fb41,fb42,fb44,fb51,fb62,fb70,fb71,fb74,fb76,fb80,show decide (100<(own.size:Int))=true by simp;omega]),?_⟩))|(refine GoW.c c29 (by rfl) (by rfl) rfl ?_;(refine (known18 _).ret ?_);refine ⟨by exact fun _=>trivial,?_⟩)|(refine GoR.c c29 (by rfl) (by rfl) rfl ?_;(refine (known18 _).ret ?_))|refine GoR.s (by rfl) rfl rfl ?_|refine GoW.s (by rfl) rfl rfl (by exact fun _=>trivial) ?_|(refine GoR.splitG rfl (fun hc => ?_) (fun hc => ?_)<;>simp only [hc])|refine Go.condB rfl (fun hc => ?_) (fun hc => ?_))
  refine ⟨(by first | exact .inl rfl | exact .inr rfl),fin ?_⟩
  rw [resD_tmp (fn:=Tryz.f5) rfl]
  simp only [optThen_some,resultD_tmp,resultD_cell,G,Z,Y,Gx,un_neg,cutD,decide_true,decide_false,simprocAttr,fb2,fb3,fb4,fb9,fb28,fb30,fb32,fb33,fb35,fb41,fb42,fb44,fb51,fb62,fb70,fb71,fb74,fb76,fb80]
  exact ⟨_,[],by simp,.bool,rfl⟩
 have d100:decide (100<(own.size:Int))=false:=by simp;omega
 by_cases h60:60<l.length
 ·repeat' (first|refine Go.a rfl ?_|refine Go.rg ?_|refine GoR.nil ?_|refine Go.ret ?_|refine Go.b rfl ?_|refine Go.rgS dmx (by decide) ?_|refine Go.rgD (id:=16) [3] (fun _=>True) dmx (by decide) 4 (by decide) (by trivial) ?_|refine Go.rgF (id:=26) 10 [5,6] [0,2] (fun _=>True) dmx (by decide) 6 (by decide) (by decide) rfl rfl rfl rfl dze76 (by simp [AM.scalarV,Value.cells]) (by trivial) ?_|refine Go.rgD (id:=43) [12,14] (fun _=>True) dmx (by decide) 15 (by decide) (by trivial) ?_|refine Go.rgF (id:=48) 12 [8] [] (fun _=>True) dmx (by decide) 8 (by decide) (by decide) rfl rfl rfl rfl dze44 (by simp [AM.scalarV,Value.cells]) (by trivial) ?_|refine Go.rgD (id:=49) [6] (fun _=>True) dmx (by decide) 7 (by decide) (by trivial) ?_|refine Go.rgD (id:=54) [9,13] (fun _=>True) dmx (by decide) 14 (by decide) (by trivial) ?_|refine GoW.nil rfl ?_|((first|refine GoR.o (by rfl) (by rfl) ?_|refine GoW.o (by rfl) (by rfl) ?_|refine GoW.rd (by rfl) (by rfl) ?_);(conv=>arg 1;simp only [G,Z,Y,Gx,un_neg,cutD,decide_true,decide_false,simprocAttr,fb2,fb3,fb4,fb9,fb28,fb30,fb32,fb33,fb35,fb41,fb42,fb44,fb51,fb62,fb70,fb71,fb74,fb76,fb80,d100,show decide (60<(l.length:Int))=true by simp;omega]);first|show GoR ..|(show _∧GoW ..;refine ⟨by exact fun _=>trivial,?_⟩)|(show _∧_∧_∧GoW ..;refine ⟨rfl,by trivial,(fun H _=>by simp only [G,Z,Y,Gx,un_neg,cutD,decide_true,decide_false,simprocAttr,fb2,fb3,fb4,fb9,fb28,fb30,fb32,fb33,fb35,fb41,fb42,fb44,fb51,fb62,fb70,fb71,fb74,fb76,fb80,d100,show decide (60<(l.length:Int))=true by simp;omega]),?_⟩))|(refine GoW.c c29 (by rfl) (by rfl) rfl ?_;(refine (known18 _).ret ?_);refine ⟨by exact fun _=>trivial,?_⟩)|(refine GoR.c c29 (by rfl) (by rfl) rfl ?_;(refine (known18 _).ret ?_))|refine GoR.s (by rfl) rfl rfl ?_|refine GoW.s (by rfl) rfl rfl (by exact fun _=>trivial) ?_|(refine GoR.splitG rfl (fun hc => ?_) (fun hc => ?_)<;>simp only [hc])|refine Go.condB rfl (fun hc => ?_) (fun hc => ?_))
  refine ⟨(by first | exact .inl rfl | exact .inr rfl),fin ?_⟩
  rw [resD_tmp (fn:=Tryz.f5) rfl]
  simp only [optThen_some,resultD_tmp,resultD_cell,G,Z,Y,Gx,un_neg,cutD,decide_true,decide_false,simprocAttr,fb2,fb3,fb4,fb9,fb28,fb30,fb32,fb33,fb35,fb41,fb42,fb44,fb51,fb62,fb70,fb71,fb74,fb76,fb80]
  exact ⟨_,[],by simp,.bool,rfl⟩
 have d60:decide (60<(l.length:Int))=false:=by simp;omega
 have hnode:=fun S=>refNode own (by omega) S
 cases hno:pathOk own with
 | false=>
  rw [hno] at hnode
  have hn0:=fun S=>chNew0 own (by omega) (node_no hno) most S
  repeat' (first|refine Go.a rfl ?_|refine Go.rg ?_|refine GoR.nil ?_|refine Go.ret ?_|refine Go.b rfl ?_|refine Go.rgS dmx (by decide) ?_|refine Go.rgD (id:=16) [3] (fun _=>True) dmx (by decide) 4 (by decide) (by trivial) ?_|refine Go.rgF (id:=26) 10 [5,6] [0,2] (fun _=>True) dmx (by decide) 6 (by decide) (by decide) rfl rfl rfl rfl dze76 (by simp [AM.scalarV,Value.cells]) (by trivial) ?_|refine Go.rgD (id:=43) [12,14] (fun _=>True) dmx (by decide) 15 (by decide) (by trivial) ?_|refine Go.rgF (id:=48) 12 [8] [] (fun _=>True) dmx (by decide) 8 (by decide) (by decide) rfl rfl rfl rfl dze44 (by simp [AM.scalarV,Value.cells]) (by trivial) ?_|refine Go.rgD (id:=49) [6] (fun _=>True) dmx (by decide) 7 (by decide) (by trivial) ?_|refine Go.rgD (id:=54) [9,13] (fun _=>True) dmx (by decide) 14 (by decide) (by trivial) ?_|refine GoW.nil rfl ?_|((first|refine GoR.o (by rfl) (by rfl) ?_|refine GoW.o (by rfl) (by rfl) ?_|refine GoW.rd (by rfl) (by rfl) ?_);(conv=>arg 1;simp only [G,Z,Y,Gx,un_neg,cutD,decide_true,decide_false,simprocAttr,fb2,fb3,fb4,fb9,fb28,fb30,fb32,fb33,fb35,fb41,fb42,fb44,fb51,fb62,fb70,fb71,fb74,fb76,fb80,d100,d60,bne_self_eq_false]);first|show GoR ..|(show _∧GoW ..;refine ⟨by exact fun _=>trivial,?_⟩)|(show _∧_∧_∧GoW ..;refine ⟨rfl,by trivial,(fun H _=>by simp only [G,Z,Y,Gx,un_neg,cutD,decide_true,decide_false,simprocAttr,fb2,fb3,fb4,fb9,fb28,fb30,fb32,fb33,fb35,fb41,fb42,fb44,fb51,fb62,fb70,fb71,fb74,fb76,fb80,d100,d60,bne_self_eq_false]),?_⟩))|(refine GoW.c c29 (by rfl) (by rfl) rfl ?_;(refine (known18 _).ret ?_);refine ⟨by exact fun _=>trivial,?_⟩)|(refine GoR.c c29 (by rfl) (by rfl) rfl ?_;(refine (known18 _).ret ?_))|(refine GoW.c c30 (by rfl) (by rfl) rfl ?_;(refine (hn0 _).ret ?_);refine ⟨by exact fun _=>trivial,?_⟩)|(refine GoR.c c30 (by rfl) (by rfl) rfl ?_;(refine (hn0 _).ret ?_))|(refine GoW.c c31 (by rfl) (by rfl) rfl ?_;(refine (hnode _).ret ?_);refine ⟨by exact fun _=>trivial,?_⟩)|(refine GoR.c c31 (by rfl) (by rfl) rfl ?_;(refine (hnode _).ret ?_))|refine GoR.s (by rfl) rfl rfl ?_|refine GoW.s (by rfl) rfl rfl (by exact fun _=>trivial) ?_|(refine GoR.splitG rfl (fun hc => ?_) (fun hc => ?_)<;>simp only [hc])|refine Go.condB rfl (fun hc => ?_) (fun hc => ?_))
  refine ⟨(by first | exact .inl rfl | exact .inr rfl),fin ?_⟩
  rw [resD_tmp (fn:=Tryz.f5) rfl]
  simp only [optThen_some,resultD_tmp,resultD_cell,G,Z,Y,Gx,un_neg,cutD,decide_true,decide_false,simprocAttr,fb2,fb3,fb4,fb9,fb28,fb30,fb32,fb33,fb35,fb41,fb42,fb44,fb51,fb62,fb70,fb71,fb74,fb76,fb80]
  exact ⟨_,[],by simp,.bool,rfl⟩
 | true=>
 rw [hno] at hnode
 obtain ⟨hpr,hp0⟩:=node_yes hno
 by_cases hm:1≤most∧most≤64
 rotate_left
 ·have hn1:=fun S=>chNew1 own (by omega) hpr hp0 hm S
  by_cases hm1:most<1
  ·repeat' (first|refine Go.a rfl ?_|refine Go.rg ?_|refine GoR.nil ?_|refine Go.ret ?_|refine Go.b rfl ?_|refine Go.rgS dmx (by decide) ?_|refine Go.rgD (id:=16) [3] (fun _=>True) dmx (by decide) 4 (by decide) (by trivial) ?_|refine Go.rgF (id:=26) 10 [5,6] [0,2] (fun _=>True) dmx (by decide) 6 (by decide) (by decide) rfl rfl rfl rfl dze76 (by simp [AM.scalarV,Value.cells]) (by trivial) ?_|refine Go.rgD (id:=43) [12,14] (fun _=>True) dmx (by decide) 15 (by decide) (by trivial) ?_|refine Go.rgF (id:=48) 12 [8] [] (fun _=>True) dmx (by decide) 8 (by decide) (by decide) rfl rfl rfl rfl dze44 (by simp [AM.scalarV,Value.cells]) (by trivial) ?_|refine Go.rgD (id:=49) [6] (fun _=>True) dmx (by decide) 7 (by decide) (by trivial) ?_|refine Go.rgD (id:=54) [9,13] (fun _=>True) dmx (by decide) 14 (by decide) (by trivial) ?_|refine GoW.nil rfl ?_|((first|refine GoR.o (by rfl) (by rfl) ?_|refine GoW.o (by rfl) (by rfl) ?_|refine GoW.rd (by rfl) (by rfl) ?_);(conv=>arg 1;simp only [G,Z,Y,Gx,un_neg,cutD,decide_true,decide_false,simprocAttr,fb2,fb3,fb4,fb9,fb28,fb30,fb32,fb33,fb35,fb41,fb42,fb44,fb51,fb62,fb70,fb71,fb74,fb76,fb80,d100,d60,decide_eq_true hm1,bne_self_eq_false]);first|show GoR ..|(show _∧GoW ..;refine ⟨by exact fun _=>trivial,?_⟩)|(show _∧_∧_∧GoW ..;refine ⟨rfl,by trivial,(fun H _=>by simp only [G,Z,Y,Gx,un_neg,cutD,decide_true,decide_false,simprocAttr,fb2,fb3,fb4,fb9,fb28,fb30,fb32,fb33,fb35,fb41,fb42,fb44,fb51,fb62,fb70,fb71,fb74,fb76,fb80,d100,d60,decide_eq_true hm1,bne_self_eq_false]),?_⟩))|(refine GoW.c c29 (by rfl) (by rfl) rfl ?_;(refine (known18 _).ret ?_);refine ⟨by exact fun _=>trivial,?_⟩)|(refine GoR.c c29 (by rfl) (by rfl) rfl ?_;(refine (known18 _).ret ?_))|(refine GoW.c c30 (by rfl) (by rfl) rfl ?_;(refine (hn1 _).ret ?_);refine ⟨by exact fun _=>trivial,?_⟩)|(refine GoR.c c30 (by rfl) (by rfl) rfl ?_;(refine (hn1 _).ret ?_))|(refine GoW.c c31 (by rfl) (by rfl) rfl ?_;(refine (hnode _).ret ?_);refine ⟨by exact fun _=>trivial,?_⟩)|(refine GoR.c c31 (by rfl) (by rfl) rfl ?_;(refine (hnode _).ret ?_))|refine GoR.s (by rfl) rfl rfl ?_|refine GoW.s (by rfl) rfl rfl (by exact fun _=>trivial) ?_|(refine GoR.splitG rfl (fun hc => ?_) (fun hc => ?_)<;>simp only [hc])|refine Go.condB rfl (fun hc => ?_) (fun hc => ?_))
   refine ⟨(by first | exact .inl rfl | exact .inr rfl),fin ?_⟩
   rw [resD_tmp (fn:=Tryz.f5) rfl]
   simp only [optThen_some,resultD_tmp,resultD_cell,G,Z,Y,Gx,un_neg,cutD,decide_true,decide_false,simprocAttr,fb2,fb3,fb4,fb9,fb28,fb30,fb32,fb33,fb35,fb41,fb42,fb44,fb51,fb62,fb70,fb71,fb74,fb76,fb80]
   exact ⟨_,[],by simp,.bool,rfl⟩
  ·repeat' (first|refine Go.a rfl ?_|refine Go.rg ?_|refine GoR.nil ?_|refine Go.ret ?_|refine Go.b rfl ?_|refine Go.rgS dmx (by decide) ?_|refine Go.rgD (id:=16) [3] (fun _=>True) dmx (by decide) 4 (by decide) (by trivial) ?_|refine Go.rgF (id:=26) 10 [5,6] [0,2] (fun _=>True) dmx (by decide) 6 (by decide) (by decide) rfl rfl rfl rfl dze76 (by simp [AM.scalarV,Value.cells]) (by trivial) ?_|refine Go.rgD (id:=43) [12,14] (fun _=>True) dmx (by decide) 15 (by decide) (by trivial) ?_|refine Go.rgF (id:=48) 12 [8] [] (fun _=>True) dmx (by decide) 8 (by decide) (by decide) rfl rfl rfl rfl dze44 (by simp [AM.scalarV,Value.cells]) (by trivial) ?_|refine Go.rgD (id:=49) [6] (fun _=>True) dmx (by decide) 7 (by decide) (by trivial) ?_|refine Go.rgD (id:=54) [9,13] (fun _=>True) dmx (by decide) 14 (by decide) (by trivial) ?_|refine GoW.nil rfl ?_|((first|refine GoR.o (by rfl) (by rfl) ?_|refine GoW.o (by rfl) (by rfl) ?_|refine GoW.rd (by rfl) (by rfl) ?_);(conv=>arg 1;simp only [G,Z,Y,Gx,un_neg,cutD,decide_true,decide_false,simprocAttr,fb2,fb3,fb4,fb9,fb28,fb30,fb32,fb33,fb35,fb41,fb42,fb44,fb51,fb62,fb70,fb71,fb74,fb76,fb80,d100,d60,decide_eq_false hm1,show decide (64<most)=true by simp;omega,bne_self_eq_false]);first|show GoR ..|(show _∧GoW ..;refine ⟨by exact fun _=>trivial,?_⟩)|(show _∧_∧_∧GoW ..;refine ⟨rfl,by trivial,(fun H _=>by simp only [G,Z,Y,Gx,un_neg,cutD,decide_true,decide_false,simprocAttr,fb2,fb3,fb4,fb9,fb28,fb30,fb32,fb33,fb35,fb41,fb42,fb44,fb51,fb62,fb70,fb71,fb74,fb76,fb80,d100,d60,decide_eq_false hm1,show decide (64<most)=true by simp;omega,bne_self_eq_false]),?_⟩))|(refine GoW.c c29 (by rfl) (by rfl) rfl ?_;(refine (known18 _).ret ?_);refine ⟨by exact fun _=>trivial,?_⟩)|(refine GoR.c c29 (by rfl) (by rfl) rfl ?_;(refine (known18 _).ret ?_))|(refine GoW.c c30 (by rfl) (by rfl) rfl ?_;(refine (hn1 _).ret ?_);refine ⟨by exact fun _=>trivial,?_⟩)|(refine GoR.c c30 (by rfl) (by rfl) rfl ?_;(refine (hn1 _).ret ?_))|(refine GoW.c c31 (by rfl) (by rfl) rfl ?_;(refine (hnode _).ret ?_);refine ⟨by exact fun _=>trivial,?_⟩)|(refine GoR.c c31 (by rfl) (by rfl) rfl ?_;(refine (hnode _).ret ?_))|refine GoR.s (by rfl) rfl rfl ?_|refine GoW.s (by rfl) rfl rfl (by exact fun _=>trivial) ?_|(refine GoR.splitG rfl (fun hc => ?_) (fun hc => ?_)<;>simp only [hc])|refine Go.condB rfl (fun hc => ?_) (fun hc => ?_))
   refine ⟨(by first | exact .inl rfl | exact .inr rfl),fin ?_⟩
   rw [resD_tmp (fn:=Tryz.f5) rfl]
   simp only [optThen_some,resultD_tmp,resultD_cell,G,Z,Y,Gx,un_neg,cutD,decide_true,decide_false,simprocAttr,fb2,fb3,fb4,fb9,fb28,fb30,fb32,fb33,fb35,fb41,fb42,fb44,fb51,fb62,fb70,fb71,fb74,fb76,fb80]
   exact ⟨_,[],by simp,.bool,rfl⟩
 obtain ⟨hm1,hm64⟩:=hm
 have hnew:=ch0New own (by omega) hpr hp0 hm1 hm64 (S0:=S) .refl
 have hrn:=fun S=>refNewChain own (by omega) most S
 have hz:=fun i h=>zones_find (partsP_ok own) (i:=i) h
 have hzl:=zonesP_len (partsP own)
 have h4:=partsP_len own
 have htx:=fun S=>texts6 (orc:=O) (zonesP (partsP own)) (by omega) S
 generalize hps:partsP own=ps at *
 generalize zonesP ps=zs at *
 unfold strsD refC at *
 repeat' (first|refine Go.a rfl ?_|refine Go.rg ?_|refine GoR.nil ?_|refine Go.ret ?_|refine Go.b rfl ?_|refine Go.rgS dmx (by decide) ?_|refine Go.rgF (id:=26) 10 [5,6] [0,2] (fun _=>True) dmx (by decide) 6 (by decide) (by decide) rfl rfl rfl rfl dze76 (by simp [AM.scalarV,Value.cells]) (by trivial) ?_|refine Go.rgD (id:=43) [12,14] (fun _=>True) dmx (by decide) 15 (by decide) (by trivial) ?_|refine Go.rgF (id:=48) 12 [8] [] (fun _=>True) dmx (by decide) 8 (by decide) (by decide) rfl rfl rfl rfl dze44 (by simp [AM.scalarV,Value.cells]) (by trivial) ?_|refine Go.rgD (id:=49) [6] (fun _=>True) dmx (by decide) 7 (by decide) (by trivial) ?_|refine Go.rgD (id:=54) [9,13] (fun _=>True) dmx (by decide) 14 (by decide) (by trivial) ?_|refine GoW.nil rfl ?_|((first|refine GoR.o (by rfl) (by rfl) ?_|refine GoW.o (by rfl) (by rfl) ?_|refine GoW.rd (by rfl) (by rfl) ?_);(conv=>arg 1;simp only [G,Z,Y,Gx,un_neg,cutD,decide_true,decide_false,simprocAttr,fb2,fb3,fb4,fb9,fb28,fb30,fb32,fb33,fb35,fb41,fb42,fb44,fb51,fb62,fb70,fb71,fb74,fb76,fb80,d100,d60,show decide (most<1)=false by simp;omega,show decide (64<most)=false by simp;omega,bne_self_eq_false]);first|show GoR ..|(show _∧GoW ..;refine ⟨by exact fun _=>trivial,?_⟩)|(show _∧_∧_∧GoW ..;refine ⟨rfl,by trivial,(fun H _=>by simp only [G,Z,Y,Gx,un_neg,cutD,decide_true,decide_false,simprocAttr,fb2,fb3,fb4,fb9,fb28,fb30,fb32,fb33,fb35,fb41,fb42,fb44,fb51,fb62,fb70,fb71,fb74,fb76,fb80,d100,d60,show decide (most<1)=false by simp;omega,show decide (64<most)=false by simp;omega,bne_self_eq_false]),?_⟩))|(refine GoW.c c29 (by rfl) (by rfl) rfl ?_;(refine (known18 _).ret ?_);refine ⟨by exact fun _=>trivial,?_⟩)|(refine GoR.c c29 (by rfl) (by rfl) rfl ?_;(refine (known18 _).ret ?_))|(refine GoW.c c30 (by rfl) (by rfl) rfl ?_;(refine hnew.mono ?_;rintro _ S1 ⟨c,w,t,rfl,h1,hr1,hf1⟩);refine ⟨by exact fun _=>trivial,?_⟩)|(refine GoR.c c30 (by rfl) (by rfl) rfl ?_;(refine hnew.mono ?_;rintro _ S1 ⟨c,w,t,rfl,h1,hr1,hf1⟩))|(refine GoW.c c31 (by rfl) (by rfl) rfl ?_;(refine (hnode _).ret ?_);refine ⟨by exact fun _=>trivial,?_⟩)|(refine GoR.c c31 (by rfl) (by rfl) rfl ?_;(refine (hnode _).ret ?_))|refine GoR.s (by rfl) rfl rfl ?_|refine GoW.s (by rfl) rfl rfl (by exact fun _=>trivial) ?_|(refine GoR.splitG rfl (fun hc => ?_) (fun hc => ?_)<;>simp only [hc])|refine Go.condB rfl (fun hc => ?_) (fun hc => ?_))
 have hlt:t.length=ps.length:=h1.at_.p.symm
 have hr1':rowsOf t=zs.map fun _=>[]:=by
  rw [hr1]
  exact List.ext_getElem (by simp [hzl]) fun j h1 h2=>by simp
 have hI0:PlayC S (S1++[.obj [.str own,.sl none 1 zs.length (zs.map .str),.sl none 2 (zs.map fun _=>([]:List Rw)).length (tabsC most (zs.map fun _=>[]))]]) c S1.length own ps zs most w t:=
  ⟨h1.app _,by rw [objAt_app0,hr1',hlt,List.length_map,hzl];rfl,fun hx=>by have:=h1.at_.lt.2 _ hx;omega,h1.fr.len⟩
 have hzn:=fun E=>chZones (orc:=O) (h1.app E).at_
 unfold strsD at hzn
 repeat' (first|refine Go.a rfl ?_|refine Go.rg ?_|refine GoR.nil ?_|refine Go.ret ?_|refine Go.b rfl ?_|refine Go.rgS dmx (by decide) ?_|refine Go.rgD (id:=16) [3] (fun H=>objAt H S1.length=some [.str own,.sl none 1 zs.length (zs.map .str),.sl none 2 (zs.map fun _=>([]:List Rw)).length (tabsC most (zs.map fun _=>[]))]) dmx (by decide) 4 (by decide) (by (simp [objAt])) ?_|refine Go.rgF (id:=26) 10 [5,6] [0,2] (fun H=>objAt H S1.length=some [.str own,.sl none 1 zs.length (zs.map .str),.sl none 2 (zs.map fun _=>([]:List Rw)).length (tabsC most (zs.map fun _=>[]))]) dmx (by decide) 6 (by decide) (by decide) rfl rfl rfl rfl dze76 (by simp [AM.scalarV,Value.cells]) (by (simp [objAt])) ?_|refine Go.rgD (id:=43) [12,14] (fun H=>objAt H S1.length=some [.str own,.sl none 1 zs.length (zs.map .str),.sl none 2 (zs.map fun _=>([]:List Rw)).length (tabsC most (zs.map fun _=>[]))]) dmx (by decide) 15 (by decide) (by (simp [objAt])) ?_|refine Go.rgF (id:=48) 12 [8] [] (fun H=>objAt H S1.length=some [.str own,.sl none 1 zs.length (zs.map .str),.sl none 2 (zs.map fun _=>([]:List Rw)).length (tabsC most (zs.map fun _=>[]))]) dmx (by decide) 8 (by decide) (by decide) rfl rfl rfl rfl dze44 (by simp [AM.scalarV,Value.cells]) (by (simp [objAt])) ?_|refine Go.rgD (id:=49) [6] (fun H=>objAt H S1.length=some [.str own,.sl none 1 zs.length (zs.map .str),.sl none 2 (zs.map fun _=>([]:List Rw)).length (tabsC most (zs.map fun _=>[]))]) dmx (by decide) 7 (by decide) (by (simp [objAt])) ?_|refine Go.rgD (id:=54) [9,13] (fun H=>objAt H S1.length=some [.str own,.sl none 1 zs.length (zs.map .str),.sl none 2 (zs.map fun _=>([]:List Rw)).length (tabsC most (zs.map fun _=>[]))]) dmx (by decide) 14 (by decide) (by (simp [objAt])) ?_|refine GoW.nil rfl ?_|((first|refine GoR.o (by rfl) (by rfl) ?_|refine GoW.o (by rfl) (by rfl) ?_|refine GoW.rd (by rfl) (by rfl) ?_);(conv=>arg 1;simp only [G,Z,Y,Gx,un_neg,cutD,decide_true,decide_false,simprocAttr,fb2,fb3,fb4,fb9,fb28,fb30,fb32,fb33,fb35,fb41,fb42,fb44,fb51,fb62,fb70,fb71,fb74,fb76,fb80]);first|show GoR ..|(show _∧GoW ..;refine ⟨by (first|exact fun h=>absurd h (by decide)|(intro _;(simp [objAt]))),?_⟩)|(show _∧_∧_∧GoW ..;refine ⟨rfl,by (simp [objAt]),(fun H hI=>by (try dsimp only at hI);simp only [G,Z,Y,Gx,un_neg,cutD,decide_true,decide_false,simprocAttr,fb2,fb3,fb4,fb9,fb28,fb30,fb32,fb33,fb35,fb41,fb42,fb44,fb51,fb62,fb70,fb71,fb74,fb76,fb80,hI]),?_⟩))|(refine GoW.c c32 (by rfl) (by rfl) rfl ?_;(refine (hrn _).ret ?_);refine ⟨by (first|exact fun h=>absurd h (by decide)|(intro _;(simp [objAt]))),?_⟩)|(refine GoR.c c32 (by rfl) (by rfl) rfl ?_;(refine (hrn _).ret ?_))|(refine GoW.c c33 (by rfl) (by rfl) rfl ?_;(refine (hzn _).ret ?_);refine ⟨by (first|exact fun h=>absurd h (by decide)|(intro _;(simp [objAt]))),?_⟩)|(refine GoR.c c33 (by rfl) (by rfl) rfl ?_;(refine (hzn _).ret ?_))|(refine GoW.c c17 (by rfl) (by rfl) rfl ?_;(refine (htx _).ret ?_);refine ⟨by (first|exact fun h=>absurd h (by decide)|(intro _;(simp [objAt]))),?_⟩)|(refine GoR.c c17 (by rfl) (by rfl) rfl ?_;(refine (htx _).ret ?_))|refine GoR.s (by rfl) rfl rfl ?_|refine GoW.s (by rfl) rfl rfl (by (first|exact fun h=>absurd h (by decide)|(intro _;(simp [objAt])))) ?_|(refine GoR.splitG rfl (fun hc => ?_) (fun hc => ?_)<;>simp only [hc])|refine Go.condB rfl (fun hc => ?_) (fun hc => ?_))
 have hlt0 : ∀ m∈rowsOf t,m.length≤0:=fun m hm=>by
  rw [hr1'] at hm
  obtain ⟨_,_,rfl⟩:=List.mem_map.1 hm
  exact Nat.le_refl _
 clear hr1 hr1' hnew hrn hzn hnode h1 hf1
 generalize S1.length=mo at *
 refine Go.keep [(2,.sl none 10 l.length (acs8C l)),(7,.ptr c 0),(10,.ptr mo 0),(11,.int .i64 ((0:Nat):Int))] (.cons .refl (.cons .refl (.cons .refl (.cons .refl (.nil))))) ?_
 refine Go.while (α:=Nat×Nat×Option Nat×Tl×Mem) (fun x=>l.length - x.1) (fun x=>[(2,.sl none 10 l.length (acs8C l)),(7,.ptr x.2.1 0),(10,.ptr mo 0),(11,.int .i64 (x.1:Int))]) (fun x=>x.2.2.2.2)
  (fun x=>x.1≤l.length∧PlayC S x.2.2.2.2 x.2.1 mo own ps zs most x.2.2.1 x.2.2.2.1 ∧ ∀ m∈rowsOf x.2.2.2.1,m.length≤x.1) ?_ (0,c,w,t,_) ⟨Nat.zero_le _,hI0,hlt0⟩
 clear hI0 hlt0 hlt
 rintro ⟨i,c,w,t,M⟩ ⟨hi,hI,hsm⟩ next
 dsimp only at hi hI hsm next
 have hmo : ∀ E,objAt (M++E) mo=some [.str own,.sl none 1 zs.length (zs.map .str),.sl none 2 t.length (tabsC most (rowsOf t))]:=fun E=>objAt_old hI.m
 by_cases h1:i<l.length
 ·have dl:decide ((i:Int)<(l.length:Int))=true:=by simp;omega
  have a1:=acs8At h1
  obtain ⟨Eg,hEg⟩:=(hI.app [.obj l[i].c]).ch.fr.pre (by simp)
  have hfw:=fun S=>few4 (orc:=O) l[i].r S
  generalize l[i]=x at *
  have hox : ∀ E,objAt (M++(.obj x.c::E)) M.length=some x.c:=fun E=>by simp [objAt]
  by_cases hzz:100<x.z.size
  ·clear next
   simp only [Ac8.c,Rw.c] at *
   repeat' (first|refine Go.a rfl ?_|refine Go.rg ?_|refine GoR.nil ?_|refine Go.ret ?_|refine Go.b rfl ?_|refine Go.rgS dmx (by decide) ?_|refine Go.rgD (id:=16) [3] (fun _=>True) dmx (by decide) 4 (by decide) (by trivial) ?_|refine Go.rgF (id:=26) 10 [5,6] [0,2] (fun _=>True) dmx (by decide) 6 (by decide) (by decide) rfl rfl rfl rfl dze76 (by simp [AM.scalarV,Value.cells]) (by trivial) ?_|refine Go.rgD (id:=43) [12,14] (fun _=>True) dmx (by decide) 15 (by decide) (by trivial) ?_|refine Go.rgF (id:=48) 12 [8] [] (fun _=>True) dmx (by decide) 8 (by decide) (by decide) rfl rfl rfl rfl dze44 (by simp [AM.scalarV,Value.cells]) (by trivial) ?_|refine Go.rgD (id:=49) [6] (fun _=>True) dmx (by decide) 7 (by decide) (by trivial) ?_|refine Go.rgD (id:=54) [9,13] (fun _=>True) dmx (by decide) 14 (by decide) (by trivial) ?_|refine GoW.nil rfl ?_|((first|refine GoR.o (by rfl) (by rfl) ?_|refine GoW.o (by rfl) (by rfl) ?_|refine GoW.rd (by rfl) (by rfl) ?_);(conv=>arg 1;simp only [G,Z,Y,Gx,un_neg,cutD,decide_true,decide_false,simprocAttr,fb2,fb3,fb4,fb9,fb28,fb30,fb32,fb33,fb35,fb41,fb42,fb44,fb51,fb62,fb70,fb71,fb74,fb76,fb80,dl,a1,hox,show decide (100<(x.z.size:Int))=true by simp;omega]);first|show GoR ..|(show _∧GoW ..;refine ⟨by exact fun _=>trivial,?_⟩)|(show _∧_∧_∧GoW ..;refine ⟨rfl,by trivial,(fun H _=>by simp only [G,Z,Y,Gx,un_neg,cutD,decide_true,decide_false,simprocAttr,fb2,fb3,fb4,fb9,fb28,fb30,fb32,fb33,fb35,fb41,fb42,fb44,fb51,fb62,fb70,fb71,fb74,fb76,fb80,dl,a1,hox,show decide (100<(x.z.size:Int))=true by simp;omega]),?_⟩))|(refine GoW.c c9 (by rfl) (by rfl) rfl ?_;(refine (hfw _).ret ?_);refine ⟨by exact fun _=>trivial,?_⟩)|(refine GoR.c c9 (by rfl) (by rfl) rfl ?_;(refine (hfw _).ret ?_))|refine GoR.s (by rfl) rfl rfl ?_|refine GoW.s (by rfl) rfl rfl (by exact fun _=>trivial) ?_|(refine GoR.splitG rfl (fun hc => ?_) (fun hc => ?_)<;>simp only [hc])|refine Go.condB rfl (fun hc => ?_) (fun hc => ?_))
   refine ⟨(by first | exact .inl rfl | exact .inr rfl),fin ?_⟩
   rw [resD_tmp (fn:=Tryz.f5) rfl]
   simp only [optThen_some,resultD_tmp,resultD_cell,G,Z,Y,Gx,un_neg,cutD,decide_true,decide_false,simprocAttr,fb2,fb3,fb4,fb9,fb28,fb30,fb32,fb33,fb35,fb41,fb42,fb44,fb51,fb62,fb70,fb71,fb74,fb76,fb80]
   exact ⟨_,Eg,hEg,.bool,rfl⟩
  have dz:decide (100<(x.z.size:Int))=false:=by simp;omega
  cases hf:fewR x.r with
  | false=>
   clear next
   rw [hf] at hfw
   simp only [Ac8.c,Rw.c] at *
   repeat' (first|refine Go.a rfl ?_|refine Go.rg ?_|refine GoR.nil ?_|refine Go.ret ?_|refine Go.b rfl ?_|refine Go.rgS dmx (by decide) ?_|refine Go.rgD (id:=16) [3] (fun _=>True) dmx (by decide) 4 (by decide) (by trivial) ?_|refine Go.rgF (id:=26) 10 [5,6] [0,2] (fun _=>True) dmx (by decide) 6 (by decide) (by decide) rfl rfl rfl rfl dze76 (by simp [AM.scalarV,Value.cells]) (by trivial) ?_|refine Go.rgD (id:=43) [12,14] (fun _=>True) dmx (by decide) 15 (by decide) (by trivial) ?_|refine Go.rgF (id:=48) 12 [8] [] (fun _=>True) dmx (by decide) 8 (by decide) (by decide) rfl rfl rfl rfl dze44 (by simp [AM.scalarV,Value.cells]) (by trivial) ?_|refine Go.rgD (id:=49) [6] (fun _=>True) dmx (by decide) 7 (by decide) (by trivial) ?_|refine Go.rgD (id:=54) [9,13] (fun _=>True) dmx (by decide) 14 (by decide) (by trivial) ?_|refine GoW.nil rfl ?_|((first|refine GoR.o (by rfl) (by rfl) ?_|refine GoW.o (by rfl) (by rfl) ?_|refine GoW.rd (by rfl) (by rfl) ?_);(conv=>arg 1;simp only [G,Z,Y,Gx,un_neg,cutD,decide_true,decide_false,simprocAttr,fb2,fb3,fb4,fb9,fb28,fb30,fb32,fb33,fb35,fb41,fb42,fb44,fb51,fb62,fb70,fb71,fb74,fb76,fb80,dl,a1,hox,dz]);first|show GoR ..|(show _∧GoW ..;refine ⟨by exact fun _=>trivial,?_⟩)|(show _∧_∧_∧GoW ..;refine ⟨rfl,by trivial,(fun H _=>by simp only [G,Z,Y,Gx,un_neg,cutD,decide_true,decide_false,simprocAttr,fb2,fb3,fb4,fb9,fb28,fb30,fb32,fb33,fb35,fb41,fb42,fb44,fb51,fb62,fb70,fb71,fb74,fb76,fb80,dl,a1,hox,dz]),?_⟩))|(refine GoW.c c9 (by rfl) (by rfl) rfl ?_;(refine (hfw _).ret ?_);refine ⟨by exact fun _=>trivial,?_⟩)|(refine GoR.c c9 (by rfl) (by rfl) rfl ?_;(refine (hfw _).ret ?_))|refine GoR.s (by rfl) rfl rfl ?_|refine GoW.s (by rfl) rfl rfl (by exact fun _=>trivial) ?_|(refine GoR.splitG rfl (fun hc => ?_) (fun hc => ?_)<;>simp only [hc])|refine Go.condB rfl (fun hc => ?_) (fun hc => ?_))
   refine ⟨(by first | exact .inl rfl | exact .inr rfl),fin ?_⟩
   rw [resD_tmp (fn:=Tryz.f5) rfl]
   simp only [optThen_some,resultD_tmp,resultD_cell,G,Z,Y,Gx,un_neg,cutD,decide_true,decide_false,simprocAttr,fb2,fb3,fb4,fb9,fb28,fb30,fb32,fb33,fb35,fb41,fb42,fb44,fb51,fb62,fb70,fb71,fb74,fb76,fb80]
   exact ⟨_,Eg,hEg,.bool,rfl⟩
  | true=>
  rw [hf] at hfw
  obtain ⟨hfr,hor⟩:=fewR_ok hf
  by_cases hnw:1099511627776<x.now
  ·clear next
   simp only [Ac8.c,Rw.c] at *
   repeat' (first|refine Go.a rfl ?_|refine Go.rg ?_|refine GoR.nil ?_|refine Go.ret ?_|refine Go.b rfl ?_|refine Go.rgS dmx (by decide) ?_|refine Go.rgD (id:=16) [3] (fun _=>True) dmx (by decide) 4 (by decide) (by trivial) ?_|refine Go.rgF (id:=26) 10 [5,6] [0,2] (fun _=>True) dmx (by decide) 6 (by decide) (by decide) rfl rfl rfl rfl dze76 (by simp [AM.scalarV,Value.cells]) (by trivial) ?_|refine Go.rgD (id:=43) [12,14] (fun _=>True) dmx (by decide) 15 (by decide) (by trivial) ?_|refine Go.rgF (id:=48) 12 [8] [] (fun _=>True) dmx (by decide) 8 (by decide) (by decide) rfl rfl rfl rfl dze44 (by simp [AM.scalarV,Value.cells]) (by trivial) ?_|refine Go.rgD (id:=49) [6] (fun _=>True) dmx (by decide) 7 (by decide) (by trivial) ?_|refine Go.rgD (id:=54) [9,13] (fun _=>True) dmx (by decide) 14 (by decide) (by trivial) ?_|refine GoW.nil rfl ?_|((first|refine GoR.o (by rfl) (by rfl) ?_|refine GoW.o (by rfl) (by rfl) ?_|refine GoW.rd (by rfl) (by rfl) ?_);(conv=>arg 1;simp only [G,Z,Y,Gx,un_neg,cutD,decide_true,decide_false,simprocAttr,fb2,fb3,fb4,fb9,fb28,fb30,fb32,fb33,fb35,fb41,fb42,fb44,fb51,fb62,fb70,fb71,fb74,fb76,fb80,dl,a1,hox,dz,decide_eq_true hnw]);first|show GoR ..|(show _∧GoW ..;refine ⟨by exact fun _=>trivial,?_⟩)|(show _∧_∧_∧GoW ..;refine ⟨rfl,by trivial,(fun H _=>by simp only [G,Z,Y,Gx,un_neg,cutD,decide_true,decide_false,simprocAttr,fb2,fb3,fb4,fb9,fb28,fb30,fb32,fb33,fb35,fb41,fb42,fb44,fb51,fb62,fb70,fb71,fb74,fb76,fb80,dl,a1,hox,dz,decide_eq_true hnw]),?_⟩))|(refine GoW.c c9 (by rfl) (by rfl) rfl ?_;(refine (hfw _).ret ?_);refine ⟨by exact fun _=>trivial,?_⟩)|(refine GoR.c c9 (by rfl) (by rfl) rfl ?_;(refine (hfw _).ret ?_))|refine GoR.s (by rfl) rfl rfl ?_|refine GoW.s (by rfl) rfl rfl (by exact fun _=>trivial) ?_|(refine GoR.splitG rfl (fun hc => ?_) (fun hc => ?_)<;>simp only [hc])|refine Go.condB rfl (fun hc => ?_) (fun hc => ?_))
   refine ⟨(by first | exact .inl rfl | exact .inr rfl),fin ?_⟩
   rw [resD_tmp (fn:=Tryz.f5) rfl]
   simp only [optThen_some,resultD_tmp,resultD_cell,G,Z,Y,Gx,un_neg,cutD,decide_true,decide_false,simprocAttr,fb2,fb3,fb4,fb9,fb28,fb30,fb32,fb33,fb35,fb41,fb42,fb44,fb51,fb62,fb70,fb71,fb74,fb76,fb80]
   exact ⟨_,Eg,hEg,.bool,rfl⟩
  by_cases hag:1099511627776<x.age
  ·clear next
   simp only [Ac8.c,Rw.c] at *
   repeat' (first|refine Go.a rfl ?_|refine Go.rg ?_|refine GoR.nil ?_|refine Go.ret ?_|refine Go.b rfl ?_|refine Go.rgS dmx (by decide) ?_|refine Go.rgD (id:=16) [3] (fun _=>True) dmx (by decide) 4 (by decide) (by trivial) ?_|refine Go.rgF (id:=26) 10 [5,6] [0,2] (fun _=>True) dmx (by decide) 6 (by decide) (by decide) rfl rfl rfl rfl dze76 (by simp [AM.scalarV,Value.cells]) (by trivial) ?_|refine Go.rgD (id:=43) [12,14] (fun _=>True) dmx (by decide) 15 (by decide) (by trivial) ?_|refine Go.rgF (id:=48) 12 [8] [] (fun _=>True) dmx (by decide) 8 (by decide) (by decide) rfl rfl rfl rfl dze44 (by simp [AM.scalarV,Value.cells]) (by trivial) ?_|refine Go.rgD (id:=49) [6] (fun _=>True) dmx (by decide) 7 (by decide) (by trivial) ?_|refine Go.rgD (id:=54) [9,13] (fun _=>True) dmx (by decide) 14 (by decide) (by trivial) ?_|refine GoW.nil rfl ?_|((first|refine GoR.o (by rfl) (by rfl) ?_|refine GoW.o (by rfl) (by rfl) ?_|refine GoW.rd (by rfl) (by rfl) ?_);(conv=>arg 1;simp only [G,Z,Y,Gx,un_neg,cutD,decide_true,decide_false,simprocAttr,fb2,fb3,fb4,fb9,fb28,fb30,fb32,fb33,fb35,fb41,fb42,fb44,fb51,fb62,fb70,fb71,fb74,fb76,fb80,dl,a1,hox,dz,decide_eq_false hnw,decide_eq_true hag]);first|show GoR ..|(show _∧GoW ..;refine ⟨by exact fun _=>trivial,?_⟩)|(show _∧_∧_∧GoW ..;refine ⟨rfl,by trivial,(fun H _=>by simp only [G,Z,Y,Gx,un_neg,cutD,decide_true,decide_false,simprocAttr,fb2,fb3,fb4,fb9,fb28,fb30,fb32,fb33,fb35,fb41,fb42,fb44,fb51,fb62,fb70,fb71,fb74,fb76,fb80,dl,a1,hox,dz,decide_eq_false hnw,decide_eq_true hag]),?_⟩))|(refine GoW.c c9 (by rfl) (by rfl) rfl ?_;(refine (hfw _).ret ?_);refine ⟨by exact fun _=>trivial,?_⟩)|(refine GoR.c c9 (by rfl) (by rfl) rfl ?_;(refine (hfw _).ret ?_))|refine GoR.s (by rfl) rfl rfl ?_|refine GoW.s (by rfl) rfl rfl (by exact fun _=>trivial) ?_|(refine GoR.splitG rfl (fun hc => ?_) (fun hc => ?_)<;>simp only [hc])|refine Go.condB rfl (fun hc => ?_) (fun hc => ?_))
   refine ⟨(by first | exact .inl rfl | exact .inr rfl),fin ?_⟩
   rw [resD_tmp (fn:=Tryz.f5) rfl]
   simp only [optThen_some,resultD_tmp,resultD_cell,G,Z,Y,Gx,un_neg,cutD,decide_true,decide_false,simprocAttr,fb2,fb3,fb4,fb9,fb28,fb30,fb32,fb33,fb35,fb41,fb42,fb44,fb51,fb62,fb70,fb71,fb74,fb76,fb80]
   exact ⟨_,Eg,hEg,.bool,rfl⟩
  clear hEg
  have dn:=decide_eq_false hnw
  have da:=decide_eq_false hag
  have hrl:(rowsOf t).length=t.length:=by simp [rowsOf]
  have hmc:mo≠c:=fun e=>by
   have h2:=hI.m
   have h3:=hI.ch.at_.obj
   rw [e,h3] at h2
   simp [strsD] at h2
  have hxl:M.length≠mo:=fun e=>by have:=objAt_lt hI.m;omega
  have hsm1 : ∀ m∈rowsOf t,m.length≤i+1:=fun m hm=>Nat.le_succ_of_le (hsm m hm)
  have hzt:zs.length=t.length:=hI.ch.at_.z
  simp only [Ac8.c,Rw.c] at hox a1 hfw
  repeat' (first|refine Go.a rfl ?_|refine Go.rg ?_|refine GoR.nil ?_|refine Go.ret ?_|refine Go.b rfl ?_|refine Go.rgS dmx (by decide) ?_|refine Go.rgD (id:=16) [3] (fun _=>True) dmx (by decide) 4 (by decide) (by trivial) ?_|refine Go.rgF (id:=26) 10 [5,6] [0,2] (fun _=>True) dmx (by decide) 6 (by decide) (by decide) rfl rfl rfl rfl dze76 (by simp [AM.scalarV,Value.cells]) (by trivial) ?_|refine Go.rgD (id:=43) [12,14] (fun _=>True) dmx (by decide) 15 (by decide) (by trivial) ?_|refine Go.rgF (id:=48) 12 [8] [] (fun _=>True) dmx (by decide) 8 (by decide) (by decide) rfl rfl rfl rfl dze44 (by simp [AM.scalarV,Value.cells]) (by trivial) ?_|refine Go.rgD (id:=49) [6] (fun _=>True) dmx (by decide) 7 (by decide) (by trivial) ?_|refine Go.rgD (id:=54) [9,13] (fun _=>True) dmx (by decide) 14 (by decide) (by trivial) ?_|refine GoW.nil rfl ?_|((first|refine GoR.o (by rfl) (by rfl) ?_|refine GoW.o (by rfl) (by rfl) ?_|refine GoW.rd (by rfl) (by rfl) ?_);(conv=>arg 1;simp only [G,Z,Y,Gx,un_neg,cutD,decide_true,decide_false,simprocAttr,fb2,fb3,fb4,fb9,fb28,fb30,fb32,fb33,fb35,fb41,fb42,fb44,fb51,fb62,fb70,fb71,fb74,fb76,fb80,dl,a1,hox,dz,dn,da]);first|show GoR ..|(show _∧GoW ..;refine ⟨by exact fun _=>trivial,?_⟩)|(show _∧_∧_∧GoW ..;refine ⟨rfl,by trivial,(fun H _=>by simp only [G,Z,Y,Gx,un_neg,cutD,decide_true,decide_false,simprocAttr,fb2,fb3,fb4,fb9,fb28,fb30,fb32,fb33,fb35,fb41,fb42,fb44,fb51,fb62,fb70,fb71,fb74,fb76,fb80,dl,a1,hox,dz,dn,da]),?_⟩))|(refine GoW.c c9 (by rfl) (by rfl) rfl ?_;(refine (hfw _).ret ?_);refine ⟨by exact fun _=>trivial,?_⟩)|(refine GoR.c c9 (by rfl) (by rfl) rfl ?_;(refine (hfw _).ret ?_))|refine GoR.s (by rfl) rfl rfl ?_|refine GoW.s (by rfl) rfl rfl (by exact fun _=>trivial) ?_)
  refine Go.cut [_,_] (PlayR S l M.length x i mo own ps zs most) ?_ ?_
  ·refine Go.condB rfl (fun b1 => ?_) (fun b1 => ?_)
   ·by_cases hfd:findS zs x.z<0
    ·have hp0:=fun E=>chPut0 (orc:=O) (hI.app E).ch.at_ hfd x.r
     have hrp:=fun S=>refChPut0 (own:=own) (zs:=zs) (most:=most) (ls:=rowsOf t) (by omega) hfd x.r S
     have hof:=fun S=>of4 (orc:=O) x.r (by have:=hor.len;omega) S
     simp only [Rw.c,refC,hrl] at hp0 hrp hof
     repeat' (first|refine Go.a rfl ?_|refine Go.rg ?_|refine GoR.nil ?_|refine Go.ret ?_|refine Go.b rfl ?_|refine Go.rgS dmx (by decide) ?_|refine Go.rgD (id:=16) [3] (fun H=>objAt H mo=some [.str own,.sl none 1 zs.length (zs.map .str),.sl none 2 t.length (tabsC most (rowsOf t))]∧objAt H M.length=some [.int .i64 x.op,.str x.z,.str x.r.key,.int .i64 x.r.st.tick,.int .i64 x.r.st.inc,.int .i64 x.r.st.seq,.str x.r.st.org,.sl none 5 x.r.at_.length (attsC x.r.at_),.int .i64 x.now,.int .i64 x.age]) dmx (by decide) 4 (by decide) (by (exact ⟨hmo _,hox _⟩)) ?_|refine Go.rgF (id:=26) 10 [5,6] [0,2] (fun H=>objAt H mo=some [.str own,.sl none 1 zs.length (zs.map .str),.sl none 2 t.length (tabsC most (rowsOf t))]∧objAt H M.length=some [.int .i64 x.op,.str x.z,.str x.r.key,.int .i64 x.r.st.tick,.int .i64 x.r.st.inc,.int .i64 x.r.st.seq,.str x.r.st.org,.sl none 5 x.r.at_.length (attsC x.r.at_),.int .i64 x.now,.int .i64 x.age]) dmx (by decide) 6 (by decide) (by decide) rfl rfl rfl rfl dze76 (by simp [AM.scalarV,Value.cells]) (by (exact ⟨hmo _,hox _⟩)) ?_|refine Go.rgD (id:=43) [12,14] (fun H=>objAt H mo=some [.str own,.sl none 1 zs.length (zs.map .str),.sl none 2 t.length (tabsC most (rowsOf t))]∧objAt H M.length=some [.int .i64 x.op,.str x.z,.str x.r.key,.int .i64 x.r.st.tick,.int .i64 x.r.st.inc,.int .i64 x.r.st.seq,.str x.r.st.org,.sl none 5 x.r.at_.length (attsC x.r.at_),.int .i64 x.now,.int .i64 x.age]) dmx (by decide) 15 (by decide) (by (exact ⟨hmo _,hox _⟩)) ?_|refine Go.rgF (id:=48) 12 [8] [] (fun H=>objAt H mo=some [.str own,.sl none 1 zs.length (zs.map .str),.sl none 2 t.length (tabsC most (rowsOf t))]∧objAt H M.length=some [.int .i64 x.op,.str x.z,.str x.r.key,.int .i64 x.r.st.tick,.int .i64 x.r.st.inc,.int .i64 x.r.st.seq,.str x.r.st.org,.sl none 5 x.r.at_.length (attsC x.r.at_),.int .i64 x.now,.int .i64 x.age]) dmx (by decide) 8 (by decide) (by decide) rfl rfl rfl rfl dze44 (by simp [AM.scalarV,Value.cells]) (by (exact ⟨hmo _,hox _⟩)) ?_|refine Go.rgD (id:=49) [6] (fun H=>objAt H mo=some [.str own,.sl none 1 zs.length (zs.map .str),.sl none 2 t.length (tabsC most (rowsOf t))]∧objAt H M.length=some [.int .i64 x.op,.str x.z,.str x.r.key,.int .i64 x.r.st.tick,.int .i64 x.r.st.inc,.int .i64 x.r.st.seq,.str x.r.st.org,.sl none 5 x.r.at_.length (attsC x.r.at_),.int .i64 x.now,.int .i64 x.age]) dmx (by decide) 7 (by decide) (by (exact ⟨hmo _,hox _⟩)) ?_|refine Go.rgD (id:=54) [9,13] (fun H=>objAt H mo=some [.str own,.sl none 1 zs.length (zs.map .str),.sl none 2 t.length (tabsC most (rowsOf t))]∧objAt H M.length=some [.int .i64 x.op,.str x.z,.str x.r.key,.int .i64 x.r.st.tick,.int .i64 x.r.st.inc,.int .i64 x.r.st.seq,.str x.r.st.org,.sl none 5 x.r.at_.length (attsC x.r.at_),.int .i64 x.now,.int .i64 x.age]) dmx (by decide) 14 (by decide) (by (exact ⟨hmo _,hox _⟩)) ?_|refine GoW.nil rfl ?_|((first|refine GoR.o (by rfl) (by rfl) ?_|refine GoW.o (by rfl) (by rfl) ?_|refine GoW.rd (by rfl) (by rfl) ?_);(conv=>arg 1;simp only [G,Z,Y,Gx,un_neg,cutD,decide_true,decide_false,simprocAttr,fb2,fb3,fb4,fb9,fb28,fb30,fb32,fb33,fb35,fb41,fb42,fb44,fb51,fb62,fb70,fb71,fb74,fb76,fb80,hox,b1,hmo,bne_self_eq_false]);first|show GoR ..|(show _∧GoW ..;refine ⟨by (first|exact fun h=>absurd h (by decide)|(intro _;(exact ⟨hmo _,hox _⟩))),?_⟩)|(show _∧_∧_∧GoW ..;refine ⟨rfl,by (exact ⟨hmo _,hox _⟩),(fun H hI=>by (try dsimp only at hI);simp only [G,Z,Y,Gx,un_neg,cutD,decide_true,decide_false,simprocAttr,fb2,fb3,fb4,fb9,fb28,fb30,fb32,fb33,fb35,fb41,fb42,fb44,fb51,fb62,fb70,fb71,fb74,fb76,fb80,hox,b1,hmo,bne_self_eq_false,hI]),?_⟩))|(refine GoW.c c11 (by rfl) (by rfl) rfl ?_;(refine (hof _).ret ?_);refine ⟨by (first|exact fun h=>absurd h (by decide)|(intro _;(exact ⟨hmo _,hox _⟩))),?_⟩)|(refine GoR.c c11 (by rfl) (by rfl) rfl ?_;(refine (hof _).ret ?_))|(refine GoW.c c34 (by rfl) (by rfl) rfl ?_;(refine (hrp _).ret ?_);refine ⟨by (first|exact fun h=>absurd h (by decide)|(intro _;(exact ⟨hmo _,hox _⟩))),?_⟩)|(refine GoR.c c34 (by rfl) (by rfl) rfl ?_;(refine (hrp _).ret ?_))|(refine GoW.c c35 (by rfl) (by rfl) rfl ?_;(refine (hp0 _).ret ?_);refine ⟨by (first|exact fun h=>absurd h (by decide)|(intro _;(exact ⟨hmo _,hox _⟩))),?_⟩)|(refine GoR.c c35 (by rfl) (by rfl) rfl ?_;(refine (hp0 _).ret ?_))|refine GoR.s (by rfl) rfl rfl ?_|refine GoW.s (by rfl) rfl rfl (by (first|exact fun h=>absurd h (by decide)|(intro _;(exact ⟨hmo _,hox _⟩)))) ?_|(refine GoR.splitG rfl (fun hc => ?_) (fun hc => ?_)<;>simp only [hc])|refine Go.condB rfl (fun hc => ?_) (fun hc => ?_))
     exact Go.done ⟨rfl,c,w,t,.cons .refl (.cons .refl (.cons .refl (.cons .refl (.cons .refl .nil)))),PlayC.stored (hI.app _).ch (hmo _) hmc hI.nt hI.lo,(objAt_set_ne hxl.symm).trans (hox _),hsm1⟩
    ·obtain ⟨j,hj⟩:=Int.eq_ofNat_of_zero_le (show 0≤findS zs x.z by omega)
     have hjl:j<t.length:=by have:=(findS_lt (l:=zs) (s:=x.z)).1;omega
     have hjr:j<(rowsOf t).length:=by omega
     have hok:OkT (rowsOf t)[j]:=by rw [show (rowsOf t)[j]=t[j].2 by simp [rowsOf]];exact (hI.ch.at_.tab j hjl).2
     have hlj:(rowsOf t)[j].length≤i:=hsm _ (List.getElem_mem hjr)
     obtain ⟨m',e,he⟩ : ∃ m' e,putT most (rowsOf t)[j] x.r=(m',e):=⟨_,_,rfl⟩
     have hp:=fun E=>ch0Put (hI.app E).ch hj (List.getElem?_eq_getElem hjr) hm1 x.r hfr hor (by omega) he
     have hrp:=fun S=>refChPut (own:=own) (zs:=zs) (most:=most) (ls:=rowsOf t) (by omega) (by omega) hm1 hjr hj hok x.r hfr S
     have hof:=fun S=>of4 (orc:=O) x.r (by have:=hor.len;omega) S
     have hle:=putT_le (most:=most) hok.rise (r:=x.r)
     rw [he] at hrp hle
     simp only [Rw.c,refC,hrl,List.length_set] at hp hrp hof
     repeat' (first|refine Go.a rfl ?_|refine Go.rg ?_|refine GoR.nil ?_|refine Go.ret ?_|refine Go.b rfl ?_|refine Go.rgS dmx (by decide) ?_|refine Go.rgD (id:=16) [3] (fun H=>objAt H mo=some [.str own,.sl none 1 zs.length (zs.map .str),.sl none 2 t.length (tabsC most (rowsOf t))]∧objAt H M.length=some [.int .i64 x.op,.str x.z,.str x.r.key,.int .i64 x.r.st.tick,.int .i64 x.r.st.inc,.int .i64 x.r.st.seq,.str x.r.st.org,.sl none 5 x.r.at_.length (attsC x.r.at_),.int .i64 x.now,.int .i64 x.age]) dmx (by decide) 4 (by decide) (by (exact ⟨hmo _,hox _⟩)) ?_|refine Go.rgF (id:=26) 10 [5,6] [0,2] (fun H=>objAt H mo=some [.str own,.sl none 1 zs.length (zs.map .str),.sl none 2 t.length (tabsC most (rowsOf t))]∧objAt H M.length=some [.int .i64 x.op,.str x.z,.str x.r.key,.int .i64 x.r.st.tick,.int .i64 x.r.st.inc,.int .i64 x.r.st.seq,.str x.r.st.org,.sl none 5 x.r.at_.length (attsC x.r.at_),.int .i64 x.now,.int .i64 x.age]) dmx (by decide) 6 (by decide) (by decide) rfl rfl rfl rfl dze76 (by simp [AM.scalarV,Value.cells]) (by (exact ⟨hmo _,hox _⟩)) ?_|refine Go.rgD (id:=43) [12,14] (fun H=>objAt H mo=some [.str own,.sl none 1 zs.length (zs.map .str),.sl none 2 t.length (tabsC most (rowsOf t))]∧objAt H M.length=some [.int .i64 x.op,.str x.z,.str x.r.key,.int .i64 x.r.st.tick,.int .i64 x.r.st.inc,.int .i64 x.r.st.seq,.str x.r.st.org,.sl none 5 x.r.at_.length (attsC x.r.at_),.int .i64 x.now,.int .i64 x.age]) dmx (by decide) 15 (by decide) (by (exact ⟨hmo _,hox _⟩)) ?_|refine Go.rgF (id:=48) 12 [8] [] (fun H=>objAt H mo=some [.str own,.sl none 1 zs.length (zs.map .str),.sl none 2 t.length (tabsC most (rowsOf t))]∧objAt H M.length=some [.int .i64 x.op,.str x.z,.str x.r.key,.int .i64 x.r.st.tick,.int .i64 x.r.st.inc,.int .i64 x.r.st.seq,.str x.r.st.org,.sl none 5 x.r.at_.length (attsC x.r.at_),.int .i64 x.now,.int .i64 x.age]) dmx (by decide) 8 (by decide) (by decide) rfl rfl rfl rfl dze44 (by simp [AM.scalarV,Value.cells]) (by (exact ⟨hmo _,hox _⟩)) ?_|refine Go.rgD (id:=49) [6] (fun H=>objAt H mo=some [.str own,.sl none 1 zs.length (zs.map .str),.sl none 2 t.length (tabsC most (rowsOf t))]∧objAt H M.length=some [.int .i64 x.op,.str x.z,.str x.r.key,.int .i64 x.r.st.tick,.int .i64 x.r.st.inc,.int .i64 x.r.st.seq,.str x.r.st.org,.sl none 5 x.r.at_.length (attsC x.r.at_),.int .i64 x.now,.int .i64 x.age]) dmx (by decide) 7 (by decide) (by (exact ⟨hmo _,hox _⟩)) ?_|refine Go.rgD (id:=54) [9,13] (fun H=>objAt H mo=some [.str own,.sl none 1 zs.length (zs.map .str),.sl none 2 t.length (tabsC most (rowsOf t))]∧objAt H M.length=some [.int .i64 x.op,.str x.z,.str x.r.key,.int .i64 x.r.st.tick,.int .i64 x.r.st.inc,.int .i64 x.r.st.seq,.str x.r.st.org,.sl none 5 x.r.at_.length (attsC x.r.at_),.int .i64 x.now,.int .i64 x.age]) dmx (by decide) 14 (by decide) (by (exact ⟨hmo _,hox _⟩)) ?_|refine GoW.nil rfl ?_|((first|refine GoR.o (by rfl) (by rfl) ?_|refine GoW.o (by rfl) (by rfl) ?_|refine GoW.rd (by rfl) (by rfl) ?_);(conv=>arg 1;simp only [G,Z,Y,Gx,un_neg,cutD,decide_true,decide_false,simprocAttr,fb2,fb3,fb4,fb9,fb28,fb30,fb32,fb33,fb35,fb41,fb42,fb44,fb51,fb62,fb70,fb71,fb74,fb76,fb80,hox,b1,hmo,bne_self_eq_false]);first|show GoR ..|(show _∧GoW ..;refine ⟨by (first|exact fun h=>absurd h (by decide)|(intro _;(exact ⟨hmo _,hox _⟩))),?_⟩)|(show _∧_∧_∧GoW ..;refine ⟨rfl,by (exact ⟨hmo _,hox _⟩),(fun H hI=>by (try dsimp only at hI);simp only [G,Z,Y,Gx,un_neg,cutD,decide_true,decide_false,simprocAttr,fb2,fb3,fb4,fb9,fb28,fb30,fb32,fb33,fb35,fb41,fb42,fb44,fb51,fb62,fb70,fb71,fb74,fb76,fb80,hox,b1,hmo,bne_self_eq_false,hI]),?_⟩))|(refine GoW.c c11 (by rfl) (by rfl) rfl ?_;(refine (hof _).ret ?_);refine ⟨by (first|exact fun h=>absurd h (by decide)|(intro _;(exact ⟨hmo _,hox _⟩))),?_⟩)|(refine GoR.c c11 (by rfl) (by rfl) rfl ?_;(refine (hof _).ret ?_))|(refine GoW.c c34 (by rfl) (by rfl) rfl ?_;(refine (hrp _).ret ?_);refine ⟨by (first|exact fun h=>absurd h (by decide)|(intro _;(exact ⟨hmo _,hox _⟩))),?_⟩)|(refine GoR.c c34 (by rfl) (by rfl) rfl ?_;(refine (hrp _).ret ?_))|(refine GoW.c c35 (by rfl) (by rfl) rfl ?_;(refine (hp _).mono ?_;rintro _ S2 ⟨rfl,t',hr',hc',hoff⟩);refine ⟨by (first|exact fun h=>absurd h (by decide)|(intro _;(exact ⟨hmo _,hox _⟩))),?_⟩)|(refine GoR.c c35 (by rfl) (by rfl) rfl ?_;(refine (hp _).mono ?_;rintro _ S2 ⟨rfl,t',hr',hc',hoff⟩))|refine GoR.s (by rfl) rfl rfl ?_|refine GoW.s (by rfl) rfl rfl (by (first|exact fun h=>absurd h (by decide)|(intro _;(exact ⟨hmo _,hox _⟩)))) ?_|(refine GoR.splitG rfl (fun hc => ?_) (fun hc => ?_)<;>simp only [hc])|refine Go.condB rfl (fun hc => ?_) (fun hc => ?_))
     have el:t'.length=t.length:=by have:=hc'.at_.z;omega
     have hnk : ∀ k,M.length≤k→k∉ownC t:=fun k hk ho=>by have:=hI.ch.at_.lt.2 k ho;omega
     have hn2:=(hoff (M.length+1) _ (hnk _ (by omega)) (by simp [objAt];rfl)).1
     have hx2:=(hoff M.length _ (hnk _ (by omega)) (hox _)).1
     have hm2:=hoff mo _ hI.nt (hmo _)
     repeat' (first|refine Go.a rfl ?_|refine Go.rg ?_|refine GoR.nil ?_|refine Go.ret ?_|refine Go.b rfl ?_|refine Go.rgS dmx (by decide) ?_|refine Go.rgD (id:=16) [3] (fun _=>True) dmx (by decide) 4 (by decide) (by trivial) ?_|refine Go.rgF (id:=26) 10 [5,6] [0,2] (fun _=>True) dmx (by decide) 6 (by decide) (by decide) rfl rfl rfl rfl dze76 (by simp [AM.scalarV,Value.cells]) (by trivial) ?_|refine Go.rgD (id:=43) [12,14] (fun _=>True) dmx (by decide) 15 (by decide) (by trivial) ?_|refine Go.rgF (id:=48) 12 [8] [] (fun _=>True) dmx (by decide) 8 (by decide) (by decide) rfl rfl rfl rfl dze44 (by simp [AM.scalarV,Value.cells]) (by trivial) ?_|refine Go.rgD (id:=49) [6] (fun _=>True) dmx (by decide) 7 (by decide) (by trivial) ?_|refine Go.rgD (id:=54) [9,13] (fun _=>True) dmx (by decide) 14 (by decide) (by trivial) ?_|refine GoW.nil rfl ?_|((first|refine GoR.o (by rfl) (by rfl) ?_|refine GoW.o (by rfl) (by rfl) ?_|refine GoW.rd (by rfl) (by rfl) ?_);(conv=>arg 1;simp only [G,Z,Y,Gx,un_neg,cutD,decide_true,decide_false,simprocAttr,fb2,fb3,fb4,fb9,fb28,fb30,fb32,fb33,fb35,fb41,fb42,fb44,fb51,fb62,fb70,fb71,fb74,fb76,fb80,hn2,hm2.1]);first|show GoR ..|(show _∧GoW ..;refine ⟨by exact fun _=>trivial,?_⟩)|(show _∧_∧_∧GoW ..;refine ⟨rfl,by trivial,(fun H _=>by simp only [G,Z,Y,Gx,un_neg,cutD,decide_true,decide_false,simprocAttr,fb2,fb3,fb4,fb9,fb28,fb30,fb32,fb33,fb35,fb41,fb42,fb44,fb51,fb62,fb70,fb71,fb74,fb76,fb80,hn2,hm2.1]),?_⟩))|refine GoR.s (by rfl) rfl rfl ?_|refine GoW.s (by rfl) rfl rfl (by exact fun _=>trivial) ?_|(refine GoR.splitG rfl (fun hc => ?_) (fun hc => ?_)<;>simp only [hc])|refine Go.condB rfl (fun hc => ?_) (fun hc => ?_))
     refine Go.done ⟨rfl,c,w,t',.cons .refl (.cons .refl (.cons .refl (.cons .refl (.cons .refl .nil)))),?_,(objAt_set_ne hxl.symm).trans hx2,?_⟩
     ·have:=PlayC.stored (own:=own) hc' hm2.1 hmc hm2.2 hI.lo
      rw [el,hr'] at this
      exact this
     ·rw [hr']
      intro m hm
      rcases List.mem_or_eq_of_mem_set hm with hm | rfl
      ·exact hsm1 m hm
      ·dsimp only at hle;omega
   ·repeat' (first|refine Go.a rfl ?_|refine Go.rg ?_|refine GoR.nil ?_|refine Go.ret ?_|refine Go.b rfl ?_|refine Go.rgS dmx (by decide) ?_|refine Go.rgD (id:=16) [3] (fun _=>True) dmx (by decide) 4 (by decide) (by trivial) ?_|refine Go.rgF (id:=26) 10 [5,6] [0,2] (fun _=>True) dmx (by decide) 6 (by decide) (by decide) rfl rfl rfl rfl dze76 (by simp [AM.scalarV,Value.cells]) (by trivial) ?_|refine Go.rgD (id:=43) [12,14] (fun _=>True) dmx (by decide) 15 (by decide) (by trivial) ?_|refine Go.rgF (id:=48) 12 [8] [] (fun _=>True) dmx (by decide) 8 (by decide) (by decide) rfl rfl rfl rfl dze44 (by simp [AM.scalarV,Value.cells]) (by trivial) ?_|refine Go.rgD (id:=49) [6] (fun _=>True) dmx (by decide) 7 (by decide) (by trivial) ?_|refine Go.rgD (id:=54) [9,13] (fun _=>True) dmx (by decide) 14 (by decide) (by trivial) ?_|refine GoW.nil rfl ?_|((first|refine GoR.o (by rfl) (by rfl) ?_|refine GoW.o (by rfl) (by rfl) ?_|refine GoW.rd (by rfl) (by rfl) ?_);(conv=>arg 1;simp only [G,Z,Y,Gx,un_neg,cutD,decide_true,decide_false,simprocAttr,fb2,fb3,fb4,fb9,fb28,fb30,fb32,fb33,fb35,fb41,fb42,fb44,fb51,fb62,fb70,fb71,fb74,fb76,fb80,hox]);first|show GoR ..|(show _∧GoW ..;refine ⟨by exact fun _=>trivial,?_⟩)|(show _∧_∧_∧GoW ..;refine ⟨rfl,by trivial,(fun H _=>by simp only [G,Z,Y,Gx,un_neg,cutD,decide_true,decide_false,simprocAttr,fb2,fb3,fb4,fb9,fb28,fb30,fb32,fb33,fb35,fb41,fb42,fb44,fb51,fb62,fb70,fb71,fb74,fb76,fb80,hox]),?_⟩))|refine GoR.s (by rfl) rfl rfl ?_|refine GoW.s (by rfl) rfl rfl (by exact fun _=>trivial) ?_)
    refine Go.condB rfl (fun b2 => ?_) (fun b2 => ?_)
    ·obtain ⟨ls,n,he⟩ : ∃ ls n,swC x.now x.age ps (rowsOf t) t.length=(ls,n):=⟨_,_,rfl⟩
     have hsm3 : ∀ m∈rowsOf t,m.length≤1000:=fun m hm=>by have:=hsm m hm;omega
     have hp:=fun E=>ch0Sweep (hI.app E).ch x.now x.age hsm3 he
     have hrp:=fun S=>refChSweep (own:=own) (zs:=zs) (most:=most) (ls:=rowsOf t) (by omega) hpr (by rw [hps];exact hzl) (by omega) (fun k hk=>hz k (by omega)) hsm3 x.now x.age S
     have hlsl:ls.length=t.length:=by have:=swC_len (now:=x.now) (age:=x.age) (ps:=ps) (ls:=rowsOf t) t.length;rw [he,hrl] at this;exact this
     have hlsb:=swC_le (now:=x.now) (age:=x.age) (ps:=ps) hsm1 t.length
     rw [he] at hlsb
     simp only [hps,hrl,he] at hrp
     simp only [refC,hrl,hlsl] at hrp
     repeat' (first|refine Go.a rfl ?_|refine Go.rg ?_|refine GoR.nil ?_|refine Go.ret ?_|refine Go.b rfl ?_|refine Go.rgS dmx (by decide) ?_|refine Go.rgD (id:=16) [3] (fun _=>True) dmx (by decide) 4 (by decide) (by trivial) ?_|refine Go.rgF (id:=26) 10 [5,6] [0,2] (fun _=>True) dmx (by decide) 6 (by decide) (by decide) rfl rfl rfl rfl dze76 (by simp [AM.scalarV,Value.cells]) (by trivial) ?_|refine Go.rgD (id:=43) [12,14] (fun _=>True) dmx (by decide) 15 (by decide) (by trivial) ?_|refine Go.rgF (id:=48) 12 [8] [] (fun _=>True) dmx (by decide) 8 (by decide) (by decide) rfl rfl rfl rfl dze44 (by simp [AM.scalarV,Value.cells]) (by trivial) ?_|refine Go.rgD (id:=49) [6] (fun _=>True) dmx (by decide) 7 (by decide) (by trivial) ?_|refine Go.rgD (id:=54) [9,13] (fun _=>True) dmx (by decide) 14 (by decide) (by trivial) ?_|refine GoW.nil rfl ?_|((first|refine GoR.o (by rfl) (by rfl) ?_|refine GoW.o (by rfl) (by rfl) ?_|refine GoW.rd (by rfl) (by rfl) ?_);(conv=>arg 1;simp only [G,Z,Y,Gx,un_neg,cutD,decide_true,decide_false,simprocAttr,fb2,fb3,fb4,fb9,fb28,fb30,fb32,fb33,fb35,fb41,fb42,fb44,fb51,fb62,fb70,fb71,fb74,fb76,fb80,hox,b1,b2,hmo,bne_self_eq_false]);first|show GoR ..|(show _∧GoW ..;refine ⟨by exact fun _=>trivial,?_⟩)|(show _∧_∧_∧GoW ..;refine ⟨rfl,by trivial,(fun H _=>by simp only [G,Z,Y,Gx,un_neg,cutD,decide_true,decide_false,simprocAttr,fb2,fb3,fb4,fb9,fb28,fb30,fb32,fb33,fb35,fb41,fb42,fb44,fb51,fb62,fb70,fb71,fb74,fb76,fb80,hox,b1,b2,hmo,bne_self_eq_false]),?_⟩))|(refine GoW.c c36 (by rfl) (by rfl) rfl ?_;(refine (hrp _).ret ?_);refine ⟨by exact fun _=>trivial,?_⟩)|(refine GoR.c c36 (by rfl) (by rfl) rfl ?_;(refine (hrp _).ret ?_))|(refine GoW.c c37 (by rfl) (by rfl) rfl ?_;(refine (hp _).mono ?_;rintro _ S2 ⟨rfl,t',hr',hc',hoff⟩);refine ⟨by exact fun _=>trivial,?_⟩)|(refine GoR.c c37 (by rfl) (by rfl) rfl ?_;(refine (hp _).mono ?_;rintro _ S2 ⟨rfl,t',hr',hc',hoff⟩))|refine GoR.s (by rfl) rfl rfl ?_|refine GoW.s (by rfl) rfl rfl (by exact fun _=>trivial) ?_|(refine GoR.splitG rfl (fun hc => ?_) (fun hc => ?_)<;>simp only [hc])|refine Go.condB rfl (fun hc => ?_) (fun hc => ?_))
     have el:t'.length=t.length:=by have:=hc'.at_.z;omega
     have hnk : ∀ k,M.length≤k→k∉ownC t:=fun k hk ho=>by have:=hI.ch.at_.lt.2 k ho;omega
     have hn2:=(hoff (M.length+1) _ (hnk _ (by omega)) (by simp [objAt];rfl)).1
     have hx2:=(hoff M.length _ (hnk _ (by omega)) (hox _)).1
     have hm2:=hoff mo _ hI.nt (hmo _)
     repeat' (first|refine Go.a rfl ?_|refine Go.rg ?_|refine GoR.nil ?_|refine Go.ret ?_|refine Go.b rfl ?_|refine Go.rgS dmx (by decide) ?_|refine Go.rgD (id:=16) [3] (fun _=>True) dmx (by decide) 4 (by decide) (by trivial) ?_|refine Go.rgF (id:=26) 10 [5,6] [0,2] (fun _=>True) dmx (by decide) 6 (by decide) (by decide) rfl rfl rfl rfl dze76 (by simp [AM.scalarV,Value.cells]) (by trivial) ?_|refine Go.rgD (id:=43) [12,14] (fun _=>True) dmx (by decide) 15 (by decide) (by trivial) ?_|refine Go.rgF (id:=48) 12 [8] [] (fun _=>True) dmx (by decide) 8 (by decide) (by decide) rfl rfl rfl rfl dze44 (by simp [AM.scalarV,Value.cells]) (by trivial) ?_|refine Go.rgD (id:=49) [6] (fun _=>True) dmx (by decide) 7 (by decide) (by trivial) ?_|refine Go.rgD (id:=54) [9,13] (fun _=>True) dmx (by decide) 14 (by decide) (by trivial) ?_|refine GoW.nil rfl ?_|((first|refine GoR.o (by rfl) (by rfl) ?_|refine GoW.o (by rfl) (by rfl) ?_|refine GoW.rd (by rfl) (by rfl) ?_);(conv=>arg 1;simp only [G,Z,Y,Gx,un_neg,cutD,decide_true,decide_false,simprocAttr,fb2,fb3,fb4,fb9,fb28,fb30,fb32,fb33,fb35,fb41,fb42,fb44,fb51,fb62,fb70,fb71,fb74,fb76,fb80,hn2,hm2.1]);first|show GoR ..|(show _∧GoW ..;refine ⟨by exact fun _=>trivial,?_⟩)|(show _∧_∧_∧GoW ..;refine ⟨rfl,by trivial,(fun H _=>by simp only [G,Z,Y,Gx,un_neg,cutD,decide_true,decide_false,simprocAttr,fb2,fb3,fb4,fb9,fb28,fb30,fb32,fb33,fb35,fb41,fb42,fb44,fb51,fb62,fb70,fb71,fb74,fb76,fb80,hn2,hm2.1]),?_⟩))|refine GoR.s (by rfl) rfl rfl ?_|refine GoW.s (by rfl) rfl rfl (by exact fun _=>trivial) ?_|(refine GoR.splitG rfl (fun hc => ?_) (fun hc => ?_)<;>simp only [hc])|refine Go.condB rfl (fun hc => ?_) (fun hc => ?_))
     refine Go.done ⟨rfl,c,w,t',.cons .refl (.cons .refl (.cons .refl (.cons .refl (.cons .refl .nil)))),?_,(objAt_set_ne hxl.symm).trans hx2,?_⟩
     ·have:=PlayC.stored (own:=own) hc' hm2.1 hmc hm2.2 hI.lo
      rw [el,hr'] at this
      exact this
     ·rw [hr']
      exact hlsb
    ·repeat' (first|refine Go.a rfl ?_|refine Go.rg ?_|refine GoR.nil ?_|refine Go.ret ?_|refine Go.b rfl ?_|refine Go.rgS dmx (by decide) ?_|refine Go.rgD (id:=16) [3] (fun _=>True) dmx (by decide) 4 (by decide) (by trivial) ?_|refine Go.rgF (id:=26) 10 [5,6] [0,2] (fun _=>True) dmx (by decide) 6 (by decide) (by decide) rfl rfl rfl rfl dze76 (by simp [AM.scalarV,Value.cells]) (by trivial) ?_|refine Go.rgD (id:=43) [12,14] (fun _=>True) dmx (by decide) 15 (by decide) (by trivial) ?_|refine Go.rgF (id:=48) 12 [8] [] (fun _=>True) dmx (by decide) 8 (by decide) (by decide) rfl rfl rfl rfl dze44 (by simp [AM.scalarV,Value.cells]) (by trivial) ?_|refine Go.rgD (id:=49) [6] (fun _=>True) dmx (by decide) 7 (by decide) (by trivial) ?_|refine Go.rgD (id:=54) [9,13] (fun _=>True) dmx (by decide) 14 (by decide) (by trivial) ?_|refine GoW.nil rfl ?_|((first|refine GoR.o (by rfl) (by rfl) ?_|refine GoW.o (by rfl) (by rfl) ?_|refine GoW.rd (by rfl) (by rfl) ?_);(conv=>arg 1;simp only [G,Z,Y,Gx,un_neg,cutD,decide_true,decide_false,simprocAttr,fb2,fb3,fb4,fb9,fb28,fb30,fb32,fb33,fb35,fb41,fb42,fb44,fb51,fb62,fb70,fb71,fb74,fb76,fb80,hox]);first|show GoR ..|(show _∧GoW ..;refine ⟨by exact fun _=>trivial,?_⟩)|(show _∧_∧_∧GoW ..;refine ⟨rfl,by trivial,(fun H _=>by simp only [G,Z,Y,Gx,un_neg,cutD,decide_true,decide_false,simprocAttr,fb2,fb3,fb4,fb9,fb28,fb30,fb32,fb33,fb35,fb41,fb42,fb44,fb51,fb62,fb70,fb71,fb74,fb76,fb80,hox]),?_⟩))|refine GoR.s (by rfl) rfl rfl ?_|refine GoW.s (by rfl) rfl rfl (by exact fun _=>trivial) ?_)
     refine Go.condB rfl (fun b3 => ?_) (fun b3 => ?_)
     ·have htw:=fun E=>chTwin (orc:=O) (hI.app E).ch.at_ (show 0<t.length by omega)
      have hsm3 : ∀ m∈rowsOf t,m.length≤1000:=fun m hm=>by have:=hsm m hm;omega
      repeat' (first|refine Go.a rfl ?_|refine Go.rg ?_|refine GoR.nil ?_|refine Go.ret ?_|refine Go.b rfl ?_|refine Go.rgS dmx (by decide) ?_|refine Go.rgD (id:=16) [3] (fun _=>True) dmx (by decide) 4 (by decide) (by trivial) ?_|refine Go.rgF (id:=26) 10 [5,6] [0,2] (fun _=>True) dmx (by decide) 6 (by decide) (by decide) rfl rfl rfl rfl dze76 (by simp [AM.scalarV,Value.cells]) (by trivial) ?_|refine Go.rgD (id:=43) [12,14] (fun _=>True) dmx (by decide) 15 (by decide) (by trivial) ?_|refine Go.rgF (id:=48) 12 [8] [] (fun _=>True) dmx (by decide) 8 (by decide) (by decide) rfl rfl rfl rfl dze44 (by simp [AM.scalarV,Value.cells]) (by trivial) ?_|refine Go.rgD (id:=49) [6] (fun _=>True) dmx (by decide) 7 (by decide) (by trivial) ?_|refine Go.rgD (id:=54) [9,13] (fun _=>True) dmx (by decide) 14 (by decide) (by trivial) ?_|refine GoW.nil rfl ?_|((first|refine GoR.o (by rfl) (by rfl) ?_|refine GoW.o (by rfl) (by rfl) ?_|refine GoW.rd (by rfl) (by rfl) ?_);(conv=>arg 1;simp only [G,Z,Y,Gx,un_neg,cutD,decide_true,decide_false,simprocAttr,fb2,fb3,fb4,fb9,fb28,fb30,fb32,fb33,fb35,fb41,fb42,fb44,fb51,fb62,fb70,fb71,fb74,fb76,fb80,b1,b2,b3]);first|show GoR ..|(show _∧GoW ..;refine ⟨by exact fun _=>trivial,?_⟩)|(show _∧_∧_∧GoW ..;refine ⟨rfl,by trivial,(fun H _=>by simp only [G,Z,Y,Gx,un_neg,cutD,decide_true,decide_false,simprocAttr,fb2,fb3,fb4,fb9,fb28,fb30,fb32,fb33,fb35,fb41,fb42,fb44,fb51,fb62,fb70,fb71,fb74,fb76,fb80,b1,b2,b3]),?_⟩))|(refine GoW.c c38 (by rfl) (by rfl) rfl ?_;(refine (htw _).mono ?_;rintro _ S2 ⟨x2,w2,t2,rfl,g1,g2,g3,g4,g5⟩);refine ⟨by exact fun _=>trivial,?_⟩)|(refine GoR.c c38 (by rfl) (by rfl) rfl ?_;(refine (htw _).mono ?_;rintro _ S2 ⟨x2,w2,t2,rfl,g1,g2,g3,g4,g5⟩))|refine GoR.s (by rfl) rfl rfl ?_|refine GoW.s (by rfl) rfl rfl (by exact fun _=>trivial) ?_)
      have hc2:Ch0 S S2 c ps zs most w t:=⟨(hI.app _).ch.at_.fr g5 (by simp) (by simp),hI.ch.lo,hI.ch.low,(hI.app _).ch.fr.trans (F:=[]) (G:=[]) g5 (by simp)⟩
      obtain ⟨ls,n,he⟩ : ∃ ls n,swC 1099511627776 0 ps (rowsOf t) t.length=(ls,n):=⟨_,_,rfl⟩
      have hs2:=ch0Sweep hc2 1099511627776 0 hsm3 he
      repeat' (first|refine Go.a rfl ?_|refine Go.rg ?_|refine GoR.nil ?_|refine Go.ret ?_|refine Go.b rfl ?_|refine Go.rgS dmx (by decide) ?_|refine Go.rgD (id:=16) [3] (fun _=>True) dmx (by decide) 4 (by decide) (by trivial) ?_|refine Go.rgF (id:=26) 10 [5,6] [0,2] (fun _=>True) dmx (by decide) 6 (by decide) (by decide) rfl rfl rfl rfl dze76 (by simp [AM.scalarV,Value.cells]) (by trivial) ?_|refine Go.rgD (id:=43) [12,14] (fun _=>True) dmx (by decide) 15 (by decide) (by trivial) ?_|refine Go.rgF (id:=48) 12 [8] [] (fun _=>True) dmx (by decide) 8 (by decide) (by decide) rfl rfl rfl rfl dze44 (by simp [AM.scalarV,Value.cells]) (by trivial) ?_|refine Go.rgD (id:=49) [6] (fun _=>True) dmx (by decide) 7 (by decide) (by trivial) ?_|refine Go.rgD (id:=54) [9,13] (fun _=>True) dmx (by decide) 14 (by decide) (by trivial) ?_|refine GoW.nil rfl ?_|((first|refine GoR.o (by rfl) (by rfl) ?_|refine GoW.o (by rfl) (by rfl) ?_|refine GoW.rd (by rfl) (by rfl) ?_);(conv=>arg 1;simp only [G,Z,Y,Gx,un_neg,cutD,decide_true,decide_false,simprocAttr,fb2,fb3,fb4,fb9,fb28,fb30,fb32,fb33,fb35,fb41,fb42,fb44,fb51,fb62,fb70,fb71,fb74,fb76,fb80]);first|show GoR ..|(show _∧GoW ..;refine ⟨by exact fun _=>trivial,?_⟩)|(show _∧_∧_∧GoW ..;refine ⟨rfl,by trivial,(fun H _=>by simp only [G,Z,Y,Gx,un_neg,cutD,decide_true,decide_false,simprocAttr,fb2,fb3,fb4,fb9,fb28,fb30,fb32,fb33,fb35,fb41,fb42,fb44,fb51,fb62,fb70,fb71,fb74,fb76,fb80]),?_⟩))|(refine GoW.c c37 (by rfl) (by rfl) rfl ?_;(refine hs2.mono ?_;rintro _ S3 ⟨rfl,t3,_,hc3,hoff⟩);refine ⟨by exact fun _=>trivial,?_⟩)|(refine GoR.c c37 (by rfl) (by rfl) rfl ?_;(refine hs2.mono ?_;rintro _ S3 ⟨rfl,t3,_,hc3,hoff⟩))|refine GoR.s (by rfl) rfl rfl ?_|refine GoW.s (by rfl) rfl rfl (by exact fun _=>trivial) ?_|(refine GoR.splitG rfl (fun hc => ?_) (fun hc => ?_)<;>simp only [hc])|refine Go.condB rfl (fun hc => ?_) (fun hc => ?_))
      have hlt:=hI.ch.at_.lt.2
      rw [List.length_append] at g3 g4
      obtain ⟨k1,k2,k3⟩:=hoff.chain g1 (fun ho=>by have:=hlt _ ho;omega) (fun o ho ho'=>by have:=hlt _ ho';have:=g4 o ho;omega)
      have hfl:=hI.ch.fr.len
      have hm3:=(hoff mo _ hI.nt (g5.obj (hmo _) (by simp))).1
      have hx3:=(hoff M.length _ (fun ho=>by have:=hlt _ ho;omega) (g5.obj (hox _) (by simp))).1
      have el:t2.length=t.length:=by have:=g1.z;omega
      refine Go.done ⟨rfl,x2,w2,t2,.cons .refl (.cons .refl (.cons .refl (.cons .refl (.cons .refl .nil)))),⟨⟨k1,by omega,fun o ho=>by have:=g4 o ho;omega,hc3.fr⟩,?_,fun ho=>by have:=g4 _ ho;have:=objAt_lt hI.m;omega,hI.lo⟩,hx3,?_⟩
      ·rw [el,g2]
       exact hm3
      ·rw [g2]
       exact hsm1
     ·repeat' (first|refine Go.a rfl ?_|refine Go.rg ?_|refine GoR.nil ?_|refine Go.ret ?_|refine Go.b rfl ?_|refine Go.rgS dmx (by decide) ?_|refine Go.rgD (id:=16) [3] (fun _=>True) dmx (by decide) 4 (by decide) (by trivial) ?_|refine Go.rgF (id:=26) 10 [5,6] [0,2] (fun _=>True) dmx (by decide) 6 (by decide) (by decide) rfl rfl rfl rfl dze76 (by simp [AM.scalarV,Value.cells]) (by trivial) ?_|refine Go.rgD (id:=43) [12,14] (fun _=>True) dmx (by decide) 15 (by decide) (by trivial) ?_|refine Go.rgF (id:=48) 12 [8] [] (fun _=>True) dmx (by decide) 8 (by decide) (by decide) rfl rfl rfl rfl dze44 (by simp [AM.scalarV,Value.cells]) (by trivial) ?_|refine Go.rgD (id:=49) [6] (fun _=>True) dmx (by decide) 7 (by decide) (by trivial) ?_|refine Go.rgD (id:=54) [9,13] (fun _=>True) dmx (by decide) 14 (by decide) (by trivial) ?_|refine GoW.nil rfl ?_|((first|refine GoR.o (by rfl) (by rfl) ?_|refine GoW.o (by rfl) (by rfl) ?_|refine GoW.rd (by rfl) (by rfl) ?_);(conv=>arg 1;simp only [G,Z,Y,Gx,un_neg,cutD,decide_true,decide_false,simprocAttr,fb2,fb3,fb4,fb9,fb28,fb30,fb32,fb33,fb35,fb41,fb42,fb44,fb51,fb62,fb70,fb71,fb74,fb76,fb80]);first|show GoR ..|(show _∧GoW ..;refine ⟨by exact fun _=>trivial,?_⟩)|(show _∧_∧_∧GoW ..;refine ⟨rfl,by trivial,(fun H _=>by simp only [G,Z,Y,Gx,un_neg,cutD,decide_true,decide_false,simprocAttr,fb2,fb3,fb4,fb9,fb28,fb30,fb32,fb33,fb35,fb41,fb42,fb44,fb51,fb62,fb70,fb71,fb74,fb76,fb80]),?_⟩))|refine GoR.s (by rfl) rfl rfl ?_|refine GoW.s (by rfl) rfl rfl (by exact fun _=>trivial) ?_)
      exact Go.done ⟨rfl,c,w,t,.cons .refl (.cons .refl (.cons .refl (.cons .refl (.cons .refl .nil)))),hI.app _,hox _,hsm1⟩
  ·clear hI hox hfw hmo
   rintro ρ' M' ⟨c,w,t,hw,hI,hox,hsm⟩
   refine Go.keep _ hw ?_
   clear hw
   have hrl:(rowsOf t).length=t.length:=by simp [rowsOf]
   have hzt:zs.length=t.length:=hI.ch.at_.z
   have hmo : ∀ E,objAt (M'++E) mo=some [.str own,.sl none 1 zs.length (zs.map .str),.sl none 2 t.length (tabsC most (rowsOf t))]:=fun E=>objAt_old hI.m
   have hox' : ∀ E,objAt (M'++E) M.length=some [.int .i64 x.op,.str x.z,.str x.r.key,.int .i64 x.r.st.tick,.int .i64 x.r.st.inc,.int .i64 x.r.st.seq,.str x.r.st.org,.sl none 5 x.r.at_.length (attsC x.r.at_),.int .i64 x.now,.int .i64 x.age]:=fun E=>objAt_old hox
   have hob:=hI.m
   simp only [Ac8.c,Rw.c] at hox
   have hat:=fun S=>refChAt (orc:=O) (own:=own) (zs:=zs) (most:=most) (ls:=rowsOf t) (by omega) x.z S
   have hha:=fun E=>chHas (orc:=O) (hI.app E).ch.at_ x.z
   have hky:=fun E=>chKey (orc:=O) (hI.app E).ch.at_ x.z
   have hrk:=fun S=>refChKey (own:=own) (zs:=zs) (most:=most) (ls:=rowsOf t) (by omega) hpr (by rw [hps];exact hzl) x.z S
   simp only [hps,refC,hrl] at hrk hat
   by_cases hfd:findS zs x.z<0
   ·have hg:=chGet0 (orc:=O) hI.ch.at_ hfd x.r.key
    have hro:=fun E=>chRows0 (orc:=O) (hI.app E).ch.at_ hfd
    have d1:decide (0≤findS zs x.z)=false:=by simp;omega
    simp only [if_pos hfd,d1] at hky hrk hha
    generalize findS zs x.z=kk at *
    simp only [Rw.c,noRow,St.c] at hg
    repeat' (first|refine Go.a rfl ?_|refine Go.rg ?_|refine GoR.nil ?_|refine Go.ret ?_|refine Go.b rfl ?_|refine Go.rgS dmx (by decide) ?_|refine Go.rgD (id:=16) [3] (fun H=>objAt H mo=some [.str own,.sl none 1 zs.length (zs.map .str),.sl none 2 t.length (tabsC most (rowsOf t))]∧objAt H M.length=some [.int .i64 x.op,.str x.z,.str x.r.key,.int .i64 x.r.st.tick,.int .i64 x.r.st.inc,.int .i64 x.r.st.seq,.str x.r.st.org,.sl none 5 x.r.at_.length (attsC x.r.at_),.int .i64 x.now,.int .i64 x.age]) dmx (by decide) 4 (by decide) (by (first | exact ⟨hob,hox⟩ | exact ⟨hmo _,hox' _⟩)) ?_|refine Go.rgF (id:=26) 10 [5,6] [0,2] (fun H=>objAt H mo=some [.str own,.sl none 1 zs.length (zs.map .str),.sl none 2 t.length (tabsC most (rowsOf t))]∧objAt H M.length=some [.int .i64 x.op,.str x.z,.str x.r.key,.int .i64 x.r.st.tick,.int .i64 x.r.st.inc,.int .i64 x.r.st.seq,.str x.r.st.org,.sl none 5 x.r.at_.length (attsC x.r.at_),.int .i64 x.now,.int .i64 x.age]) dmx (by decide) 6 (by decide) (by decide) rfl rfl rfl rfl dze76 (by simp [AM.scalarV,Value.cells]) (by (first | exact ⟨hob,hox⟩ | exact ⟨hmo _,hox' _⟩)) ?_|refine Go.rgD (id:=43) [12,14] (fun H=>objAt H mo=some [.str own,.sl none 1 zs.length (zs.map .str),.sl none 2 t.length (tabsC most (rowsOf t))]∧objAt H M.length=some [.int .i64 x.op,.str x.z,.str x.r.key,.int .i64 x.r.st.tick,.int .i64 x.r.st.inc,.int .i64 x.r.st.seq,.str x.r.st.org,.sl none 5 x.r.at_.length (attsC x.r.at_),.int .i64 x.now,.int .i64 x.age]) dmx (by decide) 15 (by decide) (by (first | exact ⟨hob,hox⟩ | exact ⟨hmo _,hox' _⟩)) ?_|refine Go.rgF (id:=48) 12 [8] [] (fun H=>objAt H mo=some [.str own,.sl none 1 zs.length (zs.map .str),.sl none 2 t.length (tabsC most (rowsOf t))]∧objAt H M.length=some [.int .i64 x.op,.str x.z,.str x.r.key,.int .i64 x.r.st.tick,.int .i64 x.r.st.inc,.int .i64 x.r.st.seq,.str x.r.st.org,.sl none 5 x.r.at_.length (attsC x.r.at_),.int .i64 x.now,.int .i64 x.age]) dmx (by decide) 8 (by decide) (by decide) rfl rfl rfl rfl dze44 (by simp [AM.scalarV,Value.cells]) (by (first | exact ⟨hob,hox⟩ | exact ⟨hmo _,hox' _⟩)) ?_|refine Go.rgD (id:=49) [6] (fun H=>objAt H mo=some [.str own,.sl none 1 zs.length (zs.map .str),.sl none 2 t.length (tabsC most (rowsOf t))]∧objAt H M.length=some [.int .i64 x.op,.str x.z,.str x.r.key,.int .i64 x.r.st.tick,.int .i64 x.r.st.inc,.int .i64 x.r.st.seq,.str x.r.st.org,.sl none 5 x.r.at_.length (attsC x.r.at_),.int .i64 x.now,.int .i64 x.age]) dmx (by decide) 7 (by decide) (by (first | exact ⟨hob,hox⟩ | exact ⟨hmo _,hox' _⟩)) ?_|refine Go.rgD (id:=54) [9,13] (fun H=>objAt H mo=some [.str own,.sl none 1 zs.length (zs.map .str),.sl none 2 t.length (tabsC most (rowsOf t))]∧objAt H M.length=some [.int .i64 x.op,.str x.z,.str x.r.key,.int .i64 x.r.st.tick,.int .i64 x.r.st.inc,.int .i64 x.r.st.seq,.str x.r.st.org,.sl none 5 x.r.at_.length (attsC x.r.at_),.int .i64 x.now,.int .i64 x.age]) dmx (by decide) 14 (by decide) (by (first | exact ⟨hob,hox⟩ | exact ⟨hmo _,hox' _⟩)) ?_|refine GoW.nil rfl ?_|((first|refine GoR.o (by rfl) (by rfl) ?_|refine GoW.o (by rfl) (by rfl) ?_|refine GoW.rd (by rfl) (by rfl) ?_);(conv=>arg 1;simp only [G,Z,Y,Gx,un_neg,cutD,decide_true,decide_false,simprocAttr,fb2,fb3,fb4,fb9,fb28,fb30,fb32,fb33,fb35,fb41,fb42,fb44,fb51,fb62,fb70,fb71,fb74,fb76,fb80,hox,hox',hmo,hob,wrap_succ (show i<4611686018427387904 by omega),d1,decide_eq_true hfd,bne_self_eq_false]);first|show GoR ..|(show _∧GoW ..;refine ⟨by (first|exact fun h=>absurd h (by decide)|(intro _;(first | exact ⟨hob,hox⟩ | exact ⟨hmo _,hox' _⟩))),?_⟩)|(show _∧_∧_∧GoW ..;refine ⟨rfl,by (first | exact ⟨hob,hox⟩ | exact ⟨hmo _,hox' _⟩),(fun H hI=>by (try dsimp only at hI);simp only [G,Z,Y,Gx,un_neg,cutD,decide_true,decide_false,simprocAttr,fb2,fb3,fb4,fb9,fb28,fb30,fb32,fb33,fb35,fb41,fb42,fb44,fb51,fb62,fb70,fb71,fb74,fb76,fb80,hox,hox',hmo,hob,wrap_succ (show i<4611686018427387904 by omega),d1,decide_eq_true hfd,bne_self_eq_false,hI]),?_⟩))|(refine GoW.c c39 (by rfl) (by rfl) rfl ?_;(refine hg.ret ?_);refine ⟨by (first|exact fun h=>absurd h (by decide)|(intro _;(first | exact ⟨hob,hox⟩ | exact ⟨hmo _,hox' _⟩))),?_⟩)|(refine GoR.c c39 (by rfl) (by rfl) rfl ?_;(refine hg.ret ?_))|(refine GoW.c c40 (by rfl) (by rfl) rfl ?_;(refine (hat _).ret ?_);refine ⟨by (first|exact fun h=>absurd h (by decide)|(intro _;(first | exact ⟨hob,hox⟩ | exact ⟨hmo _,hox' _⟩))),?_⟩)|(refine GoR.c c40 (by rfl) (by rfl) rfl ?_;(refine (hat _).ret ?_))|(refine GoW.c c41 (by rfl) (by rfl) rfl ?_;(refine (hha _).ret ?_);refine ⟨by (first|exact fun h=>absurd h (by decide)|(intro _;(first | exact ⟨hob,hox⟩ | exact ⟨hmo _,hox' _⟩))),?_⟩)|(refine GoR.c c41 (by rfl) (by rfl) rfl ?_;(refine (hha _).ret ?_))|(refine GoW.c c42 (by rfl) (by rfl) rfl ?_;(refine (hky _).ret ?_);refine ⟨by (first|exact fun h=>absurd h (by decide)|(intro _;(first | exact ⟨hob,hox⟩ | exact ⟨hmo _,hox' _⟩))),?_⟩)|(refine GoR.c c42 (by rfl) (by rfl) rfl ?_;(refine (hky _).ret ?_))|(refine GoW.c c43 (by rfl) (by rfl) rfl ?_;(refine (hrk _).ret ?_);refine ⟨by (first|exact fun h=>absurd h (by decide)|(intro _;(first | exact ⟨hob,hox⟩ | exact ⟨hmo _,hox' _⟩))),?_⟩)|(refine GoR.c c43 (by rfl) (by rfl) rfl ?_;(refine (hrk _).ret ?_))|(refine GoW.c c44 (by rfl) (by rfl) rfl ?_;(refine (hro _).ret ?_);refine ⟨by (first|exact fun h=>absurd h (by decide)|(intro _;(first | exact ⟨hob,hox⟩ | exact ⟨hmo _,hox' _⟩))),?_⟩)|(refine GoR.c c44 (by rfl) (by rfl) rfl ?_;(refine (hro _).ret ?_))|refine GoR.s (by rfl) rfl rfl ?_|refine GoW.s (by rfl) rfl rfl (by (first|exact fun h=>absurd h (by decide)|(intro _;(first | exact ⟨hob,hox⟩ | exact ⟨hmo _,hox' _⟩)))) ?_|(refine GoR.splitG rfl (fun hc => ?_) (fun hc => ?_)<;>simp only [hc])|refine Go.condB rfl (fun hc => ?_) (fun hc => ?_))
    refine Go.lpN ?_
    refine Go.keep [(2,.sl none 10 l.length (acs8C l)),(7,.ptr c 0),(10,.ptr mo 0),(11,.int .i64 ((i+1:Nat):Int))] (.cons .refl (.cons .refl (.cons .refl (.cons .refl (.nil))))) ?_
    exact next (i+1,c,w,t,_) (by dsimp only;omega) ⟨h1,hI.app _,hsm⟩
   ·obtain ⟨j,hj⟩:=Int.eq_ofNat_of_zero_le (show 0≤findS zs x.z by omega)
    have hjl:j<t.length:=by have:=(findS_lt (l:=zs) (s:=x.z)).1;omega
    have hjr:j<(rowsOf t).length:=by omega
    have hok:OkT (rowsOf t)[j]:=by rw [show (rowsOf t)[j]=t[j].2 by simp [rowsOf]];exact (hI.ch.at_.tab j hjl).2
    have ta:=tabsAt (most:=most) hjr
    have hg:=ch0Get (orc:=O) hI.ch hj (List.getElem?_eq_getElem hjr) x.r.key
    have hrg:=fun S=>refGetT (orc:=O) (most:=most) hok.rise hok.len x.r.key S
    have d1:decide ((0:Int)≤(j:Int))=true:=by simp
    have d2:decide ((j:Int)<0)=false:=by simp
    simp only [hj,if_neg hfd,if_neg (show ¬ (j:Int)<0 by omega),d1] at hky hrk hha hat
    rw [hrl] at ta
    have hy:OkR ((lookK Rw.key (rowsOf t)[j] x.r.key).getD noRow):=by
     cases hq:lookK Rw.key (rowsOf t)[j] x.r.key with
     | none=>exact ⟨by simp [noRow],by simp [noRow]⟩
     | some r=>exact hok.ok r (lookK_mem hq).1
    generalize (rowsOf t)[j]=m at *
    generalize (lookK Rw.key m x.r.key).getD noRow=y at *
    generalize (lookK Rw.key m x.r.key).isSome=b at *
    have h4:=fun S=>of4 (orc:=O) y (by have:=hy.len;omega) S
    have hsr:=fun S=>refSame (orc:=O) y y (by have:=hy.len;omega) hy.atl hy.atl S
    rw [sameR_self] at hsr
    generalize ps.getD ((j:Int)).toNat ⟨#[]⟩=kp at *
    simp only [Rw.c,refT] at *
    repeat' (first|refine Go.a rfl ?_|refine Go.rg ?_|refine GoR.nil ?_|refine Go.ret ?_|refine Go.b rfl ?_|refine Go.rgS dmx (by decide) ?_|refine Go.rgD (id:=16) [3] (fun H=>objAt H mo=some [.str own,.sl none 1 zs.length (zs.map .str),.sl none 2 t.length (tabsC most (rowsOf t))]∧objAt H M.length=some [.int .i64 x.op,.str x.z,.str x.r.key,.int .i64 x.r.st.tick,.int .i64 x.r.st.inc,.int .i64 x.r.st.seq,.str x.r.st.org,.sl none 5 x.r.at_.length (attsC x.r.at_),.int .i64 x.now,.int .i64 x.age]) dmx (by decide) 4 (by decide) (by (first | exact ⟨hob,hox⟩ | exact ⟨hmo _,hox' _⟩)) ?_|refine Go.rgF (id:=26) 10 [5,6] [0,2] (fun H=>objAt H mo=some [.str own,.sl none 1 zs.length (zs.map .str),.sl none 2 t.length (tabsC most (rowsOf t))]∧objAt H M.length=some [.int .i64 x.op,.str x.z,.str x.r.key,.int .i64 x.r.st.tick,.int .i64 x.r.st.inc,.int .i64 x.r.st.seq,.str x.r.st.org,.sl none 5 x.r.at_.length (attsC x.r.at_),.int .i64 x.now,.int .i64 x.age]) dmx (by decide) 6 (by decide) (by decide) rfl rfl rfl rfl dze76 (by simp [AM.scalarV,Value.cells]) (by (first | exact ⟨hob,hox⟩ | exact ⟨hmo _,hox' _⟩)) ?_|refine Go.rgD (id:=43) [12,14] (fun H=>objAt H mo=some [.str own,.sl none 1 zs.length (zs.map .str),.sl none 2 t.length (tabsC most (rowsOf t))]∧objAt H M.length=some [.int .i64 x.op,.str x.z,.str x.r.key,.int .i64 x.r.st.tick,.int .i64 x.r.st.inc,.int .i64 x.r.st.seq,.str x.r.st.org,.sl none 5 x.r.at_.length (attsC x.r.at_),.int .i64 x.now,.int .i64 x.age]) dmx (by decide) 15 (by decide) (by (first | exact ⟨hob,hox⟩ | exact ⟨hmo _,hox' _⟩)) ?_|refine Go.rgF (id:=48) 12 [8] [] (fun H=>objAt H mo=some [.str own,.sl none 1 zs.length (zs.map .str),.sl none 2 t.length (tabsC most (rowsOf t))]∧objAt H M.length=some [.int .i64 x.op,.str x.z,.str x.r.key,.int .i64 x.r.st.tick,.int .i64 x.r.st.inc,.int .i64 x.r.st.seq,.str x.r.st.org,.sl none 5 x.r.at_.length (attsC x.r.at_),.int .i64 x.now,.int .i64 x.age]) dmx (by decide) 8 (by decide) (by decide) rfl rfl rfl rfl dze44 (by simp [AM.scalarV,Value.cells]) (by (first | exact ⟨hob,hox⟩ | exact ⟨hmo _,hox' _⟩)) ?_|refine Go.rgD (id:=54) [9,13] (fun H=>objAt H mo=some [.str own,.sl none 1 zs.length (zs.map .str),.sl none 2 t.length (tabsC most (rowsOf t))]∧objAt H M.length=some [.int .i64 x.op,.str x.z,.str x.r.key,.int .i64 x.r.st.tick,.int .i64 x.r.st.inc,.int .i64 x.r.st.seq,.str x.r.st.org,.sl none 5 x.r.at_.length (attsC x.r.at_),.int .i64 x.now,.int .i64 x.age]) dmx (by decide) 14 (by decide) (by (first | exact ⟨hob,hox⟩ | exact ⟨hmo _,hox' _⟩)) ?_|refine GoW.nil rfl ?_|((first|refine GoR.o (by rfl) (by rfl) ?_|refine GoW.o (by rfl) (by rfl) ?_|refine GoW.rd (by rfl) (by rfl) ?_);(conv=>arg 1;simp only [G,Z,Y,Gx,un_neg,cutD,decide_true,decide_false,simprocAttr,fb2,fb3,fb4,fb9,fb28,fb30,fb32,fb33,fb35,fb41,fb42,fb44,fb51,fb62,fb70,fb71,fb74,fb76,fb80,hox,hox',hmo,hob,wrap_succ (show i<4611686018427387904 by omega),d1,d2,ta,bne_self_eq_false]);first|show GoR ..|(show _∧GoW ..;refine ⟨by (first|exact fun h=>absurd h (by decide)|(intro _;(first | exact ⟨hob,hox⟩ | exact ⟨hmo _,hox' _⟩))),?_⟩)|(show _∧_∧_∧GoW ..;refine ⟨rfl,by (first | exact ⟨hob,hox⟩ | exact ⟨hmo _,hox' _⟩),(fun H hI=>by (try dsimp only at hI);simp only [G,Z,Y,Gx,un_neg,cutD,decide_true,decide_false,simprocAttr,fb2,fb3,fb4,fb9,fb28,fb30,fb32,fb33,fb35,fb41,fb42,fb44,fb51,fb62,fb70,fb71,fb74,fb76,fb80,hox,hox',hmo,hob,wrap_succ (show i<4611686018427387904 by omega),d1,d2,ta,bne_self_eq_false,hI]),?_⟩))|(refine GoW.c c39 (by rfl) (by rfl) rfl ?_;(refine hg.ret ?_);refine ⟨by (first|exact fun h=>absurd h (by decide)|(intro _;(first | exact ⟨hob,hox⟩ | exact ⟨hmo _,hox' _⟩))),?_⟩)|(refine GoR.c c39 (by rfl) (by rfl) rfl ?_;(refine hg.ret ?_))|(refine GoW.c c40 (by rfl) (by rfl) rfl ?_;(refine (hat _).ret ?_);refine ⟨by (first|exact fun h=>absurd h (by decide)|(intro _;(first | exact ⟨hob,hox⟩ | exact ⟨hmo _,hox' _⟩))),?_⟩)|(refine GoR.c c40 (by rfl) (by rfl) rfl ?_;(refine (hat _).ret ?_))|(refine GoW.c c41 (by rfl) (by rfl) rfl ?_;(refine (hha _).ret ?_);refine ⟨by (first|exact fun h=>absurd h (by decide)|(intro _;(first | exact ⟨hob,hox⟩ | exact ⟨hmo _,hox' _⟩))),?_⟩)|(refine GoR.c c41 (by rfl) (by rfl) rfl ?_;(refine (hha _).ret ?_))|(refine GoW.c c42 (by rfl) (by rfl) rfl ?_;(refine (hky _).ret ?_);refine ⟨by (first|exact fun h=>absurd h (by decide)|(intro _;(first | exact ⟨hob,hox⟩ | exact ⟨hmo _,hox' _⟩))),?_⟩)|(refine GoR.c c42 (by rfl) (by rfl) rfl ?_;(refine (hky _).ret ?_))|(refine GoW.c c43 (by rfl) (by rfl) rfl ?_;(refine (hrk _).ret ?_);refine ⟨by (first|exact fun h=>absurd h (by decide)|(intro _;(first | exact ⟨hob,hox⟩ | exact ⟨hmo _,hox' _⟩))),?_⟩)|(refine GoR.c c43 (by rfl) (by rfl) rfl ?_;(refine (hrk _).ret ?_))|(refine GoW.c c13 (by rfl) (by rfl) rfl ?_;(refine (hrg _).ret ?_);refine ⟨by (first|exact fun h=>absurd h (by decide)|(intro _;(first | exact ⟨hob,hox⟩ | exact ⟨hmo _,hox' _⟩))),?_⟩)|(refine GoR.c c13 (by rfl) (by rfl) rfl ?_;(refine (hrg _).ret ?_))|refine GoR.s (by rfl) rfl rfl ?_|refine GoW.s (by rfl) rfl rfl (by (first|exact fun h=>absurd h (by decide)|(intro _;(first | exact ⟨hob,hox⟩ | exact ⟨hmo _,hox' _⟩)))) ?_|(refine GoR.splitG rfl (fun hc => ?_) (fun hc => ?_)<;>simp only [hc])|refine Go.condB rfl (fun hc => ?_) (fun hc => ?_))
    have ho1 : ∀ E,objAt (M'++(.obj y.c::E)) M'.length=some y.c:=fun E=>by simp [objAt]
    have ho2 : ∀ u E,objAt (M'++(u :: .obj y.c::E)) (M'.length+1)=some y.c:=fun u E=>by simp [objAt]
    simp only [Rw.c] at ho1 ho2
    repeat' (first|refine Go.a rfl ?_|refine Go.rg ?_|refine GoR.nil ?_|refine Go.ret ?_|refine Go.b rfl ?_|refine Go.rgS dmx (by decide) ?_|refine Go.rgD (id:=16) [3] (fun H=>objAt H (M'.length+1)=some [.str y.key,.int .i64 y.st.tick,.int .i64 y.st.inc,.int .i64 y.st.seq,.str y.st.org,.sl none 5 y.at_.length (attsC y.at_)]) dmx (by decide) 4 (by decide) (by (simp [objAt])) ?_|refine Go.rgF (id:=26) 10 [5,6] [0,2] (fun H=>objAt H (M'.length+1)=some [.str y.key,.int .i64 y.st.tick,.int .i64 y.st.inc,.int .i64 y.st.seq,.str y.st.org,.sl none 5 y.at_.length (attsC y.at_)]) dmx (by decide) 6 (by decide) (by decide) rfl rfl rfl rfl dze76 (by simp [AM.scalarV,Value.cells]) (by (simp [objAt])) ?_|refine Go.rgD (id:=43) [12,14] (fun H=>objAt H (M'.length+1)=some [.str y.key,.int .i64 y.st.tick,.int .i64 y.st.inc,.int .i64 y.st.seq,.str y.st.org,.sl none 5 y.at_.length (attsC y.at_)]) dmx (by decide) 15 (by decide) (by (simp [objAt])) ?_|refine Go.rgF (id:=48) 12 [8] [] (fun H=>objAt H (M'.length+1)=some [.str y.key,.int .i64 y.st.tick,.int .i64 y.st.inc,.int .i64 y.st.seq,.str y.st.org,.sl none 5 y.at_.length (attsC y.at_)]) dmx (by decide) 8 (by decide) (by decide) rfl rfl rfl rfl dze44 (by simp [AM.scalarV,Value.cells]) (by (simp [objAt])) ?_|refine Go.rgD (id:=49) [6] (fun H=>objAt H (M'.length+1)=some [.str y.key,.int .i64 y.st.tick,.int .i64 y.st.inc,.int .i64 y.st.seq,.str y.st.org,.sl none 5 y.at_.length (attsC y.at_)]) dmx (by decide) 7 (by decide) (by (simp [objAt])) ?_|refine Go.rgD (id:=54) [9,13] (fun H=>objAt H (M'.length+1)=some [.str y.key,.int .i64 y.st.tick,.int .i64 y.st.inc,.int .i64 y.st.seq,.str y.st.org,.sl none 5 y.at_.length (attsC y.at_)]) dmx (by decide) 14 (by decide) (by (simp [objAt])) ?_|refine GoW.nil rfl ?_|((first|refine GoR.o (by rfl) (by rfl) ?_|refine GoW.o (by rfl) (by rfl) ?_|refine GoW.rd (by rfl) (by rfl) ?_);(conv=>arg 1;simp only [G,Z,Y,Gx,un_neg,cutD,decide_true,decide_false,simprocAttr,fb2,fb3,fb4,fb9,fb28,fb30,fb32,fb33,fb35,fb41,fb42,fb44,fb51,fb62,fb70,fb71,fb74,fb76,fb80,ho1,ho2,wrap_succ (show i<4611686018427387904 by omega),bne_self_eq_false]);first|show GoR ..|(show _∧GoW ..;refine ⟨by (first|exact fun h=>absurd h (by decide)|(intro _;(simp [objAt]))),?_⟩)|(show _∧_∧_∧GoW ..;refine ⟨rfl,by (simp [objAt]),(fun H hI=>by (try dsimp only at hI);simp only [G,Z,Y,Gx,un_neg,cutD,decide_true,decide_false,simprocAttr,fb2,fb3,fb4,fb9,fb28,fb30,fb32,fb33,fb35,fb41,fb42,fb44,fb51,fb62,fb70,fb71,fb74,fb76,fb80,ho1,ho2,wrap_succ (show i<4611686018427387904 by omega),bne_self_eq_false,hI]),?_⟩))|(refine GoW.c c11 (by rfl) (by rfl) rfl ?_;(refine (h4 _).ret ?_);refine ⟨by (first|exact fun h=>absurd h (by decide)|(intro _;(simp [objAt]))),?_⟩)|(refine GoR.c c11 (by rfl) (by rfl) rfl ?_;(refine (h4 _).ret ?_))|(refine GoW.c c22 (by rfl) (by rfl) rfl ?_;(refine (hsr _).ret ?_);refine ⟨by (first|exact fun h=>absurd h (by decide)|(intro _;(simp [objAt]))),?_⟩)|(refine GoR.c c22 (by rfl) (by rfl) rfl ?_;(refine (hsr _).ret ?_))|refine GoR.s (by rfl) rfl rfl ?_|refine GoW.s (by rfl) rfl rfl (by (first|exact fun h=>absurd h (by decide)|(intro _;(simp [objAt])))) ?_|(refine GoR.splitG rfl (fun hc => ?_) (fun hc => ?_)<;>simp only [hc])|refine Go.condB rfl (fun hc => ?_) (fun hc => ?_))
    refine Go.lpN ?_
    refine Go.keep [(2,.sl none 10 l.length (acs8C l)),(7,.ptr c 0),(10,.ptr mo 0),(11,.int .i64 ((i+1:Nat):Int))] (.cons .refl (.cons .refl (.cons .refl (.cons .refl (.nil))))) ?_
    exact next (i+1,c,w,t,_) (by dsimp only;omega) ⟨h1,hI.app _,hsm⟩
 ·clear next
  obtain rfl:i=l.length:=by omega
  have dl:decide ((l.length:Int)<(l.length:Int))=false:=by simp
  repeat' (first|refine Go.a rfl ?_|refine Go.rg ?_|refine GoR.nil ?_|refine Go.ret ?_|refine Go.b rfl ?_|refine Go.rgS dmx (by decide) ?_|refine Go.rgD (id:=16) [3] (fun _=>True) dmx (by decide) 4 (by decide) (by trivial) ?_|refine Go.rgF (id:=26) 10 [5,6] [0,2] (fun _=>True) dmx (by decide) 6 (by decide) (by decide) rfl rfl rfl rfl dze76 (by simp [AM.scalarV,Value.cells]) (by trivial) ?_|refine Go.rgD (id:=43) [12,14] (fun _=>True) dmx (by decide) 15 (by decide) (by trivial) ?_|refine Go.rgF (id:=48) 12 [8] [] (fun _=>True) dmx (by decide) 8 (by decide) (by decide) rfl rfl rfl rfl dze44 (by simp [AM.scalarV,Value.cells]) (by trivial) ?_|refine Go.rgD (id:=49) [6] (fun _=>True) dmx (by decide) 7 (by decide) (by trivial) ?_|refine Go.rgD (id:=54) [9,13] (fun _=>True) dmx (by decide) 14 (by decide) (by trivial) ?_|refine GoW.nil rfl ?_|((first|refine GoR.o (by rfl) (by rfl) ?_|refine GoW.o (by rfl) (by rfl) ?_|refine GoW.rd (by rfl) (by rfl) ?_);(conv=>arg 1;simp only [G,Z,Y,Gx,un_neg,cutD,decide_true,decide_false,simprocAttr,fb2,fb3,fb4,fb9,fb28,fb30,fb32,fb33,fb35,fb41,fb42,fb44,fb51,fb62,fb70,fb71,fb74,fb76,fb80,dl]);first|show GoR ..|(show _∧GoW ..;refine ⟨by exact fun _=>trivial,?_⟩)|(show _∧_∧_∧GoW ..;refine ⟨rfl,by trivial,(fun H _=>by simp only [G,Z,Y,Gx,un_neg,cutD,decide_true,decide_false,simprocAttr,fb2,fb3,fb4,fb9,fb28,fb30,fb32,fb33,fb35,fb41,fb42,fb44,fb51,fb62,fb70,fb71,fb74,fb76,fb80,dl]),?_⟩))|refine GoR.s (by rfl) rfl rfl ?_|refine GoW.s (by rfl) rfl rfl (by exact fun _=>trivial) ?_|(refine GoR.splitG rfl (fun hc => ?_) (fun hc => ?_)<;>simp only [hc])|refine Go.condB rfl (fun hc => ?_) (fun hc => ?_))
  have hmo:objAt M mo=some [.str own,.sl none 1 zs.length (zs.map .str),.sl none 2 t.length (tabsC most (rowsOf t))]:=hI.m
  have hrl:(rowsOf t).length=t.length:=by simp [rowsOf]
  have hzt:zs.length=t.length:=hI.ch.at_.z
  obtain ⟨Eg,hEg⟩:=hI.ch.fr.pre (by simp)
  refine Go.keep [(7,.ptr c 0),(10,.ptr mo 0),(23,.int .i64 ((0:Nat):Int))] (.cons .refl (.cons .refl (.cons .refl (.nil)))) ?_
  refine Go.while (α:=Nat) (fun k=>zs.length - k) (fun k=>[(7,.ptr c 0),(10,.ptr mo 0),(23,.int .i64 (k:Int))]) (fun _=>M) (fun k=>k≤zs.length) ?_ 0 (Nat.zero_le _)
  intro k hk next
  by_cases hkl:k<zs.length
  ·have hkr:k<(rowsOf t).length:=by omega
   have a1:=strsAt hkl
   have hzk:=hz k (by omega)
   rw [show zs.getD k ⟨#[]⟩=zs[k] by simp [hkl]] at hzk
   have hro:=ch0Rows (orc:=O) hI.ch hzk (List.getElem?_eq_getElem hkr)
   have ta:=tabsAt (most:=most) hkr
   have tr:=tabRow (most:=most) hkr
   have hok:OkT (rowsOf t)[k]:=by rw [show (rowsOf t)[k]=t[k].2 by simp [rowsOf]];exact (hI.ch.at_.tab k (by omega)).2
   have hof:=fun S=>ofRows (orc:=O) (rowsOf t)[k] hok.len hok.ok S
   have hsr:=fun S=>sameRows (orc:=O) (rowsOf t)[k] hok.len hok.ok S
   rw [hrl] at ta
   generalize (rowsOf t)[k]=m at *
   simp only [refT] at ta
   repeat' (first|refine Go.a rfl ?_|refine Go.rg ?_|refine GoR.nil ?_|refine Go.ret ?_|refine Go.b rfl ?_|refine Go.rgS dmx (by decide) ?_|refine Go.rgD (id:=16) [3] (fun H=>objAt H mo=some [.str own,.sl none 1 zs.length (zs.map .str),.sl none 2 t.length (tabsC most (rowsOf t))]) dmx (by decide) 4 (by decide) (by (exact hmo)) ?_|refine Go.rgF (id:=26) 10 [5,6] [0,2] (fun H=>objAt H mo=some [.str own,.sl none 1 zs.length (zs.map .str),.sl none 2 t.length (tabsC most (rowsOf t))]) dmx (by decide) 6 (by decide) (by decide) rfl rfl rfl rfl dze76 (by simp [AM.scalarV,Value.cells]) (by (exact hmo)) ?_|refine Go.rgD (id:=43) [12,14] (fun H=>objAt H mo=some [.str own,.sl none 1 zs.length (zs.map .str),.sl none 2 t.length (tabsC most (rowsOf t))]) dmx (by decide) 15 (by decide) (by (exact hmo)) ?_|refine Go.rgF (id:=48) 12 [8] [] (fun H=>objAt H mo=some [.str own,.sl none 1 zs.length (zs.map .str),.sl none 2 t.length (tabsC most (rowsOf t))]) dmx (by decide) 8 (by decide) (by decide) rfl rfl rfl rfl dze44 (by simp [AM.scalarV,Value.cells]) (by (exact hmo)) ?_|refine Go.rgD (id:=49) [6] (fun H=>objAt H mo=some [.str own,.sl none 1 zs.length (zs.map .str),.sl none 2 t.length (tabsC most (rowsOf t))]) dmx (by decide) 7 (by decide) (by (exact hmo)) ?_|refine Go.rgD (id:=54) [9,13] (fun H=>objAt H mo=some [.str own,.sl none 1 zs.length (zs.map .str),.sl none 2 t.length (tabsC most (rowsOf t))]) dmx (by decide) 14 (by decide) (by (exact hmo)) ?_|refine GoW.nil rfl ?_|((first|refine GoR.o (by rfl) (by rfl) ?_|refine GoW.o (by rfl) (by rfl) ?_|refine GoW.rd (by rfl) (by rfl) ?_);(conv=>arg 1;simp only [G,Z,Y,Gx,un_neg,cutD,decide_true,decide_false,simprocAttr,fb2,fb3,fb4,fb9,fb28,fb30,fb32,fb33,fb35,fb41,fb42,fb44,fb51,fb62,fb70,fb71,fb74,fb76,fb80,show decide ((k:Int)<(zs.length:Int))=true by simp;omega,hmo,a1,ta,tr,wrap_succ (show k<4611686018427387904 by omega)]);first|show GoR ..|(show _∧GoW ..;refine ⟨by (first|exact fun h=>absurd h (by decide)|(intro _;(exact hmo))),?_⟩)|(show _∧_∧_∧GoW ..;refine ⟨rfl,by (exact hmo),(fun H hI=>by (try dsimp only at hI);simp only [G,Z,Y,Gx,un_neg,cutD,decide_true,decide_false,simprocAttr,fb2,fb3,fb4,fb9,fb28,fb30,fb32,fb33,fb35,fb41,fb42,fb44,fb51,fb62,fb70,fb71,fb74,fb76,fb80,show decide ((k:Int)<(zs.length:Int))=true by simp;omega,hmo,a1,ta,tr,wrap_succ (show k<4611686018427387904 by omega),hI]),?_⟩))|(refine GoW.c c44 (by rfl) (by rfl) rfl ?_;(refine hro.ret ?_);refine ⟨by (first|exact fun h=>absurd h (by decide)|(intro _;(exact hmo))),?_⟩)|(refine GoR.c c44 (by rfl) (by rfl) rfl ?_;(refine hro.ret ?_))|(refine GoW.c c46 (by rfl) (by rfl) rfl ?_;(refine (hof _).ret ?_);refine ⟨by (first|exact fun h=>absurd h (by decide)|(intro _;(exact hmo))),?_⟩)|(refine GoR.c c46 (by rfl) (by rfl) rfl ?_;(refine (hof _).ret ?_))|(refine GoW.c c45 (by rfl) (by rfl) rfl ?_;(refine (hsr _).ret ?_);refine ⟨by (first|exact fun h=>absurd h (by decide)|(intro _;(exact hmo))),?_⟩)|(refine GoR.c c45 (by rfl) (by rfl) rfl ?_;(refine (hsr _).ret ?_))|refine GoR.s (by rfl) rfl rfl ?_|refine GoW.s (by rfl) rfl rfl (by (first|exact fun h=>absurd h (by decide)|(intro _;(exact hmo)))) ?_|(refine GoR.splitG rfl (fun hc => ?_) (fun hc => ?_)<;>simp only [hc])|refine Go.condB rfl (fun hc => ?_) (fun hc => ?_))
   refine Go.lpN ?_
   refine Go.keep [(7,.ptr c 0),(10,.ptr mo 0),(23,.int .i64 ((k+1:Nat):Int))] (.cons .refl (.cons .refl (.cons .refl (.nil)))) ?_
   exact next (k+1) (by omega) hkl
  ·clear next
   repeat' (first|refine Go.a rfl ?_|refine Go.rg ?_|refine GoR.nil ?_|refine Go.ret ?_|refine Go.b rfl ?_|refine Go.rgS dmx (by decide) ?_|refine Go.rgD (id:=16) [3] (fun _=>True) dmx (by decide) 4 (by decide) (by trivial) ?_|refine Go.rgF (id:=26) 10 [5,6] [0,2] (fun _=>True) dmx (by decide) 6 (by decide) (by decide) rfl rfl rfl rfl dze76 (by simp [AM.scalarV,Value.cells]) (by trivial) ?_|refine Go.rgD (id:=43) [12,14] (fun _=>True) dmx (by decide) 15 (by decide) (by trivial) ?_|refine Go.rgF (id:=48) 12 [8] [] (fun _=>True) dmx (by decide) 8 (by decide) (by decide) rfl rfl rfl rfl dze44 (by simp [AM.scalarV,Value.cells]) (by trivial) ?_|refine Go.rgD (id:=49) [6] (fun _=>True) dmx (by decide) 7 (by decide) (by trivial) ?_|refine Go.rgD (id:=54) [9,13] (fun _=>True) dmx (by decide) 14 (by decide) (by trivial) ?_|refine GoW.nil rfl ?_|((first|refine GoR.o (by rfl) (by rfl) ?_|refine GoW.o (by rfl) (by rfl) ?_|refine GoW.rd (by rfl) (by rfl) ?_);(conv=>arg 1;simp only [G,Z,Y,Gx,un_neg,cutD,decide_true,decide_false,simprocAttr,fb2,fb3,fb4,fb9,fb28,fb30,fb32,fb33,fb35,fb41,fb42,fb44,fb51,fb62,fb70,fb71,fb74,fb76,fb80,show decide ((k:Int)<(zs.length:Int))=false by simp;omega,hmo]);first|show GoR ..|(show _∧GoW ..;refine ⟨by exact fun _=>trivial,?_⟩)|(show _∧_∧_∧GoW ..;refine ⟨rfl,by trivial,(fun H _=>by simp only [G,Z,Y,Gx,un_neg,cutD,decide_true,decide_false,simprocAttr,fb2,fb3,fb4,fb9,fb28,fb30,fb32,fb33,fb35,fb41,fb42,fb44,fb51,fb62,fb70,fb71,fb74,fb76,fb80,show decide ((k:Int)<(zs.length:Int))=false by simp;omega,hmo]),?_⟩))|refine GoR.s (by rfl) rfl rfl ?_|refine GoW.s (by rfl) rfl rfl (by exact fun _=>trivial) ?_|(refine GoR.splitG rfl (fun hc => ?_) (fun hc => ?_)<;>simp only [hc])|refine Go.condB rfl (fun hc => ?_) (fun hc => ?_))
   refine ⟨(by first | exact .inl rfl | exact .inr rfl),fin ?_⟩
   rw [resD_tmp (fn:=Tryz.f5) rfl]
   simp only [optThen_some,resultD_tmp,resultD_cell,G,Z,Y,Gx,un_neg,cutD,decide_true,decide_false,simprocAttr,fb2,fb3,fb4,fb9,fb28,fb30,fb32,fb33,fb35,fb41,fb42,fb44,fb51,fb62,fb70,fb71,fb74,fb76,fb80]
   exact ⟨_,Eg,hEg,.bool,rfl⟩
end Go.Proofs.DtT
