/- Which of two stamps is the newer. -/
import Derived.Test.YtlllhmenekibjaaGreatDoorDtFacts
import Derived.Test.YtlllhmenekibjaaGreatDoorDmOx
import Derived.Test.YtlllhmenekibjaaGreatDoorAtC1x
import Derived.Test.YtlllhmenekibjaaGreatDoorDtShelf
import Derived.Test.YtlllhmenekibjaaGreatDoorDtInsx
import Derived.Lib.SmallJoins
import Derived.Lib.SplitLaws
set_option linter.unusedSimpArgs false
set_option linter.unusedVariables false
namespace Go.Proofs.DtT
open Go Go.DM Go.Proofs.DtF
set_option maxRecDepth 100000
variable {orc:DOracle}
structure St where
 tick:Int
 inc:Int
 seq:Int
 org:ByteArray
def St.c (s:St):List D:=[.int .i64 s.tick,.int .i64 s.inc,.int .i64 s.seq,.str s.org]
theorem St.low {n:Nat} {a b c:Int} {s:ByteArray} : LowL n [.int .i64 a,.int .i64 b,.int .i64 c,.str s]:=.cons (.int _ _) (.cons (.int _ _) (.cons (.int _ _) (.cons (.str _) .nil)))
def cmpI (a b:Int):Int:=if a<b then -1 else if b<a then 1 else 0
def orI:List Int→Int
 | []=>0
 | x::l=>if x=0 then orI l else x
def cmpSt (a b:St):Int:=orI [cmpI a.tick b.tick,cmpI a.inc b.inc,cmpI a.seq b.seq,cmpB a.org b.org]
theorem isNaNS (a:ByteArray) (S:Mem):CallD Tryz.prog orc 103 [.str a] S fun d S'=>S'=S∧d = .bool false:=by
 refine CallD.e Tryz.func103 rfl Tryz.ntmps103 (by rfl) ?_
 repeat' (first|refine Go.a rfl ?_|refine Go.rg ?_|refine GoR.nil ?_|refine Go.ret ?_|refine Go.b rfl ?_|(refine GoR.o (by rfl) (by rfl) ?_;(conv=>arg 1;simp only [G,Z,Y,Gx,un_neg,cutD,decide_true,decide_false,simprocAttr,fb9]);show GoR ..)|refine Go.condB rfl (fun hc => ?_) (fun hc => ?_))
 all_goals
  refine ⟨(by first | exact .inl rfl | exact .inr rfl),fin ?_⟩
  rw [resD_tmp (fn:=Tryz.f103) rfl]
  simp only [optThen_some,resultD_tmp,resultD_cell,G,Z,Y,Gx,un_neg,cutD,decide_true,decide_false,simprocAttr,fb9]
  refine ⟨_,[],by simp,.bool,?_⟩
  simp
theorem compareS (a b:ByteArray) (S:Mem):CallD Tryz.prog orc 73 [.str a,.str b] S fun d S'=>S'=S∧d = .int .i64 (cmpB a b):=by
 refine CallD.e Tryz.func73 rfl Tryz.ntmps73 (by rfl) ?_
 repeat' (first|refine Go.a rfl ?_|refine Go.rg ?_|refine GoR.nil ?_|refine Go.ret ?_|refine Go.b rfl ?_|(refine GoR.o (by rfl) (by rfl) ?_;(conv=>arg 1;simp only [G,Z,Y,Gx,un_neg,cutD,decide_true,decide_false,simprocAttr,fb9]);show GoR ..)|(refine GoR.c c103 (by rfl) (by rfl) rfl ?_;(refine (isNaNS _ _).ret ?_))|refine Go.condB rfl (fun hc => ?_) (fun hc => ?_))
 all_goals
  refine ⟨(by first | exact .inl rfl | exact .inr rfl),fin ?_⟩
  rw [resD_tmp (fn:=Tryz.f73) rfl]
  simp only [optThen_some,resultD_tmp,resultD_cell,G,Z,Y,Gx,un_neg,cutD,decide_true,decide_false,simprocAttr,fb9]
  refine ⟨_,[],by simp,.int,?_⟩
  unfold cmpB ltB
  simp_all
theorem isNaNI (a:Int) (S:Mem):CallD Tryz.prog orc 102 [.int .i64 a] S fun d S'=>S'=S∧d = .bool false:=by
 refine CallD.e Tryz.func102 rfl Tryz.ntmps102 (by rfl) ?_
 repeat' (first|refine Go.a rfl ?_|refine Go.rg ?_|refine GoR.nil ?_|refine Go.ret ?_|refine Go.b rfl ?_|(refine GoR.o (by rfl) (by rfl) ?_;(conv=>arg 1;simp only [G,Z,Y,Gx,un_neg,cutD,decide_true,decide_false,simprocAttr,fb2]);show GoR ..)|refine Go.condB rfl (fun hc => ?_) (fun hc => ?_))
 all_goals
  refine ⟨(by first | exact .inl rfl | exact .inr rfl),fin ?_⟩
  rw [resD_tmp (fn:=Tryz.f102) rfl]
  simp only [optThen_some,resultD_tmp,resultD_cell,G,Z,Y,Gx,un_neg,cutD,decide_true,decide_false,simprocAttr,fb2]
  refine ⟨_,[],by simp,.bool,?_⟩
  simp
theorem compareI (a b:Int) (S:Mem):CallD Tryz.prog orc 72 [.int .i64 a,.int .i64 b] S fun d S'=>S'=S∧d = .int .i64 (cmpI a b):=by
 refine CallD.e Tryz.func72 rfl Tryz.ntmps72 (by rfl) ?_
 repeat' (first|refine Go.a rfl ?_|refine Go.rg ?_|refine GoR.nil ?_|refine Go.ret ?_|refine Go.b rfl ?_|(refine GoR.o (by rfl) (by rfl) ?_;(conv=>arg 1;simp only [G,Z,Y,Gx,un_neg,cutD,decide_true,decide_false,simprocAttr,fb2]);show GoR ..)|(refine GoR.c c102 (by rfl) (by rfl) rfl ?_;(refine (isNaNI _ _).ret ?_))|refine Go.condB rfl (fun hc => ?_) (fun hc => ?_))
 all_goals
  refine ⟨(by first | exact .inl rfl | exact .inr rfl),fin ?_⟩
  rw [resD_tmp (fn:=Tryz.f72) rfl]
  simp only [optThen_some,resultD_tmp,resultD_cell,G,Z,Y,Gx,un_neg,cutD,decide_true,decide_false,simprocAttr,fb2]
  refine ⟨_,[],by simp,.int,?_⟩
  unfold cmpI
  first
   | (simp_all;done)
   | (
     simp at *
     rw [if_neg (by omega),if_neg (by omega)])
def intsD (l:List Int):List D:=l.map (.int .i64 ·)
theorem intsAt {l:List Int} {i:Nat} (h:i<l.length):((0≤(i:Int)∧(i:Int)<(l.length:Int))=True)∧(intsD l)[i]?=some (.int .i64 l[i]):=⟨ix_ok h,by simp [intsD,h]⟩
theorem orI_drop {l:List Int} (h : ∀ x∈l,x=0) : ∀ {m:List Int},orI (l++m)=orI m:=by
 intro m
 induction l with
 | nil=>rfl
 | cons x l ih=>
  have:=h x (by simp)
  subst this
  simp only [List.cons_append,orI,if_true]
  exact ih fun y hy=>h y (by simp [hy])
theorem cmpOr (own:Option Nat) (l:List Int) (hl:l.length<1000000) (S:Mem):CallD Tryz.prog orc 71 [.sl own 1 l.length (intsD l)] S fun d S'=>S'=S∧d = .int .i64 (orI l):=by
 refine CallD.e Tryz.func71 rfl Tryz.ntmps71 (by rfl) ?_
 repeat' (first|refine Go.a rfl ?_|refine Go.rg ?_|refine GoR.nil ?_|refine Go.ret ?_|refine Go.b rfl ?_|(refine GoR.o (by rfl) (by rfl) ?_;(conv=>arg 1;simp only [G,Z,Y,Gx,un_neg,cutD,decide_true,decide_false,simprocAttr,fb3,fb143]);show GoR ..)|refine Go.condB rfl (fun hc => ?_) (fun hc => ?_))
 refine Go.keep [(3,.int .i64 0),(6,.sl own 1 l.length (intsD l)),(7,.int .i64 (l.length:Int)),(8,.int .i64 ((0:Nat):Int))] (.cons .refl (.cons .refl (.cons .refl (.cons .refl (.nil))))) ?_
 refine Go.while (α:=Nat) (fun i=>l.length - i) (fun i=>[(3,.int .i64 0),(6,.sl own 1 l.length (intsD l)),(7,.int .i64 (l.length:Int)),(8,.int .i64 (i:Int))]) (fun _=>S) (fun i=>i≤l.length ∧ ∀ x∈l.take i,x=0) ?_ 0 ⟨Nat.zero_le _,by simp⟩
 rintro i ⟨hi,hz⟩ next
 repeat' (first|refine Go.a rfl ?_|refine Go.rg ?_|refine GoR.nil ?_|refine Go.ret ?_|refine Go.b rfl ?_|(refine GoR.o (by rfl) (by rfl) ?_;(conv=>arg 1;simp only [G,Z,Y,Gx,un_neg,cutD,decide_true,decide_false,simprocAttr,fb3,fb143]);show GoR ..)|refine Go.condB rfl (fun hc => ?_) (fun hc => ?_))
 ·have h1:i<l.length:=by simpa using hc
  repeat' (first|refine Go.a rfl ?_|refine Go.rg ?_|refine GoR.nil ?_|refine Go.ret ?_|refine Go.b rfl ?_|(refine GoR.o (by rfl) (by rfl) ?_;(conv=>arg 1;simp only [G,Z,Y,Gx,un_neg,cutD,decide_true,decide_false,simprocAttr,fb3,fb143,intsAt h1,wrap_succ (show i<4611686018427387904 by omega)]);show GoR ..)|refine Go.condB rfl (fun hc => ?_) (fun hc => ?_))
  ·clear next
   refine ⟨(by first | exact .inl rfl | exact .inr rfl),fin ?_⟩
   rw [resD_tmp (fn:=Tryz.f71) rfl]
   simp only [optThen_some,resultD_tmp,resultD_cell,G,Z,Y,Gx,un_neg,cutD,decide_true,decide_false,simprocAttr,fb3,fb143]
   refine ⟨_,[],by simp,.int,?_⟩
   have hne:l[i]≠0:=by simpa using hc
   have:orI l=orI (l.take i++l.drop i):=by rw [List.take_append_drop]
   rw [this,orI_drop hz,List.drop_eq_getElem_cons h1]
   simp [orI,hne]
  ·refine Go.lpN ?_
   refine Go.keep [(3,.int .i64 0),(6,.sl own 1 l.length (intsD l)),(7,.int .i64 (l.length:Int)),(8,.int .i64 ((i+1:Nat):Int))] (.cons .refl (.cons .refl (.cons .refl (.cons .refl (.nil))))) ?_
   refine next (i+1) (by omega) ⟨h1,fun x hx => ?_⟩
   clear next
   rw [List.take_succ_eq_append_getElem h1,List.mem_append] at hx
   rcases hx with hx | hx
   ·exact hz x hx
   ·have:l[i]=0:=by simpa using hc
    simp at hx
    exact hx.trans this
 ·clear next
  refine ⟨(by first | exact .inl rfl | exact .inr rfl),fin ?_⟩
  rw [resD_tmp (fn:=Tryz.f71) rfl]
  simp only [optThen_some,resultD_tmp,resultD_cell,G,Z,Y,Gx,un_neg,cutD,decide_true,decide_false,simprocAttr,fb3,fb143]
  refine ⟨_,[],by simp,.int,?_⟩
  have:i=l.length:=by simp at hc;omega
  subst this
  rw [List.take_length] at hz
  have:=orI_drop hz (m:=[])
  rw [List.append_nil] at this
  simp [this,orI]
theorem compareSt (a b:St) (S:Mem):CallD Tryz.prog orc 25 [.agg a.c,.agg b.c] S fun d S'=>S'=S∧d = .int .i64 (cmpSt a b):=by
 obtain ⟨a1,a2,a3,a4⟩:=a
 obtain ⟨b1,b2,b3,b4⟩:=b
 simp only [St.c]
 refine CallD.e Tryz.func25 rfl Tryz.ntmps25 (by rfl) ?_
 repeat' (first|refine Go.a rfl ?_|refine Go.rg ?_|refine GoR.nil ?_|refine Go.ret ?_|refine Go.b rfl ?_|refine Go.rgS dmx (by decide) ?_|refine Go.rgD [6,8,11,13,16,18] (fun H=>objAt H S.length=some [.int .i64 a1,.int .i64 a2,.int .i64 a3,.str a4]∧objAt H (S.length+1)=some [.int .i64 b1,.int .i64 b2,.int .i64 b3,.str b4]) dmx (by decide) 19 (by decide) (by (simp only [List.append_assoc,List.cons_append,List.nil_append,objAt_app,objAt_app0,objAt_succ,objAt_zero,and_self])) ?_|refine GoW.nil rfl ?_|((first|refine GoR.o (by rfl) (by rfl) ?_|refine GoW.o (by rfl) (by rfl) ?_|refine GoW.rd (by rfl) (by rfl) ?_);(conv=>arg 1;simp only [G,Z,Y,Gx,un_neg,cutD,decide_true,decide_false,simprocAttr,fb2,fb9,fb32,fb143]);first|show GoR ..|(show _∧GoW ..;refine ⟨by (first|exact fun h=>absurd h (by decide)|(intro _;(simp only [List.append_assoc,List.cons_append,List.nil_append,objAt_app,objAt_app0,objAt_succ,objAt_zero,and_self]))),?_⟩)|(show _∧_∧_∧GoW ..;refine ⟨rfl,by (simp only [List.append_assoc,List.cons_append,List.nil_append,objAt_app,objAt_app0,objAt_succ,objAt_zero,and_self]),(fun H hI=>by (try dsimp only at hI);simp only [G,Z,Y,Gx,un_neg,cutD,decide_true,decide_false,simprocAttr,fb2,fb9,fb32,fb143,hI]),?_⟩))|(refine GoW.c c72 (by rfl) (by rfl) rfl ?_;(refine (compareI _ _ _).ret ?_);refine ⟨by (first|exact fun h=>absurd h (by decide)|(intro _;(simp only [List.append_assoc,List.cons_append,List.nil_append,objAt_app,objAt_app0,objAt_succ,objAt_zero,and_self]))),?_⟩)|(refine GoR.c c72 (by rfl) (by rfl) rfl ?_;(refine (compareI _ _ _).ret ?_))|(refine GoW.c c73 (by rfl) (by rfl) rfl ?_;(refine (compareS _ _ _).ret ?_);refine ⟨by (first|exact fun h=>absurd h (by decide)|(intro _;(simp only [List.append_assoc,List.cons_append,List.nil_append,objAt_app,objAt_app0,objAt_succ,objAt_zero,and_self]))),?_⟩)|(refine GoR.c c73 (by rfl) (by rfl) rfl ?_;(refine (compareS _ _ _).ret ?_))|(refine GoW.c c71 (by rfl) (by rfl) rfl ?_;(refine (cmpOr _ [_,_,_,_] (by simp) _).ret ?_);refine ⟨by (first|exact fun h=>absurd h (by decide)|(intro _;(simp only [List.append_assoc,List.cons_append,List.nil_append,objAt_app,objAt_app0,objAt_succ,objAt_zero,and_self]))),?_⟩)|(refine GoR.c c71 (by rfl) (by rfl) rfl ?_;(refine (cmpOr _ [_,_,_,_] (by simp) _).ret ?_))|refine Go.condB rfl (fun hc => ?_) (fun hc => ?_))
 refine ⟨(by first | exact .inl rfl | exact .inr rfl),fin ?_⟩
 rw [resD_tmp (fn:=Tryz.f25) rfl]
 simp only [optThen_some,resultD_tmp,resultD_cell,G,Z,Y,Gx,un_neg,cutD,decide_true,decide_false,simprocAttr,fb2,fb9,fb32,fb143]
 exact ⟨_,_,rfl,.int,rfl⟩
end Go.Proofs.DtT
namespace Go.Proofs.DtT
open Go Go.DM Go.Proofs.DtF
set_option maxRecDepth 100000
def piecesOf (s sep:ByteArray):List ByteArray:=Lib.splitB sep 0 (Lib.countB s sep) s
theorem piecesOf_length {s sep:ByteArray} (h:1≤sep.size):(piecesOf s sep).length=Lib.countB s sep+1:=Lib.splitB_all sep h 0 _ s rfl
def trimB (s p:ByteArray):ByteArray:=⟨(Lib.trimPrefix s.data.toList p.data.toList).toArray⟩
def hasB (s p:ByteArray):Bool:=Lib.hasPrefix s.data.toList p.data.toList
def joinB (xs:List ByteArray) (sep:ByteArray):ByteArray:=⟨(Lib.join (xs.map (·.data.toList)) sep.data.toList).toArray⟩
def libC:ClosedT:=fun f vs v=>f=124 ∧ ∃ s p,vs=[.string s,.string p]∧v = .tuple #[.string (trimB s p),.bool (hasB s p)]
def libN:NewT:=fun f vs cs=>f=125 ∧ ∃ s sep,vs=[.string s,.string sep]∧s.size<4294967281∧1≤sep.size∧cs=(piecesOf s sep).map .string
def libJ:POracle:=fun f args d=>f=127 ∧ ∃ own xs sep,args=[.sl own 1 xs.length (xs.map .str),.str sep]∧xs.length≤140737488355328∧(joinB xs sep).size≤140737488355328∧d = .str (joinB xs sep)
def cutT:AmT:=fun f vs cs=>f=113 ∧ ∃ s:ByteArray,s.size<1000000∧s.data[0]?=some 47∧1<s.size∧vs=[.string s]∧cs=(AtT.cutP (s.data.toList.drop 1)).map .string
def libP (f K B:Nat):Prop:=f=97∧K=7∧B=96
def libX (f K:Nat):Prop:=f=96∧K=7
def O:DOracle:=orOrcD (pureO (orOrc (orOrc (orOrc (closedOrc libC) (newOrc libN)) (amOrc cutT)) libJ)) (orOrcD (putOrc libP) (cutOrc libX))
theorem cutT_ok:AmOk Tryz.prog cutT:=by
 refine ⟨?_,?_,?_⟩
 ·rintro f vs cs ⟨rfl,s,_,_,_,rfl,rfl⟩ u hu
  simp at hu
  subst hu
  exact ⟨rfl,rfl⟩
 ·rintro f vs cs ⟨rfl,s,_,_,_,rfl,rfl⟩
  refine ⟨by simp [AtT.cutP],fun u hu => ?_⟩
  obtain ⟨x,_,rfl⟩:=List.mem_map.1 hu
  rfl
 ·rintro f vs cs ⟨rfl,s,h1,h2,h3,rfl,rfl⟩
  have:=AtT.cutA (orc:=AM.noOrc) s h1 h2 h3
  unfold AmNew
  simpa only [List.length_map] using this
structure Start (w0:World):Prop where
 most : ∃ m,w0.cell? ⟨0,0,none⟩=some (.int .i64 m)
theorem cell_lt {w:World} {b o:Nat} {v:Value} (h:w.cell? ⟨b,o,none⟩=some v):b<w.heap.size:=by
 unfold World.cell? at h
 split at h
 ·rename_i hh
  exact (Array.getElem?_eq_some_iff.1 hh).1
 ·cases h
theorem O_sound {w0:World} (hs:Start w0):DOrcSound Tryz.prog (keepsB w0) O:=by
 obtain ⟨m,hm⟩:=hs.most
 refine orOrcD_sound (pureO_sound (orOrc_sound (orOrc_sound (orOrc_sound (closedOrc_sound ⟨?_,?_,?_⟩) (newOrc_sound ⟨?_,?_,?_⟩)) (amOrc_sound cutT_ok)) ?_)) (orOrcD_sound (putOrc_sound fun f K B ⟨h1,h2,h3⟩=>h1▸h2▸h3▸putPair) (cutOrc_sound fun f K ⟨h1,h2⟩=>h1▸h2▸cutPair))
 ·rintro f vs v ⟨rfl,s,p,rfl,rfl⟩ u hu
  simp at hu
  rcases hu with rfl | rfl<;>exact ⟨rfl,rfl⟩
 ·rintro f vs v ⟨rfl,s,p,rfl,rfl⟩
  simp [AM.closedV,AM.scalarV]
 ·rintro f vs v ⟨rfl,s,p,rfl,rfl⟩ φ H w ⟨hb,_⟩
  exact (Tryz.strings_CutPrefix s p w).mono fun e w' ⟨he,hw⟩=>⟨he,hw ▸ .refl _ _⟩
 ·rintro f vs v ⟨rfl,s,sep,rfl,_,_,rfl⟩ u hu
  simp at hu
  rcases hu with rfl | rfl<;>exact ⟨rfl,rfl⟩
 ·rintro f vs v ⟨rfl,s,sep,rfl,_,_,rfl⟩ u hu
  obtain ⟨x,_,rfl⟩:=List.mem_map.1 hu
  rfl
 ·rintro f vs v ⟨rfl,s,sep,rfl,h1,h2,rfl⟩ φ H w ⟨hb,_⟩
  refine ⟨9,(Tryz.strings_Split s sep m w h1 (by rw [hb.cell (by exact cell_lt hm)];exact hm) h2).mono fun e w' ⟨he,hw⟩=>⟨?_,hw⟩⟩
  rw [he,List.length_map,piecesOf_length h2]
 ·rintro f args d ⟨rfl,own,xs,sep,rfl,h1,h2,rfl⟩ r φ w hs vs args' dl hargs
  obtain ⟨v1,v2,rfl⟩ : ∃ v1 v2,vs=[v1,v2]:=by
   have:=dl.1
   match vs,this with | [v1,v2],_=>exact ⟨v1,v2,rfl⟩
  obtain ⟨u1,u2,hu⟩ : ∃ u1 u2,args'.toList=[u1,u2]:=by
   have:=hargs.1
   match h:args'.toList,this with | [v1,v2],_=>exact ⟨v1,v2,rfl⟩
  rw [hu] at hargs
  have e2:v2 = .string sep:=by have:=dl.tail.head;cases this;rfl
  subst e2
  have e3:u2 = .string sep:=hargs.tail.head.scalar_eq rfl
  subst e3
  have ea:args' = #[u1,.string sep]:=by rw [← Array.toList_inj,hu]
  subst ea
  have hx:xs.map D.str=(xs.map Value.string).map ofS:=by simp [ofS,Function.comp_def]
  have hd:=dl.head
  rw [hx] at hd
  have ret:Calls Tryz.prog 127 #[u1,.string sep] w fun e w'=>e = .returned (.string (joinB xs sep))∧RowKit.Below w.heap.size w w':=by
   rcases slice_of hs.1 (n:=xs.length) (cs:=xs.map .string) (by simp;intros;rfl) (by simp;intros;rfl) hd hargs.head with ⟨h0,hn,a,c,rfl⟩ | ⟨hn,bk,o,c,rfl,hc,hbk,hcell⟩
   ·have:xs=[]:=List.eq_nil_of_length_eq_zero h0
    subst this
    exact (Tryz.strings_Join_none a c sep w).mono fun e w' ⟨he,hw⟩=>⟨he,hw ▸ .refl _ _⟩
   ·rw [List.length_map] at hc ⊢
    refine (Tryz.strings_Join bk o c xs sep w (fun j x hj=>hcell j _ (by simp [hj])) hbk h1 hc ?_).mono fun e w' ⟨he,hw⟩=>⟨he,hw⟩
    have:(joinB xs sep).size=(Lib.join (xs.map (·.data.toList)) sep.data.toList).length:=by simp [joinB,ByteArray.size]
    omega
  exact ret.mono fun e w' ⟨he,hw⟩=>⟨r,.string (joinB xs sep),.string (joinB xs sep),φ,he,.refl r,fun S h=>h,step_below hs.1 hw,.str _,.string _⟩
theorem cutPrefix (s p:ByteArray) (S:Mem):CallD Tryz.prog O 124 [.str s,.str p] S fun d S'=>S'=S∧d = .tup [.str (trimB s p),.bool (hasB s p)]:=
 CallD.closedOrc (c:=libC) (us:=[.string s,.string p]) (fun f args d h S=>.inl ⟨rfl,.inl (.inl (.inl h))⟩) ⟨rfl,s,p,rfl,rfl⟩
theorem split (s sep:ByteArray) (h1:s.size<4294967281) (h2:1≤sep.size) (S:Mem):CallD Tryz.prog O 125 [.str s,.str sep] S fun d S'=>S'=S∧d = .sl none 1 (piecesOf s sep).length ((piecesOf s sep).map .str):=by
 have:=CallD.newOrc (P:=Tryz.prog) (orc:=O) (S:=S) (c:=libN) (us:=[.string s,.string sep]) (fun f args d h S=>.inl ⟨rfl,.inl (.inl (.inr h))⟩) ⟨rfl,s,sep,rfl,h1,h2,rfl⟩
 simpa [ofV,ofS,Function.comp_def] using this
theorem join (own:Option Nat) (xs:List ByteArray) (sep:ByteArray) (h1:xs.length≤140737488355328) (h2:(joinB xs sep).size≤140737488355328) (S:Mem) :
  CallD Tryz.prog O 127 [.sl own 1 xs.length (xs.map .str),.str sep] S fun d S'=>S'=S∧d = .str (joinB xs sep):=
 ⟨_,_,.orc (.inl ⟨rfl,.inr ⟨rfl,own,xs,sep,rfl,h1,h2,rfl⟩⟩),rfl,rfl⟩
theorem cutO (s:ByteArray) (h1:s.size<1000000) (h2:s.data[0]?=some 47) (h3:1<s.size) (S:Mem):CallD Tryz.prog O 113 [.str s] S fun d S'=>S'=S∧d = .tup [.sl none 1 (AtT.cutP (s.data.toList.drop 1)).length ((AtT.cutP (s.data.toList.drop 1)).map .str),.bool true]:=by
 have:=CallD.amOrc (P:=Tryz.prog) (orc:=O) (S:=S) (c:=cutT) (us:=[.string s]) (fun f args d h S=>.inl ⟨rfl,.inl (.inr h)⟩) ⟨rfl,s,h1,h2,h3,rfl,rfl⟩
 simpa [ofV,ofS,Function.comp_def] using this
theorem insert {o n i:Nat} {own:Option Nat} {cells new:List D} {S:Mem} (hnl:new.length=7) (hin:i≤n) (hlim:n≤1000000) (h1c:cells.all D.one=true) (h1n:new.all D.one=true) (hob:objAt S o=some cells) (hcl:cells.length=n*7) :
  CallD Tryz.prog O 97 [.msl o 7 n,.int .i64 (i:Int),.sl own 7 1 new] S fun d S'=>S'=S.set o .dead++[.obj (putL cells (i*7) new)]∧d = .msl S.length 7 (n+1):=
 CallD.putOrc (c:=libP) (fun f args S d S' h=>.inr (.inl h)) ⟨rfl,rfl,rfl⟩ (by decide) hnl hin (by omega) h1c h1n hob hcl
theorem insert0 {own:Option Nat} {new:List D} {S:Mem} (hnl:new.length=7) (h1n:new.all D.one=true) :
  CallD Tryz.prog O 97 [.nils,.int .i64 ((0:Nat):Int),.sl own 7 1 new] S fun d S'=>S'=S++[.obj new]∧d = .msl S.length 7 1:=
 CallD.weak (.cons .nil0 (.cons .refl (.cons .refl .nil))) (CallD.putOrc0 (c:=libP) (fun f args S d S' h=>.inr (.inl h)) ⟨rfl,rfl,rfl⟩ (by decide) hnl (by decide) h1n)
theorem delete {o n i:Nat} {cells:List D} {S:Mem} (hin:i<n) (h1c:cells.all D.one=true) (hob:objAt S o=some cells) (hcl:cells.length=n*7) :
  CallD Tryz.prog O 96 [.msl o 7 n,.int .i64 (i:Int),.int .i64 ((i+1:Nat):Int)] S fun d S'=>S'=S.set o (.obj (cutL cells (i*7) 7))∧d = .msl o 7 (n - 1):=
 CallD.cutOrc (c:=libX) (fun f args S d S' h=>.inr (.inr h)) ⟨rfl,rfl⟩ (by decide) hin h1c hob hcl
end Go.Proofs.DtT
namespace Go.Proofs.DtT
open Go Go.DM Go.Proofs.DtF
set_option maxRecDepth 100000
variable {orc:DOracle}
def lowB (b:UInt8):Bool:=decide (97≤b.toNat)&&decide (b.toNat≤122)
def digB (b:UInt8):Bool:=decide (48≤b.toNat)&&decide (b.toNat≤57)
def nameOk (s:ByteArray):Bool:=decide (1≤s.size)&&decide (s.size≤8)&&s.data[0]?.any lowB&&s.data.toList.all (fun b=>lowB b || digB b)
theorem bytes_false {p:UInt8→Bool} {s:ByteArray} {i:Nat} (h:i<s.size) (hp:p (s.data[i]'h)=false):s.data.toList.all p=false:=by
 rw [List.all_eq_false]
 exact ⟨_,List.getElem_mem (l:=s.data.toList) (by simpa using h),by simp [hp]⟩
theorem bytes_true {p:UInt8→Bool} {s:ByteArray} (h : ∀ i (h:i<s.size),p (s.data[i]'h)=true):s.data.toList.all p=true:=by
 rw [List.all_eq_true]
 intro x hx
 obtain ⟨j,hj,rfl⟩:=List.mem_iff_getElem.1 hx
 simpa using h j (by simpa using hj)
theorem nameOk_eq {s:ByteArray} (h:0<s.size):nameOk s=(decide (s.size≤8)&&lowB (s.data[0]'h)&&s.data.toList.all (fun b=>lowB b || digB b)):=by
 have:s.data[0]?=some (s.data[0]'h):=Array.getElem?_eq_getElem h
 rw [nameOk,this]
 simp only [Option.any_some,decide_eq_true (show 1≤s.size from h),Bool.true_and]
def inOk (n:Int):Bool:=decide (0≤n)&&decide (n≤1000000000)
theorem stIn (n:Int) (S:Mem):CallD Tryz.prog orc 116 [.int .i64 n] S fun d S'=>S'=S∧d = .bool (inOk n):=by
 refine CallD.e Tryz.func116 rfl Tryz.ntmps116 (by rfl) ?_
 repeat' (first|refine Go.a rfl ?_|refine Go.rg ?_|refine GoR.nil ?_|refine Go.ret ?_|refine Go.b rfl ?_|(refine GoR.o (by rfl) (by rfl) ?_;(conv=>arg 1;simp only [G,Z,Y,Gx,un_neg,cutD,decide_true,decide_false,simprocAttr,fb2]);show GoR ..)|refine GoR.s (by rfl) rfl rfl ?_|(refine GoR.splitG rfl (fun hc => ?_) (fun hc => ?_)<;>simp only [hc])|refine Go.condB rfl (fun hc => ?_) (fun hc => ?_))
 all_goals
  refine ⟨(by first | exact .inl rfl | exact .inr rfl),fin ?_⟩
  rw [resD_tmp (fn:=Tryz.f116) rfl]
  simp only [optThen_some,resultD_tmp,resultD_cell,G,Z,Y,Gx,un_neg,cutD,decide_true,decide_false,simprocAttr,fb2]
  refine ⟨_,[],by simp,.bool,?_⟩
  first
   | (simp_all [inOk];done)
   | (simp_all [inOk];omega)
theorem stPart (s:ByteArray) (S:Mem):CallD Tryz.prog orc 130 [.str s] S fun d S'=>S'=S∧d = .bool (nameOk s):=by
 refine CallD.e Tryz.func130 rfl Tryz.ntmps130 (by rfl) ?_
 by_cases h0:s.size=0
 ·have hs:s=⟨#[]⟩:=by
   obtain ⟨d⟩:=s
   simp only [ByteArray.size,Array.size_eq_zero_iff] at h0
   rw [h0]
  repeat' (first|refine Go.a rfl ?_|refine Go.rg ?_|refine GoR.nil ?_|refine Go.ret ?_|refine Go.b rfl ?_|(refine GoR.o (by rfl) (by rfl) ?_;(conv=>arg 1;simp only [G,Z,Y,Gx,un_neg,cutD,decide_true,decide_false,simprocAttr,fb3,fb5,fb9,hs]);show GoR ..)|refine GoR.s (by rfl) rfl rfl ?_|(refine GoR.splitG rfl (fun hc => ?_) (fun hc => ?_)<;>simp only [hc])|refine Go.condB rfl (fun hc => ?_) (fun hc => ?_))
  refine ⟨(by first | exact .inl rfl | exact .inr rfl),fin ?_⟩
  rw [resD_tmp (fn:=Tryz.f130) rfl]
  simp only [optThen_some,resultD_tmp,resultD_cell,G,Z,Y,Gx,un_neg,cutD,decide_true,decide_false,simprocAttr,fb3,fb5,fb9]
  exact ⟨_,[],by simp,.bool,by rw [hs];rfl⟩
 ·have h1:0<s.size:=by omega
  have hne:decide (s=(⟨#[]⟩:ByteArray))=false:=by
   rw [decide_eq_false_iff_not]
   rintro rfl
   exact h0 rfl
  repeat' (first|refine Go.a rfl ?_|refine Go.rg ?_|refine GoR.nil ?_|refine Go.ret ?_|refine Go.b rfl ?_|(refine GoR.o (by rfl) (by rfl) ?_;(conv=>arg 1;simp only [G,Z,Y,Gx,un_neg,cutD,decide_true,decide_false,simprocAttr,fb3,fb5,fb9,hne,indexStr_zero h1]);show GoR ..)|refine GoR.s (by rfl) rfl rfl ?_|(refine GoR.splitG rfl (fun hc => ?_) (fun hc => ?_)<;>simp only [hc])|refine Go.condB rfl (fun hc => ?_) (fun hc => ?_))
  ·refine ⟨(by first | exact .inl rfl | exact .inr rfl),fin ?_⟩
   rw [resD_tmp (fn:=Tryz.f130) rfl]
   simp only [optThen_some,resultD_tmp,resultD_cell,G,Z,Y,Gx,un_neg,cutD,decide_true,decide_false,simprocAttr,fb3,fb5,fb9]
   refine ⟨_,[],by simp,.bool,?_⟩
   rw [nameOk_eq h1,decide_eq_false (by simp at hc;omega),Bool.false_and,Bool.false_and]
  ·refine ⟨(by first | exact .inl rfl | exact .inr rfl),fin ?_⟩
   rw [resD_tmp (fn:=Tryz.f130) rfl]
   simp only [optThen_some,resultD_tmp,resultD_cell,G,Z,Y,Gx,un_neg,cutD,decide_true,decide_false,simprocAttr,fb3,fb5,fb9]
   refine ⟨_,[],by simp,.bool,?_⟩
   have:lowB (s.data[0]'h1)=false:=by simp [lowB] at *;omega
   rw [nameOk_eq h1,this,Bool.and_false,Bool.false_and]
  ·rename_i hc8
   have h8:s.size≤8:=by simp at hc8;omega
   have hlo:97≤(s.data[0]'h1).toNat:=by simp at hc;omega
   refine Go.keep [(0,.str s),(17,.int .i64 (s.size:Int)),(18,.int .i64 ((0:Nat):Int))] (.cons .refl (.cons .refl (.cons .refl (.nil)))) ?_
   refine Go.while (α:=Nat) (fun i=>s.size - i) (fun i=>[(0,.str s),(17,.int .i64 (s.size:Int)),(18,.int .i64 (i:Int))]) (fun _=>S) (fun i=>i≤s.size ∧ ∀ j (h:j<s.size),j<i→(lowB (s.data[j]'h) || digB (s.data[j]'h))=true) ?_ 0 ⟨Nat.zero_le _,by simp⟩
   rintro i ⟨hi,hk⟩ next
   clear hc hc8
   repeat' (first|refine Go.a rfl ?_|refine Go.rg ?_|refine GoR.nil ?_|refine Go.ret ?_|refine Go.b rfl ?_|(refine GoR.o (by rfl) (by rfl) ?_;(conv=>arg 1;simp only [G,Z,Y,Gx,un_neg,cutD,decide_true,decide_false,simprocAttr,fb3,fb5,fb9]);show GoR ..)|refine GoR.s (by rfl) rfl rfl ?_|(refine GoR.splitG rfl (fun hc => ?_) (fun hc => ?_)<;>simp only [hc])|refine Go.condB rfl (fun hc => ?_) (fun hc => ?_))
   ·have h2:i<s.size:=by simpa using hc
    repeat' (first|refine Go.a rfl ?_|refine Go.rg ?_|refine GoR.nil ?_|refine Go.ret ?_|refine Go.b rfl ?_|(refine GoR.o (by rfl) (by rfl) ?_;(conv=>arg 1;simp only [G,Z,Y,Gx,un_neg,cutD,decide_true,decide_false,simprocAttr,fb3,fb5,fb9,indexStr_cast h2,wrap_succ (show i<4611686018427387904 by omega)]);show GoR ..)|refine GoR.s (by rfl) rfl rfl ?_|(refine GoR.splitG rfl (fun hc => ?_) (fun hc => ?_)<;>simp only [hc])|refine Go.condB rfl (fun hc => ?_) (fun hc => ?_))
    all_goals first
     | (
       refine Go.lpN ?_
       refine Go.keep [(0,.str s),(17,.int .i64 (s.size:Int)),(18,.int .i64 ((i+1:Nat):Int))] (.cons .refl (.cons .refl (.cons .refl (.nil)))) ?_
       refine next (i+1) (by omega) ⟨h2,fun j hj hlt => ?_⟩
       clear next
       rcases Nat.lt_or_ge j i with h | h
       ·exact hk j hj h
       ·obtain rfl:j=i:=by omega
        clear hk
        simp [lowB,digB] at *
        omega)
     | (
       clear next
       refine ⟨(by first | exact .inl rfl | exact .inr rfl),fin ?_⟩
       rw [resD_tmp (fn:=Tryz.f130) rfl]
       simp only [optThen_some,resultD_tmp,resultD_cell,G,Z,Y,Gx,un_neg,cutD,decide_true,decide_false,simprocAttr,fb3,fb5,fb9]
       refine ⟨_,[],by simp,.bool,?_⟩
       have hp:(fun b=>lowB b || digB b) (s.data[i]'h2)=false:=by
        clear hk
        simp [lowB,digB] at *
        omega
       simp only [nameOk,bytes_false (p:=fun b=>lowB b || digB b) h2 hp,Bool.and_false])
   ·clear next
    refine ⟨(by first | exact .inl rfl | exact .inr rfl),fin ?_⟩
    rw [resD_tmp (fn:=Tryz.f130) rfl]
    simp only [optThen_some,resultD_tmp,resultD_cell,G,Z,Y,Gx,un_neg,cutD,decide_true,decide_false,simprocAttr,fb3,fb5,fb9]
    refine ⟨_,[],by simp,.bool,?_⟩
    have hall:=bytes_true (p:=fun b=>lowB b || digB b) fun j hj=>hk j hj (by simp at hc;omega)
    have h00:=hk 0 h1 (by simp at hc;omega)
    have:lowB (s.data[0]'h1)=true:=by
     simp only [lowB,digB,Bool.or_eq_true,Bool.and_eq_true,decide_eq_true_eq] at h00 ⊢
     omega
    rw [nameOk_eq h1,hall,this,decide_eq_true h8]
    rfl
def pathOk (s:ByteArray):Bool:=hasB s ⟨#[47]⟩&&(piecesOf (trimB s ⟨#[47]⟩) ⟨#[47]⟩).all nameOk&&decide ((piecesOf (trimB s ⟨#[47]⟩) ⟨#[47]⟩).length≤4)
theorem strsAt {l:List ByteArray} {i:Nat} (h:i<l.length):((0≤(i:Int)∧(i:Int)<(l.length:Int))=True)∧(l.map D.str)[i]?=some (.str l[i]):=⟨ix_ok h,by simp [h]⟩
theorem trimB_size (s p:ByteArray):(trimB s p).size≤s.size:=by
 unfold trimB Lib.trimPrefix
 split
 ·show (List.drop _ s.data.toList).toArray.size≤s.data.size
  rw [List.size_toArray,List.length_drop,Array.length_toList]
  omega
 ·show s.data.toList.toArray.size≤s.data.size
  rw [List.size_toArray,Array.length_toList]
  exact Nat.le_refl _
theorem piecesOf_le {s sep:ByteArray} (h:1≤sep.size):(piecesOf s sep).length≤s.size+1:=by
 rw [piecesOf_length h]
 have:=Lib.countB_le sep h _ s (Nat.le_refl _)
 omega
theorem stPath (s:ByteArray) (hs:s.size<1000000) (S:Mem):CallD Tryz.prog O 117 [.str s] S fun d S'=>S'=S∧d = .bool (pathOk s):=by
 refine CallD.e Tryz.func117 rfl Tryz.ntmps117 (by rfl) ?_
 have ht:=trimB_size s ⟨#[47]⟩
 generalize hl:piecesOf (trimB s ⟨#[47]⟩) ⟨#[47]⟩=l
 have hll:l.length≤(trimB s ⟨#[47]⟩).size+1:=by rw [← hl];exact piecesOf_le (by decide)
 cases hh:hasB s ⟨#[47]⟩ with
 | false=>
  repeat' (first|refine Go.a rfl ?_|refine Go.rg ?_|refine GoR.nil ?_|refine Go.ret ?_|refine Go.b rfl ?_|(refine GoR.o (by rfl) (by rfl) ?_;(conv=>arg 1;simp only [G,Z,Y,Gx,un_neg,cutD,decide_true,decide_false,simprocAttr,fb3,fb9,fb51,hh]);show GoR ..)|(refine GoR.c c124 (by rfl) (by rfl) rfl ?_;(refine (cutPrefix _ _ _).ret ?_))|refine Go.condB rfl (fun hc => ?_) (fun hc => ?_))
  refine ⟨(by first | exact .inl rfl | exact .inr rfl),fin ?_⟩
  rw [resD_tmp (fn:=Tryz.f117) rfl]
  simp only [optThen_some,resultD_tmp,resultD_cell,G,Z,Y,Gx,un_neg,cutD,decide_true,decide_false,simprocAttr,fb3,fb9,fb51]
  exact ⟨_,[],by simp,.bool,by simp [pathOk,hh]⟩
 | true=>
  repeat' (first|refine Go.a rfl ?_|refine Go.rg ?_|refine GoR.nil ?_|refine Go.ret ?_|refine Go.b rfl ?_|(refine GoR.o (by rfl) (by rfl) ?_;(conv=>arg 1;simp only [G,Z,Y,Gx,un_neg,cutD,decide_true,decide_false,simprocAttr,fb3,fb9,fb51,hh,hl]);show GoR ..)|(refine GoR.c c124 (by rfl) (by rfl) rfl ?_;(refine (cutPrefix _ _ _).ret ?_))|(refine GoR.c c125 (by rfl) (by rfl) rfl ?_;(refine (split _ _ (by omega) (by decide) _).ret ?_))|refine Go.condB rfl (fun hc => ?_) (fun hc => ?_))
  refine Go.keep [(5,.sl none 1 l.length (l.map .str)),(17,.sl none 1 l.length (l.map .str)),(18,.int .i64 (l.length:Int)),(19,.int .i64 ((0:Nat):Int))] (.cons .refl (.cons .refl (.cons .refl (.cons .refl (.nil))))) ?_
  refine Go.while (α:=Nat) (fun i=>l.length - i) (fun i=>[(5,.sl none 1 l.length (l.map .str)),(17,.sl none 1 l.length (l.map .str)),(18,.int .i64 (l.length:Int)),(19,.int .i64 (i:Int))]) (fun _=>S) (fun i=>i≤l.length ∧ ∀ j (h:j<l.length),j<i→nameOk l[j]=true) ?_ 0 ⟨Nat.zero_le _,by simp⟩
  rintro i ⟨hi,hk⟩ next
  repeat' (first|refine Go.a rfl ?_|refine Go.rg ?_|refine GoR.nil ?_|refine Go.ret ?_|refine Go.b rfl ?_|(refine GoR.o (by rfl) (by rfl) ?_;(conv=>arg 1;simp only [G,Z,Y,Gx,un_neg,cutD,decide_true,decide_false,simprocAttr,fb3,fb9,fb51]);show GoR ..)|refine Go.condB rfl (fun hc => ?_) (fun hc => ?_))
  ·have h1:i<l.length:=by simpa using hc
   cases hn:nameOk l[i] with
   | true=>
    repeat' (first|refine Go.a rfl ?_|refine Go.rg ?_|refine GoR.nil ?_|refine Go.ret ?_|refine Go.b rfl ?_|(refine GoR.o (by rfl) (by rfl) ?_;(conv=>arg 1;simp only [G,Z,Y,Gx,un_neg,cutD,decide_true,decide_false,simprocAttr,fb3,fb9,fb51,strsAt h1,wrap_succ (show i<4611686018427387904 by omega),hn]);show GoR ..)|(refine GoR.c c130 (by rfl) (by rfl) rfl ?_;(refine (stPart _ _).ret ?_))|refine Go.condB rfl (fun hc => ?_) (fun hc => ?_))
    refine Go.lpN ?_
    refine Go.keep [(5,.sl none 1 l.length (l.map .str)),(17,.sl none 1 l.length (l.map .str)),(18,.int .i64 (l.length:Int)),(19,.int .i64 ((i+1:Nat):Int))] (.cons .refl (.cons .refl (.cons .refl (.cons .refl (.nil))))) ?_
    refine next (i+1) (by omega) ⟨h1,fun j hj hlt => ?_⟩
    rcases Nat.lt_or_ge j i with h | h
    ·exact hk j hj h
    ·obtain rfl:j=i:=by omega
     exact hn
   | false=>
    repeat' (first|refine Go.a rfl ?_|refine Go.rg ?_|refine GoR.nil ?_|refine Go.ret ?_|refine Go.b rfl ?_|(refine GoR.o (by rfl) (by rfl) ?_;(conv=>arg 1;simp only [G,Z,Y,Gx,un_neg,cutD,decide_true,decide_false,simprocAttr,fb3,fb9,fb51,strsAt h1,wrap_succ (show i<4611686018427387904 by omega),hn]);show GoR ..)|(refine GoR.c c130 (by rfl) (by rfl) rfl ?_;(refine (stPart _ _).ret ?_))|refine Go.condB rfl (fun hc => ?_) (fun hc => ?_))
    clear next
    refine ⟨(by first | exact .inl rfl | exact .inr rfl),fin ?_⟩
    rw [resD_tmp (fn:=Tryz.f117) rfl]
    simp only [optThen_some,resultD_tmp,resultD_cell,G,Z,Y,Gx,un_neg,cutD,decide_true,decide_false,simprocAttr,fb3,fb9,fb51]
    refine ⟨_,[],by simp,.bool,?_⟩
    have:l.all nameOk=false:=List.all_eq_false.2 ⟨_,List.getElem_mem h1,by simp [hn]⟩
    simp [pathOk,hl,this]
  ·clear next
   repeat' (first|refine Go.a rfl ?_|refine Go.rg ?_|refine GoR.nil ?_|refine Go.ret ?_|refine Go.b rfl ?_|(refine GoR.o (by rfl) (by rfl) ?_;(conv=>arg 1;simp only [G,Z,Y,Gx,un_neg,cutD,decide_true,decide_false,simprocAttr,fb3,fb9,fb51]);show GoR ..)|refine Go.condB rfl (fun hc => ?_) (fun hc => ?_))
   refine ⟨(by first | exact .inl rfl | exact .inr rfl),fin ?_⟩
   rw [resD_tmp (fn:=Tryz.f117) rfl]
   simp only [optThen_some,resultD_tmp,resultD_cell,G,Z,Y,Gx,un_neg,cutD,decide_true,decide_false,simprocAttr,fb3,fb9,fb51]
   refine ⟨_,[],by simp,.bool,?_⟩
   have:l.all nameOk=true:=by
    rw [List.all_eq_true]
    intro x hx
    obtain ⟨j,hj,rfl⟩:=List.mem_iff_getElem.1 hx
    exact hk j hj (by simp at hc;omega)
   simp only [pathOk,hl,hh,this,Bool.true_and,D.bool.injEq]
   rw [Bool.eq_iff_iff,decide_eq_true_iff,decide_eq_true_iff]
   omega
def chk (s:St):Int:=if inOk s.tick&&inOk s.inc&&inOk s.seq then (if pathOk s.org then 0 else 5) else 1
theorem stCheck (s:St) (hs:s.org.size<1000000) (S:Mem):CallD Tryz.prog O 91 [.agg s.c] S fun d S'=>S'=S∧d = .int .i64 (chk s):=by
 obtain ⟨a,b,c,o⟩:=s
 have e1:=stIn (orc:=O) a
 have e2:=stIn (orc:=O) b
 have e3:=stIn (orc:=O) c
 simp only [St.c,chk]
 refine CallD.e Tryz.func91 rfl Tryz.ntmps91 (by rfl) ?_
 cases h1:inOk a<;>cases h2:inOk b<;>cases h3:inOk c<;>cases h4:pathOk o
 all_goals
  repeat' (first|refine Go.a rfl ?_|refine Go.rg ?_|refine GoR.nil ?_|refine Go.ret ?_|refine Go.b rfl ?_|(refine GoR.o (by rfl) (by rfl) ?_;(conv=>arg 1;simp only [G,Z,Y,Gx,un_neg,cutD,decide_true,decide_false,simprocAttr,fb2,fb9,fb32,h1,h2,h3,h4]);show GoR ..)|(refine GoR.c c116 (by rfl) (by rfl) rfl ?_;(first | (refine (e1 _).ret ?_) | (refine (e2 _).ret ?_) | (refine (e3 _).ret ?_)))|(refine GoR.c c117 (by rfl) (by rfl) rfl ?_;(refine (stPath _ hs _).ret ?_))|refine GoR.s (by rfl) rfl rfl ?_|(refine GoR.splitG rfl (fun hc => ?_) (fun hc => ?_)<;>simp only [hc])|refine Go.condB rfl (fun hc => ?_) (fun hc => ?_))
  refine ⟨(by first | exact .inl rfl | exact .inr rfl),fin ?_⟩
  rw [resD_tmp (fn:=Tryz.f91) rfl]
  simp only [optThen_some,resultD_tmp,resultD_cell,G,Z,Y,Gx,un_neg,cutD,decide_true,decide_false,simprocAttr,fb2,fb9,fb32]
  exact ⟨_,_,rfl,.int,by simp⟩
end Go.Proofs.DtT
namespace Go.Proofs.DtT
open Go Go.DM Go.Proofs.DtF
set_option maxRecDepth 100000
def in64 (n:Int):Prop := -9223372036854775808≤n∧n≤9223372036854775807
def In64 (s:St):Prop:=in64 s.tick∧in64 s.inc∧in64 s.seq
theorem add_str {P:Program} {t:TypeId} {x y:Operand} {a b:ByteArray} (h:a.size+b.size<4611686018427387904):binD P .add t x y (.str a) (.str b)=some (.str (a++b)):=
 bin_str (v:=.string (a++b)) (by simp only [AM.strBin];rw [if_neg];show ¬ ((a.size+b.size:Nat):Int)>9223372036854775807;omega)
end Go.Proofs.DtT
namespace Go.Proofs.DtT
open Go Go.DM Go.Proofs.DtF
def msplit:List UInt8→List (List UInt8)
 | []=>[[]]
 | b::l=>if b=47 then []::msplit l else match msplit l with | x::xs=>(b::x)::xs | []=>[[b]]
theorem msplit_ne : ∀ (l:List UInt8),msplit l≠[]
 | []=>by simp [msplit]
 | b::l=>by
  unfold msplit
  split
  ·simp
  ·split<;>simp
theorem index_nil47:Lib.index [] [47] = -1:=rfl
theorem index_hit47 (l:List UInt8):Lib.index (47::l) [47]=0:=by simp [Lib.index]
theorem index_miss47 {b:UInt8} (hb:b≠47) (l:List UInt8):Lib.index (b::l) [47]=if Lib.index l [47] = -1 then -1 else Lib.index l [47]+1:=by
 have : ¬ (47:UInt8)=b:=fun h=>hb h.symm
 simp [Lib.index,this]
theorem split47 : ∀ (l:List UInt8),Lib.splitK [47] 0 (Lib.count l [47]) l=msplit l
 | []=>by
  rw [Lib.count_miss index_nil47]
  rfl
 | b::l=>by
  have ih:=split47 l
  by_cases hb:b=47
  ·subst hb
   have hi:=index_hit47 l
   rw [Lib.count_hit (i:=0) (by simp) hi]
   simp only [List.length_cons,List.length_nil,Nat.zero_add,List.drop_succ_cons,List.drop_zero]
   rw [Nat.add_comm,Lib.splitK,if_neg (by rw [hi];decide),hi]
   simp only [Int.toNat_zero,Nat.zero_add,List.take_zero,List.length_cons,List.length_nil,List.drop_succ_cons,List.drop_zero,ih,msplit,if_true]
  ·have hi:=index_miss47 hb l
   have hge:=Lib.index_ge l [47]
   by_cases hm:Lib.index l [47] = -1
   ·rw [if_pos hm] at hi
    rw [Lib.count_miss hi]
    rw [Lib.count_miss hm] at ih
    simp only [Lib.splitK] at ih ⊢
    rw [msplit,if_neg hb,← ih]
   ·rw [if_neg hm] at hi
    obtain ⟨i,hn⟩ : ∃ i:Nat,Lib.index l [47]=i:=⟨(Lib.index l [47]).toNat,by omega⟩
    rw [hn] at hi
    have hi':Lib.index (b::l) [47]=((i+1:Nat):Int):=by rw [hi];omega
    rw [Lib.count_hit (by simp) hn] at ih
    rw [Lib.count_hit (by simp) hi']
    simp only [List.length_cons,List.length_nil,Nat.zero_add,List.drop_succ_cons] at ih ⊢
    rw [Nat.add_comm 1] at ih ⊢
    rw [Lib.splitK,if_neg (by rw [hn];rw [beq_iff_eq];omega),hn] at ih
    rw [Lib.splitK,if_neg (by rw [hi'];rw [beq_iff_eq];omega),hi']
    simp only [Int.toNat_natCast,Nat.add_zero,List.take_succ_cons,List.drop_succ_cons,List.length_cons,List.length_nil,Nat.zero_add] at ih ⊢
    rw [msplit,if_neg hb,← ih]
def prep (q:List UInt8):List (List UInt8)→List (List UInt8)
 | []=>[]
 | x::xs=>(q++x)::xs
theorem cut_msplit : ∀ (l:List UInt8) (acc:List ByteArray) (q:ByteArray),
  ((l.foldl AtT.stepC (acc,q)).1++[(l.foldl AtT.stepC (acc,q)).2]).map (·.data.toList)=acc.map (·.data.toList)++prep q.data.toList (msplit l)
 | [],acc,q=>by simp [msplit,prep]
 | b::l,acc,q=>by
  rw [List.foldl_cons]
  by_cases hb:b=47
  ·subst hb
   rw [show AtT.stepC (acc,q) 47=(acc++[q],⟨#[]⟩) from rfl,cut_msplit l,msplit,if_pos rfl]
   have:=msplit_ne l
   cases h:msplit l with
   | nil=>exact absurd h this
   | cons x xs=>simp [prep]
  ·rw [show AtT.stepC (acc,q) b=(acc,q++⟨#[b]⟩) by simp [AtT.stepC,hb],cut_msplit l,msplit,if_neg hb]
   have:=msplit_ne l
   cases h:msplit l with
   | nil=>exact absurd h this
   | cons x xs=>simp [prep]
theorem map_bytes_inj : ∀ {a b:List ByteArray},a.map (·.data.toList)=b.map (·.data.toList)→a=b
 | [],[],_=>rfl
 | [],_::_,h=>by simp at h
 | _::_,[],h=>by simp at h
 | x::a,y::b,h=>by
  simp only [List.map_cons,List.cons.injEq] at h
  rw [AM.bytes_ext h.1,map_bytes_inj h.2]
theorem pieces_cut (t:ByteArray):piecesOf t ⟨#[47]⟩=AtT.cutP t.data.toList:=by
 refine map_bytes_inj ?_
 rw [piecesOf,Lib.splitB_data]
 show Lib.splitK [47] 0 (Lib.count t.data.toList [47]) t.data.toList=_
 rw [split47,AtT.cutP,AtT.cutL,cut_msplit]
 have:=msplit_ne t.data.toList
 cases h:msplit t.data.toList with
 | nil=>exact absurd h this
 | cons x xs=>simp [prep]
theorem hasB47 (s:ByteArray):hasB s ⟨#[47]⟩=decide (s.data[0]?=some 47):=by
 unfold hasB Lib.hasPrefix
 rw [show s.data[0]?=s.data.toList[0]? by simp]
 cases s.data.toList with
 | nil=>rfl
 | cons b l=>
  show ((47:UInt8)==b&&true)=decide (some b=some 47)
  rw [Bool.eq_iff_iff,Bool.and_true,beq_iff_eq,decide_eq_true_iff,Option.some.injEq]
  exact eq_comm
theorem trimB47 {s:ByteArray} (h:hasB s ⟨#[47]⟩=true):(trimB s ⟨#[47]⟩).data.toList=s.data.toList.drop 1:=by
 have h':Lib.hasPrefix s.data.toList [47]=true:=h
 show (Lib.trimPrefix s.data.toList [47])=_
 rw [Lib.trimPrefix,if_pos h']
 rfl
end Go.Proofs.DtT
