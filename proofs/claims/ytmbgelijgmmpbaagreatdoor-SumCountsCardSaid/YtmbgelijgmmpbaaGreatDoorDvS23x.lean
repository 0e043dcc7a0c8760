/- Which of two values is less: the program's word, the document's. -/
import Derived.Test.YtmbgelijgmmpbaaGreatDoorDvS20x
set_option linter.unusedSimpArgs false
set_option linter.unusedVariables false
namespace Go.Proofs.DvT
open Go Go.DM Go.Proofs.DvF
set_option maxRecDepth 100000
variable {orc:DOracle}
end Go.Proofs.DvT
namespace Go.Proofs.DvT
open Go Go.DM Go.Proofs.DvF
set_option maxRecDepth 100000
variable {orc:DOracle}
def numsB (l:List Int):ByteArray:=joinB (decsB l) ⟨#[32]⟩
def textV (v:Val):ByteArray:=if v.k=1 then decB v.i else if v.k=2 then ⟨#[34]⟩++v.s++⟨#[34]⟩ else if v.k=3 then ⟨#[91]⟩++numsB v.l++⟨#[93]⟩ else ⟨#[]⟩
theorem join_snoc (sep:List UInt8) (x:List UInt8) : ∀ (xs:List (List UInt8)),xs≠[]→Lib.join (xs++[x]) sep=Lib.join xs sep++sep++x
 | [],h=>absurd rfl h
 | [a],_=>by simp [Lib.join,List.intercalate]
 | a::b::xs,_=>by
  have ih:=join_snoc sep x (b::xs) (by simp)
  simp only [Lib.join,List.intercalate,List.cons_append,List.intersperse_cons_cons,List.flatten_cons,List.append_assoc] at ih ⊢
  rw [ih]
theorem joinB_snoc {xs:List ByteArray} {x sep:ByteArray} (h:xs≠[]):joinB (xs++[x]) sep=joinB xs sep++sep++x:=by
 refine AM.bytes_ext ?_
 simp only [joinB,List.map_append,List.map_cons,List.map_nil]
 rw [join_snoc _ _ _ (by simpa using h)]
 simp
theorem joinB_one {x sep:ByteArray} : joinB [x] sep=x:=by
 refine AM.bytes_ext ?_
 simp [joinB,Lib.join,List.intercalate]
theorem take_decsB {l:List Int} {i:Nat} (h:i<l.length):decsB (l.take (i+1))=decsB (l.take i)++[decB l[i]]:=by
 rw [List.take_succ_eq_append_getElem h]
 simp only [decsB,List.map_append,List.map_cons,List.map_nil]
theorem nums_succ {l:List Int} {i:Nat} (h0:0<i) (h:i<l.length):numsB (l.take (i+1))=numsB (l.take i)++⟨#[32]⟩++decB l[i]:=by
 unfold numsB
 rw [take_decsB h,joinB_snoc]
 intro hz
 have:=congrArg List.length hz
 simp [decsB] at this
 rcases this with rfl | rfl
 ·omega
 ·simp at h
theorem nums_one {l:List Int} (h:0<l.length):numsB (l.take 1)=decB l[0]:=by
 unfold numsB
 rw [take_decsB (i:=0) h]
 simp only [List.take_zero,decsB,List.map_nil,List.nil_append]
 rw [joinB_one]
theorem nums_size {l:List Int} (hin : ∀ x∈l,in64 x) : ∀ i,i≤l.length→(numsB (l.take i)).size≤22*i:=by
 intro i
 induction i with
 | zero=>intro _;exact Nat.le_refl _
 | succ i ih=>
  intro h
  have hd:=decB_size (hin l[i] (List.getElem_mem _))
  by_cases h0:0<i
  ·rw [nums_succ h0 (by omega),ByteArray.size_append,ByteArray.size_append]
   have:=ih (by omega)
   have e:(⟨#[32]⟩:ByteArray).size=1:=rfl
   omega
  ·obtain rfl:i=0:=by omega
   rw [nums_one (by omega)]
   omega
theorem numbers (l:List Int) (hl:l.length≤1000) (hin : ∀ x∈l,in64 x) (S:Mem):CallD Tryz.prog O 100 [.sl none 1 l.length (intsD l)] S fun d S'=>S'=S∧d = .str (numsB l):=by
 have hsz:=nums_size hin l.length (Nat.le_refl _)
 rw [List.take_length] at hsz
 refine CallD.e Tryz.func100 rfl Tryz.ntmps100 (by rfl) ?_
 repeat' (first|refine Go.a rfl ?_|refine Go.rg ?_|refine GoR.nil ?_|refine Go.ret ?_|refine Go.b rfl ?_|(refine GoR.o (by rfl) (by rfl) ?_;(conv=>arg 1;simp only [G,Z,Y,Gx,un_neg,cutD,decide_true,decide_false,simprocAttr,fb2,fb3,fb51,fb70]);show GoR ..)|refine Go.condB rfl (fun hc => ?_) (fun hc => ?_))
 refine Go.keep [(3,.nils),(6,.sl none 1 l.length (intsD l)),(7,.int .i64 (l.length:Int)),(8,.int .i64 ((0:Nat):Int))] (.cons .refl (.cons .refl (.cons .refl (.cons .refl (.nil))))) ?_
 refine Go.while (α:=Nat×D×Mem) (fun x=>l.length - x.1) (fun x=>[(3,x.2.1),(6,.sl none 1 l.length (intsD l)),(7,.int .i64 (l.length:Int)),(8,.int .i64 (x.1:Int))])
  (fun x=>x.2.2)
  (fun x=>x.1≤l.length∧AccD S.length x.2.1 1 x.1 ((decsB (l.take x.1)).map .str) x.2.2∧Grown S.length S x.2.2)
  ?_ (0,.nils,S) ⟨Nat.zero_le _,.inl ⟨rfl,rfl,rfl⟩,.refl⟩
 rintro ⟨i,o,S1⟩ ⟨hi,hacc,hg⟩ next
 dsimp only at hi hacc hg next
 by_cases h1:i<l.length
 ·have hx:=hin l[i] (List.getElem_mem _)
  obtain ⟨o',S2,hap,hacc2,hg2⟩:=(hacc.app [.own]).append (P:=Tryz.prog) del70 (own:=some S1.length) (m:=1) (new:=[.str (decB l[i])]) (by simp;have:=hg.len;omega) (by simp) (fits_str (by omega))
  repeat' (first|refine Go.a rfl ?_|refine Go.rg ?_|refine GoR.nil ?_|refine Go.ret ?_|refine Go.b rfl ?_|(refine GoR.o (by rfl) (by rfl) ?_;(conv=>arg 1;simp only [G,Z,Y,Gx,un_neg,cutD,decide_true,decide_false,simprocAttr,fb2,fb3,fb51,fb70,show (decide ((i:Int)<(l.length:Int)))=true by simp;omega,intsAt h1,wrap_succ (show i<4611686018427387904 by omega),hap,builtin_append]);show GoR ..)|(refine GoR.c c99 (by rfl) (by rfl) rfl ?_;(refine (formatInt _ hx.1 hx.2 _).ret ?_))|refine Go.condB rfl (fun hc => ?_) (fun hc => ?_))
  refine Go.lpN ?_
  refine Go.keep [(3,o'),(6,.sl none 1 l.length (intsD l)),(7,.int .i64 (l.length:Int)),(8,.int .i64 ((i+1:Nat):Int))] (.cons .refl (.cons .refl (.cons .refl (.cons .refl (.nil))))) ?_
  refine next (i+1,o',S2) (by dsimp only;omega) ⟨h1,?_,hg.trans (Grown.app.trans hg2)⟩
  dsimp only
  rw [take_decs h1]
  exact hacc2
 ·clear next
  have e:i=l.length:=by omega
  subst e
  rw [List.take_length] at hacc
  have hdl:(decsB l).length=l.length:=by simp [decsB]
  obtain ⟨E,hE⟩:=hg.pre [] S rfl (by simp)
  have hj:=fun own=>join own (decsB l) ⟨#[32]⟩ (by rw [hdl];omega) (by show (numsB l).size≤_;omega) S1
  simp only [hdl] at hj
  rcases hacc with ⟨ho,h0,h00⟩ | ⟨ho,h0,h00⟩ | ⟨id,h0,ho,h00⟩
  ·subst ho
   have hl0:l=[]:=List.eq_nil_of_length_eq_zero h0
   subst hl0
   repeat' (first|refine Go.a rfl ?_|refine Go.rg ?_|refine GoR.nil ?_|refine Go.ret ?_|refine Go.b rfl ?_|(refine GoR.o (by rfl) (by rfl) ?_;(conv=>arg 1;simp only [G,Z,Y,Gx,un_neg,cutD,decide_true,decide_false,simprocAttr,fb2,fb3,fb51,fb70,show (decide ((([]:List Int).length:Int)<(([]:List Int).length:Int)))=false by simp]);show GoR ..)|(refine GoR.c c60 (by rfl) (by rfl) rfl ?_;(refine (CallD.weak (.cons .nilE (.cons .refl .nil)) (hj none)).ret ?_))|refine Go.condB rfl (fun hc => ?_) (fun hc => ?_))
   refine ⟨(by first | exact .inl rfl | exact .inr rfl),fin ?_⟩
   rw [resD_tmp (fn:=Tryz.f100) rfl]
   simp only [optThen_some,resultD_tmp,resultD_cell,G,Z,Y,Gx,un_neg,cutD,decide_true,decide_false,simprocAttr,fb2,fb3,fb51,fb70]
   exact ⟨_,E,hE,.str,rfl⟩
  ·subst ho
   have hl0:l=[]:=List.eq_nil_of_length_eq_zero h0
   subst hl0
   repeat' (first|refine Go.a rfl ?_|refine Go.rg ?_|refine GoR.nil ?_|refine Go.ret ?_|refine Go.b rfl ?_|(refine GoR.o (by rfl) (by rfl) ?_;(conv=>arg 1;simp only [G,Z,Y,Gx,un_neg,cutD,decide_true,decide_false,simprocAttr,fb2,fb3,fb51,fb70,show (decide ((([]:List Int).length:Int)<(([]:List Int).length:Int)))=false by simp]);show GoR ..)|(refine GoR.c c60 (by rfl) (by rfl) rfl ?_;(refine (CallD.weak (.cons .sl0E (.cons .refl .nil)) (hj none)).ret ?_))|refine Go.condB rfl (fun hc => ?_) (fun hc => ?_))
   refine ⟨(by first | exact .inl rfl | exact .inr rfl),fin ?_⟩
   rw [resD_tmp (fn:=Tryz.f100) rfl]
   simp only [optThen_some,resultD_tmp,resultD_cell,G,Z,Y,Gx,un_neg,cutD,decide_true,decide_false,simprocAttr,fb2,fb3,fb51,fb70]
   exact ⟨_,E,hE,.str,rfl⟩
  ·subst ho
   repeat' (first|refine Go.a rfl ?_|refine Go.rg ?_|refine GoR.nil ?_|refine Go.ret ?_|refine Go.b rfl ?_|(refine GoR.o (by rfl) (by rfl) ?_;(conv=>arg 1;simp only [G,Z,Y,Gx,un_neg,cutD,decide_true,decide_false,simprocAttr,fb2,fb3,fb51,fb70,show (decide ((l.length:Int)<(l.length:Int)))=false by simp]);show GoR ..)|(refine GoR.c c60 (by rfl) (by rfl) rfl ?_;(refine (hj _).ret ?_))|refine Go.condB rfl (fun hc => ?_) (fun hc => ?_))
   refine ⟨(by first | exact .inl rfl | exact .inr rfl),fin ?_⟩
   rw [resD_tmp (fn:=Tryz.f100) rfl]
   simp only [optThen_some,resultD_tmp,resultD_cell,G,Z,Y,Gx,un_neg,cutD,decide_true,decide_false,simprocAttr,fb2,fb3,fb51,fb70]
   exact ⟨_,E,hE,.str,rfl⟩
theorem valTextW (v:Val) (hl:v.l.length≤1000) (hs:v.s.size<1000000) (hi:in64 v.i) (hin : ∀ x∈v.l,in64 x) (S:Mem):CallD Tryz.prog O 59 [.agg v.c] S fun d S'=>S'=S∧d = .str (textV v):=by
 obtain ⟨k,i,s,l⟩:=v
 simp only at hl hs hi hin
 have hsz:=nums_size hin l.length (Nat.le_refl _)
 rw [List.take_length] at hsz
 have p1 : ∀ {t:TypeId} {u v:Operand},binD Tryz.prog .add t u v (.str ⟨#[34]⟩) (.str s)=some (.str (⟨#[34]⟩++s)):=add_str (by show 1+_<_;omega)
 have p2 : ∀ {t:TypeId} {u v:Operand},binD Tryz.prog .add t u v (.str (⟨#[34]⟩++s)) (.str ⟨#[34]⟩)=some (.str (⟨#[34]⟩++s++⟨#[34]⟩)):=add_str (by rw [ByteArray.size_append];show 1+_+1<_;omega)
 have p3 : ∀ {t:TypeId} {u v:Operand},binD Tryz.prog .add t u v (.str ⟨#[91]⟩) (.str (numsB l))=some (.str (⟨#[91]⟩++numsB l)):=add_str (by show 1+_<_;omega)
 have p4 : ∀ {t:TypeId} {u v:Operand},binD Tryz.prog .add t u v (.str (⟨#[91]⟩++numsB l)) (.str ⟨#[93]⟩)=some (.str (⟨#[91]⟩++numsB l++⟨#[93]⟩)):=add_str (by rw [ByteArray.size_append];show 1+_+1<_;omega)
 simp only [Val.c]
 refine CallD.e Tryz.func59 rfl Tryz.ntmps59 (by rfl) ?_
 repeat' (first|refine Go.a rfl ?_|refine Go.rg ?_|refine GoR.nil ?_|refine Go.ret ?_|refine Go.b rfl ?_|(refine GoR.o (by rfl) (by rfl) ?_;(conv=>arg 1;simp only [G,Z,Y,Gx,un_neg,cutD,decide_true,decide_false,simprocAttr,fb2,fb3,fb9,fb51,fb53,p1,p2,p3,p4]);show GoR ..)|(refine GoR.c c99 (by rfl) (by rfl) rfl ?_;(refine (formatInt _ hi.1 hi.2 _).ret ?_))|(refine GoR.c c100 (by rfl) (by rfl) rfl ?_;(refine (numbers _ hl hin _).ret ?_))|refine Go.condB rfl (fun hc => ?_) (fun hc => ?_))
 all_goals
  refine ⟨(by first | exact .inl rfl | exact .inr rfl),fin ?_⟩
  rw [resD_tmp (fn:=Tryz.f59) rfl]
  simp only [optThen_some,resultD_tmp,resultD_cell,G,Z,Y,Gx,un_neg,cutD,decide_true,decide_false,simprocAttr,fb2,fb3,fb9,fb51,fb53]
  refine ⟨_,_,rfl,.str,?_⟩
  simp_all [textV]
end Go.Proofs.DvT
namespace Go.Proofs.DvT
open Go Go.DM Go.Proofs.DvF
set_option maxRecDepth 100000
variable {orc:DOracle}
def attE (p:Option ByteArray) (a:Att):Int:=if nameOk a.n=false then 5 else if p.any (fun q => !ltB q a.n)=true then 6 else chkV a.v
def attsE (p:Option ByteArray):List Att→Int
 | []=>0
 | a::l=>if attE p a=0 then attsE (some a.n) l else attE p a
def prevN (l:List Att) (i:Nat):Option ByteArray:=if i=0 then none else (l[i - 1]?).map Att.n
theorem attsE_step {l:List Att} {i:Nat} (h:i<l.length):attsE (prevN l i) (l.drop i)=if attE (prevN l i) l[i]=0 then attsE (prevN l (i+1)) (l.drop (i+1)) else attE (prevN l i) l[i]:=by
 have e:prevN l (i+1)=some l[i].n:=by simp [prevN,h]
 rw [List.drop_eq_getElem_cons h,attsE,e]
theorem prevN_pos {l:List Att} {i:Nat} (h:i<l.length) (h0:0<i):prevN l i=some (l[i - 1]'(by omega)).n:=by
 rw [prevN,if_neg (by omega),List.getElem?_eq_getElem (by omega)]
 rfl
def attrsE (l:List Att):Int:=if 32<l.length then 4 else attsE none l
end Go.Proofs.DvT
namespace Go.Proofs.DvT
open Go Go.DM Go.Proofs.DvF
set_option maxRecDepth 100000
variable {orc:DOracle}
structure Rw where
 key:ByteArray
 st:St
 at_:List Att
def Rw.c (r:Rw):List D:=[.str r.key,.int .i64 r.st.tick,.int .i64 r.st.inc,.int .i64 r.st.seq,.str r.st.org,.sl none 5 r.at_.length (attsC r.at_)]
def chkR (r:Rw):Int:=if nameOk r.key=false then 5 else if chk r.st=0 then attrsE r.at_ else chk r.st
structure FewR (r:Rw):Prop where
 key:r.key.size<1000000
 org:r.st.org.size<1000000
 atn : ∀ a∈r.at_,a.n.size<1000000
 ats : ∀ a∈r.at_,a.v.s.size<1000000
 atl : ∀ a∈r.at_,a.v.l.length<1000000
theorem refCheck (r:Rw) (hr:FewR r) (S:Mem):CallD Tryz.prog O 27 [.agg r.c] S fun d S'=>S'=S∧d = .int .i64 (chkR r):=by
 have hst:=fun S=>refCheckStamp r.st hr.org S
 obtain ⟨hkey,_,hatn,hats,_⟩:=hr
 obtain ⟨key,⟨a,b,c,org⟩,l⟩:=r
 simp only at hkey hatn hats
 have hkn:=fun S=>refName (orc:=O) key (by omega) S
 simp only [Rw.c,St.c] at *
 refine CallD.e Tryz.func27 rfl Tryz.ntmps27 (by rfl) ?_
 cases hn:nameOk key with
 | false=>
  repeat' (first|refine Go.a rfl ?_|refine Go.rg ?_|refine GoR.nil ?_|refine Go.ret ?_|refine Go.b rfl ?_|refine Go.rgS dmx (by decide) ?_|(refine GoR.o (by rfl) (by rfl) ?_;(conv=>arg 1;simp only [G,Z,Y,Gx,un_neg,cutD,decide_true,decide_false,simprocAttr,fb2,fb3,fb9,fb31,fb51,fb66,fb68,fb85,fb87,hn]);show GoR ..)|(refine GoR.c c31 (by rfl) (by rfl) rfl ?_;(refine (hkn _).ret ?_))|refine GoR.s (by rfl) rfl rfl ?_|(refine GoR.splitG rfl (fun hc => ?_) (fun hc => ?_)<;>simp only [hc])|refine Go.condB rfl (fun hc => ?_) (fun hc => ?_))
  refine ⟨(by first | exact .inl rfl | exact .inr rfl),fin ?_⟩
  rw [resD_tmp (fn:=Tryz.f27) rfl]
  simp only [optThen_some,resultD_tmp,resultD_cell,G,Z,Y,Gx,un_neg,cutD,decide_true,decide_false,simprocAttr,fb2,fb3,fb9,fb31,fb51,fb66,fb68,fb85,fb87]
  exact ⟨_,_,rfl,.int,by rw [chkR,if_pos hn]⟩
 | true=>
  by_cases hc:chk ⟨a,b,c,org⟩=0
  ·have hR:chkR ⟨key,⟨a,b,c,org⟩,l⟩=attrsE l:=by rw [chkR,if_neg (by simp [hn]),if_pos hc]
   rw [hR]
   by_cases h32:32<l.length
   ·repeat' (first|refine Go.a rfl ?_|refine Go.rg ?_|refine GoR.nil ?_|refine Go.ret ?_|refine Go.b rfl ?_|refine Go.rgS dmx (by decide) ?_|(refine GoR.o (by rfl) (by rfl) ?_;(conv=>arg 1;simp only [G,Z,Y,Gx,un_neg,cutD,decide_true,decide_false,simprocAttr,fb2,fb3,fb9,fb31,fb51,fb66,fb68,fb85,fb87,hn,hc,show (decide (32<(l.length:Int)))=true by simp;omega]);show GoR ..)|(refine GoR.c c31 (by rfl) (by rfl) rfl ?_;(refine (hkn _).ret ?_))|(refine GoR.c c62 (by rfl) (by rfl) rfl ?_;(refine (hst _).ret ?_))|refine GoR.s (by rfl) rfl rfl ?_|(refine GoR.splitG rfl (fun hc => ?_) (fun hc => ?_)<;>simp only [hc])|refine Go.condB rfl (fun hc => ?_) (fun hc => ?_))
    refine ⟨(by first | exact .inl rfl | exact .inr rfl),fin ?_⟩
    rw [resD_tmp (fn:=Tryz.f27) rfl]
    simp only [optThen_some,resultD_tmp,resultD_cell,G,Z,Y,Gx,un_neg,cutD,decide_true,decide_false,simprocAttr,fb2,fb3,fb9,fb31,fb51,fb66,fb68,fb85,fb87]
    exact ⟨_,_,rfl,.int,by rw [attrsE,if_pos h32]⟩
   rw [attrsE,if_neg h32]
   repeat' (first|refine Go.a rfl ?_|refine Go.rg ?_|refine GoR.nil ?_|refine Go.ret ?_|refine Go.b rfl ?_|refine Go.rgS dmx (by decide) ?_|(refine GoR.o (by rfl) (by rfl) ?_;(conv=>arg 1;simp only [G,Z,Y,Gx,un_neg,cutD,decide_true,decide_false,simprocAttr,fb2,fb3,fb9,fb31,fb51,fb66,fb68,fb85,fb87,hn,hc,show (decide (32<(l.length:Int)))=false by simp;omega]);show GoR ..)|(refine GoR.c c31 (by rfl) (by rfl) rfl ?_;(refine (hkn _).ret ?_))|(refine GoR.c c62 (by rfl) (by rfl) rfl ?_;(refine (hst _).ret ?_))|refine GoR.s (by rfl) rfl rfl ?_|(refine GoR.splitG rfl (fun hc => ?_) (fun hc => ?_)<;>simp only [hc])|refine Go.condB rfl (fun hc => ?_) (fun hc => ?_))
   refine Go.keep [(1,.ptr S.length 0),(4,.int .i64 ((0:Nat):Int))] (.cons .refl (.cons .refl (.nil))) ?_
   refine Go.while (α:=Nat) (fun i=>l.length - i) (fun i=>[(1,.ptr S.length 0),(4,.int .i64 (i:Int))]) (fun _=>S++[.obj [.str key,.int .i64 a,.int .i64 b,.int .i64 c,.str org,.sl none 5 l.length (attsC l)]])
    (fun i=>i≤l.length∧attsE none l=attsE (prevN l i) (l.drop i)) ?_ 0 ⟨Nat.zero_le _,rfl⟩
   rintro i ⟨hi,hk⟩ next
   by_cases h1:i<l.length
   ·have hsz:=hats l[i] (List.getElem_mem _)
    have hnz:=hatn l[i] (List.getElem_mem _)
    have hv:=fun S=>refCheckValue (orc:=O) l[i].v hsz S
    have hnm:=fun S=>refName (orc:=O) l[i].n (by omega) S
    rw [attsE_step h1] at hk
    have dl:decide ((i:Int)<(l.length:Int))=true:=by simp;omega
    simp only [Val.c] at hv
    have at1:=attsAt h1
    simp only [Val.c,Att.c] at at1
    cases hn1:nameOk l[i].n with
    | false=>
     clear next
     have he:attE (prevN l i) l[i]=5:=by rw [attE,if_pos hn1]
     repeat' (first|refine Go.a rfl ?_|refine Go.rg ?_|refine GoR.nil ?_|refine Go.ret ?_|refine Go.b rfl ?_|refine Go.rgS dmx (by decide) ?_|(refine GoR.o (by rfl) (by rfl) ?_;(conv=>arg 1;simp only [G,Z,Y,Gx,un_neg,cutD,decide_true,decide_false,simprocAttr,fb2,fb3,fb9,fb31,fb51,fb66,fb68,fb85,fb87,dl,at1,hn1]);show GoR ..)|(refine GoR.c c31 (by rfl) (by rfl) rfl ?_;(refine (hnm _).ret ?_))|(refine GoR.c c63 (by rfl) (by rfl) rfl ?_;(refine (hv _).ret ?_))|refine GoR.s (by rfl) rfl rfl ?_|(refine GoR.splitG rfl (fun hc => ?_) (fun hc => ?_)<;>simp only [hc])|refine Go.condB rfl (fun hc => ?_) (fun hc => ?_))
     refine ⟨(by first | exact .inl rfl | exact .inr rfl),fin ?_⟩
     rw [resD_tmp (fn:=Tryz.f27) rfl]
     simp only [optThen_some,resultD_tmp,resultD_cell,G,Z,Y,Gx,un_neg,cutD,decide_true,decide_false,simprocAttr,fb2,fb3,fb9,fb31,fb51,fb66,fb68,fb85,fb87]
     exact ⟨_,_,rfl,.int,by rw [hk,he];rfl⟩
    | true=>
     by_cases h0:i=0
     ·have hp:prevN l i=none:=if_pos h0
      have he:attE (prevN l i) l[i]=chkV l[i].v:=by rw [attE,if_neg (by rw [hn1];decide),hp];rfl
      have d0:decide (0<(i:Int))=false:=by simp;omega
      rw [he] at hk
      by_cases hc0:chkV l[i].v=0
      ·rw [if_pos hc0] at hk
       repeat' (first|refine Go.a rfl ?_|refine Go.rg ?_|refine GoR.nil ?_|refine Go.ret ?_|refine Go.b rfl ?_|refine Go.rgS dmx (by decide) ?_|(refine GoR.o (by rfl) (by rfl) ?_;(conv=>arg 1;simp only [G,Z,Y,Gx,un_neg,cutD,decide_true,decide_false,simprocAttr,fb2,fb3,fb9,fb31,fb51,fb66,fb68,fb85,fb87,dl,at1,hn1,d0,hc0,wrap_succ (show i<4611686018427387904 by omega)]);show GoR ..)|(refine GoR.c c31 (by rfl) (by rfl) rfl ?_;(refine (hnm _).ret ?_))|(refine GoR.c c63 (by rfl) (by rfl) rfl ?_;(refine (hv _).ret ?_))|refine GoR.s (by rfl) rfl rfl ?_|(refine GoR.splitG rfl (fun hc => ?_) (fun hc => ?_)<;>simp only [hc])|refine Go.condB rfl (fun hc => ?_) (fun hc => ?_))
       refine Go.lpN ?_
       refine Go.keep [(1,.ptr S.length 0),(4,.int .i64 ((i+1:Nat):Int))] (.cons .refl (.cons .refl (.nil))) ?_
       exact next (i+1) (by omega) ⟨h1,hk⟩
      ·clear next
       rw [if_neg hc0] at hk
       repeat' (first|refine Go.a rfl ?_|refine Go.rg ?_|refine GoR.nil ?_|refine Go.ret ?_|refine Go.b rfl ?_|refine Go.rgS dmx (by decide) ?_|(refine GoR.o (by rfl) (by rfl) ?_;(conv=>arg 1;simp only [G,Z,Y,Gx,un_neg,cutD,decide_true,decide_false,simprocAttr,fb2,fb3,fb9,fb31,fb51,fb66,fb68,fb85,fb87,dl,at1,hn1,d0,show (chkV l[i].v != 0)=true by simpa using hc0]);show GoR ..)|(refine GoR.c c31 (by rfl) (by rfl) rfl ?_;(refine (hnm _).ret ?_))|(refine GoR.c c63 (by rfl) (by rfl) rfl ?_;(refine (hv _).ret ?_))|refine GoR.s (by rfl) rfl rfl ?_|(refine GoR.splitG rfl (fun hc => ?_) (fun hc => ?_)<;>simp only [hc])|refine Go.condB rfl (fun hc => ?_) (fun hc => ?_))
       refine ⟨(by first | exact .inl rfl | exact .inr rfl),fin ?_⟩
       rw [resD_tmp (fn:=Tryz.f27) rfl]
       simp only [optThen_some,resultD_tmp,resultD_cell,G,Z,Y,Gx,un_neg,cutD,decide_true,decide_false,simprocAttr,fb2,fb3,fb9,fb31,fb51,fb66,fb68,fb85,fb87]
       exact ⟨_,_,rfl,.int,by rw [hk]⟩
     ·have hp:=prevN_pos h1 (show 0<i by omega)
      have d0:decide (0<(i:Int))=true:=by simp;omega
      have at0:=attsAt (l:=l) (i:=i - 1) (by omega)
      cases hb:ltB (l[i - 1]'(by omega)).n l[i].n with
      | false=>
       clear next
       have hbl:Op.bytesLess (l[i - 1]'(by omega)).n.toList l[i].n.toList=false:=hb
       have he:attE (prevN l i) l[i]=6:=by rw [attE,if_neg (by rw [hn1];decide),hp,if_pos (by simp [hb])]
       repeat' (first|refine Go.a rfl ?_|refine Go.rg ?_|refine GoR.nil ?_|refine Go.ret ?_|refine Go.b rfl ?_|refine Go.rgS dmx (by decide) ?_|(refine GoR.o (by rfl) (by rfl) ?_;(conv=>arg 1;simp only [G,Z,Y,Gx,un_neg,cutD,decide_true,decide_false,simprocAttr,fb2,fb3,fb9,fb31,fb51,fb66,fb68,fb85,fb87,dl,at1,at0,hn1,d0,hbl,pred_cast (show 0<i by omega) (show i<4611686018427387904 by omega)]);show GoR ..)|(refine GoR.c c31 (by rfl) (by rfl) rfl ?_;(refine (hnm _).ret ?_))|(refine GoR.c c63 (by rfl) (by rfl) rfl ?_;(refine (hv _).ret ?_))|refine GoR.s (by rfl) rfl rfl ?_|(refine GoR.splitG rfl (fun hc => ?_) (fun hc => ?_)<;>simp only [hc])|refine Go.condB rfl (fun hc => ?_) (fun hc => ?_))
       refine ⟨(by first | exact .inl rfl | exact .inr rfl),fin ?_⟩
       rw [resD_tmp (fn:=Tryz.f27) rfl]
       simp only [optThen_some,resultD_tmp,resultD_cell,G,Z,Y,Gx,un_neg,cutD,decide_true,decide_false,simprocAttr,fb2,fb3,fb9,fb31,fb51,fb66,fb68,fb85,fb87]
       exact ⟨_,_,rfl,.int,by rw [hk,he];rfl⟩
      | true=>
       have hbl:Op.bytesLess (l[i - 1]'(by omega)).n.toList l[i].n.toList=true:=hb
       have he:attE (prevN l i) l[i]=chkV l[i].v:=by rw [attE,if_neg (by rw [hn1];decide),hp,if_neg (by simp [hb])]
       rw [he] at hk
       by_cases hc0:chkV l[i].v=0
       ·rw [if_pos hc0] at hk
        repeat' (first|refine Go.a rfl ?_|refine Go.rg ?_|refine GoR.nil ?_|refine Go.ret ?_|refine Go.b rfl ?_|refine Go.rgS dmx (by decide) ?_|(refine GoR.o (by rfl) (by rfl) ?_;(conv=>arg 1;simp only [G,Z,Y,Gx,un_neg,cutD,decide_true,decide_false,simprocAttr,fb2,fb3,fb9,fb31,fb51,fb66,fb68,fb85,fb87,dl,at1,at0,hn1,d0,hbl,hc0,pred_cast (show 0<i by omega) (show i<4611686018427387904 by omega),wrap_succ (show i<4611686018427387904 by omega)]);show GoR ..)|(refine GoR.c c31 (by rfl) (by rfl) rfl ?_;(refine (hnm _).ret ?_))|(refine GoR.c c63 (by rfl) (by rfl) rfl ?_;(refine (hv _).ret ?_))|refine GoR.s (by rfl) rfl rfl ?_|(refine GoR.splitG rfl (fun hc => ?_) (fun hc => ?_)<;>simp only [hc])|refine Go.condB rfl (fun hc => ?_) (fun hc => ?_))
        refine Go.lpN ?_
        refine Go.keep [(1,.ptr S.length 0),(4,.int .i64 ((i+1:Nat):Int))] (.cons .refl (.cons .refl (.nil))) ?_
        exact next (i+1) (by omega) ⟨h1,hk⟩
       ·clear next
        rw [if_neg hc0] at hk
        repeat' (first|refine Go.a rfl ?_|refine Go.rg ?_|refine GoR.nil ?_|refine Go.ret ?_|refine Go.b rfl ?_|refine Go.rgS dmx (by decide) ?_|(refine GoR.o (by rfl) (by rfl) ?_;(conv=>arg 1;simp only [G,Z,Y,Gx,un_neg,cutD,decide_true,decide_false,simprocAttr,fb2,fb3,fb9,fb31,fb51,fb66,fb68,fb85,fb87,dl,at1,at0,hn1,d0,hbl,pred_cast (show 0<i by omega) (show i<4611686018427387904 by omega),show (chkV l[i].v != 0)=true by simpa using hc0]);show GoR ..)|(refine GoR.c c31 (by rfl) (by rfl) rfl ?_;(refine (hnm _).ret ?_))|(refine GoR.c c63 (by rfl) (by rfl) rfl ?_;(refine (hv _).ret ?_))|refine GoR.s (by rfl) rfl rfl ?_|(refine GoR.splitG rfl (fun hc => ?_) (fun hc => ?_)<;>simp only [hc])|refine Go.condB rfl (fun hc => ?_) (fun hc => ?_))
        refine ⟨(by first | exact .inl rfl | exact .inr rfl),fin ?_⟩
        rw [resD_tmp (fn:=Tryz.f27) rfl]
        simp only [optThen_some,resultD_tmp,resultD_cell,G,Z,Y,Gx,un_neg,cutD,decide_true,decide_false,simprocAttr,fb2,fb3,fb9,fb31,fb51,fb66,fb68,fb85,fb87]
        exact ⟨_,_,rfl,.int,by rw [hk]⟩
   ·clear next
    repeat' (first|refine Go.a rfl ?_|refine Go.rg ?_|refine GoR.nil ?_|refine Go.ret ?_|refine Go.b rfl ?_|refine Go.rgS dmx (by decide) ?_|(refine GoR.o (by rfl) (by rfl) ?_;(conv=>arg 1;simp only [G,Z,Y,Gx,un_neg,cutD,decide_true,decide_false,simprocAttr,fb2,fb3,fb9,fb31,fb51,fb66,fb68,fb85,fb87,show (decide ((i:Int)<(l.length:Int)))=false by simp;omega]);show GoR ..)|refine GoR.s (by rfl) rfl rfl ?_|(refine GoR.splitG rfl (fun hc => ?_) (fun hc => ?_)<;>simp only [hc])|refine Go.condB rfl (fun hc => ?_) (fun hc => ?_))
    refine ⟨(by first | exact .inl rfl | exact .inr rfl),fin ?_⟩
    rw [resD_tmp (fn:=Tryz.f27) rfl]
    simp only [optThen_some,resultD_tmp,resultD_cell,G,Z,Y,Gx,un_neg,cutD,decide_true,decide_false,simprocAttr,fb2,fb3,fb9,fb31,fb51,fb66,fb68,fb85,fb87]
    exact ⟨_,_,rfl,.int,by rw [hk,List.drop_of_length_le (by omega)];rfl⟩
  ·repeat' (first|refine Go.a rfl ?_|refine Go.rg ?_|refine GoR.nil ?_|refine Go.ret ?_|refine Go.b rfl ?_|refine Go.rgS dmx (by decide) ?_|(refine GoR.o (by rfl) (by rfl) ?_;(conv=>arg 1;simp only [G,Z,Y,Gx,un_neg,cutD,decide_true,decide_false,simprocAttr,fb2,fb3,fb9,fb31,fb51,fb66,fb68,fb85,fb87,hn,show (chk ⟨a,b,c,org⟩ != 0)=true by simpa using hc]);show GoR ..)|(refine GoR.c c31 (by rfl) (by rfl) rfl ?_;(refine (hkn _).ret ?_))|(refine GoR.c c62 (by rfl) (by rfl) rfl ?_;(refine (hst _).ret ?_))|refine GoR.s (by rfl) rfl rfl ?_|(refine GoR.splitG rfl (fun hc => ?_) (fun hc => ?_)<;>simp only [hc])|refine Go.condB rfl (fun hc => ?_) (fun hc => ?_))
   refine ⟨(by first | exact .inl rfl | exact .inr rfl),fin ?_⟩
   rw [resD_tmp (fn:=Tryz.f27) rfl]
   simp only [optThen_some,resultD_tmp,resultD_cell,G,Z,Y,Gx,un_neg,cutD,decide_true,decide_false,simprocAttr,fb2,fb3,fb9,fb31,fb51,fb66,fb68,fb85,fb87]
   exact ⟨_,_,rfl,.int,by rw [chkR,if_neg (by simp [hn]),if_neg hc]⟩
end Go.Proofs.DvT
