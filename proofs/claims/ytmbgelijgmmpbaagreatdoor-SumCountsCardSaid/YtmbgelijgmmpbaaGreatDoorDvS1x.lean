/- Which of two stamps is the newer. -/
import Derived.Test.YtmbgelijgmmpbaaGreatDoorDvFacts
import Derived.Test.YtmbgelijgmmpbaaGreatDoorDmOx
import Derived.Test.YtmbgelijgmmpbaaGreatDoorAvC1x
import Derived.Test.YtmbgelijgmmpbaaGreatDoorDvShelf
import Derived.Test.YtmbgelijgmmpbaaGreatDoorDvInsx
import Derived.Lib.SmallJoins
import Derived.Lib.SplitLaws
set_option linter.unusedSimpArgs false
set_option linter.unusedVariables false
namespace Go.Proofs.DvT
open Go Go.DM Go.Proofs.DvF
set_option maxRecDepth 100000
variable {orc:DOracle}
structure St where
 tick:Int
 inc:Int
 seq:Int
 org:ByteArray
def St.c (s:St):List D:=[.int .i64 s.tick,.int .i64 s.inc,.int .i64 s.seq,.str s.org]
theorem St.low {n:Nat} {a b c:Int} {s:ByteArray} : LowL n [.int .i64 a,.int .i64 b,.int .i64 c,.str s]:=.cons (.int _ _) (.cons (.int _ _) (.cons (.int _ _) (.cons (.str _) .nil)))
theorem isNaNS (a:ByteArray) (S:Mem):CallD Tryz.prog orc 134 [.str a] S fun d S'=>S'=S∧d = .bool false:=by
 refine CallD.e Tryz.func134 rfl Tryz.ntmps134 (by rfl) ?_
 repeat' (first|refine Go.a rfl ?_|refine Go.rg ?_|refine GoR.nil ?_|refine Go.ret ?_|refine Go.b rfl ?_|(refine GoR.o (by rfl) (by rfl) ?_;(conv=>arg 1;simp only [G,Z,Y,Gx,un_neg,cutD,decide_true,decide_false,simprocAttr,fb9]);show GoR ..)|refine Go.condB rfl (fun hc => ?_) (fun hc => ?_))
 all_goals
  refine ⟨(by first | exact .inl rfl | exact .inr rfl),fin ?_⟩
  rw [resD_tmp (fn:=Tryz.f134) rfl]
  simp only [optThen_some,resultD_tmp,resultD_cell,G,Z,Y,Gx,un_neg,cutD,decide_true,decide_false,simprocAttr,fb9]
  refine ⟨_,[],by simp,.bool,?_⟩
  simp
theorem compareS (a b:ByteArray) (S:Mem):CallD Tryz.prog orc 93 [.str a,.str b] S fun d S'=>S'=S∧d = .int .i64 (cmpB a b):=by
 refine CallD.e Tryz.func93 rfl Tryz.ntmps93 (by rfl) ?_
 repeat' (first|refine Go.a rfl ?_|refine Go.rg ?_|refine GoR.nil ?_|refine Go.ret ?_|refine Go.b rfl ?_|(refine GoR.o (by rfl) (by rfl) ?_;(conv=>arg 1;simp only [G,Z,Y,Gx,un_neg,cutD,decide_true,decide_false,simprocAttr,fb9]);show GoR ..)|(refine GoR.c c134 (by rfl) (by rfl) rfl ?_;(refine (isNaNS _ _).ret ?_))|refine Go.condB rfl (fun hc => ?_) (fun hc => ?_))
 all_goals
  refine ⟨(by first | exact .inl rfl | exact .inr rfl),fin ?_⟩
  rw [resD_tmp (fn:=Tryz.f93) rfl]
  simp only [optThen_some,resultD_tmp,resultD_cell,G,Z,Y,Gx,un_neg,cutD,decide_true,decide_false,simprocAttr,fb9]
  refine ⟨_,[],by simp,.int,?_⟩
  unfold cmpB ltB
  simp_all
def intsD (l:List Int):List D:=l.map (.int .i64 ·)
theorem intsAt {l:List Int} {i:Nat} (h:i<l.length):((0≤(i:Int)∧(i:Int)<(l.length:Int))=True)∧(intsD l)[i]?=some (.int .i64 l[i]):=⟨ix_ok h,by simp [intsD,h]⟩
end Go.Proofs.DvT
namespace Go.Proofs.DvT
open Go Go.DM Go.Proofs.DvF
set_option maxRecDepth 100000
def piecesOf (s sep:ByteArray):List ByteArray:=Lib.splitB sep 0 (Lib.countB s sep) s
theorem piecesOf_length {s sep:ByteArray} (h:1≤sep.size):(piecesOf s sep).length=Lib.countB s sep+1:=Lib.splitB_all sep h 0 _ s rfl
def trimB (s p:ByteArray):ByteArray:=⟨(Lib.trimPrefix s.data.toList p.data.toList).toArray⟩
def hasB (s p:ByteArray):Bool:=Lib.hasPrefix s.data.toList p.data.toList
def decB (n:Int):ByteArray:=⟨(Lib.itoa n).toArray⟩
def joinB (xs:List ByteArray) (sep:ByteArray):ByteArray:=⟨(Lib.join (xs.map (·.data.toList)) sep.data.toList).toArray⟩
def libC:ClosedT:=fun f vs v=>
 (f=196 ∧ ∃ s p,vs=[.string s,.string p]∧v = .tuple #[.string (trimB s p),.bool (hasB s p)]) ∨
 (f=99 ∧ ∃ n,-9223372036854775808≤n∧n≤9223372036854775807∧vs=[.int .i64 n,.int .i64 10]∧v = .string (decB n))
def libN:NewT:=fun f vs cs=>f=197 ∧ ∃ s sep,vs=[.string s,.string sep]∧s.size<4294967281∧1≤sep.size∧cs=(piecesOf s sep).map .string
def libJ:POracle:=fun f args d=>f=60 ∧ ∃ own xs sep,args=[.sl own 1 xs.length (xs.map .str),.str sep]∧xs.length≤140737488355328∧(joinB xs sep).size≤140737488355328∧d = .str (joinB xs sep)
def cutT:AmT:=fun f vs cs=>f=180 ∧ ∃ s:ByteArray,s.size<1000000∧s.data[0]?=some 47∧1<s.size∧vs=[.string s]∧cs=(AvT.cutP (s.data.toList.drop 1)).map .string
def libP (f K B:Nat):Prop:=f=82∧K=5∧B=72
def O:DOracle:=orOrcD (pureO (orOrc (orOrc (orOrc (closedOrc libC) (newOrc libN)) (amOrc cutT)) libJ)) (putOrc libP)
theorem cutT_ok:AmOk Tryz.prog cutT:=by
 refine ⟨?_,?_,?_⟩
 ·rintro f vs cs ⟨rfl,s,_,_,_,rfl,rfl⟩ u hu
  simp at hu
  subst hu
  exact ⟨rfl,rfl⟩
 ·rintro f vs cs ⟨rfl,s,_,_,_,rfl,rfl⟩
  refine ⟨by simp [AvT.cutP],fun u hu => ?_⟩
  obtain ⟨x,_,rfl⟩:=List.mem_map.1 hu
  rfl
 ·rintro f vs cs ⟨rfl,s,h1,h2,h3,rfl,rfl⟩
  have:=AvT.cutA (orc:=AM.noOrc) s h1 h2 h3
  unfold AmNew
  simpa only [List.length_map] using this
structure Start (w0:World):Prop where
 most : ∃ m,w0.cell? ⟨1,0,none⟩=some (.int .i64 m)
 pow : Lib.TabIs Tryz.prog w0 "internal/strconv.uint64pow10" .u64 Lib.pow10Tab
theorem cell_lt {w:World} {b o:Nat} {v:Value} (h:w.cell? ⟨b,o,none⟩=some v):b<w.heap.size:=by
 unfold World.cell? at h
 split at h
 ·rename_i hh
  exact (Array.getElem?_eq_some_iff.1 hh).1
 ·cases h
theorem O_sound {w0:World} (hs:Start w0):DOrcSound Tryz.prog (keepsB w0) O:=by
 have tab : ∀ {w : World}, RowKit.Below w0.heap.size w0 w → Lib.TabIs Tryz.prog w "internal/strconv.uint64pow10" .u64 Lib.pow10Tab := fun hb =>
  Joins.tab_stays (g := (Tryz.prog.globalNamed "internal/strconv.uint64pow10").getD 0) (by kernel_rfl) hs.pow hb (Nat.le_refl _)
 obtain ⟨m,hm⟩:=hs.most
 refine orOrcD_sound (pureO_sound (orOrc_sound (orOrc_sound (orOrc_sound (closedOrc_sound ⟨?_,?_,?_⟩) (newOrc_sound ⟨?_,?_,?_⟩)) (amOrc_sound cutT_ok)) ?_)) (putOrc_sound fun f K B ⟨h1,h2,h3⟩=>h1▸h2▸h3▸putPair)
 ·rintro f vs v (⟨rfl,s,p,rfl,rfl⟩ | ⟨rfl,n,_,_,rfl,rfl⟩) u hu<;>simp at hu<;>rcases hu with rfl | rfl<;>exact ⟨rfl,rfl⟩
 ·rintro f vs v (⟨rfl,s,p,rfl,rfl⟩ | ⟨rfl,n,_,_,rfl,rfl⟩)
  ·simp [AM.closedV,AM.scalarV]
  ·rfl
 ·rintro f vs v (⟨rfl,s,p,rfl,rfl⟩ | ⟨rfl,n,h1,h2,rfl,rfl⟩) φ H w ⟨hb,_⟩
  ·exact (Tryz.strings_CutPrefix s p w).mono fun e w' ⟨he,hw⟩=>⟨he,hw ▸ .refl _ _⟩
  ·refine (Tryz.strconv_FormatInt_10 n h1 h2 w (tab hb)).mono fun e w' ⟨he,k,os,hw⟩=>⟨he,?_⟩
   subst hw
   refine ⟨rfl,rfl,rfl,by simp [Sort.grow,World.drewN],fun k hk => ?_⟩
   exact Array.getElem?_append_left hk
 ·rintro f vs v ⟨rfl,s,sep,rfl,_,_,rfl⟩ u hu
  simp at hu
  rcases hu with rfl | rfl<;>exact ⟨rfl,rfl⟩
 ·rintro f vs v ⟨rfl,s,sep,rfl,_,_,rfl⟩ u hu
  obtain ⟨x,_,rfl⟩:=List.mem_map.1 hu
  rfl
 ·rintro f vs v ⟨rfl,s,sep,rfl,h1,h2,rfl⟩ φ H w ⟨hb,_⟩
  refine ⟨9,(Tryz.strings_Split s sep m w h1 (by rw [hb.cell (by exact cell_lt hm)];exact hm) h2).mono fun e w' ⟨he,hw⟩=>⟨?_,hw⟩⟩
  rw [he,List.length_map,piecesOf_length h2]
 ·rintro f args d ⟨rfl,own,xs,sep,rfl,h1,h2,rfl⟩ r φ w hs vs args' dl hargs
  obtain ⟨v1,v2,rfl⟩ : ∃ v1 v2,vs=[v1,v2]:=by
   have:=dl.1
   match vs,this with | [v1,v2],_=>exact ⟨v1,v2,rfl⟩
  obtain ⟨u1,u2,hu⟩ : ∃ u1 u2,args'.toList=[u1,u2]:=by
   have:=hargs.1
   match h:args'.toList,this with | [v1,v2],_=>exact ⟨v1,v2,rfl⟩
  rw [hu] at hargs
  have e2:v2 = .string sep:=by have:=dl.tail.head;cases this;rfl
  subst e2
  have e3:u2 = .string sep:=hargs.tail.head.scalar_eq rfl
  subst e3
  have ea:args' = #[u1,.string sep]:=by rw [← Array.toList_inj,hu]
  subst ea
  have hx:xs.map D.str=(xs.map Value.string).map ofS:=by simp [ofS,Function.comp_def]
  have hd:=dl.head
  rw [hx] at hd
  have ret:Calls Tryz.prog 60 #[u1,.string sep] w fun e w'=>e = .returned (.string (joinB xs sep))∧RowKit.Below w.heap.size w w':=by
   rcases slice_of hs.1 (n:=xs.length) (cs:=xs.map .string) (by simp;intros;rfl) (by simp;intros;rfl) hd hargs.head with ⟨h0,hn,a,c,rfl⟩ | ⟨hn,bk,o,c,rfl,hc,hbk,hcell⟩
   ·have:xs=[]:=List.eq_nil_of_length_eq_zero h0
    subst this
    exact (Tryz.strings_Join_none a c sep w).mono fun e w' ⟨he,hw⟩=>⟨he,hw ▸ .refl _ _⟩
   ·rw [List.length_map] at hc ⊢
    refine (Tryz.strings_Join bk o c xs sep w (fun j x hj=>hcell j _ (by simp [hj])) hbk h1 hc ?_).mono fun e w' ⟨he,hw⟩=>⟨he,hw⟩
    have:(joinB xs sep).size=(Lib.join (xs.map (·.data.toList)) sep.data.toList).length:=by simp [joinB,ByteArray.size]
    omega
  exact ret.mono fun e w' ⟨he,hw⟩=>⟨r,.string (joinB xs sep),.string (joinB xs sep),φ,he,.refl r,fun S h=>h,step_below hs.1 hw,.str _,.string _⟩
theorem cutPrefix (s p:ByteArray) (S:Mem):CallD Tryz.prog O 196 [.str s,.str p] S fun d S'=>S'=S∧d = .tup [.str (trimB s p),.bool (hasB s p)]:=
 CallD.closedOrc (c:=libC) (us:=[.string s,.string p]) (fun f args d h S=>.inl ⟨rfl,.inl (.inl (.inl h))⟩) (.inl ⟨rfl,s,p,rfl,rfl⟩)
theorem formatInt (n:Int) (h1 : -9223372036854775808≤n) (h2:n≤9223372036854775807) (S:Mem):CallD Tryz.prog O 99 [.int .i64 n,.int .i64 10] S fun d S'=>S'=S∧d = .str (decB n):=
 CallD.closedOrc (c:=libC) (us:=[.int .i64 n,.int .i64 10]) (fun f args d h S=>.inl ⟨rfl,.inl (.inl (.inl h))⟩) (.inr ⟨rfl,n,h1,h2,rfl,rfl⟩)
theorem split (s sep:ByteArray) (h1:s.size<4294967281) (h2:1≤sep.size) (S:Mem):CallD Tryz.prog O 197 [.str s,.str sep] S fun d S'=>S'=S∧d = .sl none 1 (piecesOf s sep).length ((piecesOf s sep).map .str):=by
 have:=CallD.newOrc (P:=Tryz.prog) (orc:=O) (S:=S) (c:=libN) (us:=[.string s,.string sep]) (fun f args d h S=>.inl ⟨rfl,.inl (.inl (.inr h))⟩) ⟨rfl,s,sep,rfl,h1,h2,rfl⟩
 simpa [ofV,ofS,Function.comp_def] using this
theorem join (own:Option Nat) (xs:List ByteArray) (sep:ByteArray) (h1:xs.length≤140737488355328) (h2:(joinB xs sep).size≤140737488355328) (S:Mem) :
  CallD Tryz.prog O 60 [.sl own 1 xs.length (xs.map .str),.str sep] S fun d S'=>S'=S∧d = .str (joinB xs sep):=
 ⟨_,_,.orc (.inl ⟨rfl,.inr ⟨rfl,own,xs,sep,rfl,h1,h2,rfl⟩⟩),rfl,rfl⟩
theorem cutO (s:ByteArray) (h1:s.size<1000000) (h2:s.data[0]?=some 47) (h3:1<s.size) (S:Mem):CallD Tryz.prog O 180 [.str s] S fun d S'=>S'=S∧d = .tup [.sl none 1 (AvT.cutP (s.data.toList.drop 1)).length ((AvT.cutP (s.data.toList.drop 1)).map .str),.bool true]:=by
 have:=CallD.amOrc (P:=Tryz.prog) (orc:=O) (S:=S) (c:=cutT) (us:=[.string s]) (fun f args d h S=>.inl ⟨rfl,.inl (.inr h)⟩) ⟨rfl,s,h1,h2,h3,rfl,rfl⟩
 simpa [ofV,ofS,Function.comp_def] using this
theorem insert {o n i:Nat} {own:Option Nat} {cells new:List D} {S:Mem} (hnl:new.length=5) (hin:i≤n) (hlim:n≤1000000) (h1c:cells.all D.one=true) (h1n:new.all D.one=true) (hob:objAt S o=some cells) (hcl:cells.length=n*5) :
  CallD Tryz.prog O 82 [.msl o 5 n,.int .i64 (i:Int),.sl own 5 1 new] S fun d S'=>S'=S.set o .dead++[.obj (putL cells (i*5) new)]∧d = .msl S.length 5 (n+1):=
 CallD.putOrc (c:=libP) (fun f args S d S' h=>.inr h) ⟨rfl,rfl,rfl⟩ (by decide) hnl hin (by omega) h1c h1n hob hcl
theorem insert0 {own:Option Nat} {new:List D} {S:Mem} (hnl:new.length=5) (h1n:new.all D.one=true) :
  CallD Tryz.prog O 82 [.nils,.int .i64 ((0:Nat):Int),.sl own 5 1 new] S fun d S'=>S'=S++[.obj new]∧d = .msl S.length 5 1:=
 CallD.weak (.cons .nil0 (.cons .refl (.cons .refl .nil))) (CallD.putOrc0 (c:=libP) (fun f args S d S' h=>.inr h) ⟨rfl,rfl,rfl⟩ (by decide) hnl (by decide) h1n)
end Go.Proofs.DvT
namespace Go.Proofs.DvT
open Go Go.DM Go.Proofs.DvF
set_option maxRecDepth 100000
variable {orc:DOracle}
def lowB (b:UInt8):Bool:=decide (97≤b.toNat)&&decide (b.toNat≤122)
def digB (b:UInt8):Bool:=decide (48≤b.toNat)&&decide (b.toNat≤57)
def nameOk (s:ByteArray):Bool:=decide (1≤s.size)&&decide (s.size≤8)&&s.data[0]?.any lowB&&s.data.toList.all (fun b=>lowB b || digB b)
theorem bytes_false {p:UInt8→Bool} {s:ByteArray} {i:Nat} (h:i<s.size) (hp:p (s.data[i]'h)=false):s.data.toList.all p=false:=by
 rw [List.all_eq_false]
 exact ⟨_,List.getElem_mem (l:=s.data.toList) (by simpa using h),by simp [hp]⟩
theorem bytes_true {p:UInt8→Bool} {s:ByteArray} (h : ∀ i (h:i<s.size),p (s.data[i]'h)=true):s.data.toList.all p=true:=by
 rw [List.all_eq_true]
 intro x hx
 obtain ⟨j,hj,rfl⟩:=List.mem_iff_getElem.1 hx
 simpa using h j (by simpa using hj)
def inOk (n:Int):Bool:=decide (0≤n)&&decide (n≤1000000000)
def pathOk (s:ByteArray):Bool:=hasB s ⟨#[47]⟩&&(piecesOf (trimB s ⟨#[47]⟩) ⟨#[47]⟩).all nameOk&&decide ((piecesOf (trimB s ⟨#[47]⟩) ⟨#[47]⟩).length≤4)
theorem strsAt {l:List ByteArray} {i:Nat} (h:i<l.length):((0≤(i:Int)∧(i:Int)<(l.length:Int))=True)∧(l.map D.str)[i]?=some (.str l[i]):=⟨ix_ok h,by simp [h]⟩
def chk (s:St):Int:=if inOk s.tick&&inOk s.inc&&inOk s.seq then (if pathOk s.org then 0 else 5) else 1
end Go.Proofs.DvT
namespace Go.Proofs.DvT
open Go Go.DM Go.Proofs.DvF
set_option maxRecDepth 100000
def in64 (n:Int):Prop := -9223372036854775808≤n∧n≤9223372036854775807
def In64 (s:St):Prop:=in64 s.tick∧in64 s.inc∧in64 s.seq
theorem nd_le : ∀ (k u:Nat),u<10 ^ (k+1)→Lib.nDigits u≤k+1
 | 0,u,h=>by rw [Lib.nDigits_small (by simpa using h)];exact Nat.le_refl _
 | k+1,u,h=>by
  by_cases h1:u<10
  ·rw [Lib.nDigits_small h1];omega
  ·rw [Lib.nDigits_big h1]
   have:=nd_le k (u/10) (by rw [Nat.pow_succ] at h;omega)
   omega
theorem decB_size {n:Int} (h:in64 n):(decB n).size≤21:=by
 have e:(decB n).size=(Lib.itoa n).length:=by simp [decB,ByteArray.size]
 rw [e]
 obtain ⟨h1,h2⟩:=h
 unfold Lib.itoa
 split
 ·rw [List.length_cons,Lib.decDigits_length]
  have:=nd_le 19 n.natAbs (by
                 have:n.natAbs≤9223372036854775808:=by omega
                 omega)
  omega
 ·rw [Lib.decDigits_length]
  have:=nd_le 19 n.toNat (by
                 have:n.toNat≤9223372036854775807:=by omega
                 omega)
  omega
def decsB (l:List Int):List ByteArray:=l.map decB
def textB (s:St):ByteArray:=joinB [decB s.tick,decB s.inc,decB s.seq] ⟨#[46]⟩++⟨#[64]⟩++s.org
theorem join3_size {a b c:ByteArray} (ha:a.size≤21) (hb:b.size≤21) (hc:c.size≤21):(joinB [a,b,c] ⟨#[46]⟩).size≤140737488355328:=by
 simp only [joinB,ByteArray.size,List.size_toArray] at *
 simp only [List.map_cons,List.map_nil,Lib.join_length,Lib.lens,List.length_cons,List.length_nil,Array.length_toList]
 simp
 have ea:a.data.size=a.size:=rfl
 have eb:b.data.size=b.size:=rfl
 have ec:c.data.size=c.size:=rfl
 omega
theorem add_str {P:Program} {t:TypeId} {x y:Operand} {a b:ByteArray} (h:a.size+b.size<4611686018427387904):binD P .add t x y (.str a) (.str b)=some (.str (a++b)):=
 bin_str (v:=.string (a++b)) (by simp only [AM.strBin];rw [if_neg];show ¬ ((a.size+b.size:Nat):Int)>9223372036854775807;omega)
theorem fits_str {n:Nat} {s:ByteArray} (h:n<1000000):fitsD 16 n [.str s]:=⟨by omega,by omega,by omega,rfl⟩
theorem take_decs {l:List Int} {i:Nat} (h:i<l.length):(decsB (l.take (i+1))).map D.str=(decsB (l.take i)).map D.str++[.str (decB l[i])]:=by
 rw [List.take_succ_eq_append_getElem h]
 simp only [decsB,List.map_append,List.map_cons,List.map_nil]
theorem stText (s:St) (hn:In64 s) (hs:s.org.size<1000000) (S:Mem):CallD Tryz.prog O 58 [.agg s.c] S fun d S'=>S'=S∧d = .str (textB s):=by
 obtain ⟨a,b,c,org⟩:=s
 obtain ⟨ha,hb,hc'⟩:=hn
 simp only at ha hb hc' hs
 simp only [St.c,textB]
 generalize hl:[a,b,c]=l
 have hlen:l.length=3:=by rw [← hl];rfl
 have hin : ∀ x∈l,in64 x:=by rw [← hl];simp [ha,hb,hc']
 have hcells:[D.int .i64 a,D.int .i64 b,D.int .i64 c]=intsD l:=by rw [← hl];rfl
 have hrep:repD [D.int .i64 0] 3=[D.int .i64 0,D.int .i64 0,D.int .i64 0]:=rfl
 refine CallD.e Tryz.func58 rfl Tryz.ntmps58 (by rfl) ?_
 have hone:(intsD l).all D.one=true:=by simp [intsD,D.one]
 repeat' (first|refine Go.a rfl ?_|refine Go.rg ?_|refine GoR.nil ?_|refine Go.ret ?_|refine Go.b rfl ?_|refine Go.rgS dmx (by decide) ?_|refine Go.rgD [4] (fun _=>True) dmx (by decide) 7 (by decide) (by trivial) ?_|refine GoW.nil rfl ?_|((first|refine GoR.o (by rfl) (by rfl) ?_|refine GoW.o (by rfl) (by rfl) ?_|refine GoW.rd (by rfl) (by rfl) ?_);(conv=>arg 1;simp only [G,Z,Y,Gx,un_neg,cutD,decide_true,decide_false,simprocAttr,fb2,fb3,fb9,fb51,fb61,fb70,hrep,List.set_cons_zero,List.set_cons_succ,List.length_cons,List.length_nil,hcells,hone]);first|show GoR ..|(show _∧GoW ..;refine ⟨by exact fun _=>trivial,?_⟩)|(show _∧_∧_∧GoW ..;refine ⟨rfl,by trivial,(fun H _=>by simp only [G,Z,Y,Gx,un_neg,cutD,decide_true,decide_false,simprocAttr,fb2,fb3,fb9,fb51,fb61,fb70,hrep,List.set_cons_zero,List.set_cons_succ,List.length_cons,List.length_nil,hcells,hone]),?_⟩))|refine Go.condB rfl (fun hc => ?_) (fun hc => ?_))
 refine Go.keep [(1,.ptr S.length 0),(3,.nils),(12,.sl (some (S.length+1)) 1 3 (intsD l)),(13,.int .i64 ((3:Nat):Int)),(14,.int .i64 ((0:Nat):Int))] (.cons .refl (.cons .refl (.cons .refl (.cons .refl (.cons .refl (.nil)))))) ?_
 refine Go.while (α:=Nat×D×Mem) (fun x=>3 - x.1) (fun x=>[(1,.ptr S.length 0),(3,x.2.1),(12,.sl (some (S.length+1)) 1 3 (intsD l)),(13,.int .i64 ((3:Nat):Int)),(14,.int .i64 (x.1:Int))])
  (fun x=>S++(.obj [.int .i64 a,.int .i64 b,.int .i64 c,.str org] :: .own::x.2.2))
  (fun x=>x.1≤3∧AccD (S.length+2) x.2.1 1 x.1 ((decsB (l.take x.1)).map .str) (S++(.obj [.int .i64 a,.int .i64 b,.int .i64 c,.str org] :: .own::x.2.2)))
  ?_ (0,.nils,[]) ⟨Nat.zero_le _,.inl ⟨rfl,rfl,rfl⟩⟩
 rintro ⟨i,o,E⟩ ⟨hi,hacc⟩ next
 dsimp only at hi hacc next
 by_cases h1:i<3
 ·have h2:i<l.length:=by omega
  have hx:=hin l[i] (List.getElem_mem _)
  obtain ⟨o',S2,hap,hacc2,hg2⟩:=(hacc.app [.own]).append (P:=Tryz.prog) del70 (own:=some (S.length+(E.length+1+1))) (m:=1) (new:=[.str (decB l[i])]) (by simp) (by simp) (fits_str (by omega))
  obtain ⟨E2,rfl⟩:=hg2.pre (E++[.own]) (S++[.obj [.int .i64 a,.int .i64 b,.int .i64 c,.str org],.own]) (by simp) (by simp)
  simp only [List.append_assoc,List.cons_append,List.nil_append] at hap hacc2
  have hix:=(intsAt h2).2
  have h03:((0≤(i:Int)∧(i:Int)<((3:Nat):Int))=True):=by simp;omega
  have h03':((0≤(i:Int)∧(i:Int)<(3:Int))=True):=by simp;omega
  repeat' (first|refine Go.a rfl ?_|refine Go.rg ?_|refine GoR.nil ?_|refine Go.ret ?_|refine Go.b rfl ?_|refine Go.rgS dmx (by decide) ?_|refine Go.rgD [4] (fun _=>True) dmx (by decide) 7 (by decide) (by trivial) ?_|refine GoW.nil rfl ?_|((first|refine GoR.o (by rfl) (by rfl) ?_|refine GoW.o (by rfl) (by rfl) ?_|refine GoW.rd (by rfl) (by rfl) ?_);(conv=>arg 1;simp only [G,Z,Y,Gx,un_neg,cutD,decide_true,decide_false,simprocAttr,fb2,fb3,fb9,fb51,fb61,fb70,hix,h03,h03',show decide ((i:Int)<(3:Int))=true by simp;omega,wrap_succ (show i<4611686018427387904 by omega),hap,builtin_append,show decide ((i:Int)<((3:Nat):Int))=true by simp;omega]);first|show GoR ..|(show _∧GoW ..;refine ⟨by exact fun _=>trivial,?_⟩)|(show _∧_∧_∧GoW ..;refine ⟨rfl,by trivial,(fun H _=>by simp only [G,Z,Y,Gx,un_neg,cutD,decide_true,decide_false,simprocAttr,fb2,fb3,fb9,fb51,fb61,fb70,hix,h03,h03',show decide ((i:Int)<(3:Int))=true by simp;omega,wrap_succ (show i<4611686018427387904 by omega),hap,builtin_append,show decide ((i:Int)<((3:Nat):Int))=true by simp;omega]),?_⟩))|(refine GoW.c c99 (by rfl) (by rfl) rfl ?_;(refine (formatInt _ hx.1 hx.2 _).ret ?_);refine ⟨by exact fun _=>trivial,?_⟩)|(refine GoR.c c99 (by rfl) (by rfl) rfl ?_;(refine (formatInt _ hx.1 hx.2 _).ret ?_))|refine Go.condB rfl (fun hc => ?_) (fun hc => ?_))
  refine Go.lpN ?_
  refine Go.keep [(1,.ptr S.length 0),(3,o'),(12,.sl (some (S.length+1)) 1 3 (intsD l)),(13,.int .i64 ((3:Nat):Int)),(14,.int .i64 ((i+1:Nat):Int))] (.cons .refl (.cons .refl (.cons .refl (.cons .refl (.cons .refl (.nil)))))) ?_
  refine next (i+1,o',E2) (by dsimp only;omega) ⟨h1,?_⟩
  dsimp only
  rw [take_decs h2]
  exact hacc2
 ·clear next
  obtain rfl:i=3:=by omega
  rcases hacc with ⟨_,h,_⟩ | ⟨_,h,_⟩ | ⟨id,_,rfl,_⟩
  ·cases h
  ·cases h
  ·have e3:decsB (l.take 3)=[decB a,decB b,decB c]:=by rw [← hl];rfl
   rw [e3]
   have hj:=join3_size (decB_size ha) (decB_size hb) (decB_size hc')
   have hp1:=fun {t:TypeId} {x y:Operand} => add_str (P:=Tryz.prog) (t:=t) (x:=x) (y:=y) (a:=joinB [decB a,decB b,decB c] ⟨#[46]⟩) (b:=⟨#[64]⟩) (by show _+1<_;omega)
   have hp2:=fun {t:TypeId} {x y:Operand} => add_str (P:=Tryz.prog) (t:=t) (x:=x) (y:=y) (a:=joinB [decB a,decB b,decB c] ⟨#[46]⟩++⟨#[64]⟩) (b:=org) (by rw [ByteArray.size_append];show _+1+_<_;omega)
   repeat' (first|refine Go.a rfl ?_|refine Go.rg ?_|refine GoR.nil ?_|refine Go.ret ?_|refine Go.b rfl ?_|refine Go.rgS dmx (by decide) ?_|refine Go.rgD [4] (fun H=>objAt H S.length=some [.int .i64 a,.int .i64 b,.int .i64 c,.str org]) dmx (by decide) 7 (by decide) (by (simp only [List.append_assoc,List.cons_append,List.nil_append,objAt_app,objAt_app0,objAt_succ,objAt_zero])) ?_|refine GoW.nil rfl ?_|((first|refine GoR.o (by rfl) (by rfl) ?_|refine GoW.o (by rfl) (by rfl) ?_|refine GoW.rd (by rfl) (by rfl) ?_);(conv=>arg 1;simp only [G,Z,Y,Gx,un_neg,cutD,decide_true,decide_false,simprocAttr,fb2,fb3,fb9,fb51,fb61,fb70,hp1,hp2]);first|show GoR ..|(show _∧GoW ..;refine ⟨by (first|exact fun h=>absurd h (by decide)|(intro _;(simp only [List.append_assoc,List.cons_append,List.nil_append,objAt_app,objAt_app0,objAt_succ,objAt_zero]))),?_⟩)|(show _∧_∧_∧GoW ..;refine ⟨rfl,by (simp only [List.append_assoc,List.cons_append,List.nil_append,objAt_app,objAt_app0,objAt_succ,objAt_zero]),(fun H hI=>by (try dsimp only at hI);simp only [G,Z,Y,Gx,un_neg,cutD,decide_true,decide_false,simprocAttr,fb2,fb3,fb9,fb51,fb61,fb70,hp1,hp2,hI]),?_⟩))|(refine GoW.c c60 (by rfl) (by rfl) rfl ?_;(refine (join _ [decB a,decB b,decB c] ⟨#[46]⟩ (by simp) (join3_size (decB_size ha) (decB_size hb) (decB_size hc')) _).ret ?_);refine ⟨by (first|exact fun h=>absurd h (by decide)|(intro _;(simp only [List.append_assoc,List.cons_append,List.nil_append,objAt_app,objAt_app0,objAt_succ,objAt_zero]))),?_⟩)|(refine GoR.c c60 (by rfl) (by rfl) rfl ?_;(refine (join _ [decB a,decB b,decB c] ⟨#[46]⟩ (by simp) (join3_size (decB_size ha) (decB_size hb) (decB_size hc')) _).ret ?_))|refine Go.condB rfl (fun hc => ?_) (fun hc => ?_))
   refine ⟨(by first | exact .inl rfl | exact .inr rfl),fin ?_⟩
   rw [resD_tmp (fn:=Tryz.f58) rfl]
   simp only [optThen_some,resultD_tmp,resultD_cell,G,Z,Y,Gx,un_neg,cutD,decide_true,decide_false,simprocAttr,fb2,fb3,fb9,fb51,fb61,fb70]
   exact ⟨_,_,rfl,.str,rfl⟩
end Go.Proofs.DvT
namespace Go.Proofs.DvT
open Go Go.DM Go.Proofs.DvF
def msplit:List UInt8→List (List UInt8)
 | []=>[[]]
 | b::l=>if b=47 then []::msplit l else match msplit l with | x::xs=>(b::x)::xs | []=>[[b]]
theorem msplit_ne : ∀ (l:List UInt8),msplit l≠[]
 | []=>by simp [msplit]
 | b::l=>by
  unfold msplit
  split
  ·simp
  ·split<;>simp
theorem index_nil47:Lib.index [] [47] = -1:=rfl
theorem index_hit47 (l:List UInt8):Lib.index (47::l) [47]=0:=by simp [Lib.index]
theorem index_miss47 {b:UInt8} (hb:b≠47) (l:List UInt8):Lib.index (b::l) [47]=if Lib.index l [47] = -1 then -1 else Lib.index l [47]+1:=by
 have : ¬ (47:UInt8)=b:=fun h=>hb h.symm
 simp [Lib.index,this]
theorem split47 : ∀ (l:List UInt8),Lib.splitK [47] 0 (Lib.count l [47]) l=msplit l
 | []=>by
  rw [Lib.count_miss index_nil47]
  rfl
 | b::l=>by
  have ih:=split47 l
  by_cases hb:b=47
  ·subst hb
   have hi:=index_hit47 l
   rw [Lib.count_hit (i:=0) (by simp) hi]
   simp only [List.length_cons,List.length_nil,Nat.zero_add,List.drop_succ_cons,List.drop_zero]
   rw [Nat.add_comm,Lib.splitK,if_neg (by rw [hi];decide),hi]
   simp only [Int.toNat_zero,Nat.zero_add,List.take_zero,List.length_cons,List.length_nil,List.drop_succ_cons,List.drop_zero,ih,msplit,if_true]
  ·have hi:=index_miss47 hb l
   have hge:=Lib.index_ge l [47]
   by_cases hm:Lib.index l [47] = -1
   ·rw [if_pos hm] at hi
    rw [Lib.count_miss hi]
    rw [Lib.count_miss hm] at ih
    simp only [Lib.splitK] at ih ⊢
    rw [msplit,if_neg hb,← ih]
   ·rw [if_neg hm] at hi
    obtain ⟨i,hn⟩ : ∃ i:Nat,Lib.index l [47]=i:=⟨(Lib.index l [47]).toNat,by omega⟩
    rw [hn] at hi
    have hi':Lib.index (b::l) [47]=((i+1:Nat):Int):=by rw [hi];omega
    rw [Lib.count_hit (by simp) hn] at ih
    rw [Lib.count_hit (by simp) hi']
    simp only [List.length_cons,List.length_nil,Nat.zero_add,List.drop_succ_cons] at ih ⊢
    rw [Nat.add_comm 1] at ih ⊢
    rw [Lib.splitK,if_neg (by rw [hn];rw [beq_iff_eq];omega),hn] at ih
    rw [Lib.splitK,if_neg (by rw [hi'];rw [beq_iff_eq];omega),hi']
    simp only [Int.toNat_natCast,Nat.add_zero,List.take_succ_cons,List.drop_succ_cons,List.length_cons,List.length_nil,Nat.zero_add] at ih ⊢
    rw [msplit,if_neg hb,← ih]
def prep (q:List UInt8):List (List UInt8)→List (List UInt8)
 | []=>[]
 | x::xs=>(q++x)::xs
theorem cut_msplit : ∀ (l:List UInt8) (acc:List ByteArray) (q:ByteArray),
  ((l.foldl AvT.stepC (acc,q)).1++[(l.foldl AvT.stepC (acc,q)).2]).map (·.data.toList)=acc.map (·.data.toList)++prep q.data.toList (msplit l)
 | [],acc,q=>by simp [msplit,prep]
 | b::l,acc,q=>by
  rw [List.foldl_cons]
  by_cases hb:b=47
  ·subst hb
   rw [show AvT.stepC (acc,q) 47=(acc++[q],⟨#[]⟩) from rfl,cut_msplit l,msplit,if_pos rfl]
   have:=msplit_ne l
   cases h:msplit l with
   | nil=>exact absurd h this
   | cons x xs=>simp [prep]
  ·rw [show AvT.stepC (acc,q) b=(acc,q++⟨#[b]⟩) by simp [AvT.stepC,hb],cut_msplit l,msplit,if_neg hb]
   have:=msplit_ne l
   cases h:msplit l with
   | nil=>exact absurd h this
   | cons x xs=>simp [prep]
theorem map_bytes_inj : ∀ {a b:List ByteArray},a.map (·.data.toList)=b.map (·.data.toList)→a=b
 | [],[],_=>rfl
 | [],_::_,h=>by simp at h
 | _::_,[],h=>by simp at h
 | x::a,y::b,h=>by
  simp only [List.map_cons,List.cons.injEq] at h
  rw [AM.bytes_ext h.1,map_bytes_inj h.2]
theorem pieces_cut (t:ByteArray):piecesOf t ⟨#[47]⟩=AvT.cutP t.data.toList:=by
 refine map_bytes_inj ?_
 rw [piecesOf,Lib.splitB_data]
 show Lib.splitK [47] 0 (Lib.count t.data.toList [47]) t.data.toList=_
 rw [split47,AvT.cutP,AvT.cutL,cut_msplit]
 have:=msplit_ne t.data.toList
 cases h:msplit t.data.toList with
 | nil=>exact absurd h this
 | cons x xs=>simp [prep]
theorem hasB47 (s:ByteArray):hasB s ⟨#[47]⟩=decide (s.data[0]?=some 47):=by
 unfold hasB Lib.hasPrefix
 rw [show s.data[0]?=s.data.toList[0]? by simp]
 cases s.data.toList with
 | nil=>rfl
 | cons b l=>
  show ((47:UInt8)==b&&true)=decide (some b=some 47)
  rw [Bool.eq_iff_iff,Bool.and_true,beq_iff_eq,decide_eq_true_iff,Option.some.injEq]
  exact eq_comm
theorem trimB47 {s:ByteArray} (h:hasB s ⟨#[47]⟩=true):(trimB s ⟨#[47]⟩).data.toList=s.data.toList.drop 1:=by
 have h':Lib.hasPrefix s.data.toList [47]=true:=h
 show (Lib.trimPrefix s.data.toList [47])=_
 rw [Lib.trimPrefix,if_pos h']
 rfl
end Go.Proofs.DvT
