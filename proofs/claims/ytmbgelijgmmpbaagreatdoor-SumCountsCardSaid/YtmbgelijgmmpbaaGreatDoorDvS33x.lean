/- Whether attributes, rows are the same: the program's word, the document's. -/
import Derived.Test.YtmbgelijgmmpbaaGreatDoorDvS27x
set_option linter.unusedSimpArgs false
set_option linter.unusedVariables false
namespace Go.Proofs.DvT
open Go Go.DM Go.Proofs.DvF
set_option maxRecDepth 100000
variable {orc:DOracle}
end Go.Proofs.DvT
namespace Go.Proofs.DvT
open Go Go.DM Go.Proofs.DvF
set_option maxRecDepth 100000
variable {orc:DOracle}
def attW (a:Att):ByteArray:=a.n++⟨#[61]⟩++textV a.v
def wordsR (r:Rw) (i:Nat):List ByteArray:=r.key::textB r.st::(r.at_.take i).map attW
def textR (r:Rw):ByteArray:=joinB (wordsR r r.at_.length) ⟨#[32]⟩
structure FewT (a:Att):Prop where
 n:a.n.size<1000
 s:a.v.s.size<1000
 l:a.v.l.length≤1000
 i:in64 a.v.i
 ls : ∀ x∈a.v.l,in64 x
theorem textV_size {a:Att} (h:FewT a):(textV a.v).size≤23000:=by
 have hz:=nums_size h.ls a.v.l.length (Nat.le_refl _)
 rw [List.take_length] at hz
 have hd:=decB_size h.i
 have:=h.s
 have:=h.l
 unfold textV
 split
 ·omega
 ·split
  ·rw [ByteArray.size_append,ByteArray.size_append]
   show 1+_+1≤_
   omega
  ·split
   ·rw [ByteArray.size_append,ByteArray.size_append]
    show 1+_+1≤_
    omega
   ·show 0≤_
    omega
theorem attW_size {a:Att} (h:FewT a):(attW a).size≤25000:=by
 have:=textV_size h
 have:=h.n
 unfold attW
 rw [ByteArray.size_append,ByteArray.size_append]
 show _+1+_≤_
 omega
theorem join3_small {a b c:ByteArray} (ha:a.size≤21) (hb:b.size≤21) (hc:c.size≤21):(joinB [a,b,c] ⟨#[46]⟩).size≤65:=by
 simp only [joinB,ByteArray.size,List.size_toArray] at *
 simp only [List.map_cons,List.map_nil,Lib.join_length,Lib.lens,List.length_cons,List.length_nil,Array.length_toList]
 simp
 have ea:a.data.size=a.size:=rfl
 have eb:b.data.size=b.size:=rfl
 have ec:c.data.size=c.size:=rfl
 omega
theorem textB_size {s:St} (h:In64 s) (hs:s.org.size<1000000):(textB s).size≤1000100:=by
 have:=join3_small (decB_size h.1) (decB_size h.2.1) (decB_size h.2.2)
 unfold textB
 rw [ByteArray.size_append,ByteArray.size_append]
 show _+1+_≤_
 omega
theorem words_succ {r:Rw} {i:Nat} (h:i<r.at_.length):wordsR r (i+1)=wordsR r i++[attW r.at_[i]]:=by
 unfold wordsR
 rw [List.take_succ_eq_append_getElem h]
 simp only [List.map_append,List.map_cons,List.map_nil,List.cons_append]
theorem words_join {r:Rw} {i:Nat} (h:i<r.at_.length):joinB (wordsR r (i+1)) ⟨#[32]⟩=joinB (wordsR r i) ⟨#[32]⟩++⟨#[32]⟩++attW r.at_[i]:=by
 rw [words_succ h,joinB_snoc (by simp [wordsR])]
theorem words_zero {r:Rw} : joinB (wordsR r 0) ⟨#[32]⟩=r.key++⟨#[32]⟩++textB r.st:=by
 have:wordsR r 0=[r.key]++[textB r.st]:=rfl
 rw [this,joinB_snoc (by simp),joinB_one]
theorem words_size {r:Rw} (hk:r.key.size<1000000) (h:In64 r.st) (hs:r.st.org.size<1000000) (hf : ∀ a∈r.at_,FewT a) : ∀ i,i≤r.at_.length→(joinB (wordsR r i) ⟨#[32]⟩).size≤2000200+i*25001:=by
 intro i
 induction i with
 | zero=>
  intro _
  have:=textB_size h hs
  rw [words_zero,ByteArray.size_append,ByteArray.size_append]
  show _+1+_≤_
  omega
 | succ i ih=>
  intro hi
  have:=ih (by omega)
  have:=attW_size (hf _ (List.getElem_mem (show i<r.at_.length by omega)))
  rw [words_join (by omega),ByteArray.size_append,ByteArray.size_append]
  show _+1+_≤_
  omega
theorem words_len {r:Rw} {i:Nat} (h:i≤r.at_.length):(wordsR r i).length=2+i:=by
 simp [wordsR,Nat.min_eq_left h]
 omega
theorem rowText (r:Rw) (hk:r.key.size<1000000) (h:In64 r.st) (hs:r.st.org.size<1000000) (hf : ∀ a∈r.at_,FewT a) (hl:r.at_.length≤1000) (S:Mem) :
  CallD Tryz.prog O 25 [.agg r.c] S fun d S'=>S'=S∧d = .str (textR r):=by
 have hst:=fun S=>stText r.st h hs S
 have hsz:=words_size hk h hs hf r.at_.length (Nat.le_refl _)
 have hwl:=words_len (r:=r) (Nat.le_refl r.at_.length)
 have hws : ∀ i,i≤r.at_.length→(wordsR r i).length=2+i:=fun i hi=>words_len hi
 have hsu : ∀ i (hi:i<r.at_.length),(wordsR r (i+1)).map D.str=(wordsR r i).map D.str++[.str (attW r.at_[i])]:=fun i hi=>by rw [words_succ hi];simp
 have hw0:(wordsR r 0).map D.str=[.str r.key,.str (textB r.st)]:=rfl
 unfold textR
 generalize hW:wordsR r=W at *
 obtain ⟨key,⟨a,b,c,org⟩,l⟩:=r
 simp only [Rw.c,St.c] at *
 clear hW
 generalize textB ⟨a,b,c,org⟩=sw at *
 refine CallD.e Tryz.func25 rfl Tryz.ntmps25 (by rfl) ?_
 repeat' (first|refine Go.a rfl ?_|refine Go.rg ?_|refine GoR.nil ?_|refine Go.ret ?_|refine Go.b rfl ?_|refine Go.rgS dmx (by decide) ?_|refine Go.rgD (id:=1) [1] (fun H=>objAt H S.length=some [.str key,.int .i64 a,.int .i64 b,.int .i64 c,.str org,.sl none 5 l.length (attsC l)]) dmx (by decide) 5 (by decide) (by (simp [objAt,List.getElem?_append_right])) ?_|refine Go.rgD (id:=5) [2] (fun H=>objAt H S.length=some [.str key,.int .i64 a,.int .i64 b,.int .i64 c,.str org,.sl none 5 l.length (attsC l)]) dmx (by decide) 8 (by decide) (by (simp [objAt,List.getElem?_append_right])) ?_|refine GoW.nil rfl ?_|((first|refine GoR.o (by rfl) (by rfl) ?_|refine GoW.o (by rfl) (by rfl) ?_|refine GoW.rd (by rfl) (by rfl) ?_);(conv=>arg 1;simp only [G,Z,Y,Gx,un_neg,cutD,decide_true,decide_false,simprocAttr,fb2,fb3,fb9,fb33,fb51,fb53,fb59,fb61,fb63,fb70]);first|show GoR ..|(show _∧GoW ..;refine ⟨by (first|exact fun h=>absurd h (by decide)|(intro _;(simp [objAt,List.getElem?_append_right]))),?_⟩)|(show _∧_∧_∧GoW ..;refine ⟨rfl,by (simp [objAt,List.getElem?_append_right]),(fun H hI=>by (try dsimp only at hI);simp only [G,Z,Y,Gx,un_neg,cutD,decide_true,decide_false,simprocAttr,fb2,fb3,fb9,fb33,fb51,fb53,fb59,fb61,fb63,fb70,hI]),?_⟩))|(refine GoW.c c58 (by rfl) (by rfl) rfl ?_;(refine (hst _).ret ?_);refine ⟨by (first|exact fun h=>absurd h (by decide)|(intro _;(simp [objAt,List.getElem?_append_right]))),?_⟩)|(refine GoR.c c58 (by rfl) (by rfl) rfl ?_;(refine (hst _).ret ?_))|refine Go.condB rfl (fun hc => ?_) (fun hc => ?_))
 refine Go.keep [(3,.sl (some (S.length+1)) 1 2 [.str key,.str sw]),(13,.sl none 5 l.length (attsC l)),(14,.int .i64 (l.length:Int)),(15,.int .i64 ((0:Nat):Int))] (.cons .refl (.cons .refl (.cons .refl (.cons .refl (.nil))))) ?_
 refine Go.while (α:=Nat×D×Mem) (fun x=>l.length - x.1) (fun x=>[(3,x.2.1),(13,.sl none 5 l.length (attsC l)),(14,.int .i64 (l.length:Int)),(15,.int .i64 (x.1:Int))]) (fun x=>x.2.2)
  (fun x=>x.1≤l.length∧AccD S.length x.2.1 1 (2+x.1) ((W x.1).map .str) x.2.2∧Grown S.length S x.2.2) ?_ (0,.sl (some (S.length+1)) 1 2 [.str key,.str sw],_) ⟨Nat.zero_le _,.inr (.inr ⟨S.length+1,by omega,by dsimp only;rw [hw0],by simp⟩),Grown.app⟩
 rintro ⟨i,o,S1⟩ ⟨hi,hacc,hg⟩ next
 dsimp only at hi hacc hg next
 by_cases h1:i<l.length
 ·have hx:=hf l[i] (List.getElem_mem _)
  have hvt:=fun S=>valTextW l[i].v hx.l (by have:=hx.s;omega) hx.i hx.ls S
  have a1:=attsAt h1
  simp only [Val.c,Att.c] at a1 hvt
  have hts:=textV_size hx
  have hns:=hx.n
  obtain ⟨o',S2,hap,hacc2,hg2⟩:=(hacc.app [.obj l[i].c,.own]).append (P:=Tryz.prog) del70 (own:=some (S1.length+1)) (m:=1) (new:=[.str (attW l[i])]) (by simp;have:=hg.len;omega) (by simp) (fits_str (by omega))
  rw [attW] at hap
  simp only [Att.c] at hap
  have p1 : ∀ {t:TypeId} {u v:Operand},binD Tryz.prog .add t u v (.str l[i].n) (.str ⟨#[61]⟩)=some (.str (l[i].n++⟨#[61]⟩)):=add_str (by show _+1<_;omega)
  have p2 : ∀ {t:TypeId} {u v:Operand},binD Tryz.prog .add t u v (.str (l[i].n++⟨#[61]⟩)) (.str (textV l[i].v))=some (.str (l[i].n++⟨#[61]⟩++textV l[i].v)):=add_str (by rw [ByteArray.size_append];show _+1+_<_;omega)
  repeat' (first|refine Go.a rfl ?_|refine Go.rg ?_|refine GoR.nil ?_|refine Go.ret ?_|refine Go.b rfl ?_|refine Go.rgS dmx (by decide) ?_|refine Go.rgD (id:=1) [1] (fun H=>objAt H S1.length=some [.str l[i].n,.int .i64 l[i].v.k,.int .i64 l[i].v.i,.str l[i].v.s,.sl none 1 l[i].v.l.length (intsD l[i].v.l)]) dmx (by decide) 5 (by decide) (by (simp [objAt,List.getElem?_append_right])) ?_|refine Go.rgD (id:=5) [2] (fun H=>objAt H S1.length=some [.str l[i].n,.int .i64 l[i].v.k,.int .i64 l[i].v.i,.str l[i].v.s,.sl none 1 l[i].v.l.length (intsD l[i].v.l)]) dmx (by decide) 8 (by decide) (by (simp [objAt,List.getElem?_append_right])) ?_|refine GoW.nil rfl ?_|((first|refine GoR.o (by rfl) (by rfl) ?_|refine GoW.o (by rfl) (by rfl) ?_|refine GoW.rd (by rfl) (by rfl) ?_);(conv=>arg 1;simp only [G,Z,Y,Gx,un_neg,cutD,decide_true,decide_false,simprocAttr,fb2,fb3,fb9,fb33,fb51,fb53,fb59,fb61,fb63,fb70,show decide ((i:Int)<(l.length:Int))=true by simp;omega,a1,p1,p2,wrap_succ (show i<4611686018427387904 by omega),hap,builtin_append]);first|show GoR ..|(show _∧GoW ..;refine ⟨by (first|exact fun h=>absurd h (by decide)|(intro _;(simp [objAt,List.getElem?_append_right]))),?_⟩)|(show _∧_∧_∧GoW ..;refine ⟨rfl,by (simp [objAt,List.getElem?_append_right]),(fun H hI=>by (try dsimp only at hI);simp only [G,Z,Y,Gx,un_neg,cutD,decide_true,decide_false,simprocAttr,fb2,fb3,fb9,fb33,fb51,fb53,fb59,fb61,fb63,fb70,show decide ((i:Int)<(l.length:Int))=true by simp;omega,a1,p1,p2,wrap_succ (show i<4611686018427387904 by omega),hap,builtin_append,hI]),?_⟩))|(refine GoW.c c59 (by rfl) (by rfl) rfl ?_;(refine (hvt _).ret ?_);refine ⟨by (first|exact fun h=>absurd h (by decide)|(intro _;(simp [objAt,List.getElem?_append_right]))),?_⟩)|(refine GoR.c c59 (by rfl) (by rfl) rfl ?_;(refine (hvt _).ret ?_))|refine Go.condB rfl (fun hc => ?_) (fun hc => ?_))
  refine Go.lpN ?_
  refine Go.keep [(3,o'),(13,.sl none 5 l.length (attsC l)),(14,.int .i64 (l.length:Int)),(15,.int .i64 ((i+1:Nat):Int))] (.cons .refl (.cons .refl (.cons .refl (.cons .refl (.nil))))) ?_
  refine next (i+1,o',S2) (by dsimp only;omega) ⟨h1,?_,hg.trans (Grown.app.trans hg2)⟩
  dsimp only
  rw [hsu i h1]
  exact hacc2
 ·clear next
  obtain rfl:i=l.length:=by omega
  obtain ⟨E,hE⟩:=hg.pre [] S rfl (by simp)
  rcases hacc with ⟨ho,h0,h00⟩ | ⟨ho,h0,h00⟩ | ⟨id,h0,ho,h00⟩
  ·omega
  ·omega
  ·subst ho
   have hj:=fun own=>join own (W l.length) ⟨#[32]⟩ (by rw [hwl];omega) (by omega) S1
   simp only [hwl] at hj
   repeat' (first|refine Go.a rfl ?_|refine Go.rg ?_|refine GoR.nil ?_|refine Go.ret ?_|refine Go.b rfl ?_|refine Go.rgS dmx (by decide) ?_|refine Go.rgD (id:=1) [1] (fun _=>True) dmx (by decide) 5 (by decide) (by trivial) ?_|refine Go.rgD (id:=5) [2] (fun _=>True) dmx (by decide) 8 (by decide) (by trivial) ?_|refine GoW.nil rfl ?_|((first|refine GoR.o (by rfl) (by rfl) ?_|refine GoW.o (by rfl) (by rfl) ?_|refine GoW.rd (by rfl) (by rfl) ?_);(conv=>arg 1;simp only [G,Z,Y,Gx,un_neg,cutD,decide_true,decide_false,simprocAttr,fb2,fb3,fb9,fb33,fb51,fb53,fb59,fb61,fb63,fb70,show decide ((l.length:Int)<(l.length:Int))=false by simp]);first|show GoR ..|(show _∧GoW ..;refine ⟨by exact fun _=>trivial,?_⟩)|(show _∧_∧_∧GoW ..;refine ⟨rfl,by trivial,(fun H _=>by simp only [G,Z,Y,Gx,un_neg,cutD,decide_true,decide_false,simprocAttr,fb2,fb3,fb9,fb33,fb51,fb53,fb59,fb61,fb63,fb70,show decide ((l.length:Int)<(l.length:Int))=false by simp]),?_⟩))|(refine GoW.c c60 (by rfl) (by rfl) rfl ?_;(refine (hj _).ret ?_);refine ⟨by exact fun _=>trivial,?_⟩)|(refine GoR.c c60 (by rfl) (by rfl) rfl ?_;(refine (hj _).ret ?_))|refine Go.condB rfl (fun hc => ?_) (fun hc => ?_))
   refine ⟨(by first | exact .inl rfl | exact .inr rfl),fin ?_⟩
   rw [resD_tmp (fn:=Tryz.f25) rfl]
   simp only [optThen_some,resultD_tmp,resultD_cell,G,Z,Y,Gx,un_neg,cutD,decide_true,decide_false,simprocAttr,fb2,fb3,fb9,fb33,fb51,fb53,fb59,fb61,fb63,fb70]
   exact ⟨_,E,hE,.str,rfl⟩
theorem of4 (r:Rw) (hl:r.at_.length≤1000000) (S:Mem):CallD Tryz.prog orc 28 [.agg r.c] S fun d S'=>S'=S∧d = .agg r.c:=by
 have hst:=fun S=>ofSt (orc:=orc) r.st S
 have hat:=fun S=>ofAttrs (orc:=orc) r.at_ hl S
 obtain ⟨key,⟨a,b,c,org⟩,l⟩:=r
 simp only [Rw.c,St.c] at *
 refine CallD.e Tryz.func28 rfl Tryz.ntmps28 (by rfl) ?_
 repeat' (first|refine Go.a rfl ?_|refine Go.rg ?_|refine GoR.nil ?_|refine Go.ret ?_|refine Go.b rfl ?_|refine Go.rgS dmx (by decide) ?_|refine Go.rgD [1,6] (fun H=>objAt H S.length=some [.str key,.int .i64 a,.int .i64 b,.int .i64 c,.str org,.sl none 5 l.length (attsC l)]) dmx (by decide) 9 (by decide) (by (simp [objAt,List.getElem?_append_right])) ?_|refine GoW.nil rfl ?_|((first|refine GoR.o (by rfl) (by rfl) ?_|refine GoW.o (by rfl) (by rfl) ?_|refine GoW.rd (by rfl) (by rfl) ?_);(conv=>arg 1;simp only [G,Z,Y,Gx,un_neg,cutD,decide_true,decide_false,simprocAttr,fb2,fb9,fb31,fb33,fb61,fb63,fb66,fb68]);first|show GoR ..|(show _∧GoW ..;refine ⟨by (first|exact fun h=>absurd h (by decide)|(intro _;(simp [objAt,List.getElem?_append_right]))),?_⟩)|(show _∧_∧_∧GoW ..;refine ⟨rfl,by (simp [objAt,List.getElem?_append_right]),(fun H hI=>by (try dsimp only at hI);simp only [G,Z,Y,Gx,un_neg,cutD,decide_true,decide_false,simprocAttr,fb2,fb9,fb31,fb33,fb61,fb63,fb66,fb68,hI]),?_⟩))|(refine GoW.c c64 (by rfl) (by rfl) rfl ?_;(refine (hst _).ret ?_);refine ⟨by (first|exact fun h=>absurd h (by decide)|(intro _;(simp [objAt,List.getElem?_append_right]))),?_⟩)|(refine GoR.c c64 (by rfl) (by rfl) rfl ?_;(refine (hst _).ret ?_))|(refine GoW.c c12 (by rfl) (by rfl) rfl ?_;(refine (hat _).ret ?_);refine ⟨by (first|exact fun h=>absurd h (by decide)|(intro _;(simp [objAt,List.getElem?_append_right]))),?_⟩)|(refine GoR.c c12 (by rfl) (by rfl) rfl ?_;(refine (hat _).ret ?_))|refine Go.condB rfl (fun hc => ?_) (fun hc => ?_))
 refine ⟨(by first | exact .inl rfl | exact .inr rfl),fin ?_⟩
 rw [resD_cell (fn:=Tryz.f28) rfl]
 simp only [optThen_some,resultD_tmp,resultD_cell,G,Z,Y,Gx,un_neg,cutD,decide_true,decide_false,simprocAttr,fb2,fb9,fb31,fb33,fb61,fb63,fb66,fb68]
 exact ⟨_,_,rfl,.of_low (.agg' (.cons (.str _) (.cons (.int _ _) (.cons (.int _ _) (.cons (.int _ _) (.cons (.str _) (.cons (attsD_low l) .nil))))))),rfl⟩
def fewL (l:List Att):Bool:=decide (l.length≤40)&&l.all fewA
def fewR (r:Rw):Bool:=decide (r.key.size≤100)&&(decide (r.st.org.size≤100)&&fewL r.at_)
theorem few4 (r:Rw) (S:Mem):CallD Tryz.prog orc 61 [.agg r.c] S fun d S'=>S'=S∧d = .bool (fewR r):=by
 have hat:=fun S=>fewAttrs (orc:=orc) r.at_ S
 obtain ⟨key,⟨a,b,c,org⟩,l⟩:=r
 simp only [Rw.c,St.c,fewR] at *
 have hff:(decide (l.length≤40)&&l.all fewA)=fewL l:=rfl
 rw [hff] at hat
 refine CallD.e Tryz.func61 rfl Tryz.ntmps61 (by rfl) ?_
 by_cases h1:key.size≤100
 ·by_cases h2:org.size≤100
  ·repeat' (first|refine Go.a rfl ?_|refine Go.rg ?_|refine GoR.nil ?_|refine Go.ret ?_|refine Go.b rfl ?_|(refine GoR.o (by rfl) (by rfl) ?_;(conv=>arg 1;simp only [G,Z,Y,Gx,un_neg,cutD,decide_true,decide_false,simprocAttr,fb2,fb3,fb9,fb33,fb61,fb63,show decide ((key.size:Int)≤100)=true by simp;omega,show decide ((org.size:Int)≤100)=true by simp;omega]);show GoR ..)|(refine GoR.c c52 (by rfl) (by rfl) rfl ?_;(refine (hat _).ret ?_))|refine GoR.s (by rfl) rfl rfl ?_|(refine GoR.splitG rfl (fun hc => ?_) (fun hc => ?_)<;>simp only [hc])|refine Go.condB rfl (fun hc => ?_) (fun hc => ?_))
   refine ⟨(by first | exact .inl rfl | exact .inr rfl),fin ?_⟩
   rw [resD_tmp (fn:=Tryz.f61) rfl]
   simp only [optThen_some,resultD_tmp,resultD_cell,G,Z,Y,Gx,un_neg,cutD,decide_true,decide_false,simprocAttr,fb2,fb3,fb9,fb33,fb61,fb63]
   exact ⟨_,_,rfl,.bool,by simp [h1,h2]⟩
  ·repeat' (first|refine Go.a rfl ?_|refine Go.rg ?_|refine GoR.nil ?_|refine Go.ret ?_|refine Go.b rfl ?_|(refine GoR.o (by rfl) (by rfl) ?_;(conv=>arg 1;simp only [G,Z,Y,Gx,un_neg,cutD,decide_true,decide_false,simprocAttr,fb2,fb3,fb9,fb33,fb61,fb63,show decide ((key.size:Int)≤100)=true by simp;omega,show decide ((org.size:Int)≤100)=false by simp;omega]);show GoR ..)|refine GoR.s (by rfl) rfl rfl ?_|(refine GoR.splitG rfl (fun hc => ?_) (fun hc => ?_)<;>simp only [hc])|refine Go.condB rfl (fun hc => ?_) (fun hc => ?_))
   refine ⟨(by first | exact .inl rfl | exact .inr rfl),fin ?_⟩
   rw [resD_tmp (fn:=Tryz.f61) rfl]
   simp only [optThen_some,resultD_tmp,resultD_cell,G,Z,Y,Gx,un_neg,cutD,decide_true,decide_false,simprocAttr,fb2,fb3,fb9,fb33,fb61,fb63]
   exact ⟨_,_,rfl,.bool,by simp [h2]⟩
 ·repeat' (first|refine Go.a rfl ?_|refine Go.rg ?_|refine GoR.nil ?_|refine Go.ret ?_|refine Go.b rfl ?_|(refine GoR.o (by rfl) (by rfl) ?_;(conv=>arg 1;simp only [G,Z,Y,Gx,un_neg,cutD,decide_true,decide_false,simprocAttr,fb2,fb3,fb9,fb33,fb61,fb63,show decide ((key.size:Int)≤100)=false by simp;omega]);show GoR ..)|refine GoR.s (by rfl) rfl rfl ?_|(refine GoR.splitG rfl (fun hc => ?_) (fun hc => ?_)<;>simp only [hc])|refine Go.condB rfl (fun hc => ?_) (fun hc => ?_))
  refine ⟨(by first | exact .inl rfl | exact .inr rfl),fin ?_⟩
  rw [resD_tmp (fn:=Tryz.f61) rfl]
  simp only [optThen_some,resultD_tmp,resultD_cell,G,Z,Y,Gx,un_neg,cutD,decide_true,decide_false,simprocAttr,fb2,fb3,fb9,fb33,fb61,fb63]
  exact ⟨_,_,rfl,.bool,by simp [h1]⟩
theorem fewA_size {l:List Att} (h:fewL l=true):l.length≤40 ∧ ∀ a∈l,a.n.size≤100∧a.v.s.size≤200∧a.v.l.length≤40:=by
 simp only [fewL,fewA,fewV,Bool.and_eq_true,decide_eq_true_eq,List.all_eq_true] at h
 exact h
theorem fewR_of {k:ByteArray} {st:St} {l:List Att} (hk:k.size<1000000) (ho:st.org.size<1000000) (h:fewL l=true):FewR ⟨k,st,l⟩:=by
 obtain ⟨_,h⟩:=fewA_size h
 exact ⟨hk,ho,fun a ha=>by have:=h a ha;omega,fun a ha=>by have:=h a ha;omega,fun a ha=>by have:=h a ha;omega⟩
end Go.Proofs.DvT
namespace Go.Proofs.DvT
open Go Go.DM Go.Proofs.DvF
set_option maxRecDepth 100000
def ltA (a b:Att):Prop:=ltB a.n b.n=true
theorem rise_iff {l:List Att} : RiseB Att.n l↔l.Pairwise ltA:=by
 rw [List.pairwise_iff_getElem]
 constructor
 ·intro h i j hi hj hij
  exact h.lt hj hij
 ·intro h i hi
  exact h i (i+1) (by omega) hi (by omega)
theorem attsE_ok : ∀ {l:List Att} {p:Option ByteArray},attsE p l=0↔(∀ a∈l,nameOk a.n=true∧chkV a.v=0)∧l.Pairwise ltA∧(∀ q a,p=some q→l.head?=some a→ltB q a.n=true)
 | [],p=>by simp [attsE]
 | a::l,p=>by
  rw [attsE]
  have ih:=attsE_ok (l:=l) (p:=some a.n)
  by_cases h0:attE p a=0
  ·rw [if_pos h0,ih]
   unfold attE at h0
   split at h0
   ·cases h0
   ·rename_i hn
    split at h0
    ·cases h0
    ·rename_i hq
     constructor
     ·rintro ⟨g1,g2,g3⟩
      refine ⟨fun b hb => ?_,?_,fun q b hp hb => ?_⟩
      ·rcases List.mem_cons.1 hb with rfl | hb
       ·exact ⟨by simpa using hn,h0⟩
       ·exact g1 b hb
      ·rw [List.pairwise_cons]
       refine ⟨fun b hb => ?_,g2⟩
       cases l with
       | nil=>simp at hb
       | cons d l=>
        have hd:=g3 a.n d rfl rfl
        rcases List.mem_cons.1 hb with rfl | hb
        ·exact hd
        ·exact ltB_trans hd ((List.pairwise_cons.1 g2).1 b hb)
      ·subst hp
       simp only [List.head?_cons,Option.some.injEq] at hb
       subst hb
       simpa using hq
     ·rintro ⟨g1,g2,g3⟩
      rw [List.pairwise_cons] at g2
      refine ⟨fun b hb=>g1 b (List.mem_cons_of_mem _ hb),g2.2,fun q b hp hb => ?_⟩
      cases hp
      exact g2.1 b (List.mem_of_mem_head? hb)
  ·rw [if_neg h0]
   constructor
   ·intro h
    exact absurd h h0
   ·rintro ⟨g1,g2,g3⟩
    exfalso
    apply h0
    obtain ⟨hn,hv⟩:=g1 a (by simp)
    rw [attE,if_neg (by simp [hn]),if_neg,hv]
    cases p with
    | none=>simp
    | some q=>have:=g3 q a rfl rfl;simp [this]
end Go.Proofs.DvT
