/- Letters, digits; how far a run of them goes. -/
import Derived.Test.YtcdijoaabbjioaaGreatDoorDgFacts
import Derived.Test.YtcdijoaabbjioaaGreatDoorDpLx
import Derived.Test.YtcdijoaabbjioaaGreatDoorDmLx
import Derived.Test.YtcdijoaabbjioaaGreatDoorDgShelf
import Derived.Test.YtcdijoaabbjioaaGreatDoorDpAx
import Derived.Lib.RowBridge
import Derived.Lib.SmallJoins
set_option linter.unusedSimpArgs false
set_option linter.unusedVariables false
namespace Go.Proofs.DgT
open Go Go.DM
set_option maxRecDepth 100000
variable {orc:DOracle}
end Go.Proofs.DgT
namespace Go.Proofs.DgT
open Go Go.AM Go.DM Go.RowKit
set_option maxRecDepth 100000
def twoL:List ByteArray:=[⟨#[33,61]⟩,⟨#[60,61]⟩,⟨#[62,61]⟩]
def itoaB (n:Int):ByteArray:=⟨(Lib.itoa n).toArray⟩
def libC:ClosedT:=fun f vs v=>
 (f=156 ∧ ∃ b:UInt8,vs=[.string (⟨#[40,41,44,61,60,62,43,45,42,47,37]⟩:ByteArray),.string ⟨#[b]⟩]∧v = .bool (decide (b∈sgnL))) ∨
 (f=153 ∧ ∃ (s:ByteArray) (n:Int),s.size<1000000∧Lib.parseIntB 64 s.data.toList = .ok n∧vs=[.string s,.int .i64 10,.int .i64 64]∧v = .tuple #[.int .i64 n,.nilIface]) ∨
 (f=50 ∧ ∃ n:Int,-9223372036854775808≤n∧n≤9223372036854775807∧vs=[.int .i64 n,.int .i64 10]∧v = .string (itoaB n))
def libN:NewT:=fun f vs cs=>f=155∧vs=[.string (⟨#[33,61,32,60,61,32,62,61]⟩:ByteArray)]∧cs=twoL.map .string
def libE:ErrT:=fun f vs u t=>f=153 ∧ ∃ s:ByteArray,s.size<1000000∧Lib.parseIntB 64 s.data.toList = .range∧vs=[.string s,.int .i64 10,.int .i64 64]∧u = .int .i64 (Lib.intSat 64 s.data.toList)∧t=263
def libS:POracle:=fun f args d=>f=154 ∧ ∃ own xs x,args=[.sl own 1 xs.length (xs.map .str),.str x]∧xs.length<1000000∧d = .bool (Lib.containsS xs x)
def joinB (xs:List ByteArray) (sep:ByteArray):ByteArray:=⟨(Lib.join (xs.map (·.data.toList)) sep.data.toList).toArray⟩
def libJ:POracle:=fun f args d=>f=52 ∧ ∃ own xs sep,args=[.sl own 1 xs.length (xs.map .str),.str sep]∧xs.length≤140737488355328∧(joinB xs sep).size≤140737488355328∧d = .str (joinB xs sep)
structure Start (w0:World):Prop where
 sp : Lib.TabIs Tryz.prog w0 "strings.asciiSpace" .u8 Lib.asciiSpaceTab
 pw : Lib.TabIs Tryz.prog w0 "internal/strconv.uint64pow10" .u64 Lib.pow10Tab
 er : ∃ te pe, w0.var? Tryz.prog "strconv.ErrRange" = some #[.iface te pe]
theorem index_mem : ∀ (l:List UInt8) (b:UInt8),decide (0≤Lib.indexByte l b)=decide (b∈l)
 | [],b=>by simp [Lib.indexByte]
 | x::l,b=>by
  have ih:=index_mem l b
  rw [Bool.eq_iff_iff,decide_eq_true_iff,decide_eq_true_iff] at ih ⊢
  rw [Lib.indexByte,List.mem_cons]
  by_cases h:x=b
  ·subst h;simp
  ·have hb:(x==b)=false:=by simp [h]
   have h' : ¬ b=x:=fun e=>h e.symm
   rw [hb]
   simp only [Bool.false_eq_true,if_false,h',false_or]
   rw [← ih]
   by_cases h1:Lib.indexByte l b = -1
   ·simp [h1]
   ·have:(Lib.indexByte l b == -1)=false:=by simp [h1]
    rw [this]
    simp only [Bool.false_eq_true,if_false]
    have hge : -1≤Lib.indexByte l b:=index_ge l b
    omega
where
 index_ge : ∀ (l:List UInt8) (b:UInt8),-1≤Lib.indexByte l b
  | [],b=>by simp [Lib.indexByte]
  | x::l,b=>by
   have:=index_ge l b
   rw [Lib.indexByte]
   split
   ·decide
   ·split<;>omega
theorem onStrs {f:FuncId} {w:World} {r:Rl} {φ:Nat→AM.Place} (hs:AM.Sim φ r.H w) {own:Option Nat} {xs:List ByteArray} {x:ByteArray} {d:Value}
  (hd:AM.scalarV d=true) (h0:xs=[] → ∀ a c,Calls Tryz.prog f #[.slice a 0 c,.string x] w fun e w'=>e = .returned d∧RowKit.Below w.heap.size w w')
  (h1 : ∀ bk o c,xs.length≤c→bk<w.heap.size→(∀ j y,xs[j]?=some y→w.cell? ⟨bk,o+j,none⟩=some (.string y))→Calls Tryz.prog f #[.slice (some ⟨bk,o,none⟩) xs.length c,.string x] w fun e w'=>e = .returned d∧RowKit.Below w.heap.size w w')
  {vs:List Value} {args':Array Value} (dl:DL r [.sl own 1 xs.length (xs.map .str),.str x] vs) (hargs:AM.LRel r.H.length φ vs args'.toList) :
  Calls Tryz.prog f args' w fun e w' => ∃ r' u v' φ',e = .returned v'∧r.Le r'∧(∀ S,SRel r S→SRel r' S)∧AM.Step 0 φ r.H w φ' r'.H w'∧DRel r' (ofS d) u∧AM.VRel r'.H.length φ' u v':=by
 obtain ⟨v1,v2,rfl⟩ : ∃ v1 v2,vs=[v1,v2]:=by
  have:=dl.1
  match vs,this with | [v1,v2],_=>exact ⟨v1,v2,rfl⟩
 obtain ⟨u1,u2,hu⟩ : ∃ u1 u2,args'.toList=[u1,u2]:=by
  have:=hargs.1
  match h:args'.toList,this with | [v1,v2],_=>exact ⟨v1,v2,rfl⟩
 rw [hu] at hargs
 have e2:v2 = .string x:=by have:=dl.tail.head;cases this;rfl
 subst e2
 have e3:u2 = .string x:=hargs.tail.head.scalar_eq rfl
 subst e3
 have ea:args' = #[u1,.string x]:=by rw [← Array.toList_inj,hu]
 subst ea
 have hx:xs.map D.str=(xs.map Value.string).map ofS:=by simp [ofS,Function.comp_def]
 have hd0:=dl.head
 rw [hx] at hd0
 have ret:Calls Tryz.prog f #[u1,.string x] w fun e w'=>e = .returned d∧RowKit.Below w.heap.size w w':=by
  rcases slice_of hs (n:=xs.length) (cs:=xs.map .string) (by simp;intros;rfl) (by simp;intros;rfl) hd0 hargs.head with ⟨h0',hn,a,c,rfl⟩ | ⟨hn,bk,o,c,rfl,hc,hbk,hcell⟩
  ·have:xs=[]:=List.eq_nil_of_length_eq_zero h0'
   exact h0 this a c
  ·rw [List.length_map] at hc ⊢
   exact h1 bk o c hc hbk fun j y hj=>hcell j _ (by simp [hj])
 exact ret.mono fun e w' ⟨he,hw⟩=>⟨r,d,d,φ,he,.refl r,fun S h=>h,step_below hs hw,.ofS _,.scalar hd⟩
theorem below_grow {w:World} {k:Nat} {os:Array Obj} : Below w.heap.size w (Sort.grow (w.drewN k) os):=by
 refine ⟨rfl,rfl,rfl,by simp [Sort.grow],?_⟩
 ·intro j hj
  simp only [Sort.grow]
  rw [Array.getElem?_append_left (by simpa using hj)]
  simp
theorem libC_ok {w0:World} (hs:Start w0):ClosedOk Tryz.prog (keepsB w0) libC:=by
 have tabp : ∀ {w : World}, RowKit.Below w0.heap.size w0 w → Lib.TabIs Tryz.prog w "internal/strconv.uint64pow10" .u64 Lib.pow10Tab := fun hb =>
  Joins.tab_stays (g := (Tryz.prog.globalNamed "internal/strconv.uint64pow10").getD 0) (by kernel_rfl) hs.pw hb (Nat.le_refl _)
 refine ⟨?_,?_,?_⟩
 ·rintro f vs v (⟨rfl,b,rfl,rfl⟩ | ⟨rfl,s,n,_,_,rfl,rfl⟩ | ⟨rfl,n,_,_,rfl,rfl⟩) u hu<;>simp only [List.mem_cons,List.not_mem_nil,or_false] at hu
  ·rcases hu with rfl | rfl<;>exact ⟨rfl,rfl⟩
  ·rcases hu with rfl | rfl | rfl<;>exact ⟨rfl,rfl⟩
  ·rcases hu with rfl | rfl<;>exact ⟨rfl,rfl⟩
 ·rintro f vs v (⟨rfl,b,rfl,rfl⟩ | ⟨rfl,s,n,_,_,rfl,rfl⟩ | ⟨rfl,n,_,_,rfl,rfl⟩)<;>simp [closedV,scalarV]
 ·rintro f vs v (⟨rfl,b,rfl,rfl⟩ | ⟨rfl,s,n,h1,h2,rfl,rfl⟩ | ⟨rfl,n,h1,h2,rfl,rfl⟩) φ H w ⟨hb,_⟩
  ·exact (Tryz.strings_Contains_one (⟨#[40,41,44,61,60,62,43,45,42,47,37]⟩:ByteArray) b w).mono fun e w' ⟨he,hw⟩=>⟨by rw [he,index_mem];rfl,hw ▸ .refl _ _⟩
  ·refine (Tryz.strconv_ParseInt_10_at64_ok s (by omega) n h2 w).mono fun e w' ⟨he,hw⟩=>⟨he,?_⟩
   rcases hw with rfl | ⟨t,rfl⟩
   ·exact .refl _ _
   ·exact Lib.bytesWorld_below _ _ _
  ·refine (Tryz.strconv_FormatInt_10 n h1 h2 w (tabp hb)).mono fun e w' ⟨he,k,os,hw⟩=>⟨he,?_⟩
   rw [hw]
   exact below_grow
def O:DOracle:=pureO (orOrc (orOrc (orOrc (orOrc (closedOrc libC) (newOrc libN)) (errOrc libE)) libS) libJ)
theorem O_sound {w0:World} (hs:Start w0):DOrcSound Tryz.prog (keepsB w0) O:=by
 have tab : ∀ {w : World}, RowKit.Below w0.heap.size w0 w → Lib.TabIs Tryz.prog w "strings.asciiSpace" .u8 Lib.asciiSpaceTab := fun hb =>
  Joins.tab_stays (g := (Tryz.prog.globalNamed "strings.asciiSpace").getD 0) (by kernel_rfl) hs.sp hb (Nat.le_refl _)
 obtain ⟨te,pe,her⟩:=hs.er
 refine pureO_sound (orOrc_sound (orOrc_sound (orOrc_sound (orOrc_sound (closedOrc_sound (libC_ok hs)) (newOrc_sound ⟨?_,?_,?_⟩)) (errOrc_sound ⟨?_,?_,?_⟩)) ?_) ?_)
 ·rintro f vs v ⟨rfl,rfl,rfl⟩ u hu
  simp at hu
  subst hu
  exact ⟨rfl,rfl⟩
 ·rintro f vs v ⟨rfl,rfl,rfl⟩ u hu
  simp [twoL] at hu
  rcases hu with rfl | rfl | rfl<;>rfl
 ·rintro f vs v ⟨rfl,rfl,rfl⟩ φ H w ⟨hb,_⟩
  refine ⟨9,(Tryz.strings_Fields_laid (⟨#[33,61,32,60,61,32,62,61]⟩:ByteArray) w (by decide) (fun j b h=>(show ∀ x∈[33,61,32,60,61,32,62,(61:UInt8)],x.toNat<128 by decide) b (List.mem_of_getElem? h)) (tab hb)).mono fun e w' ⟨he,hw⟩=>⟨?_,?_⟩⟩
  ·rw [he];rfl
  ·rw [hw];rfl
 ·rintro f vs u t ⟨rfl,s,_,_,rfl,rfl,rfl⟩ x hx
  simp at hx
  rcases hx with rfl | rfl | rfl<;>exact ⟨rfl,rfl⟩
 ·rintro f vs u t ⟨rfl,s,_,_,rfl,rfl,rfl⟩
  rfl
 ·rintro f vs u t ⟨rfl,s,h1,h2,rfl,rfl,rfl⟩ φ H w ⟨hb,_⟩
  have hv : w.var? Tryz.prog "strconv.ErrRange" = some #[.iface te pe] := by
   exact Joins.var_stays (g := (Tryz.prog.globalNamed "strconv.ErrRange").getD 0) (by kernel_rfl) her hb (Nat.le_refl _)
  exact (Tryz.strconv_ParseInt_10_at64_range_var s (by omega) h2 te pe w hv).mono fun e w' ⟨N,he,_,_,hw⟩=>⟨⟨N,he⟩,hw⟩
 ·rintro f args d ⟨rfl,own,xs,x,rfl,h1,rfl⟩ r φ w hs vs args' dl hargs
  refine onStrs (d:=.bool (Lib.containsS xs x)) hs.1 rfl (fun e a c => ?_) (fun bk o c hc hbk hcell => ?_) dl hargs
  ·subst e
   exact (Tryz.slices_Contains_string_empty a c x w).mono fun e w' ⟨he,hw⟩=>⟨he,hw ▸ .refl _ _⟩
  ·refine (Tryz.slices_Contains_string bk o xs.length c xs x w (Nat.le_refl _) (by omega) fun j hj => ?_).mono fun e w' ⟨he,hw⟩=>⟨by rw [he,List.take_length],hw ▸ .refl _ _⟩
   exact hcell j _ (by simp [hj])
 ·rintro f args d ⟨rfl,own,xs,sep,rfl,h1,h2,rfl⟩ r φ w hs vs args' dl hargs
  obtain ⟨v1,v2,rfl⟩ : ∃ v1 v2,vs=[v1,v2]:=by
   have:=dl.1
   match vs,this with | [v1,v2],_=>exact ⟨v1,v2,rfl⟩
  obtain ⟨u1,u2,hu⟩ : ∃ u1 u2,args'.toList=[u1,u2]:=by
   have:=hargs.1
   match h:args'.toList,this with | [v1,v2],_=>exact ⟨v1,v2,rfl⟩
  rw [hu] at hargs
  have e2:v2 = .string sep:=by have:=dl.tail.head;cases this;rfl
  subst e2
  have e3:u2 = .string sep:=hargs.tail.head.scalar_eq rfl
  subst e3
  have ea:args' = #[u1,.string sep]:=by rw [← Array.toList_inj,hu]
  subst ea
  have hx:xs.map D.str=(xs.map Value.string).map ofS:=by simp [ofS,Function.comp_def]
  have hd:=dl.head
  rw [hx] at hd
  have ret:Calls Tryz.prog 52 #[u1,.string sep] w fun e w'=>e = .returned (.string (joinB xs sep))∧RowKit.Below w.heap.size w w':=by
   rcases slice_of hs.1 (n:=xs.length) (cs:=xs.map .string) (by simp;intros;rfl) (by simp;intros;rfl) hd hargs.head with ⟨h0,hn,a,c,rfl⟩ | ⟨hn,bk,o,c,rfl,hc,hbk,hcell⟩
   ·have:xs=[]:=List.eq_nil_of_length_eq_zero h0
    subst this
    exact (Tryz.strings_Join_none a c sep w).mono fun e w' ⟨he,hw⟩=>⟨he,hw ▸ .refl _ _⟩
   ·rw [List.length_map] at hc ⊢
    refine (Tryz.strings_Join bk o c xs sep w (fun j x hj=>hcell j _ (by simp [hj])) hbk h1 hc ?_).mono fun e w' ⟨he,hw⟩=>⟨he,hw⟩
    have:(joinB xs sep).size=(Lib.join (xs.map (·.data.toList)) sep.data.toList).length:=by simp [joinB,ByteArray.size]
    omega
  exact ret.mono fun e w' ⟨he,hw⟩=>⟨r,.string (joinB xs sep),.string (joinB xs sep),φ,he,.refl r,fun S h=>h,step_below hs.1 hw,.str _,.string _⟩
theorem contains1 (b:UInt8) (S:Mem):CallD Tryz.prog O 156 [.str (⟨#[40,41,44,61,60,62,43,45,42,47,37]⟩:ByteArray),.str ⟨#[b]⟩] S fun d S'=>S'=S∧d = .bool (decide (b∈sgnL)):=
 CallD.closedOrc (c:=libC) (us:=[.string (⟨#[40,41,44,61,60,62,43,45,42,47,37]⟩:ByteArray),.string ⟨#[b]⟩]) (fun f args d h S=>⟨rfl,.inl (.inl (.inl (.inl h)))⟩) (.inl ⟨rfl,b,rfl,rfl⟩)
theorem parseOk (s:ByteArray) (n:Int) (h1:s.size<1000000) (h2:Lib.parseIntB 64 s.data.toList = .ok n) (S:Mem):CallD Tryz.prog O 153 [.str s,.int .i64 10,.int .i64 64] S fun d S'=>S'=S∧d = .tup [.int .i64 n,.nili]:=
 CallD.closedOrc (c:=libC) (us:=[.string s,.int .i64 10,.int .i64 64]) (fun f args d h S=>⟨rfl,.inl (.inl (.inl (.inl h)))⟩) (.inr (.inl ⟨rfl,s,n,h1,h2,rfl,rfl⟩))
theorem formatInt (n:Int) (h1 : -9223372036854775808≤n) (h2:n≤9223372036854775807) (S:Mem):CallD Tryz.prog O 50 [.int .i64 n,.int .i64 10] S fun d S'=>S'=S∧d = .str (itoaB n):=
 CallD.closedOrc (c:=libC) (us:=[.int .i64 n,.int .i64 10]) (fun f args d h S=>⟨rfl,.inl (.inl (.inl (.inl h)))⟩) (.inr (.inr ⟨rfl,n,h1,h2,rfl,rfl⟩))
theorem fieldsTwo (S:Mem):CallD Tryz.prog O 155 [.str (⟨#[33,61,32,60,61,32,62,61]⟩:ByteArray)] S fun d S'=>S'=S∧d = .sl none 1 3 (twoL.map .str):=
 CallD.newOrc (P:=Tryz.prog) (orc:=O) (S:=S) (c:=libN) (us:=[.string (⟨#[33,61,32,60,61,32,62,61]⟩:ByteArray)]) (fun f args d h S=>⟨rfl,.inl (.inl (.inl (.inr h)))⟩) ⟨rfl,rfl,rfl⟩
theorem containsL (own:Option Nat) (xs:List ByteArray) (x:ByteArray) (h:xs.length<1000000) (S:Mem):CallD Tryz.prog O 154 [.sl own 1 xs.length (xs.map .str),.str x] S fun d S'=>S'=S∧d = .bool (Lib.containsS xs x):=
 ⟨_,_,.orc ⟨rfl,.inl (.inr ⟨rfl,own,xs,x,rfl,h,rfl⟩)⟩,rfl,rfl⟩
theorem join (own:Option Nat) (xs:List ByteArray) (sep:ByteArray) (h1:xs.length≤140737488355328) (h2:(joinB xs sep).size≤140737488355328) (S:Mem) :
  CallD Tryz.prog O 52 [.sl own 1 xs.length (xs.map .str),.str sep] S fun d S'=>S'=S∧d = .str (joinB xs sep):=
 ⟨_,_,.orc ⟨rfl,.inr ⟨rfl,own,xs,sep,rfl,h1,h2,rfl⟩⟩,rfl,rfl⟩
end Go.Proofs.DgT
