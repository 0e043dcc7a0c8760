/- Letters, digits; how far a run of them goes. -/
import Derived.Test.YtcdijoaabbjioaaGreatDoorDgFacts
import Derived.Test.YtcdijoaabbjioaaGreatDoorDpLx
import Derived.Test.YtcdijoaabbjioaaGreatDoorDmLx
import Derived.Test.YtcdijoaabbjioaaGreatDoorDgShelf
import Derived.Test.YtcdijoaabbjioaaGreatDoorDpAx
import Derived.Lib.RowBridge
import Derived.Lib.SmallJoins
set_option linter.unusedSimpArgs false
set_option linter.unusedVariables false
namespace Go.Proofs.DgT
open Go Go.DM
set_option maxRecDepth 100000
variable {orc:c3a}
def Tok.c (t:Tok):List D:=[.int .i64 t.k,.str t.t,.int .i64 t.n,.int .i64 (t.a:Int)]
theorem j7a {n:Nat} (t:Tok):e5b n (Tok.c t):=.cons (.int _ _) (.cons (.str _) (.cons (.int _ _) (.cons (.int _ _) .nil)))
def j5c:List D:=[.int .i64 0,.str ⟨#[]⟩,.int .i64 0,.int .i64 0]
def sub (s:ByteArray) (i n:Nat):ByteArray:=⟨((s.data.toList.drop i).take n).toArray⟩
theorem extract_eq {s:ByteArray} {i j:Nat} (h:i≤j):s.extract i j=sub s i (j - i):=by
 refine AM.k0c ?_
 rw [show (s.extract i j).data=s.data.extract i j by simp]
 simp [sub,List.extract_eq_take_drop]
theorem k7b {s:ByteArray} {i n:Nat} (h:i+n≤s.size):(sub s i n).size=n:=by
 show ((s.data.toList.drop i).take n).toArray.size=n
 rw [List.size_toArray,List.length_take,List.length_drop,Array.length_toList]
 have:s.data.size=s.size:=rfl
 omega
def tw (p:UInt8→Bool) (s:ByteArray) (i:Nat):Nat:=((s.data.toList.drop i).takeWhile p).length
theorem drop_at {s:ByteArray} {i:Nat} (h:i<s.size):s.data.toList.drop i=s.data[i]'h::s.data.toList.drop (i+1):=by
 rw [List.drop_eq_getElem_cons (by simpa using h)]
 simp
theorem f2e {p:UInt8→Bool} {s:ByteArray} {i:Nat} (h:i<s.size) (hp:p (s.data[i]'h)=true):tw p s i=tw p s (i+1)+1:=by
 rw [tw,drop_at h,List.takeWhile_cons,if_pos hp]
 rfl
theorem m4e {p:UInt8→Bool} {s:ByteArray} {i:Nat} (h:i<s.size) (hp:p (s.data[i]'h)=false):tw p s i=0:=by
 rw [tw,drop_at h,List.takeWhile_cons,if_neg (by simp [hp])]
 rfl
theorem x2e {p:UInt8→Bool} {s:ByteArray} {i:Nat} (h:s.size≤i):tw p s i=0:=by
 rw [tw,List.drop_of_length_le (by simpa using h)]
 rfl
theorem x3e {p:UInt8→Bool} {s:ByteArray} {i:Nat} (h:i≤s.size):i+tw p s i≤s.size:=by
 have:=v4a (p:=p) (s.data.toList.drop i)
 rw [List.length_drop] at this
 unfold tw
 have e:s.data.toList.length=s.size:=by simp
 omega
theorem s2a (b:UInt8) (S:Mem):a3a Tryz.prog orc 122 [.int .u8 (b.toNat:Int)] S fun d S'=>S'=S∧d = .bool (v5b b):=by
 refine a3a.e Tryz.func122 rfl Tryz.ntmps122 (by rfl) ?_
 repeat' (first|refine Go.a rfl ?_|refine Go.rg ?_|refine GoR.nil ?_|refine Go.ret ?_|refine Go.b rfl ?_|(refine GoR.o (by rfl) (by rfl) ?_;(conv=>arg 1;simp only [G,Z,Y,Gx,vV,simprocAttr,fb5]);show GoR ..)|refine GoR.s (by rfl) rfl rfl ?_|(refine GoR.b1a rfl (fun hc => ?_) (fun hc => ?_)<;>simp only [hc])|refine Go.b0a rfl (fun hc => ?_) (fun hc => ?_))
 all_goals
  refine ⟨(by first | exact .inl rfl | exact .inr rfl),fin ?_⟩
  rw [a8a (fn:=Tryz.f122) rfl]
  simp only [a0a,a2a,a1a,G,Z,Y,Gx,vV,simprocAttr,fb5]
  refine ⟨_,[],by simp,.bool,?_⟩
  simp only [v5b,D.bool.injEq]
  rw [Bool.eq_iff_iff]
  simp at *
  omega
theorem f7c (b:UInt8) (S:Mem):a3a Tryz.prog orc 124 [.int .u8 (b.toNat:Int)] S fun d S'=>S'=S∧d = .bool (v1a b):=by
 refine a3a.e Tryz.func124 rfl Tryz.ntmps124 (by rfl) ?_
 repeat' (first|refine Go.a rfl ?_|refine Go.rg ?_|refine GoR.nil ?_|refine Go.ret ?_|refine Go.b rfl ?_|(refine GoR.o (by rfl) (by rfl) ?_;(conv=>arg 1;simp only [G,Z,Y,Gx,vV,simprocAttr,fb5]);show GoR ..)|refine GoR.s (by rfl) rfl rfl ?_|(refine GoR.b1a rfl (fun hc => ?_) (fun hc => ?_)<;>simp only [hc])|refine Go.b0a rfl (fun hc => ?_) (fun hc => ?_))
 all_goals
  refine ⟨(by first | exact .inl rfl | exact .inr rfl),fin ?_⟩
  rw [a8a (fn:=Tryz.f124) rfl]
  simp only [a0a,a2a,a1a,G,Z,Y,Gx,vV,simprocAttr,fb5]
  refine ⟨_,[],by simp,.bool,?_⟩
  simp only [v1a,D.bool.injEq]
  rw [Bool.eq_iff_iff]
  simp at *
  omega
theorem v0e (b:UInt8) (S:Mem):a3a Tryz.prog orc 152 [.int .u8 (b.toNat:Int)] S fun d S'=>S'=S∧d = .bool (g6b b):=by
 refine a3a.e Tryz.func152 rfl Tryz.ntmps152 (by rfl) ?_
 cases h1:v5b b
 all_goals
  repeat' (first|refine Go.a rfl ?_|refine Go.rg ?_|refine GoR.nil ?_|refine Go.ret ?_|refine Go.b rfl ?_|(refine GoR.o (by rfl) (by rfl) ?_;(conv=>arg 1;simp only [G,Z,Y,Gx,vV,simprocAttr,h1]);show GoR ..)|(refine GoR.c h9d (by rfl) (by rfl) rfl ?_;(refine (s2a _ _).ret ?_))|(refine GoR.c c124 (by rfl) (by rfl) rfl ?_;(refine (f7c _ _).ret ?_))|refine GoR.s (by rfl) rfl rfl ?_|(refine GoR.b1a rfl (fun hc => ?_) (fun hc => ?_)<;>simp only [hc])|refine Go.b0a rfl (fun hc => ?_) (fun hc => ?_))
  refine ⟨(by first | exact .inl rfl | exact .inr rfl),fin ?_⟩
  rw [a8a (fn:=Tryz.f152) rfl]
  simp only [a0a,a2a,a1a,G,Z,Y,Gx,vV,simprocAttr]
  refine ⟨_,[],by simp,.bool,?_⟩
  simp [g6b,h1]
theorem e3e {g : FuncId} {fn : Func} {p : UInt8 → Bool} (hf : Tryz.prog.funcs[g]? = some fn) (hn : (fn.name == "runtime.NumGoroutine") = false) (hb : fn.body.isNone = false)
  (hp : ∀ b S,a3a Tryz.prog orc g [.int .u8 (b.toNat:Int)] S fun d S'=>S'=S∧d = .bool (p b)) (s:ByteArray) (hs:s.size<1000000) (at_:Nat) (hat:at_≤s.size) (S:Mem) :
  a3a Tryz.prog orc 151 [.str s,.int .i64 (at_:Int),.fn (.func g) [] []] S fun d S'=>S'=S∧d = .int .i64 ((at_+tw p s at_:Nat):Int):=by
 refine a3a.e Tryz.func151 rfl Tryz.ntmps151 (by rfl) ?_
 repeat' (first|refine Go.a rfl ?_|refine Go.rg ?_|refine GoR.nil ?_|refine Go.ret ?_|refine Go.b rfl ?_|(refine GoR.o (by rfl) (by rfl) ?_;(conv=>arg 1;simp only [G,Z,Y,Gx,vV,simprocAttr,fb3,fb9]);show GoR ..)|refine GoR.s (by rfl) rfl rfl ?_|(refine GoR.b1a rfl (fun hc => ?_) (fun hc => ?_)<;>simp only [hc])|refine Go.b0a rfl (fun hc => ?_) (fun hc => ?_))
 refine Go.keep [(0,.str s),(2,.fn (.func g) [] []),(7,.int .i64 (at_:Int))] (.cons .refl (.cons .refl (.cons .refl (.nil)))) ?_
 refine Go.while (α:=Nat) (fun i=>s.size - i) (fun i=>[(0,.str s),(2,.fn (.func g) [] []),(7,.int .i64 (i:Int))]) (fun _=>S) (fun i=>i≤s.size∧at_+tw p s at_=i+tw p s i) ?_ at_ ⟨hat,rfl⟩
 rintro i ⟨hi,hk⟩ next
 by_cases h1:i<s.size
 ·have d1:decide ((i:Int)<(s.size:Int))=true:=by rw [decide_eq_true_iff];omega
  cases hpb:p (s.data[i]'h1) with
  | true=>
   repeat' (first|refine Go.a rfl ?_|refine Go.rg ?_|refine GoR.nil ?_|refine Go.ret ?_|refine Go.b rfl ?_|(refine GoR.o (by rfl) (by rfl) ?_;(conv=>arg 1;simp only [G,Z,Y,Gx,vV,simprocAttr,fb3,fb9,d1,f4a h1,hpb,b9a (show i<4611686018427387904 by omega)]);show GoR ..)|(refine GoR.c4d (f:=g) (by decide) (by rfl) (by rfl) rfl hf hn hb ?_;refine (hp _ _).ret ?_)|refine GoR.s (by rfl) rfl rfl ?_|(refine GoR.b1a rfl (fun hc => ?_) (fun hc => ?_)<;>simp only [hc])|refine Go.b0a rfl (fun hc => ?_) (fun hc => ?_))
   refine Go.lpN ?_
   refine Go.keep [(0,.str s),(2,.fn (.func g) [] []),(7,.int .i64 ((i+1:Nat):Int))] (.cons .refl (.cons .refl (.cons .refl (.nil)))) ?_
   refine next (i+1) (by omega) ⟨h1,?_⟩
   rw [hk,f2e h1 hpb]
   omega
  | false=>
   repeat' (first|refine Go.a rfl ?_|refine Go.rg ?_|refine GoR.nil ?_|refine Go.ret ?_|refine Go.b rfl ?_|(refine GoR.o (by rfl) (by rfl) ?_;(conv=>arg 1;simp only [G,Z,Y,Gx,vV,simprocAttr,fb3,fb9,d1,f4a h1,hpb]);show GoR ..)|(refine GoR.c4d (f:=g) (by decide) (by rfl) (by rfl) rfl hf hn hb ?_;refine (hp _ _).ret ?_)|refine GoR.s (by rfl) rfl rfl ?_|(refine GoR.b1a rfl (fun hc => ?_) (fun hc => ?_)<;>simp only [hc])|refine Go.b0a rfl (fun hc => ?_) (fun hc => ?_))
   clear next
   refine ⟨(by first | exact .inl rfl | exact .inr rfl),fin ?_⟩
   rw [a8a (fn:=Tryz.f151) rfl]
   simp only [a0a,a2a,a1a,G,Z,Y,Gx,vV,simprocAttr,fb3,fb9]
   rw [m4e h1 hpb] at hk
   exact ⟨_,[],by simp,.int,by rw [hk];rfl⟩
 ·have d1:decide ((i:Int)<(s.size:Int))=false:=by rw [decide_eq_false_iff_not];omega
  repeat' (first|refine Go.a rfl ?_|refine Go.rg ?_|refine GoR.nil ?_|refine Go.ret ?_|refine Go.b rfl ?_|(refine GoR.o (by rfl) (by rfl) ?_;(conv=>arg 1;simp only [G,Z,Y,Gx,vV,simprocAttr,fb3,fb9,d1]);show GoR ..)|refine GoR.s (by rfl) rfl rfl ?_|(refine GoR.b1a rfl (fun hc => ?_) (fun hc => ?_)<;>simp only [hc])|refine Go.b0a rfl (fun hc => ?_) (fun hc => ?_))
  clear next
  refine ⟨(by first | exact .inl rfl | exact .inr rfl),fin ?_⟩
  rw [a8a (fn:=Tryz.f151) rfl]
  simp only [a0a,a2a,a1a,G,Z,Y,Gx,vV,simprocAttr,fb3,fb9]
  rw [x2e (i:=i) (by omega)] at hk
  exact ⟨_,[],by simp,.int,by rw [hk];rfl⟩
theorem w2e (s:ByteArray) (hs:s.size<1000000) (at_:Nat) (hat:at_≤s.size) (S:Mem):a3a Tryz.prog orc 151 [.str s,.int .i64 (at_:Int),.fn (.func 152) [] []] S fun d S'=>S'=S∧d = .int .i64 ((at_+tw g6b s at_:Nat):Int):=
 e3e Tryz.func152 (by decide) rfl v0e s hs at_ hat S
theorem a2e (s:ByteArray) (hs:s.size<1000000) (at_:Nat) (hat:at_≤s.size) (S:Mem):a3a Tryz.prog orc 151 [.str s,.int .i64 (at_:Int),.fn (.func 124) [] []] S fun d S'=>S'=S∧d = .int .i64 ((at_+tw v1a s at_:Nat):Int):=
 e3e Tryz.func124 (by decide) rfl f7c s hs at_ hat S
theorem k2e (s:ByteArray) (hs:s.size<1000000) (at_:Nat) (hat:at_≤s.size) (S:Mem):a3a Tryz.prog orc 123 [.str s,.int .i64 (at_:Int)] S fun d S'=>S'=S ∧
  d=if 8<tw g6b s at_ then .tup [.agg j5c,.int .i64 5] else .tup [.agg (Tok.c ⟨1,sub s at_ (tw g6b s at_),0,at_⟩),.int .i64 0]:=by
 have hle:=x3e (p:=g6b) hat
 generalize hw:tw g6b s at_=w at *
 have hrun:=w2e (orc:=orc) s hs at_ hat
 rw [hw] at hrun
 have e1:s.extract at_ (at_+w)=sub s at_ w:=by rw [extract_eq (by omega)];congr 1;omega
 have hsz:=k7b hle
 generalize sub s at_ w=t at *
 have c1:(at_≤at_+w∧at_+w≤s.size)=True:=by simp;omega
 refine a3a.e Tryz.func123 rfl Tryz.ntmps123 (by rfl) ?_
 by_cases h8:8<w
 ·have d8:decide (8<(t.size:Int))=true:=by rw [decide_eq_true_iff];omega
  rw [if_pos h8]
  repeat' (first|refine Go.a rfl ?_|refine Go.rg ?_|refine GoR.nil ?_|refine Go.ret ?_|refine Go.b rfl ?_|(refine GoR.o (by rfl) (by rfl) ?_;(conv=>arg 1;simp only [G,Z,Y,Gx,vV,simprocAttr,fb2,fb3,fb9,d5a,i4a,Option.map_some,e8a,Option.getD_some,c1,e1,d8]);show GoR ..)|(refine GoR.c c2d (by rfl) (by rfl) rfl ?_;(refine (hrun _).ret ?_))|refine Go.b0a rfl (fun hc => ?_) (fun hc => ?_))
  refine ⟨(by first | exact .inl rfl | exact .inr rfl),fin ?_⟩
  rw [i1a (fn:=Tryz.f123) rfl]
  simp only [a0a,a2a,a1a,G,Z,Y,Gx,vV,simprocAttr,fb2,fb3,fb9,d5a]
  exact ⟨_,_,rfl,.of_low (.a2b (.cons (.agg' (j7a ⟨0,⟨#[]⟩,0,0⟩)) (.cons (.int _ _) .nil))),rfl⟩
 ·have d8:decide (8<(t.size:Int))=false:=by rw [decide_eq_false_iff_not];omega
  rw [if_neg h8]
  repeat' (first|refine Go.a rfl ?_|refine Go.rg ?_|refine GoR.nil ?_|refine Go.ret ?_|refine Go.b rfl ?_|(refine GoR.o (by rfl) (by rfl) ?_;(conv=>arg 1;simp only [G,Z,Y,Gx,vV,simprocAttr,fb2,fb3,fb9,d5a,i4a,Option.map_some,e8a,Option.getD_some,c1,e1,d8]);show GoR ..)|(refine GoR.c c2d (by rfl) (by rfl) rfl ?_;(refine (hrun _).ret ?_))|refine Go.b0a rfl (fun hc => ?_) (fun hc => ?_))
  refine ⟨(by first | exact .inl rfl | exact .inr rfl),fin ?_⟩
  rw [i1a (fn:=Tryz.f123) rfl]
  simp only [a0a,a2a,a1a,G,Z,Y,Gx,vV,simprocAttr,fb2,fb3,fb9,d5a]
  exact ⟨_,_,rfl,.of_low (.a2b (.cons (.agg' (j7a ⟨1,t,0,at_⟩)) (.cons (.int _ _) .nil))),rfl⟩
end Go.Proofs.DgT
namespace Go.Proofs.DgT
open Go Go.AM Go.DM Go.RowKit
set_option maxRecDepth 100000
def b6e:List ByteArray:=[⟨#[33,61]⟩,⟨#[60,61]⟩,⟨#[62,61]⟩]
def o9a (n:Int):ByteArray:=⟨(Lib.itoa n).toArray⟩
def v1e:s1b:=fun f vs v=>
 (f=156 ∧ ∃ b:UInt8,vs=[.string (⟨#[40,41,44,61,60,62,43,45,42,47,37]⟩:ByteArray),.string ⟨#[b]⟩]∧v = .bool (decide (b∈e9d))) ∨
 (f=153 ∧ ∃ (s:ByteArray) (n:Int),s.size<1000000∧Lib.parseIntB 64 s.data.toList = .ok n∧vs=[.string s,.int .i64 10,.int .i64 64]∧v = .tuple #[.int .i64 n,.nilIface]) ∨
 (f=50 ∧ ∃ n:Int,-9223372036854775808≤n∧n≤9223372036854775807∧vs=[.int .i64 n,.int .i64 10]∧v = .string (o9a n))
def k4f:o2e:=fun f vs cs=>f=155∧vs=[.string (⟨#[33,61,32,60,61,32,62,61]⟩:ByteArray)]∧cs=b6e.map .string
def k3f:o0e:=fun f vs u t=>f=153 ∧ ∃ s:ByteArray,s.size<1000000∧Lib.parseIntB 64 s.data.toList = .range∧vs=[.string s,.int .i64 10,.int .i64 64]∧u = .int .i64 (Lib.intSat 64 s.data.toList)∧t=263
def o7f:t7a:=fun f args d=>f=154 ∧ ∃ own xs x,args=[.sl own 1 xs.length (xs.map .str),.str x]∧xs.length<1000000∧d = .bool (Lib.containsS xs x)
def d8b (xs:List ByteArray) (sep:ByteArray):ByteArray:=⟨(Lib.join (xs.map (·.data.toList)) sep.data.toList).toArray⟩
def o6f:t7a:=fun f args d=>f=52 ∧ ∃ own xs sep,args=[.sl own 1 xs.length (xs.map .str),.str sep]∧xs.length≤140737488355328∧(d8b xs sep).size≤140737488355328∧d = .str (d8b xs sep)
structure Start (w0:World):Prop where
 sp : Lib.TabIs Tryz.prog w0 "strings.asciiSpace" .u8 Lib.asciiSpaceTab
 pw : Lib.TabIs Tryz.prog w0 "internal/strconv.uint64pow10" .u64 Lib.pow10Tab
 er : ∃ te pe, w0.var? Tryz.prog "strconv.ErrRange" = some #[.iface te pe]
theorem m2c : ∀ (l:List UInt8) (b:UInt8),decide (0≤Lib.indexByte l b)=decide (b∈l)
 | [],b=>by simp [Lib.indexByte]
 | x::l,b=>by
  have ih:=m2c l b
  rw [Bool.eq_iff_iff,decide_eq_true_iff,decide_eq_true_iff] at ih ⊢
  rw [Lib.indexByte,List.mem_cons]
  by_cases h:x=b
  ·subst h;simp
  ·have hb:(x==b)=false:=by simp [h]
   have h' : ¬ b=x:=fun e=>h e.symm
   rw [hb]
   simp only [Bool.false_eq_true,if_false,h',false_or]
   rw [← ih]
   by_cases h1:Lib.indexByte l b = -1
   ·simp [h1]
   ·have:(Lib.indexByte l b == -1)=false:=by simp [h1]
    rw [this]
    simp only [Bool.false_eq_true,if_false]
    have hge : -1≤Lib.indexByte l b:=index_ge l b
    omega
where
 index_ge : ∀ (l:List UInt8) (b:UInt8),-1≤Lib.indexByte l b
  | [],b=>by simp [Lib.indexByte]
  | x::l,b=>by
   have:=index_ge l b
   rw [Lib.indexByte]
   split
   ·decide
   ·split<;>omega
theorem v4e {f:FuncId} {w:World} {r:Rl} {φ:Nat→AM.Place} (hs:AM.Sim φ r.H w) {own:Option Nat} {xs:List ByteArray} {x:ByteArray} {d:Value}
  (hd:AM.b3a d=true) (h0:xs=[] → ∀ a c,Calls Tryz.prog f #[.slice a 0 c,.string x] w fun e w'=>e = .returned d∧RowKit.Below w.heap.size w w')
  (h1 : ∀ bk o c,xs.length≤c→bk<w.heap.size→(∀ j y,xs[j]?=some y→w.cell? ⟨bk,o+j,none⟩=some (.string y))→Calls Tryz.prog f #[.slice (some ⟨bk,o,none⟩) xs.length c,.string x] w fun e w'=>e = .returned d∧RowKit.Below w.heap.size w w')
  {vs:List Value} {args':Array Value} (dl:DL r [.sl own 1 xs.length (xs.map .str),.str x] vs) (hargs:AM.j5a r.H.length φ vs args'.toList) :
  Calls Tryz.prog f args' w fun e w' => ∃ r' u v' φ',e = .returned v'∧r.Le r'∧(∀ S,p6a r S→p6a r' S)∧AM.Step 0 φ r.H w φ' r'.H w'∧h2a r' (ofS d) u∧AM.h3a r'.H.length φ' u v':=by
 obtain ⟨v1,v2,rfl⟩ : ∃ v1 v2,vs=[v1,v2]:=by
  have:=dl.1
  match vs,this with | [v1,v2],_=>exact ⟨v1,v2,rfl⟩
 obtain ⟨u1,u2,hu⟩ : ∃ u1 u2,args'.toList=[u1,u2]:=by
  have:=hargs.1
  match h:args'.toList,this with | [v1,v2],_=>exact ⟨v1,v2,rfl⟩
 rw [hu] at hargs
 have e2:v2 = .string x:=by have:=dl.tail.head;cases this;rfl
 subst e2
 have e3:u2 = .string x:=hargs.tail.head.n2a rfl
 subst e3
 have ea:args' = #[u1,.string x]:=by rw [← Array.toList_inj,hu]
 subst ea
 have hx:xs.map D.str=(xs.map Value.string).map ofS:=by simp [ofS,Function.comp_def]
 have hd0:=dl.head
 rw [hx] at hd0
 have ret:Calls Tryz.prog f #[u1,.string x] w fun e w'=>e = .returned d∧RowKit.Below w.heap.size w w':=by
  rcases b5d hs (n:=xs.length) (cs:=xs.map .string) (by simp;intros;rfl) (by simp;intros;rfl) hd0 hargs.head with ⟨h0',hn,a,c,rfl⟩ | ⟨hn,bk,o,c,rfl,hc,hbk,hcell⟩
  ·have:xs=[]:=List.eq_nil_of_length_eq_zero h0'
   exact h0 this a c
  ·rw [List.length_map] at hc ⊢
   exact h1 bk o c hc hbk fun j y hj=>hcell j _ (by simp [hj])
 exact ret.mono fun e w' ⟨he,hw⟩=>⟨r,d,d,φ,he,.refl r,fun S h=>h,d5b hs hw,.ofS _,.scalar hd⟩
theorem below_grow {w:World} {k:Nat} {os:Array Obj} : Below w.heap.size w (Sort.grow (w.drewN k) os):=by
 refine ⟨rfl,rfl,rfl,by simp [Sort.grow],?_⟩
 ·intro j hj
  simp only [Sort.grow]
  rw [Array.getElem?_append_left (by simpa using hj)]
  simp
theorem k6e {w0:World} (hs:Start w0):x0c Tryz.prog (m4c w0) v1e:=by
 have p0f : ∀ {w : World}, RowKit.Below w0.heap.size w0 w → Lib.TabIs Tryz.prog w "internal/strconv.uint64pow10" .u64 Lib.pow10Tab := fun hb =>
  Joins.tab_stays (g := (Tryz.prog.globalNamed "internal/strconv.uint64pow10").getD 0) (by kernel_rfl) hs.pw hb (Nat.le_refl _)
 refine ⟨?_,?_,?_⟩
 ·rintro f vs v (⟨rfl,b,rfl,rfl⟩ | ⟨rfl,s,n,_,_,rfl,rfl⟩ | ⟨rfl,n,_,_,rfl,rfl⟩) u hu<;>simp only [List.mem_cons,List.not_mem_nil,or_false] at hu
  ·rcases hu with rfl | rfl<;>exact ⟨rfl,rfl⟩
  ·rcases hu with rfl | rfl | rfl<;>exact ⟨rfl,rfl⟩
  ·rcases hu with rfl | rfl<;>exact ⟨rfl,rfl⟩
 ·rintro f vs v (⟨rfl,b,rfl,rfl⟩ | ⟨rfl,s,n,_,_,rfl,rfl⟩ | ⟨rfl,n,_,_,rfl,rfl⟩)<;>simp [f8a,b3a]
 ·rintro f vs v (⟨rfl,b,rfl,rfl⟩ | ⟨rfl,s,n,h1,h2,rfl,rfl⟩ | ⟨rfl,n,h1,h2,rfl,rfl⟩) φ H w ⟨hb,_⟩
  ·exact (Tryz.strings_Contains_one (⟨#[40,41,44,61,60,62,43,45,42,47,37]⟩:ByteArray) b w).mono fun e w' ⟨he,hw⟩=>⟨by rw [he,m2c];rfl,hw ▸ .refl _ _⟩
  ·refine (Tryz.strconv_ParseInt_10_at64_ok s (by omega) n h2 w).mono fun e w' ⟨he,hw⟩=>⟨he,?_⟩
   rcases hw with rfl | ⟨t,rfl⟩
   ·exact .refl _ _
   ·exact Lib.bytesWorld_below _ _ _
  ·refine (Tryz.strconv_FormatInt_10 n h1 h2 w (p0f hb)).mono fun e w' ⟨he,k,os,hw⟩=>⟨he,?_⟩
   rw [hw]
   exact below_grow
def O:c3a:=v9e (p9d (p9d (p9d (p9d (u0a v1e) (n5c k4f)) (l3c k3f)) o7f) o6f)
theorem f7e {w0:World} (hs:Start w0):a8b Tryz.prog (m4c w0) O:=by
 have tab : ∀ {w : World}, RowKit.Below w0.heap.size w0 w → Lib.TabIs Tryz.prog w "strings.asciiSpace" .u8 Lib.asciiSpaceTab := fun hb =>
  Joins.tab_stays (g := (Tryz.prog.globalNamed "strings.asciiSpace").getD 0) (by kernel_rfl) hs.sp hb (Nat.le_refl _)
 obtain ⟨te,pe,her⟩:=hs.er
 refine v4c (z1a (z1a (z1a (z1a (t0b (k6e hs)) (n6c ⟨?_,?_,?_⟩)) (l4c ⟨?_,?_,?_⟩)) ?_) ?_)
 ·rintro f vs v ⟨rfl,rfl,rfl⟩ u hu
  simp at hu
  subst hu
  exact ⟨rfl,rfl⟩
 ·rintro f vs v ⟨rfl,rfl,rfl⟩ u hu
  simp [b6e] at hu
  rcases hu with rfl | rfl | rfl<;>rfl
 ·rintro f vs v ⟨rfl,rfl,rfl⟩ φ H w ⟨hb,_⟩
  refine ⟨9,(Tryz.strings_Fields_laid (⟨#[33,61,32,60,61,32,62,61]⟩:ByteArray) w (by decide) (fun j b h=>(show ∀ x∈[33,61,32,60,61,32,62,(61:UInt8)],x.toNat<128 by decide) b (List.mem_of_getElem? h)) (tab hb)).mono fun e w' ⟨he,hw⟩=>⟨?_,?_⟩⟩
  ·rw [he];rfl
  ·rw [hw];rfl
 ·rintro f vs u t ⟨rfl,s,_,_,rfl,rfl,rfl⟩ x hx
  simp at hx
  rcases hx with rfl | rfl | rfl<;>exact ⟨rfl,rfl⟩
 ·rintro f vs u t ⟨rfl,s,_,_,rfl,rfl,rfl⟩
  rfl
 ·rintro f vs u t ⟨rfl,s,h1,h2,rfl,rfl,rfl⟩ φ H w ⟨hb,_⟩
  have hv : w.var? Tryz.prog "strconv.ErrRange" = some #[.iface te pe] := by
   exact Joins.var_stays (g := (Tryz.prog.globalNamed "strconv.ErrRange").getD 0) (by kernel_rfl) her hb (Nat.le_refl _)
  exact (Tryz.strconv_ParseInt_10_at64_range_var s (by omega) h2 te pe w hv).mono fun e w' ⟨N,he,_,_,hw⟩=>⟨⟨N,he⟩,hw⟩
 ·rintro f args d ⟨rfl,own,xs,x,rfl,h1,rfl⟩ r φ w hs vs args' dl hargs
  refine v4e (d:=.bool (Lib.containsS xs x)) hs.1 rfl (fun e a c => ?_) (fun bk o c hc hbk hcell => ?_) dl hargs
  ·subst e
   exact (Tryz.slices_Contains_string_empty a c x w).mono fun e w' ⟨he,hw⟩=>⟨he,hw ▸ .refl _ _⟩
  ·refine (Tryz.slices_Contains_string bk o xs.length c xs x w (Nat.le_refl _) (by omega) fun j hj => ?_).mono fun e w' ⟨he,hw⟩=>⟨by rw [he,List.take_length],hw ▸ .refl _ _⟩
   exact hcell j _ (by simp [hj])
 ·rintro f args d ⟨rfl,own,xs,sep,rfl,h1,h2,rfl⟩ r φ w hs vs args' dl hargs
  obtain ⟨v1,v2,rfl⟩ : ∃ v1 v2,vs=[v1,v2]:=by
   have:=dl.1
   match vs,this with | [v1,v2],_=>exact ⟨v1,v2,rfl⟩
  obtain ⟨u1,u2,hu⟩ : ∃ u1 u2,args'.toList=[u1,u2]:=by
   have:=hargs.1
   match h:args'.toList,this with | [v1,v2],_=>exact ⟨v1,v2,rfl⟩
  rw [hu] at hargs
  have e2:v2 = .string sep:=by have:=dl.tail.head;cases this;rfl
  subst e2
  have e3:u2 = .string sep:=hargs.tail.head.n2a rfl
  subst e3
  have ea:args' = #[u1,.string sep]:=by rw [← Array.toList_inj,hu]
  subst ea
  have hx:xs.map D.str=(xs.map Value.string).map ofS:=by simp [ofS,Function.comp_def]
  have hd:=dl.head
  rw [hx] at hd
  have ret:Calls Tryz.prog 52 #[u1,.string sep] w fun e w'=>e = .returned (.string (d8b xs sep))∧RowKit.Below w.heap.size w w':=by
   rcases b5d hs.1 (n:=xs.length) (cs:=xs.map .string) (by simp;intros;rfl) (by simp;intros;rfl) hd hargs.head with ⟨h0,hn,a,c,rfl⟩ | ⟨hn,bk,o,c,rfl,hc,hbk,hcell⟩
   ·have:xs=[]:=List.eq_nil_of_length_eq_zero h0
    subst this
    exact (Tryz.strings_Join_none a c sep w).mono fun e w' ⟨he,hw⟩=>⟨he,hw ▸ .refl _ _⟩
   ·rw [List.length_map] at hc ⊢
    refine (Tryz.strings_Join bk o c xs sep w (fun j x hj=>hcell j _ (by simp [hj])) hbk h1 hc ?_).mono fun e w' ⟨he,hw⟩=>⟨he,hw⟩
    have:(d8b xs sep).size=(Lib.join (xs.map (·.data.toList)) sep.data.toList).length:=by simp [d8b,ByteArray.size]
    omega
  exact ret.mono fun e w' ⟨he,hw⟩=>⟨r,.string (d8b xs sep),.string (d8b xs sep),φ,he,.refl r,fun S h=>h,d5b hs.1 hw,.str _,.string _⟩
theorem l1c (b:UInt8) (S:Mem):a3a Tryz.prog O 156 [.str (⟨#[40,41,44,61,60,62,43,45,42,47,37]⟩:ByteArray),.str ⟨#[b]⟩] S fun d S'=>S'=S∧d = .bool (decide (b∈e9d)):=
 a3a.u0a (c:=v1e) (us:=[.string (⟨#[40,41,44,61,60,62,43,45,42,47,37]⟩:ByteArray),.string ⟨#[b]⟩]) (fun f args d h S=>⟨rfl,.inl (.inl (.inl (.inl h)))⟩) (.inl ⟨rfl,b,rfl,rfl⟩)
theorem w6b (s:ByteArray) (n:Int) (h1:s.size<1000000) (h2:Lib.parseIntB 64 s.data.toList = .ok n) (S:Mem):a3a Tryz.prog O 153 [.str s,.int .i64 10,.int .i64 64] S fun d S'=>S'=S∧d = .tup [.int .i64 n,.u9a]:=
 a3a.u0a (c:=v1e) (us:=[.string s,.int .i64 10,.int .i64 64]) (fun f args d h S=>⟨rfl,.inl (.inl (.inl (.inl h)))⟩) (.inr (.inl ⟨rfl,s,n,h1,h2,rfl,rfl⟩))
theorem u9b (n:Int) (h1 : -9223372036854775808≤n) (h2:n≤9223372036854775807) (S:Mem):a3a Tryz.prog O 50 [.int .i64 n,.int .i64 10] S fun d S'=>S'=S∧d = .str (o9a n):=
 a3a.u0a (c:=v1e) (us:=[.int .i64 n,.int .i64 10]) (fun f args d h S=>⟨rfl,.inl (.inl (.inl (.inl h)))⟩) (.inr (.inr ⟨rfl,n,h1,h2,rfl,rfl⟩))
theorem r7b (s:ByteArray) (h1:s.size<1000000) (h2:Lib.parseIntB 64 s.data.toList = .range) (S:Mem):a3a Tryz.prog O 153 [.str s,.int .i64 10,.int .i64 64] S fun d S'=>S'=S∧d = .tup [.int .i64 (Lib.intSat 64 s.data.toList),.iface 263 .bot]:=
 a3a.l3c (c:=k3f) (us:=[.string s,.int .i64 10,.int .i64 64]) (u:=.int .i64 (Lib.intSat 64 s.data.toList)) (fun f args d h S=>⟨rfl,.inl (.inl (.inr h))⟩) ⟨rfl,s,h1,h2,rfl,rfl,rfl⟩
theorem i8b (S:Mem):a3a Tryz.prog O 155 [.str (⟨#[33,61,32,60,61,32,62,61]⟩:ByteArray)] S fun d S'=>S'=S∧d = .sl none 1 3 (b6e.map .str):=
 a3a.n5c (P:=Tryz.prog) (orc:=O) (S:=S) (c:=k4f) (us:=[.string (⟨#[33,61,32,60,61,32,62,61]⟩:ByteArray)]) (fun f args d h S=>⟨rfl,.inl (.inl (.inl (.inr h)))⟩) ⟨rfl,rfl,rfl⟩
theorem b2b (own:Option Nat) (xs:List ByteArray) (x:ByteArray) (h:xs.length<1000000) (S:Mem):a3a Tryz.prog O 154 [.sl own 1 xs.length (xs.map .str),.str x] S fun d S'=>S'=S∧d = .bool (Lib.containsS xs x):=
 ⟨_,_,.orc ⟨rfl,.inl (.inr ⟨rfl,own,xs,x,rfl,h,rfl⟩)⟩,rfl,rfl⟩
theorem s2c (own:Option Nat) (x:ByteArray) (S:Mem):a3a Tryz.prog O 154 [.sl own 1 3 (b6e.map .str),.str x] S fun d S'=>S'=S∧d = .bool (Lib.containsS b6e x):=
 b2b own b6e x (by decide) S
theorem join (own:Option Nat) (xs:List ByteArray) (sep:ByteArray) (h1:xs.length≤140737488355328) (h2:(d8b xs sep).size≤140737488355328) (S:Mem) :
  a3a Tryz.prog O 52 [.sl own 1 xs.length (xs.map .str),.str sep] S fun d S'=>S'=S∧d = .str (d8b xs sep):=
 ⟨_,_,.orc ⟨rfl,.inr ⟨rfl,own,xs,sep,rfl,h1,h2,rfl⟩⟩,rfl,rfl⟩
end Go.Proofs.DgT
