/- The document's own stamps: which may be, which is newer, in words. -/
import Derived.Test.YtlllhmenekibjaaGreatDoorDtS1x
set_option linter.unusedSimpArgs false
set_option linter.unusedVariables false
namespace Go.Proofs.DtT
open Go Go.DM Go.Proofs.DtF
set_option maxRecDepth 100000
variable {orc:DOracle}
theorem ofSt (s:St) (S:Mem):CallD Tryz.prog orc 55 [.agg s.c] S fun d S'=>S'=S∧d = .agg s.c:=by
 obtain ⟨a,b,c,o⟩:=s
 simp only [St.c]
 refine CallD.e Tryz.func55 rfl Tryz.ntmps55 (by rfl) ?_
 repeat' (first|refine Go.a rfl ?_|refine Go.rg ?_|refine GoR.nil ?_|refine Go.ret ?_|refine Go.b rfl ?_|(refine GoR.o (by rfl) (by rfl) ?_;(conv=>arg 1;simp only [G,Z,Y,Gx,un_neg,cutD,decide_true,decide_false,simprocAttr,fb2,fb9,fb32,fb41]);show GoR ..)|refine Go.condB rfl (fun hc => ?_) (fun hc => ?_))
 refine ⟨(by first | exact .inl rfl | exact .inr rfl),fin ?_⟩
 rw [resD_cell (fn:=Tryz.f55) rfl]
 simp only [optThen_some,resultD_tmp,resultD_cell,G,Z,Y,Gx,un_neg,cutD,decide_true,decide_false,simprocAttr,fb2,fb9,fb32,fb41]
 exact ⟨_,_,rfl,.of_low (.agg' St.low),rfl⟩
theorem refIn (n:Int) (S:Mem):CallD Tryz.prog orc 101 [.int .i64 n] S fun d S'=>S'=S∧d = .bool (inOk n):=by
 refine CallD.e Tryz.func101 rfl Tryz.ntmps101 (by rfl) ?_
 repeat' (first|refine Go.a rfl ?_|refine Go.rg ?_|refine GoR.nil ?_|refine Go.ret ?_|refine Go.b rfl ?_|(refine GoR.o (by rfl) (by rfl) ?_;(conv=>arg 1;simp only [G,Z,Y,Gx,un_neg,cutD,decide_true,decide_false,simprocAttr,fb2]);show GoR ..)|refine GoR.s (by rfl) rfl rfl ?_|(refine GoR.splitG rfl (fun hc => ?_) (fun hc => ?_)<;>simp only [hc])|refine Go.condB rfl (fun hc => ?_) (fun hc => ?_))
 all_goals
  refine ⟨(by first | exact .inl rfl | exact .inr rfl),fin ?_⟩
  rw [resD_tmp (fn:=Tryz.f101) rfl]
  simp only [optThen_some,resultD_tmp,resultD_cell,G,Z,Y,Gx,un_neg,cutD,decide_true,decide_false,simprocAttr,fb2]
  refine ⟨_,[],by simp,.bool,?_⟩
  first
   | (simp_all [inOk];done)
   | (simp_all [inOk];omega)
theorem refOrder (a b:Int) (S:Mem):CallD Tryz.prog orc 87 [.int .i64 a,.int .i64 b] S fun d S'=>S'=S∧d = .int .i64 (cmpI a b):=by
 refine CallD.e Tryz.func87 rfl Tryz.ntmps87 (by rfl) ?_
 repeat' (first|refine Go.a rfl ?_|refine Go.rg ?_|refine GoR.nil ?_|refine Go.ret ?_|refine Go.b rfl ?_|(refine GoR.o (by rfl) (by rfl) ?_;(conv=>arg 1;simp only [G,Z,Y,Gx,un_neg,cutD,decide_true,decide_false,simprocAttr,fb2]);show GoR ..)|refine Go.condB rfl (fun hc => ?_) (fun hc => ?_))
 all_goals
  refine ⟨(by first | exact .inl rfl | exact .inr rfl),fin ?_⟩
  rw [resD_tmp (fn:=Tryz.f87) rfl]
  simp only [optThen_some,resultD_tmp,resultD_cell,G,Z,Y,Gx,un_neg,cutD,decide_true,decide_false,simprocAttr,fb2]
  refine ⟨_,[],by simp,.int,?_⟩
  unfold cmpI
  first
   | (simp_all;done)
   | (
     simp at *
     rw [if_neg (by omega),if_neg (by omega)])
theorem refOrderText (a b:ByteArray) (S:Mem):CallD Tryz.prog orc 88 [.str a,.str b] S fun d S'=>S'=S∧d = .int .i64 (cmpB a b):=by
 refine CallD.e Tryz.func88 rfl Tryz.ntmps88 (by rfl) ?_
 repeat' (first|refine Go.a rfl ?_|refine Go.rg ?_|refine GoR.nil ?_|refine Go.ret ?_|refine Go.b rfl ?_|(refine GoR.o (by rfl) (by rfl) ?_;(conv=>arg 1;simp only [G,Z,Y,Gx,un_neg,cutD,decide_true,decide_false,simprocAttr,fb9]);show GoR ..)|refine Go.condB rfl (fun hc => ?_) (fun hc => ?_))
 all_goals
  refine ⟨(by first | exact .inl rfl | exact .inr rfl),fin ?_⟩
  rw [resD_tmp (fn:=Tryz.f88) rfl]
  simp only [optThen_some,resultD_tmp,resultD_cell,G,Z,Y,Gx,un_neg,cutD,decide_true,decide_false,simprocAttr,fb9]
  refine ⟨_,[],by simp,.int,?_⟩
  unfold cmpB ltB
  simp_all
theorem refName (s:ByteArray) (hs:s.size<4611686018427387904) (S:Mem):CallD Tryz.prog orc 68 [.str s] S fun d S'=>S'=S∧d = .bool (nameOk s):=by
 refine CallD.e Tryz.func68 rfl Tryz.ntmps68 (by rfl) ?_
 by_cases h0:s.size=0
 ·repeat' (first|refine Go.a rfl ?_|refine Go.rg ?_|refine GoR.nil ?_|refine Go.ret ?_|refine Go.b rfl ?_|(refine GoR.o (by rfl) (by rfl) ?_;(conv=>arg 1;simp only [G,Z,Y,Gx,un_neg,cutD,decide_true,decide_false,simprocAttr,fb3,fb5,fb9,h0,show (decide (((0:Nat):Int)<1))=true by decide]);show GoR ..)|refine GoR.s (by rfl) rfl rfl ?_|(refine GoR.splitG rfl (fun hc => ?_) (fun hc => ?_)<;>simp only [hc])|refine Go.condB rfl (fun hc => ?_) (fun hc => ?_))
  refine ⟨(by first | exact .inl rfl | exact .inr rfl),fin ?_⟩
  rw [resD_tmp (fn:=Tryz.f68) rfl]
  simp only [optThen_some,resultD_tmp,resultD_cell,G,Z,Y,Gx,un_neg,cutD,decide_true,decide_false,simprocAttr,fb3,fb5,fb9]
  exact ⟨_,[],by simp,.bool,by simp [nameOk,h0]⟩
 ·have h1:0<s.size:=by omega
  repeat' (first|refine Go.a rfl ?_|refine Go.rg ?_|refine GoR.nil ?_|refine Go.ret ?_|refine Go.b rfl ?_|(refine GoR.o (by rfl) (by rfl) ?_;(conv=>arg 1;simp only [G,Z,Y,Gx,un_neg,cutD,decide_true,decide_false,simprocAttr,fb3,fb5,fb9,indexStr_zero h1,show (decide ((s.size:Int)<1))=false by simp;omega]);show GoR ..)|refine GoR.s (by rfl) rfl rfl ?_|(refine GoR.splitG rfl (fun hc => ?_) (fun hc => ?_)<;>simp only [hc])|refine Go.condB rfl (fun hc => ?_) (fun hc => ?_))
  rotate_right
  ·refine Go.keep [(0,.str s),(3,.int .i64 ((0:Nat):Int))] (.cons .refl (.cons .refl (.nil))) ?_
   refine Go.while (α:=Nat) (fun i=>s.size - i) (fun i=>[(0,.str s),(3,.int .i64 (i:Int))]) (fun _=>S) (fun i=>i≤s.size ∧ ∀ j (h:j<s.size),j<i→(lowB (s.data[j]'h) || digB (s.data[j]'h))=true) ?_ 0 ⟨Nat.zero_le _,by simp⟩
   rintro i ⟨hi,hk⟩ next
   repeat' (first|refine Go.a rfl ?_|refine Go.rg ?_|refine GoR.nil ?_|refine Go.ret ?_|refine Go.b rfl ?_|(refine GoR.o (by rfl) (by rfl) ?_;(conv=>arg 1;simp only [G,Z,Y,Gx,un_neg,cutD,decide_true,decide_false,simprocAttr,fb3,fb5,fb9]);show GoR ..)|refine GoR.s (by rfl) rfl rfl ?_|(refine GoR.splitG rfl (fun hc => ?_) (fun hc => ?_)<;>simp only [hc])|refine Go.condB rfl (fun hc => ?_) (fun hc => ?_))
   ·have h2:i<s.size:=by simpa using hc
    repeat' (first|refine Go.a rfl ?_|refine Go.rg ?_|refine GoR.nil ?_|refine Go.ret ?_|refine Go.b rfl ?_|(refine GoR.o (by rfl) (by rfl) ?_;(conv=>arg 1;simp only [G,Z,Y,Gx,un_neg,cutD,decide_true,decide_false,simprocAttr,fb3,fb5,fb9,indexStr_cast h2,wrap_succ (show i<4611686018427387904 by omega)]);show GoR ..)|refine GoR.s (by rfl) rfl rfl ?_|(refine GoR.splitG rfl (fun hc => ?_) (fun hc => ?_)<;>simp only [hc])|refine Go.condB rfl (fun hc => ?_) (fun hc => ?_))
    all_goals first
     | (
       refine Go.lpN ?_
       refine Go.keep [(0,.str s),(3,.int .i64 ((i+1:Nat):Int))] (.cons .refl (.cons .refl (.nil))) ?_
       refine next (i+1) (by omega) ⟨h2,fun j hj hlt => ?_⟩
       clear next
       rcases Nat.lt_or_ge j i with h | h
       ·exact hk j hj h
       ·obtain rfl:j=i:=by omega
        clear hk
        simp [lowB,digB] at *
        omega)
     | (
       clear next
       refine ⟨(by first | exact .inl rfl | exact .inr rfl),fin ?_⟩
       rw [resD_tmp (fn:=Tryz.f68) rfl]
       simp only [optThen_some,resultD_tmp,resultD_cell,G,Z,Y,Gx,un_neg,cutD,decide_true,decide_false,simprocAttr,fb3,fb5,fb9]
       refine ⟨_,[],by simp,.bool,?_⟩
       have hp:(fun b=>lowB b || digB b) (s.data[i]'h2)=false:=by
        clear hk
        simp [lowB,digB] at *
        omega
       simp only [nameOk,bytes_false (p:=fun b=>lowB b || digB b) h2 hp,Bool.and_false])
   ·clear next
    refine ⟨(by first | exact .inl rfl | exact .inr rfl),fin ?_⟩
    rw [resD_tmp (fn:=Tryz.f68) rfl]
    simp only [optThen_some,resultD_tmp,resultD_cell,G,Z,Y,Gx,un_neg,cutD,decide_true,decide_false,simprocAttr,fb3,fb5,fb9]
    refine ⟨_,[],by simp,.bool,?_⟩
    rw [nameOk,bytes_true fun j hj=>hk j hj (by simp at hc;omega)]
    have h00:s.data[0]?=some (s.data[0]'h1):=Array.getElem?_eq_getElem h1
    rw [h00]
    clear hk
    simp [lowB] at *
    omega
  all_goals
   refine ⟨(by first | exact .inl rfl | exact .inr rfl),fin ?_⟩
   rw [resD_tmp (fn:=Tryz.f68) rfl]
   simp only [optThen_some,resultD_tmp,resultD_cell,G,Z,Y,Gx,un_neg,cutD,decide_true,decide_false,simprocAttr,fb3,fb5,fb9]
   refine ⟨_,[],by simp,.bool,?_⟩
   have h00:s.data[0]?=some (s.data[0]'h1):=Array.getElem?_eq_getElem h1
   rw [nameOk,h00]
   simp [lowB] at *
   omega
def cutD (s:ByteArray):D:=
 if s.data[0]?=some 47 then (if s.size=1 then .tup [.nils,.bool true] else .tup [.sl none 1 (AtT.cutP (s.data.toList.drop 1)).length ((AtT.cutP (s.data.toList.drop 1)).map .str),.bool true]) else .tup [.nils,.bool false]
theorem one_slash {s:ByteArray} (h:s.data[0]?=some 47) (h1:s.size=1):s=⟨#[47]⟩:=by
 obtain ⟨⟨l⟩⟩:=s
 have hl:l.length=1:=h1
 match l,hl with
 | [x],_=>
  have:x=47:=by simpa using h
  rw [this]
theorem refCut (s:ByteArray) (hs:s.size<1000000) (S:Mem):CallD Tryz.prog O 113 [.str s] S fun d S'=>S'=S∧d=cutD s:=by
 by_cases h0:s.size=0
 ·have e:s=⟨#[]⟩:=by
   obtain ⟨d⟩:=s
   simp only [ByteArray.size,Array.size_eq_zero_iff] at h0
   rw [h0]
  subst e
  refine CallD.e Tryz.func113 rfl Tryz.ntmps113 (by rfl) ?_
  repeat' (first|refine Go.a rfl ?_|refine Go.rg ?_|refine GoR.nil ?_|refine Go.ret ?_|refine Go.b rfl ?_|refine Go.rgS dmx (by decide) ?_|(refine GoR.o (by rfl) (by rfl) ?_;(conv=>arg 1;simp only [G,Z,Y,Gx,un_neg,cutD,decide_true,decide_false,simprocAttr,fb3,fb5,fb9,fb51]);show GoR ..)|refine GoR.s (by rfl) rfl rfl ?_|(refine GoR.splitG rfl (fun hc => ?_) (fun hc => ?_)<;>simp only [hc])|refine Go.condB rfl (fun hc => ?_) (fun hc => ?_))
  refine ⟨(by first | exact .inl rfl | exact .inr rfl),fin ?_⟩
  rw [resD_two (fn:=Tryz.f113) rfl]
  simp only [optThen_some,resultD_tmp,resultD_cell,G,Z,Y,Gx,un_neg,cutD,decide_true,decide_false,simprocAttr,fb3,fb5,fb9,fb51]
  exact ⟨_,[],by simp,.of_low (.tup' (.cons .nils (.cons (.bool _) .nil))),rfl⟩
 have hp:0<s.size:=by omega
 have hg:s.data[0]?=some (s.data[0]'hp):=Array.getElem?_eq_getElem hp
 have hne:decide (s=(⟨#[]⟩:ByteArray))=false:=by
  rw [decide_eq_false_iff_not]
  rintro rfl
  exact h0 rfl
 by_cases h47:s.data[0]'hp=47
 ·have h47':s.data[0]?=some 47:=by rw [hg,h47]
  by_cases h1:s.size=1
  ·have e:=one_slash h47' h1
   subst e
   refine CallD.e Tryz.func113 rfl Tryz.ntmps113 (by rfl) ?_
   repeat' (first|refine Go.a rfl ?_|refine Go.rg ?_|refine GoR.nil ?_|refine Go.ret ?_|refine Go.b rfl ?_|refine Go.rgS dmx (by decide) ?_|(refine GoR.o (by rfl) (by rfl) ?_;(conv=>arg 1;simp only [G,Z,Y,Gx,un_neg,cutD,decide_true,decide_false,simprocAttr,fb3,fb5,fb9,fb51,hne,indexStr_zero hp,h47,show (((47:UInt8).toNat:Int) != 47)=false from rfl,show decide ((⟨#[47]⟩:ByteArray)=⟨#[47]⟩)=true from rfl]);show GoR ..)|refine GoR.s (by rfl) rfl rfl ?_|(refine GoR.splitG rfl (fun hc => ?_) (fun hc => ?_)<;>simp only [hc])|refine Go.condB rfl (fun hc => ?_) (fun hc => ?_))
   refine ⟨(by first | exact .inl rfl | exact .inr rfl),fin ?_⟩
   rw [resD_two (fn:=Tryz.f113) rfl]
   simp only [optThen_some,resultD_tmp,resultD_cell,G,Z,Y,Gx,un_neg,cutD,decide_true,decide_false,simprocAttr,fb3,fb5,fb9,fb51]
   exact ⟨_,[],by simp,.of_low (.tup' (.cons .nils (.cons (.bool _) .nil))),rfl⟩
  ·rw [cutD,if_pos h47',if_neg h1]
   exact cutO s hs h47' (by omega) S
 ·have b47:(((s.data[0]'hp).toNat:Int) != 47)=true:=by
   rw [bne_iff_ne]
   intro h
   refine h47 (UInt8.toNat_inj.1 ?_)
   show _=47
   omega
  refine CallD.e Tryz.func113 rfl Tryz.ntmps113 (by rfl) ?_
  repeat' (first|refine Go.a rfl ?_|refine Go.rg ?_|refine GoR.nil ?_|refine Go.ret ?_|refine Go.b rfl ?_|refine Go.rgS dmx (by decide) ?_|(refine GoR.o (by rfl) (by rfl) ?_;(conv=>arg 1;simp only [G,Z,Y,Gx,un_neg,cutD,decide_true,decide_false,simprocAttr,fb3,fb5,fb9,fb51,hne,indexStr_zero hp,b47]);show GoR ..)|refine GoR.s (by rfl) rfl rfl ?_|(refine GoR.splitG rfl (fun hc => ?_) (fun hc => ?_)<;>simp only [hc])|refine Go.condB rfl (fun hc => ?_) (fun hc => ?_))
  refine ⟨(by first | exact .inl rfl | exact .inr rfl),fin ?_⟩
  rw [resD_two (fn:=Tryz.f113) rfl]
  simp only [optThen_some,resultD_tmp,resultD_cell,G,Z,Y,Gx,un_neg,cutD,decide_true,decide_false,simprocAttr,fb3,fb5,fb9,fb51]
  refine ⟨_,[],by simp,.of_low (.tup' (.cons .nils (.cons (.bool _) .nil))),?_⟩
  have hn : ¬ s.data[0]?=some 47:=by
   rw [hg]
   intro h
   exact h47 (Option.some.inj h)
  exact ((congrArg _ rfl).trans (if_neg hn).symm)
end Go.Proofs.DtT
namespace Go.Proofs.DtT
open Go Go.DM Go.Proofs.DtF
set_option maxRecDepth 100000
variable {orc:DOracle}
def piecesR (s:ByteArray):List ByteArray:=if s.size=1 then [] else AtT.cutP (s.data.toList.drop 1)
def pathR (s:ByteArray):Bool:=decide (s.data[0]?=some 47)&&(piecesR s).all nameOk&&decide ((piecesR s).length≤4)
theorem cutP_small (l:List UInt8) : ∀ x∈AtT.cutP l,x.size≤l.length:=by
 have key : ∀ (l:List UInt8) (p:List ByteArray×ByteArray) (B:Nat),(∀ x∈p.1,x.size≤B)→p.2.size+l.length≤B → ∀ x∈(l.foldl AtT.stepC p).1++[(l.foldl AtT.stepC p).2],x.size≤B:=by
  intro l
  induction l with
  | nil=>
   intro p B h1 h2 x hx
   rcases List.mem_append.1 hx with hx | hx
   ·exact h1 x hx
   ·simp at hx
    subst hx
    simpa using h2
  | cons b l ih=>
   intro p B h1 h2
   rw [List.foldl_cons]
   rw [List.length_cons] at h2
   unfold AtT.stepC
   split
   ·refine ih _ B (fun x hx => ?_) ?_
    ·rcases List.mem_append.1 hx with hx | hx
     ·exact h1 x hx
     ·simp at hx
      subst hx
      omega
    ·show 0+_≤_
     omega
   ·refine ih _ B h1 ?_
    rw [ByteArray.size_append]
    show _+1+_≤_
    omega
 exact key l ([],⟨#[]⟩) l.length (by simp) (by show 0+_≤_;omega)
theorem refParse (s:ByteArray) (hs:s.size<1000000) (S:Mem):CallD Tryz.prog O 83 [.str s] S fun d S'=>S'=S ∧ ∃ x e,d = .tup [x,.int .i64 e]∧((e=0)↔pathR s=true):=by
 refine CallD.e Tryz.func83 rfl Tryz.ntmps83 (by rfl) ?_
 by_cases h47:s.data[0]?=some 47
 ·by_cases h1:s.size=1
  ·have e:cutD s = .tup [.nils,.bool true]:=by rw [cutD,if_pos h47,if_pos h1]
   have hcut:=fun S=>refCut s hs S
   simp only [e] at hcut
   repeat' (first|refine Go.a rfl ?_|refine Go.rg ?_|refine GoR.nil ?_|refine Go.ret ?_|refine Go.b rfl ?_|(refine GoR.o (by rfl) (by rfl) ?_;(conv=>arg 1;simp only [G,Z,Y,Gx,un_neg,cutD,decide_true,decide_false,simprocAttr,fb3,fb9,fb51]);show GoR ..)|(refine GoR.c c113 (by rfl) (by rfl) rfl ?_;(refine (hcut _).ret ?_))|refine Go.condB rfl (fun hc => ?_) (fun hc => ?_))
   refine Go.keep [(4,.nils),(6,.int .i64 ((0:Nat):Int))] (.cons .refl (.cons .refl (.nil))) ?_
   refine Go.loop ?_
   repeat' (first|refine Go.a rfl ?_|refine Go.rg ?_|refine GoR.nil ?_|refine Go.ret ?_|refine Go.b rfl ?_|(refine GoR.o (by rfl) (by rfl) ?_;(conv=>arg 1;simp only [G,Z,Y,Gx,un_neg,cutD,decide_true,decide_false,simprocAttr,fb3,fb9,fb51]);show GoR ..)|refine Go.condB rfl (fun hc => ?_) (fun hc => ?_))
   refine ⟨(by first | exact .inl rfl | exact .inr rfl),fin ?_⟩
   rw [resD_two (fn:=Tryz.f83) rfl]
   simp only [optThen_some,resultD_tmp,resultD_cell,G,Z,Y,Gx,un_neg,cutD,decide_true,decide_false,simprocAttr,fb3,fb9,fb51]
   exact ⟨_,[],by simp,.of_low (.tup' (.cons .nils (.cons (.int _ _) .nil))),_,_,rfl,⟨fun _=>(by unfold pathR piecesR;rw [if_pos h1,decide_eq_true h47];rfl),fun _=>rfl⟩⟩
  ·generalize hl:AtT.cutP (s.data.toList.drop 1)=l
   have hll:l.length≤s.size+1:=by
    rw [← hl,AtT.cutP,List.length_append]
    have:=AtT.cutL_count (s.data.toList.drop 1)
    rw [List.length_drop] at this
    have e2:s.data.toList.length=s.size:=by simp
    rw [List.length_cons,List.length_nil]
    omega
   have hp:piecesR s=l:=by rw [piecesR,if_neg h1,hl]
   have e:cutD s = .tup [.sl none 1 l.length (l.map .str),.bool true]:=by rw [cutD,if_pos h47,if_neg h1,hl]
   have hcut:=fun S=>refCut s hs S
   simp only [e] at hcut
   repeat' (first|refine Go.a rfl ?_|refine Go.rg ?_|refine GoR.nil ?_|refine Go.ret ?_|refine Go.b rfl ?_|(refine GoR.o (by rfl) (by rfl) ?_;(conv=>arg 1;simp only [G,Z,Y,Gx,un_neg,cutD,decide_true,decide_false,simprocAttr,fb3,fb9,fb51]);show GoR ..)|(refine GoR.c c113 (by rfl) (by rfl) rfl ?_;(refine (hcut _).ret ?_))|refine Go.condB rfl (fun hc => ?_) (fun hc => ?_))
   refine Go.keep [(4,.sl none 1 l.length (l.map .str)),(6,.int .i64 ((0:Nat):Int))] (.cons .refl (.cons .refl (.nil))) ?_
   refine Go.while (α:=Nat) (fun i=>l.length - i) (fun i=>[(4,.sl none 1 l.length (l.map .str)),(6,.int .i64 (i:Int))]) (fun _=>S) (fun i=>i≤l.length ∧ ∀ j (h:j<l.length),j<i→nameOk l[j]=true) ?_ 0 ⟨Nat.zero_le _,by simp⟩
   rintro i ⟨hi,hk⟩ next
   by_cases hil:i<l.length
   ·have di:decide ((i:Int)<(l.length:Int))=true:=by simp;omega
    have hsz:l[i].size<4611686018427387904:=by
     have:=cutP_small (s.data.toList.drop 1) l[i] (by rw [hl];exact List.getElem_mem _)
     rw [List.length_drop] at this
     have e2:s.data.toList.length=s.size:=by simp
     omega
    cases hn:nameOk l[i] with
    | true=>
     repeat' (first|refine Go.a rfl ?_|refine Go.rg ?_|refine GoR.nil ?_|refine Go.ret ?_|refine Go.b rfl ?_|(refine GoR.o (by rfl) (by rfl) ?_;(conv=>arg 1;simp only [G,Z,Y,Gx,un_neg,cutD,decide_true,decide_false,simprocAttr,fb3,fb9,fb51,di,strsAt hil,wrap_succ (show i<4611686018427387904 by omega),hn]);show GoR ..)|(refine GoR.c c68 (by rfl) (by rfl) rfl ?_;(refine (refName _ hsz _).ret ?_))|refine Go.condB rfl (fun hc => ?_) (fun hc => ?_))
     refine Go.lpN ?_
     refine Go.keep [(4,.sl none 1 l.length (l.map .str)),(6,.int .i64 ((i+1:Nat):Int))] (.cons .refl (.cons .refl (.nil))) ?_
     refine next (i+1) (by omega) ⟨hil,fun j hj hlt => ?_⟩
     rcases Nat.lt_or_ge j i with h | h
     ·exact hk j hj h
     ·obtain rfl:j=i:=by omega
      exact hn
    | false=>
     clear next
     repeat' (first|refine Go.a rfl ?_|refine Go.rg ?_|refine GoR.nil ?_|refine Go.ret ?_|refine Go.b rfl ?_|(refine GoR.o (by rfl) (by rfl) ?_;(conv=>arg 1;simp only [G,Z,Y,Gx,un_neg,cutD,decide_true,decide_false,simprocAttr,fb3,fb9,fb51,di,strsAt hil,hn]);show GoR ..)|(refine GoR.c c68 (by rfl) (by rfl) rfl ?_;(refine (refName _ hsz _).ret ?_))|refine Go.condB rfl (fun hc => ?_) (fun hc => ?_))
     refine ⟨(by first | exact .inl rfl | exact .inr rfl),fin ?_⟩
     rw [resD_two (fn:=Tryz.f83) rfl]
     simp only [optThen_some,resultD_tmp,resultD_cell,G,Z,Y,Gx,un_neg,cutD,decide_true,decide_false,simprocAttr,fb3,fb9,fb51]
     refine ⟨_,[],by simp,.of_low (.tup' (.cons .nils (.cons (.int _ _) .nil))),_,_,rfl,?_⟩
     have:l.all nameOk=false:=List.all_eq_false.2 ⟨_,List.getElem_mem hil,by simp [hn]⟩
     simp [pathR,hp,this]
   ·clear next
    have di:decide ((i:Int)<(l.length:Int))=false:=by simp;omega
    have hall:l.all nameOk=true:=by
     rw [List.all_eq_true]
     intro x hx
     obtain ⟨j,hj,rfl⟩:=List.mem_iff_getElem.1 hx
     exact hk j hj (by omega)
    by_cases h4:4<l.length
    ·have d4:decide (4<(l.length:Int))=true:=by simp;omega
     repeat' (first|refine Go.a rfl ?_|refine Go.rg ?_|refine GoR.nil ?_|refine Go.ret ?_|refine Go.b rfl ?_|(refine GoR.o (by rfl) (by rfl) ?_;(conv=>arg 1;simp only [G,Z,Y,Gx,un_neg,cutD,decide_true,decide_false,simprocAttr,fb3,fb9,fb51,di,d4]);show GoR ..)|refine Go.condB rfl (fun hc => ?_) (fun hc => ?_))
     refine ⟨(by first | exact .inl rfl | exact .inr rfl),fin ?_⟩
     rw [resD_two (fn:=Tryz.f83) rfl]
     simp only [optThen_some,resultD_tmp,resultD_cell,G,Z,Y,Gx,un_neg,cutD,decide_true,decide_false,simprocAttr,fb3,fb9,fb51]
     refine ⟨_,[],by simp,.of_low (.tup' (.cons .nils (.cons (.int _ _) .nil))),_,_,rfl,?_⟩
     simp [pathR,hp,hall]
     omega
    ·have d4:decide (4<(l.length:Int))=false:=by simp;omega
     repeat' (first|refine Go.a rfl ?_|refine Go.rg ?_|refine GoR.nil ?_|refine Go.ret ?_|refine Go.b rfl ?_|(refine GoR.o (by rfl) (by rfl) ?_;(conv=>arg 1;simp only [G,Z,Y,Gx,un_neg,cutD,decide_true,decide_false,simprocAttr,fb3,fb9,fb51,di,d4]);show GoR ..)|refine Go.condB rfl (fun hc => ?_) (fun hc => ?_))
     refine ⟨(by first | exact .inl rfl | exact .inr rfl),fin ?_⟩
     rw [resD_two (fn:=Tryz.f83) rfl]
     simp only [optThen_some,resultD_tmp,resultD_cell,G,Z,Y,Gx,un_neg,cutD,decide_true,decide_false,simprocAttr,fb3,fb9,fb51]
     have hlow:LowL S.length (l.map D.str):=.of_mem (by simp;intros;constructor)
     refine ⟨_,[],by simp,.of_low (.tup' (.cons (.sl none 1 _ _ (fun id h=>by cases h) hlow.get) (.cons (.int _ _) .nil))),_,_,rfl,?_⟩
     simp [pathR,hp,hall,h47]
     omega
 ·have e:cutD s = .tup [.nils,.bool false]:=by rw [cutD,if_neg h47]
  have hcut:=fun S=>refCut s hs S
  simp only [e] at hcut
  repeat' (first|refine Go.a rfl ?_|refine Go.rg ?_|refine GoR.nil ?_|refine Go.ret ?_|refine Go.b rfl ?_|(refine GoR.o (by rfl) (by rfl) ?_;(conv=>arg 1;simp only [G,Z,Y,Gx,un_neg,cutD,decide_true,decide_false,simprocAttr,fb3,fb9,fb51]);show GoR ..)|(refine GoR.c c113 (by rfl) (by rfl) rfl ?_;(refine (hcut _).ret ?_))|refine Go.condB rfl (fun hc => ?_) (fun hc => ?_))
  refine ⟨(by first | exact .inl rfl | exact .inr rfl),fin ?_⟩
  rw [resD_two (fn:=Tryz.f83) rfl]
  simp only [optThen_some,resultD_tmp,resultD_cell,G,Z,Y,Gx,un_neg,cutD,decide_true,decide_false,simprocAttr,fb3,fb9,fb51]
  exact ⟨_,[],by simp,.of_low (.tup' (.cons .nils (.cons (.int _ _) .nil))),_,_,rfl,by simp [pathR,h47]⟩
theorem nodeR_eq (s:ByteArray) (hs:s≠⟨#[47]⟩):pathR s=pathOk s:=by
 unfold pathR pathOk
 rw [hasB47]
 by_cases h47:s.data[0]?=some 47
 ·have h1:s.size≠1:=fun h=>hs (one_slash h47 h)
  have hh:hasB s ⟨#[47]⟩=true:=by rw [hasB47,decide_eq_true h47]
  rw [piecesR,if_neg h1,pieces_cut,trimB47 hh]
 ·rw [decide_eq_false h47]
  rfl
theorem root_not:pathOk ⟨#[47]⟩=false:=by decide +kernel
theorem refPath (s:ByteArray) (hs:s.size<1000000) (S:Mem):CallD Tryz.prog O 78 [.str s] S fun d S'=>S'=S∧d = .bool (pathR s):=by
 refine CallD.e Tryz.func78 rfl Tryz.ntmps78 (by rfl) ?_
 repeat' (first|refine Go.a rfl ?_|refine Go.rg ?_|refine GoR.nil ?_|refine Go.ret ?_|refine Go.b rfl ?_|(refine GoR.o (by rfl) (by rfl) ?_;(conv=>arg 1;simp only [G,Z,Y,Gx,un_neg,cutD,decide_true,decide_false,simprocAttr,fb3]);show GoR ..)|(refine GoR.c c83 (by rfl) (by rfl) rfl ?_;(refine (refParse s hs _).retE ?_;rintro _ ⟨x,e,rfl,he⟩))|refine Go.condB rfl (fun hc => ?_) (fun hc => ?_))
 refine ⟨(by first | exact .inl rfl | exact .inr rfl),fin ?_⟩
 rw [resD_tmp (fn:=Tryz.f78) rfl]
 simp only [optThen_some,resultD_tmp,resultD_cell,G,Z,Y,Gx,un_neg,cutD,decide_true,decide_false,simprocAttr,fb3]
 refine ⟨_,[],by simp,.bool,?_⟩
 rw [D.bool.injEq,Bool.eq_iff_iff,beq_iff_eq]
 exact he
theorem refNode (s:ByteArray) (hs:s.size<1000000) (S:Mem):CallD Tryz.prog O 31 [.str s] S fun d S'=>S'=S∧d = .bool (pathOk s):=by
 refine CallD.e Tryz.func31 rfl Tryz.ntmps31 (by rfl) ?_
 cases hp:pathR s with
 | false=>
  repeat' (first|refine Go.a rfl ?_|refine Go.rg ?_|refine GoR.nil ?_|refine Go.ret ?_|refine Go.b rfl ?_|(refine GoR.o (by rfl) (by rfl) ?_;(conv=>arg 1;simp only [G,Z,Y,Gx,un_neg,cutD,decide_true,decide_false,simprocAttr,fb9,hp]);show GoR ..)|(refine GoR.c c78 (by rfl) (by rfl) rfl ?_;(refine (refPath s hs _).ret ?_))|refine GoR.s (by rfl) rfl rfl ?_|(refine GoR.splitG rfl (fun hc => ?_) (fun hc => ?_)<;>simp only [hc])|refine Go.condB rfl (fun hc => ?_) (fun hc => ?_))
  refine ⟨(by first | exact .inl rfl | exact .inr rfl),fin ?_⟩
  rw [resD_tmp (fn:=Tryz.f31) rfl]
  simp only [optThen_some,resultD_tmp,resultD_cell,G,Z,Y,Gx,un_neg,cutD,decide_true,decide_false,simprocAttr,fb9]
  refine ⟨_,[],by simp,.bool,?_⟩
  by_cases h:s=⟨#[47]⟩
  ·rw [h,root_not]
  ·rw [← nodeR_eq s h,hp]
 | true=>
  repeat' (first|refine Go.a rfl ?_|refine Go.rg ?_|refine GoR.nil ?_|refine Go.ret ?_|refine Go.b rfl ?_|(refine GoR.o (by rfl) (by rfl) ?_;(conv=>arg 1;simp only [G,Z,Y,Gx,un_neg,cutD,decide_true,decide_false,simprocAttr,fb9,hp]);show GoR ..)|(refine GoR.c c78 (by rfl) (by rfl) rfl ?_;(refine (refPath s hs _).ret ?_))|refine GoR.s (by rfl) rfl rfl ?_|(refine GoR.splitG rfl (fun hc => ?_) (fun hc => ?_)<;>simp only [hc])|refine Go.condB rfl (fun hc => ?_) (fun hc => ?_))
  refine ⟨(by first | exact .inl rfl | exact .inr rfl),fin ?_⟩
  rw [resD_tmp (fn:=Tryz.f31) rfl]
  simp only [optThen_some,resultD_tmp,resultD_cell,G,Z,Y,Gx,un_neg,cutD,decide_true,decide_false,simprocAttr,fb9]
  refine ⟨_,[],by simp,.bool,?_⟩
  by_cases h:s=⟨#[47]⟩
  ·simp [h,root_not]
  ·rw [← nodeR_eq s h,hp]
   simp [h]
theorem refCheckStamp (s:St) (hs:s.org.size<1000000) (S:Mem):CallD Tryz.prog O 69 [.agg s.c] S fun d S'=>S'=S∧d = .int .i64 (chk s):=by
 obtain ⟨a,b,c,o⟩:=s
 have e1:=refIn (orc:=O) a
 have e2:=refIn (orc:=O) b
 have e3:=refIn (orc:=O) c
 simp only [St.c,chk]
 refine CallD.e Tryz.func69 rfl Tryz.ntmps69 (by rfl) ?_
 cases h1:inOk a<;>cases h2:inOk b<;>cases h3:inOk c<;>cases h4:pathOk o
 all_goals
  repeat' (first|refine Go.a rfl ?_|refine Go.rg ?_|refine GoR.nil ?_|refine Go.ret ?_|refine Go.b rfl ?_|(refine GoR.o (by rfl) (by rfl) ?_;(conv=>arg 1;simp only [G,Z,Y,Gx,un_neg,cutD,decide_true,decide_false,simprocAttr,fb2,fb9,fb41,h1,h2,h3,h4]);show GoR ..)|(refine GoR.c c101 (by rfl) (by rfl) rfl ?_;(first | (refine (e1 _).ret ?_) | (refine (e2 _).ret ?_) | (refine (e3 _).ret ?_)))|(refine GoR.c c31 (by rfl) (by rfl) rfl ?_;(refine (refNode _ hs _).ret ?_))|refine GoR.s (by rfl) rfl rfl ?_|(refine GoR.splitG rfl (fun hc => ?_) (fun hc => ?_)<;>simp only [hc])|refine Go.condB rfl (fun hc => ?_) (fun hc => ?_))
  refine ⟨(by first | exact .inl rfl | exact .inr rfl),fin ?_⟩
  rw [resD_tmp (fn:=Tryz.f69) rfl]
  simp only [optThen_some,resultD_tmp,resultD_cell,G,Z,Y,Gx,un_neg,cutD,decide_true,decide_false,simprocAttr,fb2,fb9,fb41]
  exact ⟨_,_,rfl,.int,by simp⟩
theorem refCompare (a b:St) (S:Mem):CallD Tryz.prog orc 52 [.agg a.c,.agg b.c] S fun d S'=>S'=S∧d = .int .i64 (cmpSt a b):=by
 obtain ⟨a1,a2,a3,a4⟩:=a
 obtain ⟨b1,b2,b3,b4⟩:=b
 simp only [St.c,cmpSt]
 refine CallD.e Tryz.func52 rfl Tryz.ntmps52 (by rfl) ?_
 repeat' (first|refine Go.a rfl ?_|refine Go.rg ?_|refine GoR.nil ?_|refine Go.ret ?_|refine Go.b rfl ?_|refine Go.rgS dmx (by decide) ?_|refine Go.rgD [6,8,11,13,16,18] (fun H=>objAt H S.length=some [.int .i64 a1,.int .i64 a2,.int .i64 a3,.str a4]∧objAt H (S.length+1)=some [.int .i64 b1,.int .i64 b2,.int .i64 b3,.str b4]) dmx (by decide) 19 (by decide) (by (simp only [List.append_assoc,List.cons_append,List.nil_append,objAt_app,objAt_app0,objAt_succ,objAt_zero,and_self])) ?_|refine GoW.nil rfl ?_|((first|refine GoR.o (by rfl) (by rfl) ?_|refine GoW.o (by rfl) (by rfl) ?_|refine GoW.rd (by rfl) (by rfl) ?_);(conv=>arg 1;simp only [G,Z,Y,Gx,un_neg,cutD,decide_true,decide_false,simprocAttr,fb2,fb3,fb9,fb41,fb143]);first|show GoR ..|(show _∧GoW ..;refine ⟨by (first|exact fun h=>absurd h (by decide)|(intro _;(simp only [List.append_assoc,List.cons_append,List.nil_append,objAt_app,objAt_app0,objAt_succ,objAt_zero,and_self]))),?_⟩)|(show _∧_∧_∧GoW ..;refine ⟨rfl,by (simp only [List.append_assoc,List.cons_append,List.nil_append,objAt_app,objAt_app0,objAt_succ,objAt_zero,and_self]),(fun H hI=>by (try dsimp only at hI);simp only [G,Z,Y,Gx,un_neg,cutD,decide_true,decide_false,simprocAttr,fb2,fb3,fb9,fb41,fb143,hI]),?_⟩))|(refine GoW.c c87 (by rfl) (by rfl) rfl ?_;(refine (refOrder _ _ _).ret ?_);refine ⟨by (first|exact fun h=>absurd h (by decide)|(intro _;(simp only [List.append_assoc,List.cons_append,List.nil_append,objAt_app,objAt_app0,objAt_succ,objAt_zero,and_self]))),?_⟩)|(refine GoR.c c87 (by rfl) (by rfl) rfl ?_;(refine (refOrder _ _ _).ret ?_))|(refine GoW.c c88 (by rfl) (by rfl) rfl ?_;(refine (refOrderText _ _ _).ret ?_);refine ⟨by (first|exact fun h=>absurd h (by decide)|(intro _;(simp only [List.append_assoc,List.cons_append,List.nil_append,objAt_app,objAt_app0,objAt_succ,objAt_zero,and_self]))),?_⟩)|(refine GoR.c c88 (by rfl) (by rfl) rfl ?_;(refine (refOrderText _ _ _).ret ?_))|refine Go.condB rfl (fun hc => ?_) (fun hc => ?_))
 generalize cmpI a1 b1=x1
 generalize cmpI a2 b2=x2
 generalize cmpI a3 b3=x3
 generalize cmpB a4 b4=x4
 generalize hE:S++[Ob.obj [D.int .i64 a1,.int .i64 a2,.int .i64 a3,.str a4],Ob.obj [.int .i64 b1,.int .i64 b2,.int .i64 b3,.str b4],Ob.own]=T
 have hlen:T.length=S.length+3:=by rw [← hE];simp
 generalize hl:[x1,x2,x3,x4]=l
 have hl4:l.length=4:=by rw [← hl];rfl
 have hints:intsD l=[.int .i64 x1,.int .i64 x2,.int .i64 x3,.int .i64 x4]:=by rw [← hl];rfl
 refine Go.keep [(5,.sl (some (S.length+2)) 1 4 (intsD l)),(6,.int .i64 ((0:Nat):Int))] (.cons (by rw [hints];exact .refl) (.cons .refl .nil)) ?_
 refine Go.while (α:=Nat) (fun i=>4 - i) (fun i=>[(5,.sl (some (S.length+2)) 1 4 (intsD l)),(6,.int .i64 (i:Int))]) (fun _=>T) (fun i=>i≤4 ∧ ∀ x∈l.take i,x=0) ?_ 0 ⟨Nat.zero_le _,by simp⟩
 rintro i ⟨hi,hz⟩ next
 by_cases h1:i<4
 ·have h2:i<l.length:=by omega
  have di:decide ((i:Int)<4)=true:=by simp;omega
  have hc4:(0≤(i:Int)∧(i:Int)<((4:Nat):Int))=True:=by simp;omega
  have hc4':(0≤(i:Int)∧(i:Int)<(4:Int))=True:=by simp;omega
  have hx:=(intsAt h2).2
  cases hn:(l[i] != 0) with
  | true=>
   clear next
   repeat' (first|refine Go.a rfl ?_|refine Go.rg ?_|refine GoR.nil ?_|refine Go.ret ?_|refine Go.b rfl ?_|refine Go.rgS dmx (by decide) ?_|refine Go.rgD [6,8,11,13,16,18] (fun _=>True) dmx (by decide) 19 (by decide) (by trivial) ?_|refine GoW.nil rfl ?_|((first|refine GoR.o (by rfl) (by rfl) ?_|refine GoW.o (by rfl) (by rfl) ?_|refine GoW.rd (by rfl) (by rfl) ?_);(conv=>arg 1;simp only [G,Z,Y,Gx,un_neg,cutD,decide_true,decide_false,simprocAttr,fb2,fb3,fb9,fb41,fb143,di,hc4,hc4',hx,hn]);first|show GoR ..|(show _∧GoW ..;refine ⟨by exact fun _=>trivial,?_⟩)|(show _∧_∧_∧GoW ..;refine ⟨rfl,by trivial,(fun H _=>by simp only [G,Z,Y,Gx,un_neg,cutD,decide_true,decide_false,simprocAttr,fb2,fb3,fb9,fb41,fb143,di,hc4,hc4',hx,hn]),?_⟩))|refine Go.condB rfl (fun hc => ?_) (fun hc => ?_))
   refine ⟨(by first | exact .inl rfl | exact .inr rfl),fin ?_⟩
   rw [resD_tmp (fn:=Tryz.f52) rfl]
   simp only [optThen_some,resultD_tmp,resultD_cell,G,Z,Y,Gx,un_neg,cutD,decide_true,decide_false,simprocAttr,fb2,fb3,fb9,fb41,fb143]
   refine ⟨_,_,hE.symm,.int,?_⟩
   have hne:l[i]≠0:=by simpa using hn
   have:orI l=orI (l.take i++l.drop i):=by rw [List.take_append_drop]
   rw [this,orI_drop hz,List.drop_eq_getElem_cons h2]
   simp [orI,hne]
  | false=>
   repeat' (first|refine Go.a rfl ?_|refine Go.rg ?_|refine GoR.nil ?_|refine Go.ret ?_|refine Go.b rfl ?_|refine Go.rgS dmx (by decide) ?_|refine Go.rgD [6,8,11,13,16,18] (fun _=>True) dmx (by decide) 19 (by decide) (by trivial) ?_|refine GoW.nil rfl ?_|((first|refine GoR.o (by rfl) (by rfl) ?_|refine GoW.o (by rfl) (by rfl) ?_|refine GoW.rd (by rfl) (by rfl) ?_);(conv=>arg 1;simp only [G,Z,Y,Gx,un_neg,cutD,decide_true,decide_false,simprocAttr,fb2,fb3,fb9,fb41,fb143,di,hc4,hc4',hx,hn,wrap_succ (show i<4611686018427387904 by omega)]);first|show GoR ..|(show _∧GoW ..;refine ⟨by exact fun _=>trivial,?_⟩)|(show _∧_∧_∧GoW ..;refine ⟨rfl,by trivial,(fun H _=>by simp only [G,Z,Y,Gx,un_neg,cutD,decide_true,decide_false,simprocAttr,fb2,fb3,fb9,fb41,fb143,di,hc4,hc4',hx,hn,wrap_succ (show i<4611686018427387904 by omega)]),?_⟩))|refine Go.condB rfl (fun hc => ?_) (fun hc => ?_))
   refine Go.lpN ?_
   refine Go.keep [(5,.sl (some (S.length+2)) 1 4 (intsD l)),(6,.int .i64 ((i+1:Nat):Int))] (.cons .refl (.cons .refl (.nil))) ?_
   refine next (i+1) (by omega) ⟨h1,fun x hx => ?_⟩
   clear next
   rw [List.take_succ_eq_append_getElem h2,List.mem_append] at hx
   rcases hx with hx | hx
   ·exact hz x hx
   ·have:l[i]=0:=by simpa using hn
    simp at hx
    exact hx.trans this
 ·clear next
  have di:decide ((i:Int)<4)=false:=by simp;omega
  repeat' (first|refine Go.a rfl ?_|refine Go.rg ?_|refine GoR.nil ?_|refine Go.ret ?_|refine Go.b rfl ?_|refine Go.rgS dmx (by decide) ?_|refine Go.rgD [6,8,11,13,16,18] (fun _=>True) dmx (by decide) 19 (by decide) (by trivial) ?_|refine GoW.nil rfl ?_|((first|refine GoR.o (by rfl) (by rfl) ?_|refine GoW.o (by rfl) (by rfl) ?_|refine GoW.rd (by rfl) (by rfl) ?_);(conv=>arg 1;simp only [G,Z,Y,Gx,un_neg,cutD,decide_true,decide_false,simprocAttr,fb2,fb3,fb9,fb41,fb143,di]);first|show GoR ..|(show _∧GoW ..;refine ⟨by exact fun _=>trivial,?_⟩)|(show _∧_∧_∧GoW ..;refine ⟨rfl,by trivial,(fun H _=>by simp only [G,Z,Y,Gx,un_neg,cutD,decide_true,decide_false,simprocAttr,fb2,fb3,fb9,fb41,fb143,di]),?_⟩))|refine Go.condB rfl (fun hc => ?_) (fun hc => ?_))
  refine ⟨(by first | exact .inl rfl | exact .inr rfl),fin ?_⟩
  rw [resD_tmp (fn:=Tryz.f52) rfl]
  simp only [optThen_some,resultD_tmp,resultD_cell,G,Z,Y,Gx,un_neg,cutD,decide_true,decide_false,simprocAttr,fb2,fb3,fb9,fb41,fb143]
  refine ⟨_,_,hE.symm,.int,?_⟩
  have:i=l.length:=by omega
  subst this
  rw [List.take_length] at hz
  have:=orI_drop hz (m:=[])
  rw [List.append_nil] at this
  simp [this,orI]
end Go.Proofs.DtT
namespace Go.Proofs.DtT
open Go Go.DM Go.Proofs.DtF
set_option maxRecDepth 100000
variable {orc:DOracle}
end Go.Proofs.DtT
