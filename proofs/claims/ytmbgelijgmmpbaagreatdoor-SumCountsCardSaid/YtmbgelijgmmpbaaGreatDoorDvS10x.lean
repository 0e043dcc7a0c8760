/- The document's own stamps: which may be, which is newer, in words. -/
import Derived.Test.YtmbgelijgmmpbaaGreatDoorDvS1x
set_option linter.unusedSimpArgs false
set_option linter.unusedVariables false
namespace Go.Proofs.DvT
open Go Go.DM Go.Proofs.DvF
set_option maxRecDepth 100000
variable {orc:DOracle}
theorem ofSt (s:St) (S:Mem):CallD Tryz.prog orc 64 [.agg s.c] S fun d S'=>S'=S∧d = .agg s.c:=by
 obtain ⟨a,b,c,o⟩:=s
 simp only [St.c]
 refine CallD.e Tryz.func64 rfl Tryz.ntmps64 (by rfl) ?_
 repeat' (first|refine Go.a rfl ?_|refine Go.rg ?_|refine GoR.nil ?_|refine Go.ret ?_|refine Go.b rfl ?_|(refine GoR.o (by rfl) (by rfl) ?_;(conv=>arg 1;simp only [G,Z,Y,Gx,un_neg,cutD,decide_true,decide_false,simprocAttr,fb2,fb9,fb61,fb66]);show GoR ..)|refine Go.condB rfl (fun hc => ?_) (fun hc => ?_))
 refine ⟨(by first | exact .inl rfl | exact .inr rfl),fin ?_⟩
 rw [resD_cell (fn:=Tryz.f64) rfl]
 simp only [optThen_some,resultD_tmp,resultD_cell,G,Z,Y,Gx,un_neg,cutD,decide_true,decide_false,simprocAttr,fb2,fb9,fb61,fb66]
 exact ⟨_,_,rfl,.of_low (.agg' St.low),rfl⟩
theorem refIn (n:Int) (S:Mem):CallD Tryz.prog orc 104 [.int .i64 n] S fun d S'=>S'=S∧d = .bool (inOk n):=by
 refine CallD.e Tryz.func104 rfl Tryz.ntmps104 (by rfl) ?_
 repeat' (first|refine Go.a rfl ?_|refine Go.rg ?_|refine GoR.nil ?_|refine Go.ret ?_|refine Go.b rfl ?_|(refine GoR.o (by rfl) (by rfl) ?_;(conv=>arg 1;simp only [G,Z,Y,Gx,un_neg,cutD,decide_true,decide_false,simprocAttr,fb2]);show GoR ..)|refine GoR.s (by rfl) rfl rfl ?_|(refine GoR.splitG rfl (fun hc => ?_) (fun hc => ?_)<;>simp only [hc])|refine Go.condB rfl (fun hc => ?_) (fun hc => ?_))
 all_goals
  refine ⟨(by first | exact .inl rfl | exact .inr rfl),fin ?_⟩
  rw [resD_tmp (fn:=Tryz.f104) rfl]
  simp only [optThen_some,resultD_tmp,resultD_cell,G,Z,Y,Gx,un_neg,cutD,decide_true,decide_false,simprocAttr,fb2]
  refine ⟨_,[],by simp,.bool,?_⟩
  first
   | (simp_all [inOk];done)
   | (simp_all [inOk];omega)
theorem refName (s:ByteArray) (hs:s.size<4611686018427387904) (S:Mem):CallD Tryz.prog orc 31 [.str s] S fun d S'=>S'=S∧d = .bool (nameOk s):=by
 refine CallD.e Tryz.func31 rfl Tryz.ntmps31 (by rfl) ?_
 by_cases h0:s.size=0
 ·repeat' (first|refine Go.a rfl ?_|refine Go.rg ?_|refine GoR.nil ?_|refine Go.ret ?_|refine Go.b rfl ?_|(refine GoR.o (by rfl) (by rfl) ?_;(conv=>arg 1;simp only [G,Z,Y,Gx,un_neg,cutD,decide_true,decide_false,simprocAttr,fb3,fb5,fb9,h0,show (decide (((0:Nat):Int)<1))=true by decide]);show GoR ..)|refine GoR.s (by rfl) rfl rfl ?_|(refine GoR.splitG rfl (fun hc => ?_) (fun hc => ?_)<;>simp only [hc])|refine Go.condB rfl (fun hc => ?_) (fun hc => ?_))
  refine ⟨(by first | exact .inl rfl | exact .inr rfl),fin ?_⟩
  rw [resD_tmp (fn:=Tryz.f31) rfl]
  simp only [optThen_some,resultD_tmp,resultD_cell,G,Z,Y,Gx,un_neg,cutD,decide_true,decide_false,simprocAttr,fb3,fb5,fb9]
  exact ⟨_,[],by simp,.bool,by simp [nameOk,h0]⟩
 ·have h1:0<s.size:=by omega
  repeat' (first|refine Go.a rfl ?_|refine Go.rg ?_|refine GoR.nil ?_|refine Go.ret ?_|refine Go.b rfl ?_|(refine GoR.o (by rfl) (by rfl) ?_;(conv=>arg 1;simp only [G,Z,Y,Gx,un_neg,cutD,decide_true,decide_false,simprocAttr,fb3,fb5,fb9,indexStr_zero h1,show (decide ((s.size:Int)<1))=false by simp;omega]);show GoR ..)|refine GoR.s (by rfl) rfl rfl ?_|(refine GoR.splitG rfl (fun hc => ?_) (fun hc => ?_)<;>simp only [hc])|refine Go.condB rfl (fun hc => ?_) (fun hc => ?_))
  rotate_right
  ·refine Go.keep [(0,.str s),(3,.int .i64 ((0:Nat):Int))] (.cons .refl (.cons .refl (.nil))) ?_
   refine Go.while (α:=Nat) (fun i=>s.size - i) (fun i=>[(0,.str s),(3,.int .i64 (i:Int))]) (fun _=>S) (fun i=>i≤s.size ∧ ∀ j (h:j<s.size),j<i→(lowB (s.data[j]'h) || digB (s.data[j]'h))=true) ?_ 0 ⟨Nat.zero_le _,by simp⟩
   rintro i ⟨hi,hk⟩ next
   repeat' (first|refine Go.a rfl ?_|refine Go.rg ?_|refine GoR.nil ?_|refine Go.ret ?_|refine Go.b rfl ?_|(refine GoR.o (by rfl) (by rfl) ?_;(conv=>arg 1;simp only [G,Z,Y,Gx,un_neg,cutD,decide_true,decide_false,simprocAttr,fb3,fb5,fb9]);show GoR ..)|refine GoR.s (by rfl) rfl rfl ?_|(refine GoR.splitG rfl (fun hc => ?_) (fun hc => ?_)<;>simp only [hc])|refine Go.condB rfl (fun hc => ?_) (fun hc => ?_))
   ·have h2:i<s.size:=by simpa using hc
    repeat' (first|refine Go.a rfl ?_|refine Go.rg ?_|refine GoR.nil ?_|refine Go.ret ?_|refine Go.b rfl ?_|(refine GoR.o (by rfl) (by rfl) ?_;(conv=>arg 1;simp only [G,Z,Y,Gx,un_neg,cutD,decide_true,decide_false,simprocAttr,fb3,fb5,fb9,indexStr_cast h2,wrap_succ (show i<4611686018427387904 by omega)]);show GoR ..)|refine GoR.s (by rfl) rfl rfl ?_|(refine GoR.splitG rfl (fun hc => ?_) (fun hc => ?_)<;>simp only [hc])|refine Go.condB rfl (fun hc => ?_) (fun hc => ?_))
    all_goals first
     | (
       refine Go.lpN ?_
       refine Go.keep [(0,.str s),(3,.int .i64 ((i+1:Nat):Int))] (.cons .refl (.cons .refl (.nil))) ?_
       refine next (i+1) (by omega) ⟨h2,fun j hj hlt => ?_⟩
       clear next
       rcases Nat.lt_or_ge j i with h | h
       ·exact hk j hj h
       ·obtain rfl:j=i:=by omega
        clear hk
        simp [lowB,digB] at *
        omega)
     | (
       clear next
       refine ⟨(by first | exact .inl rfl | exact .inr rfl),fin ?_⟩
       rw [resD_tmp (fn:=Tryz.f31) rfl]
       simp only [optThen_some,resultD_tmp,resultD_cell,G,Z,Y,Gx,un_neg,cutD,decide_true,decide_false,simprocAttr,fb3,fb5,fb9]
       refine ⟨_,[],by simp,.bool,?_⟩
       have hp:(fun b=>lowB b || digB b) (s.data[i]'h2)=false:=by
        clear hk
        simp [lowB,digB] at *
        omega
       simp only [nameOk,bytes_false (p:=fun b=>lowB b || digB b) h2 hp,Bool.and_false])
   ·clear next
    refine ⟨(by first | exact .inl rfl | exact .inr rfl),fin ?_⟩
    rw [resD_tmp (fn:=Tryz.f31) rfl]
    simp only [optThen_some,resultD_tmp,resultD_cell,G,Z,Y,Gx,un_neg,cutD,decide_true,decide_false,simprocAttr,fb3,fb5,fb9]
    refine ⟨_,[],by simp,.bool,?_⟩
    rw [nameOk,bytes_true fun j hj=>hk j hj (by simp at hc;omega)]
    have h00:s.data[0]?=some (s.data[0]'h1):=Array.getElem?_eq_getElem h1
    rw [h00]
    clear hk
    simp [lowB] at *
    omega
  all_goals
   refine ⟨(by first | exact .inl rfl | exact .inr rfl),fin ?_⟩
   rw [resD_tmp (fn:=Tryz.f31) rfl]
   simp only [optThen_some,resultD_tmp,resultD_cell,G,Z,Y,Gx,un_neg,cutD,decide_true,decide_false,simprocAttr,fb3,fb5,fb9]
   refine ⟨_,[],by simp,.bool,?_⟩
   have h00:s.data[0]?=some (s.data[0]'h1):=Array.getElem?_eq_getElem h1
   rw [nameOk,h00]
   simp [lowB] at *
   omega
def cutD (s:ByteArray):D:=
 if s.data[0]?=some 47 then (if s.size=1 then .tup [.nils,.bool true] else .tup [.sl none 1 (AvT.cutP (s.data.toList.drop 1)).length ((AvT.cutP (s.data.toList.drop 1)).map .str),.bool true]) else .tup [.nils,.bool false]
theorem one_slash {s:ByteArray} (h:s.data[0]?=some 47) (h1:s.size=1):s=⟨#[47]⟩:=by
 obtain ⟨⟨l⟩⟩:=s
 have hl:l.length=1:=h1
 match l,hl with
 | [x],_=>
  have:x=47:=by simpa using h
  rw [this]
theorem refCut (s:ByteArray) (hs:s.size<1000000) (S:Mem):CallD Tryz.prog O 180 [.str s] S fun d S'=>S'=S∧d=cutD s:=by
 by_cases h0:s.size=0
 ·have e:s=⟨#[]⟩:=by
   obtain ⟨d⟩:=s
   simp only [ByteArray.size,Array.size_eq_zero_iff] at h0
   rw [h0]
  subst e
  refine CallD.e Tryz.func180 rfl Tryz.ntmps180 (by rfl) ?_
  repeat' (first|refine Go.a rfl ?_|refine Go.rg ?_|refine GoR.nil ?_|refine Go.ret ?_|refine Go.b rfl ?_|refine Go.rgS dmx (by decide) ?_|(refine GoR.o (by rfl) (by rfl) ?_;(conv=>arg 1;simp only [G,Z,Y,Gx,un_neg,cutD,decide_true,decide_false,simprocAttr,fb3,fb5,fb9,fb70]);show GoR ..)|refine GoR.s (by rfl) rfl rfl ?_|(refine GoR.splitG rfl (fun hc => ?_) (fun hc => ?_)<;>simp only [hc])|refine Go.condB rfl (fun hc => ?_) (fun hc => ?_))
  refine ⟨(by first | exact .inl rfl | exact .inr rfl),fin ?_⟩
  rw [resD_two (fn:=Tryz.f180) rfl]
  simp only [optThen_some,resultD_tmp,resultD_cell,G,Z,Y,Gx,un_neg,cutD,decide_true,decide_false,simprocAttr,fb3,fb5,fb9,fb70]
  exact ⟨_,[],by simp,.of_low (.tup' (.cons .nils (.cons (.bool _) .nil))),rfl⟩
 have hp:0<s.size:=by omega
 have hg:s.data[0]?=some (s.data[0]'hp):=Array.getElem?_eq_getElem hp
 have hne:decide (s=(⟨#[]⟩:ByteArray))=false:=by
  rw [decide_eq_false_iff_not]
  rintro rfl
  exact h0 rfl
 by_cases h47:s.data[0]'hp=47
 ·have h47':s.data[0]?=some 47:=by rw [hg,h47]
  by_cases h1:s.size=1
  ·have e:=one_slash h47' h1
   subst e
   refine CallD.e Tryz.func180 rfl Tryz.ntmps180 (by rfl) ?_
   repeat' (first|refine Go.a rfl ?_|refine Go.rg ?_|refine GoR.nil ?_|refine Go.ret ?_|refine Go.b rfl ?_|refine Go.rgS dmx (by decide) ?_|(refine GoR.o (by rfl) (by rfl) ?_;(conv=>arg 1;simp only [G,Z,Y,Gx,un_neg,cutD,decide_true,decide_false,simprocAttr,fb3,fb5,fb9,fb70,hne,indexStr_zero hp,h47,show (((47:UInt8).toNat:Int) != 47)=false from rfl,show decide ((⟨#[47]⟩:ByteArray)=⟨#[47]⟩)=true from rfl]);show GoR ..)|refine GoR.s (by rfl) rfl rfl ?_|(refine GoR.splitG rfl (fun hc => ?_) (fun hc => ?_)<;>simp only [hc])|refine Go.condB rfl (fun hc => ?_) (fun hc => ?_))
   refine ⟨(by first | exact .inl rfl | exact .inr rfl),fin ?_⟩
   rw [resD_two (fn:=Tryz.f180) rfl]
   simp only [optThen_some,resultD_tmp,resultD_cell,G,Z,Y,Gx,un_neg,cutD,decide_true,decide_false,simprocAttr,fb3,fb5,fb9,fb70]
   exact ⟨_,[],by simp,.of_low (.tup' (.cons .nils (.cons (.bool _) .nil))),rfl⟩
  ·rw [cutD,if_pos h47',if_neg h1]
   exact cutO s hs h47' (by omega) S
 ·have b47:(((s.data[0]'hp).toNat:Int) != 47)=true:=by
   rw [bne_iff_ne]
   intro h
   refine h47 (UInt8.toNat_inj.1 ?_)
   show _=47
   omega
  refine CallD.e Tryz.func180 rfl Tryz.ntmps180 (by rfl) ?_
  repeat' (first|refine Go.a rfl ?_|refine Go.rg ?_|refine GoR.nil ?_|refine Go.ret ?_|refine Go.b rfl ?_|refine Go.rgS dmx (by decide) ?_|(refine GoR.o (by rfl) (by rfl) ?_;(conv=>arg 1;simp only [G,Z,Y,Gx,un_neg,cutD,decide_true,decide_false,simprocAttr,fb3,fb5,fb9,fb70,hne,indexStr_zero hp,b47]);show GoR ..)|refine GoR.s (by rfl) rfl rfl ?_|(refine GoR.splitG rfl (fun hc => ?_) (fun hc => ?_)<;>simp only [hc])|refine Go.condB rfl (fun hc => ?_) (fun hc => ?_))
  refine ⟨(by first | exact .inl rfl | exact .inr rfl),fin ?_⟩
  rw [resD_two (fn:=Tryz.f180) rfl]
  simp only [optThen_some,resultD_tmp,resultD_cell,G,Z,Y,Gx,un_neg,cutD,decide_true,decide_false,simprocAttr,fb3,fb5,fb9,fb70]
  refine ⟨_,[],by simp,.of_low (.tup' (.cons .nils (.cons (.bool _) .nil))),?_⟩
  have hn : ¬ s.data[0]?=some 47:=by
   rw [hg]
   intro h
   exact h47 (Option.some.inj h)
  exact ((congrArg _ rfl).trans (if_neg hn).symm)
end Go.Proofs.DvT
namespace Go.Proofs.DvT
open Go Go.DM Go.Proofs.DvF
set_option maxRecDepth 100000
variable {orc:DOracle}
def piecesR (s:ByteArray):List ByteArray:=if s.size=1 then [] else AvT.cutP (s.data.toList.drop 1)
def pathR (s:ByteArray):Bool:=decide (s.data[0]?=some 47)&&(piecesR s).all nameOk&&decide ((piecesR s).length≤4)
theorem cutP_small (l:List UInt8) : ∀ x∈AvT.cutP l,x.size≤l.length:=by
 have key : ∀ (l:List UInt8) (p:List ByteArray×ByteArray) (B:Nat),(∀ x∈p.1,x.size≤B)→p.2.size+l.length≤B → ∀ x∈(l.foldl AvT.stepC p).1++[(l.foldl AvT.stepC p).2],x.size≤B:=by
  intro l
  induction l with
  | nil=>
   intro p B h1 h2 x hx
   rcases List.mem_append.1 hx with hx | hx
   ·exact h1 x hx
   ·simp at hx
    subst hx
    simpa using h2
  | cons b l ih=>
   intro p B h1 h2
   rw [List.foldl_cons]
   rw [List.length_cons] at h2
   unfold AvT.stepC
   split
   ·refine ih _ B (fun x hx => ?_) ?_
    ·rcases List.mem_append.1 hx with hx | hx
     ·exact h1 x hx
     ·simp at hx
      subst hx
      omega
    ·show 0+_≤_
     omega
   ·refine ih _ B h1 ?_
    rw [ByteArray.size_append]
    show _+1+_≤_
    omega
 exact key l ([],⟨#[]⟩) l.length (by simp) (by show 0+_≤_;omega)
theorem refParse (s:ByteArray) (hs:s.size<1000000) (S:Mem):CallD Tryz.prog O 159 [.str s] S fun d S'=>S'=S ∧ ∃ x e,d = .tup [x,.int .i64 e]∧((e=0)↔pathR s=true):=by
 refine CallD.e Tryz.func159 rfl Tryz.ntmps159 (by rfl) ?_
 by_cases h47:s.data[0]?=some 47
 ·by_cases h1:s.size=1
  ·have e:cutD s = .tup [.nils,.bool true]:=by rw [cutD,if_pos h47,if_pos h1]
   have hcut:=fun S=>refCut s hs S
   simp only [e] at hcut
   repeat' (first|refine Go.a rfl ?_|refine Go.rg ?_|refine GoR.nil ?_|refine Go.ret ?_|refine Go.b rfl ?_|(refine GoR.o (by rfl) (by rfl) ?_;(conv=>arg 1;simp only [G,Z,Y,Gx,un_neg,cutD,decide_true,decide_false,simprocAttr,fb3,fb9,fb70]);show GoR ..)|(refine GoR.c c180 (by rfl) (by rfl) rfl ?_;(refine (hcut _).ret ?_))|refine Go.condB rfl (fun hc => ?_) (fun hc => ?_))
   refine Go.keep [(4,.nils),(6,.int .i64 ((0:Nat):Int))] (.cons .refl (.cons .refl (.nil))) ?_
   refine Go.loop ?_
   repeat' (first|refine Go.a rfl ?_|refine Go.rg ?_|refine GoR.nil ?_|refine Go.ret ?_|refine Go.b rfl ?_|(refine GoR.o (by rfl) (by rfl) ?_;(conv=>arg 1;simp only [G,Z,Y,Gx,un_neg,cutD,decide_true,decide_false,simprocAttr,fb3,fb9,fb70]);show GoR ..)|refine Go.condB rfl (fun hc => ?_) (fun hc => ?_))
   refine ⟨(by first | exact .inl rfl | exact .inr rfl),fin ?_⟩
   rw [resD_two (fn:=Tryz.f159) rfl]
   simp only [optThen_some,resultD_tmp,resultD_cell,G,Z,Y,Gx,un_neg,cutD,decide_true,decide_false,simprocAttr,fb3,fb9,fb70]
   exact ⟨_,[],by simp,.of_low (.tup' (.cons .nils (.cons (.int _ _) .nil))),_,_,rfl,⟨fun _=>(by unfold pathR piecesR;rw [if_pos h1,decide_eq_true h47];rfl),fun _=>rfl⟩⟩
  ·generalize hl:AvT.cutP (s.data.toList.drop 1)=l
   have hll:l.length≤s.size+1:=by
    rw [← hl,AvT.cutP,List.length_append]
    have:=AvT.cutL_count (s.data.toList.drop 1)
    rw [List.length_drop] at this
    have e2:s.data.toList.length=s.size:=by simp
    rw [List.length_cons,List.length_nil]
    omega
   have hp:piecesR s=l:=by rw [piecesR,if_neg h1,hl]
   have e:cutD s = .tup [.sl none 1 l.length (l.map .str),.bool true]:=by rw [cutD,if_pos h47,if_neg h1,hl]
   have hcut:=fun S=>refCut s hs S
   simp only [e] at hcut
   repeat' (first|refine Go.a rfl ?_|refine Go.rg ?_|refine GoR.nil ?_|refine Go.ret ?_|refine Go.b rfl ?_|(refine GoR.o (by rfl) (by rfl) ?_;(conv=>arg 1;simp only [G,Z,Y,Gx,un_neg,cutD,decide_true,decide_false,simprocAttr,fb3,fb9,fb70]);show GoR ..)|(refine GoR.c c180 (by rfl) (by rfl) rfl ?_;(refine (hcut _).ret ?_))|refine Go.condB rfl (fun hc => ?_) (fun hc => ?_))
   refine Go.keep [(4,.sl none 1 l.length (l.map .str)),(6,.int .i64 ((0:Nat):Int))] (.cons .refl (.cons .refl (.nil))) ?_
   refine Go.while (α:=Nat) (fun i=>l.length - i) (fun i=>[(4,.sl none 1 l.length (l.map .str)),(6,.int .i64 (i:Int))]) (fun _=>S) (fun i=>i≤l.length ∧ ∀ j (h:j<l.length),j<i→nameOk l[j]=true) ?_ 0 ⟨Nat.zero_le _,by simp⟩
   rintro i ⟨hi,hk⟩ next
   by_cases hil:i<l.length
   ·have di:decide ((i:Int)<(l.length:Int))=true:=by simp;omega
    have hsz:l[i].size<4611686018427387904:=by
     have:=cutP_small (s.data.toList.drop 1) l[i] (by rw [hl];exact List.getElem_mem _)
     rw [List.length_drop] at this
     have e2:s.data.toList.length=s.size:=by simp
     omega
    cases hn:nameOk l[i] with
    | true=>
     repeat' (first|refine Go.a rfl ?_|refine Go.rg ?_|refine GoR.nil ?_|refine Go.ret ?_|refine Go.b rfl ?_|(refine GoR.o (by rfl) (by rfl) ?_;(conv=>arg 1;simp only [G,Z,Y,Gx,un_neg,cutD,decide_true,decide_false,simprocAttr,fb3,fb9,fb70,di,strsAt hil,wrap_succ (show i<4611686018427387904 by omega),hn]);show GoR ..)|(refine GoR.c c31 (by rfl) (by rfl) rfl ?_;(refine (refName _ hsz _).ret ?_))|refine Go.condB rfl (fun hc => ?_) (fun hc => ?_))
     refine Go.lpN ?_
     refine Go.keep [(4,.sl none 1 l.length (l.map .str)),(6,.int .i64 ((i+1:Nat):Int))] (.cons .refl (.cons .refl (.nil))) ?_
     refine next (i+1) (by omega) ⟨hil,fun j hj hlt => ?_⟩
     rcases Nat.lt_or_ge j i with h | h
     ·exact hk j hj h
     ·obtain rfl:j=i:=by omega
      exact hn
    | false=>
     clear next
     repeat' (first|refine Go.a rfl ?_|refine Go.rg ?_|refine GoR.nil ?_|refine Go.ret ?_|refine Go.b rfl ?_|(refine GoR.o (by rfl) (by rfl) ?_;(conv=>arg 1;simp only [G,Z,Y,Gx,un_neg,cutD,decide_true,decide_false,simprocAttr,fb3,fb9,fb70,di,strsAt hil,hn]);show GoR ..)|(refine GoR.c c31 (by rfl) (by rfl) rfl ?_;(refine (refName _ hsz _).ret ?_))|refine Go.condB rfl (fun hc => ?_) (fun hc => ?_))
     refine ⟨(by first | exact .inl rfl | exact .inr rfl),fin ?_⟩
     rw [resD_two (fn:=Tryz.f159) rfl]
     simp only [optThen_some,resultD_tmp,resultD_cell,G,Z,Y,Gx,un_neg,cutD,decide_true,decide_false,simprocAttr,fb3,fb9,fb70]
     refine ⟨_,[],by simp,.of_low (.tup' (.cons .nils (.cons (.int _ _) .nil))),_,_,rfl,?_⟩
     have:l.all nameOk=false:=List.all_eq_false.2 ⟨_,List.getElem_mem hil,by simp [hn]⟩
     simp [pathR,hp,this]
   ·clear next
    have di:decide ((i:Int)<(l.length:Int))=false:=by simp;omega
    have hall:l.all nameOk=true:=by
     rw [List.all_eq_true]
     intro x hx
     obtain ⟨j,hj,rfl⟩:=List.mem_iff_getElem.1 hx
     exact hk j hj (by omega)
    by_cases h4:4<l.length
    ·have d4:decide (4<(l.length:Int))=true:=by simp;omega
     repeat' (first|refine Go.a rfl ?_|refine Go.rg ?_|refine GoR.nil ?_|refine Go.ret ?_|refine Go.b rfl ?_|(refine GoR.o (by rfl) (by rfl) ?_;(conv=>arg 1;simp only [G,Z,Y,Gx,un_neg,cutD,decide_true,decide_false,simprocAttr,fb3,fb9,fb70,di,d4]);show GoR ..)|refine Go.condB rfl (fun hc => ?_) (fun hc => ?_))
     refine ⟨(by first | exact .inl rfl | exact .inr rfl),fin ?_⟩
     rw [resD_two (fn:=Tryz.f159) rfl]
     simp only [optThen_some,resultD_tmp,resultD_cell,G,Z,Y,Gx,un_neg,cutD,decide_true,decide_false,simprocAttr,fb3,fb9,fb70]
     refine ⟨_,[],by simp,.of_low (.tup' (.cons .nils (.cons (.int _ _) .nil))),_,_,rfl,?_⟩
     simp [pathR,hp,hall]
     omega
    ·have d4:decide (4<(l.length:Int))=false:=by simp;omega
     repeat' (first|refine Go.a rfl ?_|refine Go.rg ?_|refine GoR.nil ?_|refine Go.ret ?_|refine Go.b rfl ?_|(refine GoR.o (by rfl) (by rfl) ?_;(conv=>arg 1;simp only [G,Z,Y,Gx,un_neg,cutD,decide_true,decide_false,simprocAttr,fb3,fb9,fb70,di,d4]);show GoR ..)|refine Go.condB rfl (fun hc => ?_) (fun hc => ?_))
     refine ⟨(by first | exact .inl rfl | exact .inr rfl),fin ?_⟩
     rw [resD_two (fn:=Tryz.f159) rfl]
     simp only [optThen_some,resultD_tmp,resultD_cell,G,Z,Y,Gx,un_neg,cutD,decide_true,decide_false,simprocAttr,fb3,fb9,fb70]
     have hlow:LowL S.length (l.map D.str):=.of_mem (by simp;intros;constructor)
     refine ⟨_,[],by simp,.of_low (.tup' (.cons (.sl none 1 _ _ (fun id h=>by cases h) hlow.get) (.cons (.int _ _) .nil))),_,_,rfl,?_⟩
     simp [pathR,hp,hall,h47]
     omega
 ·have e:cutD s = .tup [.nils,.bool false]:=by rw [cutD,if_neg h47]
  have hcut:=fun S=>refCut s hs S
  simp only [e] at hcut
  repeat' (first|refine Go.a rfl ?_|refine Go.rg ?_|refine GoR.nil ?_|refine Go.ret ?_|refine Go.b rfl ?_|(refine GoR.o (by rfl) (by rfl) ?_;(conv=>arg 1;simp only [G,Z,Y,Gx,un_neg,cutD,decide_true,decide_false,simprocAttr,fb3,fb9,fb70]);show GoR ..)|(refine GoR.c c180 (by rfl) (by rfl) rfl ?_;(refine (hcut _).ret ?_))|refine Go.condB rfl (fun hc => ?_) (fun hc => ?_))
  refine ⟨(by first | exact .inl rfl | exact .inr rfl),fin ?_⟩
  rw [resD_two (fn:=Tryz.f159) rfl]
  simp only [optThen_some,resultD_tmp,resultD_cell,G,Z,Y,Gx,un_neg,cutD,decide_true,decide_false,simprocAttr,fb3,fb9,fb70]
  exact ⟨_,[],by simp,.of_low (.tup' (.cons .nils (.cons (.int _ _) .nil))),_,_,rfl,by simp [pathR,h47]⟩
theorem nodeR_eq (s:ByteArray) (hs:s≠⟨#[47]⟩):pathR s=pathOk s:=by
 unfold pathR pathOk
 rw [hasB47]
 by_cases h47:s.data[0]?=some 47
 ·have h1:s.size≠1:=fun h=>hs (one_slash h47 h)
  have hh:hasB s ⟨#[47]⟩=true:=by rw [hasB47,decide_eq_true h47]
  rw [piecesR,if_neg h1,pieces_cut,trimB47 hh]
 ·rw [decide_eq_false h47]
  rfl
theorem root_not:pathOk ⟨#[47]⟩=false:=by decide +kernel
theorem refPath (s:ByteArray) (hs:s.size<1000000) (S:Mem):CallD Tryz.prog O 138 [.str s] S fun d S'=>S'=S∧d = .bool (pathR s):=by
 refine CallD.e Tryz.func138 rfl Tryz.ntmps138 (by rfl) ?_
 repeat' (first|refine Go.a rfl ?_|refine Go.rg ?_|refine GoR.nil ?_|refine Go.ret ?_|refine Go.b rfl ?_|(refine GoR.o (by rfl) (by rfl) ?_;(conv=>arg 1;simp only [G,Z,Y,Gx,un_neg,cutD,decide_true,decide_false,simprocAttr,fb3]);show GoR ..)|(refine GoR.c c159 (by rfl) (by rfl) rfl ?_;(refine (refParse s hs _).retE ?_;rintro _ ⟨x,e,rfl,he⟩))|refine Go.condB rfl (fun hc => ?_) (fun hc => ?_))
 refine ⟨(by first | exact .inl rfl | exact .inr rfl),fin ?_⟩
 rw [resD_tmp (fn:=Tryz.f138) rfl]
 simp only [optThen_some,resultD_tmp,resultD_cell,G,Z,Y,Gx,un_neg,cutD,decide_true,decide_false,simprocAttr,fb3]
 refine ⟨_,[],by simp,.bool,?_⟩
 rw [D.bool.injEq,Bool.eq_iff_iff,beq_iff_eq]
 exact he
theorem refNode (s:ByteArray) (hs:s.size<1000000) (S:Mem):CallD Tryz.prog O 105 [.str s] S fun d S'=>S'=S∧d = .bool (pathOk s):=by
 refine CallD.e Tryz.func105 rfl Tryz.ntmps105 (by rfl) ?_
 cases hp:pathR s with
 | false=>
  repeat' (first|refine Go.a rfl ?_|refine Go.rg ?_|refine GoR.nil ?_|refine Go.ret ?_|refine Go.b rfl ?_|(refine GoR.o (by rfl) (by rfl) ?_;(conv=>arg 1;simp only [G,Z,Y,Gx,un_neg,cutD,decide_true,decide_false,simprocAttr,fb9,hp]);show GoR ..)|(refine GoR.c c138 (by rfl) (by rfl) rfl ?_;(refine (refPath s hs _).ret ?_))|refine GoR.s (by rfl) rfl rfl ?_|(refine GoR.splitG rfl (fun hc => ?_) (fun hc => ?_)<;>simp only [hc])|refine Go.condB rfl (fun hc => ?_) (fun hc => ?_))
  refine ⟨(by first | exact .inl rfl | exact .inr rfl),fin ?_⟩
  rw [resD_tmp (fn:=Tryz.f105) rfl]
  simp only [optThen_some,resultD_tmp,resultD_cell,G,Z,Y,Gx,un_neg,cutD,decide_true,decide_false,simprocAttr,fb9]
  refine ⟨_,[],by simp,.bool,?_⟩
  by_cases h:s=⟨#[47]⟩
  ·rw [h,root_not]
  ·rw [← nodeR_eq s h,hp]
 | true=>
  repeat' (first|refine Go.a rfl ?_|refine Go.rg ?_|refine GoR.nil ?_|refine Go.ret ?_|refine Go.b rfl ?_|(refine GoR.o (by rfl) (by rfl) ?_;(conv=>arg 1;simp only [G,Z,Y,Gx,un_neg,cutD,decide_true,decide_false,simprocAttr,fb9,hp]);show GoR ..)|(refine GoR.c c138 (by rfl) (by rfl) rfl ?_;(refine (refPath s hs _).ret ?_))|refine GoR.s (by rfl) rfl rfl ?_|(refine GoR.splitG rfl (fun hc => ?_) (fun hc => ?_)<;>simp only [hc])|refine Go.condB rfl (fun hc => ?_) (fun hc => ?_))
  refine ⟨(by first | exact .inl rfl | exact .inr rfl),fin ?_⟩
  rw [resD_tmp (fn:=Tryz.f105) rfl]
  simp only [optThen_some,resultD_tmp,resultD_cell,G,Z,Y,Gx,un_neg,cutD,decide_true,decide_false,simprocAttr,fb9]
  refine ⟨_,[],by simp,.bool,?_⟩
  by_cases h:s=⟨#[47]⟩
  ·simp [h,root_not]
  ·rw [← nodeR_eq s h,hp]
   simp [h]
theorem refCheckStamp (s:St) (hs:s.org.size<1000000) (S:Mem):CallD Tryz.prog O 62 [.agg s.c] S fun d S'=>S'=S∧d = .int .i64 (chk s):=by
 obtain ⟨a,b,c,o⟩:=s
 have e1:=refIn (orc:=O) a
 have e2:=refIn (orc:=O) b
 have e3:=refIn (orc:=O) c
 simp only [St.c,chk]
 refine CallD.e Tryz.func62 rfl Tryz.ntmps62 (by rfl) ?_
 cases h1:inOk a<;>cases h2:inOk b<;>cases h3:inOk c<;>cases h4:pathOk o
 all_goals
  repeat' (first|refine Go.a rfl ?_|refine Go.rg ?_|refine GoR.nil ?_|refine Go.ret ?_|refine Go.b rfl ?_|(refine GoR.o (by rfl) (by rfl) ?_;(conv=>arg 1;simp only [G,Z,Y,Gx,un_neg,cutD,decide_true,decide_false,simprocAttr,fb2,fb9,fb66,h1,h2,h3,h4]);show GoR ..)|(refine GoR.c c104 (by rfl) (by rfl) rfl ?_;(first | (refine (e1 _).ret ?_) | (refine (e2 _).ret ?_) | (refine (e3 _).ret ?_)))|(refine GoR.c c105 (by rfl) (by rfl) rfl ?_;(refine (refNode _ hs _).ret ?_))|refine GoR.s (by rfl) rfl rfl ?_|(refine GoR.splitG rfl (fun hc => ?_) (fun hc => ?_)<;>simp only [hc])|refine Go.condB rfl (fun hc => ?_) (fun hc => ?_))
  refine ⟨(by first | exact .inl rfl | exact .inr rfl),fin ?_⟩
  rw [resD_tmp (fn:=Tryz.f62) rfl]
  simp only [optThen_some,resultD_tmp,resultD_cell,G,Z,Y,Gx,un_neg,cutD,decide_true,decide_false,simprocAttr,fb2,fb9,fb66]
  exact ⟨_,_,rfl,.int,by simp⟩
end Go.Proofs.DvT
namespace Go.Proofs.DvT
open Go Go.DM Go.Proofs.DvF
set_option maxRecDepth 100000
variable {orc:DOracle}
end Go.Proofs.DvT
