/- Paths, as the chain's package has them. -/
import Derived.Test.YtlllhmenekibjaaGreatDoorDtT12x
set_option linter.unusedSimpArgs false
set_option linter.unusedVariables false
namespace Go.Proofs.DtT
open Go Go.DM Go.Proofs.DtF
set_option maxRecDepth 100000
variable {orc:DOracle}
theorem strs_cut0 {x:List ByteArray} {k:Nat} (h:k≤x.length) {P:Program} {t e:TypeId} (hu:P.underlying t=some (.slice e)) (hs:AM.sizeA P e=some 1) {kk:IntKind} :
  sliceD P t (.sl none 1 x.length (x.map .str)) none (some (.int kk (k:Int))) none=some (.sl none 1 (x.take k).length ((x.take k).map .str)):=by
 rw [cut_sl hu hs]
 simp only [optNatD,natD,Int.natCast_nonneg,if_true,Option.map_some,Option.bind_some,Int.toNat_natCast,DM.cutD]
 simp [List.length_take,Nat.min_eq_left h,List.map_take,h]
theorem parseOne (s:ByteArray) (S:Mem):CallD Tryz.prog orc 109 [.str s] S fun d S'=>S'=S∧d = .bool (!nameOk s):=by
 have hn:=fun S=>rowName (orc:=orc) s S
 refine CallD.e Tryz.func109 rfl Tryz.ntmps109 (by rfl) ?_
 repeat' (first|refine Go.a rfl ?_|refine Go.rg ?_|refine GoR.nil ?_|refine Go.ret ?_|refine Go.b rfl ?_|(refine GoR.o (by rfl) (by rfl) ?_;(conv=>arg 1;simp only [G,Z,Y,Gx,un_neg,cutD,decide_true,decide_false,simprocAttr]);show GoR ..)|(refine GoR.c c90 (by rfl) (by rfl) rfl ?_;(refine (hn _).ret ?_))|refine Go.condB rfl (fun hc => ?_) (fun hc => ?_))
 refine ⟨(by first | exact .inl rfl | exact .inr rfl),fin ?_⟩
 rw [resD_tmp (fn:=Tryz.f109) rfl]
 simp only [optThen_some,resultD_tmp,resultD_cell,G,Z,Y,Gx,un_neg,cutD,decide_true,decide_false,simprocAttr]
 exact ⟨_,[],by simp,.bool,rfl⟩
theorem indexFunc (l:List ByteArray) (hl:l.length<4611686018427387904) (S:Mem):CallD Tryz.prog orc 126 [.sl none 1 l.length (l.map .str),.fn (.func 109) [] []] S fun d S'=>S'=S ∧ ∃ k:Int,d = .int .i64 k∧decide (0≤k) = !(l.all nameOk):=by
 refine CallD.e Tryz.func126 rfl Tryz.ntmps126 (by rfl) ?_
 repeat' (first|refine Go.a rfl ?_|refine Go.rg ?_|refine GoR.nil ?_|refine Go.ret ?_|refine Go.b rfl ?_|(refine GoR.o (by rfl) (by rfl) ?_;(conv=>arg 1;simp only [G,Z,Y,Gx,un_neg,cutD,decide_true,decide_false,simprocAttr,fb3,fb9,fb51]);show GoR ..)|refine Go.condB rfl (fun hc => ?_) (fun hc => ?_))
 refine Go.keep [(0,.sl none 1 l.length (l.map .str)),(1,.fn (.func 109) [] []),(7,.int .i64 (l.length:Int)),(8,.int .i64 ((0:Nat):Int))] (.cons .refl (.cons .refl (.cons .refl (.cons .refl (.nil))))) ?_
 refine Go.while (α:=Nat) (fun i=>l.length - i) (fun i=>[(0,.sl none 1 l.length (l.map .str)),(1,.fn (.func 109) [] []),(7,.int .i64 (l.length:Int)),(8,.int .i64 (i:Int))]) (fun _=>S) (fun i=>i≤l.length ∧ ∀ j (h:j<l.length),j<i→nameOk l[j]=true) ?_ 0 ⟨Nat.zero_le _,by simp⟩
 rintro i ⟨hi,hk⟩ next
 by_cases h1:i<l.length
 ·have a1:=strsAt h1
  have hp:=fun S=>parseOne (orc:=orc) l[i] S
  cases hn:nameOk l[i] with
  | true=>
   rw [hn] at hp
   repeat' (first|refine Go.a rfl ?_|refine Go.rg ?_|refine GoR.nil ?_|refine Go.ret ?_|refine Go.b rfl ?_|(refine GoR.o (by rfl) (by rfl) ?_;(conv=>arg 1;simp only [G,Z,Y,Gx,un_neg,cutD,decide_true,decide_false,simprocAttr,fb3,fb9,fb51,show decide ((i:Int)<(l.length:Int))=true by simp;omega,a1,wrap_succ (show i<4611686018427387904 by omega)]);show GoR ..)|(refine GoR.c c109 (by rfl) (by rfl) rfl ?_;(refine (hp _).ret ?_))|refine Go.condB rfl (fun hc => ?_) (fun hc => ?_))
   refine Go.lpN ?_
   refine Go.keep [(0,.sl none 1 l.length (l.map .str)),(1,.fn (.func 109) [] []),(7,.int .i64 (l.length:Int)),(8,.int .i64 ((i+1:Nat):Int))] (.cons .refl (.cons .refl (.cons .refl (.cons .refl (.nil))))) ?_
   refine next (i+1) (by omega) ⟨h1,fun j hj hlt => ?_⟩
   rcases Nat.lt_or_ge j i with h | h
   ·exact hk j hj h
   ·obtain rfl:j=i:=by omega
    exact hn
  | false=>
   clear next
   rw [hn] at hp
   repeat' (first|refine Go.a rfl ?_|refine Go.rg ?_|refine GoR.nil ?_|refine Go.ret ?_|refine Go.b rfl ?_|(refine GoR.o (by rfl) (by rfl) ?_;(conv=>arg 1;simp only [G,Z,Y,Gx,un_neg,cutD,decide_true,decide_false,simprocAttr,fb3,fb9,fb51,show decide ((i:Int)<(l.length:Int))=true by simp;omega,a1]);show GoR ..)|(refine GoR.c c109 (by rfl) (by rfl) rfl ?_;(refine (hp _).ret ?_))|refine Go.condB rfl (fun hc => ?_) (fun hc => ?_))
   refine ⟨(by first | exact .inl rfl | exact .inr rfl),fin ?_⟩
   rw [resD_tmp (fn:=Tryz.f126) rfl]
   simp only [optThen_some,resultD_tmp,resultD_cell,G,Z,Y,Gx,un_neg,cutD,decide_true,decide_false,simprocAttr,fb3,fb9,fb51]
   refine ⟨_,[],by simp,.int,_,rfl,?_⟩
   have:l.all nameOk=false:=List.all_eq_false.2 ⟨_,List.getElem_mem h1,by simp [hn]⟩
   rw [this]
   simp
 ·clear next
  repeat' (first|refine Go.a rfl ?_|refine Go.rg ?_|refine GoR.nil ?_|refine Go.ret ?_|refine Go.b rfl ?_|(refine GoR.o (by rfl) (by rfl) ?_;(conv=>arg 1;simp only [G,Z,Y,Gx,un_neg,cutD,decide_true,decide_false,simprocAttr,fb3,fb9,fb51,show decide ((i:Int)<(l.length:Int))=false by simp;omega]);show GoR ..)|refine Go.condB rfl (fun hc => ?_) (fun hc => ?_))
  refine ⟨(by first | exact .inl rfl | exact .inr rfl),fin ?_⟩
  rw [resD_tmp (fn:=Tryz.f126) rfl]
  simp only [optThen_some,resultD_tmp,resultD_cell,G,Z,Y,Gx,un_neg,cutD,decide_true,decide_false,simprocAttr,fb3,fb9,fb51]
  refine ⟨_,[],by simp,.int,_,rfl,?_⟩
  have:l.all nameOk=true:=by
   rw [List.all_eq_true]
   intro x hx
   obtain ⟨j,hj,rfl⟩:=List.mem_iff_getElem.1 hx
   exact hk j hj (by omega)
  rw [this]
  decide
theorem containsFunc (l:List ByteArray) (hl:l.length<4611686018427387904) (S:Mem):CallD Tryz.prog orc 108 [.sl none 1 l.length (l.map .str),.fn (.func 109) [] []] S fun d S'=>S'=S∧d = .bool (!(l.all nameOk)):=by
 have hi:=fun S=>indexFunc (orc:=orc) l hl S
 refine CallD.e Tryz.func108 rfl Tryz.ntmps108 (by rfl) ?_
 repeat' (first|refine Go.a rfl ?_|refine Go.rg ?_|refine GoR.nil ?_|refine Go.ret ?_|refine Go.b rfl ?_|(refine GoR.o (by rfl) (by rfl) ?_;(conv=>arg 1;simp only [G,Z,Y,Gx,un_neg,cutD,decide_true,decide_false,simprocAttr,fb3]);show GoR ..)|(refine GoR.c c126 (by rfl) (by rfl) rfl ?_;(refine (hi _).mono ?_;rintro _ _ ⟨rfl,k,rfl,hk⟩))|refine Go.condB rfl (fun hc => ?_) (fun hc => ?_))
 refine ⟨(by first | exact .inl rfl | exact .inr rfl),fin ?_⟩
 rw [resD_tmp (fn:=Tryz.f108) rfl]
 simp only [optThen_some,resultD_tmp,resultD_cell,G,Z,Y,Gx,un_neg,cutD,decide_true,decide_false,simprocAttr,fb3]
 exact ⟨_,[],by simp,.bool,by rw [hk]⟩
theorem piecesR_len (s:ByteArray):(piecesR s).length≤s.size+1:=by
 unfold piecesR
 split
 ·simp
 ·rw [AtT.cutP,List.length_append]
  have:=AtT.cutL_count (s.data.toList.drop 1)
  rw [List.length_drop] at this
  have e2:s.data.toList.length=s.size:=by simp
  rw [List.length_cons,List.length_nil]
  omega
theorem pathCut (s:ByteArray) (hs:s.size<1000000) (S:Mem):CallD Tryz.prog O 107 [.str s] S fun d S'=>S'=S∧d=if s.data[0]?=some 47 then .tup [strsD (piecesR s),.bool true] else .tup [strsD [],.bool false]:=by
 have hh:=hasB47 s
 refine CallD.e Tryz.func107 rfl Tryz.ntmps107 (by rfl) ?_
 by_cases h47:s.data[0]?=some 47
 ·rw [decide_eq_true h47] at hh
  rw [if_pos h47]
  have ht:=trimB47 hh
  by_cases h1:s.size=1
  ·have e:trimB s ⟨#[47]⟩=⟨#[]⟩:=by
    have hl:s.data.toList.drop 1=[]:=List.drop_eq_nil_of_le (by rw [Array.length_toList];exact Nat.le_of_eq h1)
    rw [hl] at ht
    have:(trimB s ⟨#[47]⟩).data = #[]:=Array.toList_eq_nil_iff.1 ht
    cases hq:trimB s ⟨#[47]⟩ with
    | mk d=>rw [hq] at this;simp at this;rw [this]
   repeat' (first|refine Go.a rfl ?_|refine Go.rg ?_|refine GoR.nil ?_|refine Go.ret ?_|refine Go.b rfl ?_|(refine GoR.o (by rfl) (by rfl) ?_;(conv=>arg 1;simp only [G,Z,Y,Gx,un_neg,cutD,decide_true,decide_false,simprocAttr,fb9,hh,e,decide_true]);show GoR ..)|(refine GoR.c c124 (by rfl) (by rfl) rfl ?_;(refine (cutPrefix _ _ _).ret ?_))|refine Go.condB rfl (fun hc => ?_) (fun hc => ?_))
   refine ⟨(by first | exact .inl rfl | exact .inr rfl),fin ?_⟩
   rw [resD_two (fn:=Tryz.f107) rfl]
   simp only [optThen_some,resultD_tmp,resultD_cell,G,Z,Y,Gx,un_neg,cutD,decide_true,decide_false,simprocAttr,fb9]
   exact ⟨_,[],by simp,(Wf.tup' (.cons .nilE (.cons .refl .nil))).to_Wk (.tup' (.cons (.sl' (sz:=1) .nil) (.cons (.bool _) .nil))),by simp [piecesR,h1,strsD]⟩
  ·have e : ¬ trimB s ⟨#[47]⟩=⟨#[]⟩:=fun e=>by
    rw [e] at ht
    have:=congrArg List.length ht
    simp at this
    have h0:0<s.size:=by
     rcases Nat.eq_zero_or_pos s.size with h | h
     ·have:s.data.size=0:=h
      rw [Array.getElem?_eq_none (by omega)] at h47
      cases h47
     ·exact h
    have:s.data.size=s.size:=rfl
    omega
   have hsz:=trimB_size s ⟨#[47]⟩
   have hpc:piecesOf (trimB s ⟨#[47]⟩) ⟨#[47]⟩=piecesR s:=by rw [pieces_cut,ht,piecesR,if_neg h1]
   repeat' (first|refine Go.a rfl ?_|refine Go.rg ?_|refine GoR.nil ?_|refine Go.ret ?_|refine Go.b rfl ?_|(refine GoR.o (by rfl) (by rfl) ?_;(conv=>arg 1;simp only [G,Z,Y,Gx,un_neg,cutD,decide_true,decide_false,simprocAttr,fb9,hh,decide_eq_false e,hpc]);show GoR ..)|(refine GoR.c c124 (by rfl) (by rfl) rfl ?_;(refine (cutPrefix _ _ _).ret ?_))|(refine GoR.c c125 (by rfl) (by rfl) rfl ?_;(refine (split _ _ (by omega) (by decide) _).ret ?_))|refine Go.condB rfl (fun hc => ?_) (fun hc => ?_))
   refine ⟨(by first | exact .inl rfl | exact .inr rfl),fin ?_⟩
   rw [resD_two (fn:=Tryz.f107) rfl]
   simp only [optThen_some,resultD_tmp,resultD_cell,G,Z,Y,Gx,un_neg,cutD,decide_true,decide_false,simprocAttr,fb9]
   exact ⟨_,[],by simp,.of_low (.tup' (.cons (.sl' (strs_low _)) (.cons (.bool _) .nil))),rfl⟩
 ·rw [decide_eq_false h47] at hh
  rw [if_neg h47]
  repeat' (first|refine Go.a rfl ?_|refine Go.rg ?_|refine GoR.nil ?_|refine Go.ret ?_|refine Go.b rfl ?_|(refine GoR.o (by rfl) (by rfl) ?_;(conv=>arg 1;simp only [G,Z,Y,Gx,un_neg,cutD,decide_true,decide_false,simprocAttr,fb9,hh]);show GoR ..)|(refine GoR.c c124 (by rfl) (by rfl) rfl ?_;(refine (cutPrefix _ _ _).ret ?_))|refine Go.condB rfl (fun hc => ?_) (fun hc => ?_))
  refine ⟨(by first | exact .inl rfl | exact .inr rfl),fin ?_⟩
  rw [resD_two (fn:=Tryz.f107) rfl]
  simp only [optThen_some,resultD_tmp,resultD_cell,G,Z,Y,Gx,un_neg,cutD,decide_true,decide_false,simprocAttr,fb9]
  exact ⟨_,[],by simp,(Wf.tup' (.cons .nilE (.cons .refl .nil))).to_Wk (.tup' (.cons (.sl' (sz:=1) .nil) (.cons (.bool _) .nil))),rfl⟩
def partsP (s:ByteArray):List ByteArray:=if pathR s then piecesR s else []
def parE (s:ByteArray):Int:=if s.data[0]?=some 47∧(piecesR s).all nameOk=true then (if 4<(piecesR s).length then 4 else 0) else 2
theorem parE_zero (s:ByteArray):parE s=0↔pathR s=true:=by
 unfold parE pathR
 by_cases h1:s.data[0]?=some 47<;>cases h2:(piecesR s).all nameOk<;>simp [h1]
theorem partsP_len (s:ByteArray):(partsP s).length≤4:=by
 unfold partsP
 split
 ·rename_i h
  simp only [pathR,Bool.and_eq_true,decide_eq_true_eq] at h
  exact h.2
 ·simp
theorem partsP_ok (s:ByteArray) : ∀ x∈partsP s,nameOk x=true:=by
 unfold partsP
 split
 ·rename_i h
  simp only [pathR,Bool.and_eq_true,List.all_eq_true] at h
  exact h.1.2
 ·simp
theorem pathParse (s:ByteArray) (hs:s.size<1000000) (S:Mem):CallD Tryz.prog O 76 [.str s] S fun d S'=>S'=S∧d = .tup [strsD (partsP s),.int .i64 (parE s)]:=by
 have hc:=fun S=>pathCut s hs S
 have hln:=piecesR_len s
 have hcf:=fun S=>containsFunc (orc:=O) (piecesR s) (by omega) S
 refine CallD.e Tryz.func76 rfl Tryz.ntmps76 (by rfl) ?_
 by_cases h47:s.data[0]?=some 47
 ·simp only [if_pos h47] at hc
  cases ha:(piecesR s).all nameOk with
  | false=>
   have hp:partsP s=[]:=by simp [partsP,pathR,ha]
   have he:parE s=2:=by simp [parE,ha]
   rw [hp,he]
   rw [ha] at hcf
   unfold strsD at *
   generalize piecesR s=l at *
   repeat' (first|refine Go.a rfl ?_|refine Go.rg ?_|refine GoR.nil ?_|refine Go.ret ?_|refine Go.b rfl ?_|(refine GoR.o (by rfl) (by rfl) ?_;(conv=>arg 1;simp only [G,Z,Y,Gx,un_neg,cutD,decide_true,decide_false,simprocAttr,fb3,fb51]);show GoR ..)|(refine GoR.c c107 (by rfl) (by rfl) rfl ?_;(refine (hc _).ret ?_))|(refine GoR.c c108 (by rfl) (by rfl) rfl ?_;(refine (hcf _).ret ?_))|refine GoR.s (by rfl) rfl rfl ?_|(refine GoR.splitG rfl (fun hc => ?_) (fun hc => ?_)<;>simp only [hc])|refine Go.condB rfl (fun hc => ?_) (fun hc => ?_))
   refine ⟨(by first | exact .inl rfl | exact .inr rfl),fin ?_⟩
   rw [resD_two (fn:=Tryz.f76) rfl]
   simp only [optThen_some,resultD_tmp,resultD_cell,G,Z,Y,Gx,un_neg,cutD,decide_true,decide_false,simprocAttr,fb3,fb51]
   exact ⟨_,[],by simp,(Wf.tup' (.cons .nilE (.cons .refl .nil))).to_Wk (.tup' (.cons (.sl' (sz:=1) .nil) (.cons (.int _ _) .nil))),rfl⟩
  | true=>
   rw [ha] at hcf
   by_cases h4:4<(piecesR s).length
   ·have hp:partsP s=[]:=by
     unfold partsP pathR
     rw [decide_eq_false (p:=(piecesR s).length≤4) (by omega),Bool.and_false,if_neg (by decide)]
    have he:parE s=4:=by simp [parE,ha,h4,h47]
    rw [hp,he]
    have d4:decide (4<((piecesR s).length:Int))=true:=by simp;omega
    unfold strsD at *
    generalize piecesR s=l at *
    repeat' (first|refine Go.a rfl ?_|refine Go.rg ?_|refine GoR.nil ?_|refine Go.ret ?_|refine Go.b rfl ?_|(refine GoR.o (by rfl) (by rfl) ?_;(conv=>arg 1;simp only [G,Z,Y,Gx,un_neg,cutD,decide_true,decide_false,simprocAttr,fb3,fb51,d4]);show GoR ..)|(refine GoR.c c107 (by rfl) (by rfl) rfl ?_;(refine (hc _).ret ?_))|(refine GoR.c c108 (by rfl) (by rfl) rfl ?_;(refine (hcf _).ret ?_))|refine GoR.s (by rfl) rfl rfl ?_|(refine GoR.splitG rfl (fun hc => ?_) (fun hc => ?_)<;>simp only [hc])|refine Go.condB rfl (fun hc => ?_) (fun hc => ?_))
    refine ⟨(by first | exact .inl rfl | exact .inr rfl),fin ?_⟩
    rw [resD_two (fn:=Tryz.f76) rfl]
    simp only [optThen_some,resultD_tmp,resultD_cell,G,Z,Y,Gx,un_neg,cutD,decide_true,decide_false,simprocAttr,fb3,fb51]
    exact ⟨_,[],by simp,(Wf.tup' (.cons .nilE (.cons .refl .nil))).to_Wk (.tup' (.cons (.sl' (sz:=1) .nil) (.cons (.int _ _) .nil))),rfl⟩
   ·have hp:partsP s=piecesR s:=by simp [partsP,pathR,ha,h47];omega
    have he:parE s=0:=by simp [parE,ha,h4,h47]
    rw [hp,he]
    have d4:decide (4<((piecesR s).length:Int))=false:=by simp;omega
    unfold strsD at *
    generalize piecesR s=l at *
    repeat' (first|refine Go.a rfl ?_|refine Go.rg ?_|refine GoR.nil ?_|refine Go.ret ?_|refine Go.b rfl ?_|(refine GoR.o (by rfl) (by rfl) ?_;(conv=>arg 1;simp only [G,Z,Y,Gx,un_neg,cutD,decide_true,decide_false,simprocAttr,fb3,fb51,d4]);show GoR ..)|(refine GoR.c c107 (by rfl) (by rfl) rfl ?_;(refine (hc _).ret ?_))|(refine GoR.c c108 (by rfl) (by rfl) rfl ?_;(refine (hcf _).ret ?_))|refine GoR.s (by rfl) rfl rfl ?_|(refine GoR.splitG rfl (fun hc => ?_) (fun hc => ?_)<;>simp only [hc])|refine Go.condB rfl (fun hc => ?_) (fun hc => ?_))
    refine ⟨(by first | exact .inl rfl | exact .inr rfl),fin ?_⟩
    rw [resD_two (fn:=Tryz.f76) rfl]
    simp only [optThen_some,resultD_tmp,resultD_cell,G,Z,Y,Gx,un_neg,cutD,decide_true,decide_false,simprocAttr,fb3,fb51]
    exact ⟨_,[],by simp,.of_low (.tup' (.cons (.sl' (strs_low _)) (.cons (.int _ _) .nil))),rfl⟩
 ·simp only [if_neg h47] at hc
  have hp:partsP s=[]:=by simp [partsP,pathR,h47]
  have he:parE s=2:=by simp [parE,h47]
  rw [hp,he]
  unfold strsD at *
  repeat' (first|refine Go.a rfl ?_|refine Go.rg ?_|refine GoR.nil ?_|refine Go.ret ?_|refine Go.b rfl ?_|(refine GoR.o (by rfl) (by rfl) ?_;(conv=>arg 1;simp only [G,Z,Y,Gx,un_neg,cutD,decide_true,decide_false,simprocAttr,fb3,fb51]);show GoR ..)|(refine GoR.c c107 (by rfl) (by rfl) rfl ?_;(refine (hc _).ret ?_))|refine GoR.s (by rfl) rfl rfl ?_|(refine GoR.splitG rfl (fun hc => ?_) (fun hc => ?_)<;>simp only [hc])|refine Go.condB rfl (fun hc => ?_) (fun hc => ?_))
  refine ⟨(by first | exact .inl rfl | exact .inr rfl),fin ?_⟩
  rw [resD_two (fn:=Tryz.f76) rfl]
  simp only [optThen_some,resultD_tmp,resultD_cell,G,Z,Y,Gx,un_neg,cutD,decide_true,decide_false,simprocAttr,fb3,fb51]
  exact ⟨_,[],by simp,(Wf.tup' (.cons .nilE (.cons .refl .nil))).to_Wk (.tup' (.cons (.sl' (sz:=1) .nil) (.cons (.int _ _) .nil))),rfl⟩
end Go.Proofs.DtT
namespace Go.Proofs.DtT
open Go Go.DM Go.Proofs.DtF
set_option maxRecDepth 100000
variable {orc:DOracle}
def catP (l:List ByteArray):ByteArray:=l.foldl (fun s x=>s++⟨#[47]⟩++x) ⟨#[]⟩
def ptext (l:List ByteArray):ByteArray:=if catP l=⟨#[]⟩ then ⟨#[47]⟩ else catP l
theorem catP_succ {l:List ByteArray} {i:Nat} (h:i<l.length):catP (l.take (i+1))=catP (l.take i)++⟨#[47]⟩++l[i]:=by
 rw [List.take_succ_eq_append_getElem h,catP,List.foldl_append]
 rfl
theorem ba_ext {a b:ByteArray} (h:a.data.toList=b.data.toList):a=b:=by
 cases a with
 | mk a=>cases b with
  | mk b=>exact congrArg ByteArray.mk (Array.toList_inj.1 h)
theorem catP_list (l:List ByteArray) : ∀ s:ByteArray,(l.foldl (fun s x=>s++⟨#[47]⟩++x) s).data.toList=s.data.toList++(l.map fun x=>47::x.data.toList).flatten:=by
 induction l with
 | nil=>intro s;simp
 | cons x l ih=>
  intro s
  rw [List.foldl_cons,ih]
  simp [ByteArray.data_append]
theorem ptext_cons (x:ByteArray) (l:List ByteArray):ptext (x::l)=(⟨#[47]⟩:ByteArray)++joinB (x::l) ⟨#[47]⟩:=by
 have e:catP (x::l)=(⟨#[47]⟩:ByteArray)++joinB (x::l) ⟨#[47]⟩:=ba_ext (by
  rw [catP,catP_list]
  simp only [joinB,ByteArray.data_append,Array.toList_append,List.map_cons]
  rw [Lib.join_cons,Lib.joinTail]
  simp [Function.comp_def])
 rw [ptext,if_neg,e]
 rw [e]
 intro h
 have:=congrArg (fun b:ByteArray=>b.data.toList) h
 simp [ByteArray.data_append] at this
theorem ptext_nil:ptext []=⟨#[47]⟩:=rfl
theorem ptext_join (l:List ByteArray):(⟨#[47]⟩:ByteArray)++joinB l ⟨#[47]⟩=ptext l:=by
 cases l with
 | nil=>rfl
 | cons x l=>rw [ptext_cons]
theorem nameOk_size {x:ByteArray} (h:nameOk x=true):x.size≤8:=by
 simp only [nameOk,Bool.and_eq_true,decide_eq_true_eq] at h
 omega
theorem join_small {l:List ByteArray} (h4:l.length≤4) (hx : ∀ x∈l,nameOk x=true):(joinB l ⟨#[47]⟩).size≤140737488355328:=by
 cases l with
 | nil=>decide
 | cons x l=>
  have hl : ∀ (l:List ByteArray),(∀ x∈l,nameOk x=true)→Lib.lens (l.map (·.data.toList))≤8*l.length:=by
   intro l
   induction l with
   | nil=>intro _;simp [Lib.lens]
   | cons y l ih=>
    intro h
    have h1:=nameOk_size (h y (by simp))
    have h2:=ih fun z hz=>h z (by simp [hz])
    simp only [Lib.lens,List.map_cons,List.sum_cons,List.length_cons] at h2 ⊢
    have:y.data.toList.length=y.size:=by simp
    omega
  have h1:=hl _ hx
  show (joinB (x::l) ⟨#[47]⟩).data.size≤_
  simp only [joinB,List.size_toArray]
  rw [List.map_cons,Lib.join_length]
  rw [List.map_cons] at h1
  simp only [List.length_map,List.length_cons] at *
  show 1*_+_≤_
  omega
theorem pathText (own:Option Nat) (l:List ByteArray) (h4:l.length≤4) (hx : ∀ x∈l,nameOk x=true) (S:Mem):CallD Tryz.prog O 110 [.sl own 1 l.length (l.map .str)] S fun d S'=>S'=S∧d = .str (ptext l):=by
 have hj:=fun S=>join own l ⟨#[47]⟩ (by omega) (join_small h4 hx) S
 have hsz:=join_small h4 hx
 have hp : ∀ {t:TypeId} {u v:Operand},binD Tryz.prog .add t u v (.str ⟨#[47]⟩) (.str (joinB l ⟨#[47]⟩))=some (.str (ptext l)):=by
  rw [← ptext_join l]
  exact add_str (by show 1+_<_;omega)
 refine CallD.e Tryz.func110 rfl Tryz.ntmps110 (by rfl) ?_
 repeat' (first|refine Go.a rfl ?_|refine Go.rg ?_|refine GoR.nil ?_|refine Go.ret ?_|refine Go.b rfl ?_|(refine GoR.o (by rfl) (by rfl) ?_;(conv=>arg 1;simp only [G,Z,Y,Gx,un_neg,cutD,decide_true,decide_false,simprocAttr,fb9,hp]);show GoR ..)|(refine GoR.c c127 (by rfl) (by rfl) rfl ?_;(refine (hj _).ret ?_))|refine Go.condB rfl (fun hc => ?_) (fun hc => ?_))
 refine ⟨(by first | exact .inl rfl | exact .inr rfl),fin ?_⟩
 rw [resD_tmp (fn:=Tryz.f110) rfl]
 simp only [optThen_some,resultD_tmp,resultD_cell,G,Z,Y,Gx,un_neg,cutD,decide_true,decide_false,simprocAttr,fb9]
 exact ⟨_,[],by simp,.str,rfl⟩
theorem catP_small {l:List ByteArray} (hx : ∀ x∈l,nameOk x=true) : ∀ i,i≤l.length→(catP (l.take i)).size≤9*i
 | 0,_=>by simp [catP];rfl
 | i+1,h=>by
  rw [catP_succ (by omega),ByteArray.size_append,ByteArray.size_append]
  have h1:=catP_small hx i (by omega)
  have h2:=nameOk_size (hx l[i] (List.getElem_mem _))
  show _+1+_≤_
  omega
theorem refText (own:Option Nat) (l:List ByteArray) (hl:l.length≤1000) (hx : ∀ x∈l,nameOk x=true) (S:Mem):CallD Tryz.prog orc 111 [.sl own 1 l.length (l.map .str)] S fun d S'=>S'=S∧d = .str (ptext l):=by
 refine CallD.e Tryz.func111 rfl Tryz.ntmps111 (by rfl) ?_
 repeat' (first|refine Go.a rfl ?_|refine Go.rg ?_|refine GoR.nil ?_|refine Go.ret ?_|refine Go.b rfl ?_|(refine GoR.o (by rfl) (by rfl) ?_;(conv=>arg 1;simp only [G,Z,Y,Gx,un_neg,cutD,decide_true,decide_false,simprocAttr,fb3,fb9,fb51]);show GoR ..)|refine Go.condB rfl (fun hc => ?_) (fun hc => ?_))
 refine Go.keep [(0,.sl own 1 l.length (l.map .str)),(3,.str (catP (l.take 0))),(4,.int .i64 ((0:Nat):Int))] (.cons .refl (.cons .refl (.cons .refl (.nil)))) ?_
 refine Go.while (α:=Nat) (fun i=>l.length - i) (fun i=>[(0,.sl own 1 l.length (l.map .str)),(3,.str (catP (l.take i))),(4,.int .i64 (i:Int))]) (fun _=>S) (fun i=>i≤l.length) ?_ 0 (Nat.zero_le _)
 intro i hi next
 by_cases h1:i<l.length
 ·have a1:=strsAt h1
  have hsm:=catP_small hx i hi
  have h8:=nameOk_size (hx l[i] (List.getElem_mem h1))
  have hs : ∀ {t:TypeId} {u v:Operand},binD Tryz.prog .add t u v (.str (catP (l.take i))) (.str ⟨#[47]⟩)=some (.str (catP (l.take i)++⟨#[47]⟩)):=add_str (by show _+1<_;omega)
  have hs2 : ∀ {t:TypeId} {u v:Operand},binD Tryz.prog .add t u v (.str (catP (l.take i)++⟨#[47]⟩)) (.str l[i])=some (.str (catP (l.take (i+1)))):=by
   rw [catP_succ h1]
   exact add_str (by rw [ByteArray.size_append];show _+1+_<_;omega)
  repeat' (first|refine Go.a rfl ?_|refine Go.rg ?_|refine GoR.nil ?_|refine Go.ret ?_|refine Go.b rfl ?_|(refine GoR.o (by rfl) (by rfl) ?_;(conv=>arg 1;simp only [G,Z,Y,Gx,un_neg,cutD,decide_true,decide_false,simprocAttr,fb3,fb9,fb51,show decide ((i:Int)<(l.length:Int))=true by simp;omega,a1,hs,hs2,wrap_succ (show i<4611686018427387904 by omega)]);show GoR ..)|refine Go.condB rfl (fun hc => ?_) (fun hc => ?_))
  refine Go.lpN ?_
  refine Go.keep [(0,.sl own 1 l.length (l.map .str)),(3,.str (catP (l.take (i+1)))),(4,.int .i64 ((i+1:Nat):Int))] (.cons .refl (.cons .refl (.cons .refl (.nil)))) ?_
  exact next (i+1) (by omega) h1
 ·clear next
  obtain rfl:i=l.length:=by omega
  rw [List.take_length]
  by_cases he:catP l=⟨#[]⟩
  ·have hp:ptext l=⟨#[47]⟩:=by rw [ptext,if_pos he]
   rw [hp]
   repeat' (first|refine Go.a rfl ?_|refine Go.rg ?_|refine GoR.nil ?_|refine Go.ret ?_|refine Go.b rfl ?_|(refine GoR.o (by rfl) (by rfl) ?_;(conv=>arg 1;simp only [G,Z,Y,Gx,un_neg,cutD,decide_true,decide_false,simprocAttr,fb3,fb9,fb51,show decide ((l.length:Int)<(l.length:Int))=false by simp,decide_eq_true he]);show GoR ..)|refine Go.condB rfl (fun hc => ?_) (fun hc => ?_))
   refine ⟨(by first | exact .inl rfl | exact .inr rfl),fin ?_⟩
   rw [resD_tmp (fn:=Tryz.f111) rfl]
   simp only [optThen_some,resultD_tmp,resultD_cell,G,Z,Y,Gx,un_neg,cutD,decide_true,decide_false,simprocAttr,fb3,fb9,fb51]
   exact ⟨_,[],by simp,.str,rfl⟩
  ·have hp:ptext l=catP l:=by rw [ptext,if_neg he]
   rw [hp]
   repeat' (first|refine Go.a rfl ?_|refine Go.rg ?_|refine GoR.nil ?_|refine Go.ret ?_|refine Go.b rfl ?_|(refine GoR.o (by rfl) (by rfl) ?_;(conv=>arg 1;simp only [G,Z,Y,Gx,un_neg,cutD,decide_true,decide_false,simprocAttr,fb3,fb9,fb51,show decide ((l.length:Int)<(l.length:Int))=false by simp,decide_eq_false he]);show GoR ..)|refine Go.condB rfl (fun hc => ?_) (fun hc => ?_))
   refine ⟨(by first | exact .inl rfl | exact .inr rfl),fin ?_⟩
   rw [resD_tmp (fn:=Tryz.f111) rfl]
   simp only [optThen_some,resultD_tmp,resultD_cell,G,Z,Y,Gx,un_neg,cutD,decide_true,decide_false,simprocAttr,fb3,fb9,fb51]
   exact ⟨_,[],by simp,.str,rfl⟩
def zonesP (l:List ByteArray):List ByteArray:=(List.range l.length).map fun i=>ptext (l.take i)
theorem zonesP_len (l:List ByteArray):(zonesP l).length=l.length:=by simp [zonesP]
theorem zonesP_at {l:List ByteArray} {i:Nat} (h:i<(zonesP l).length):(zonesP l)[i]=ptext (l.take i):=by simp [zonesP]
theorem pathZones (s:ByteArray) (hs:s.size<1000000) (S:Mem):CallD Tryz.prog O 77 [.str s] S fun d S'=>S'=S∧d=strsD (zonesP (partsP s)):=by
 have hp:=fun S=>pathParse s hs S
 have h4:=partsP_len s
 have hok:=partsP_ok s
 refine CallD.e Tryz.func77 rfl Tryz.ntmps77 (by rfl) ?_
 unfold strsD at *
 generalize partsP s=l at *
 repeat' (first|refine Go.a rfl ?_|refine Go.rg ?_|refine GoR.nil ?_|refine Go.ret ?_|refine Go.b rfl ?_|(refine GoR.o (by rfl) (by rfl) ?_;(conv=>arg 1;simp only [G,Z,Y,Gx,un_neg,cutD,decide_true,decide_false,simprocAttr,fb3,fb51]);show GoR ..)|(refine GoR.c c76 (by rfl) (by rfl) rfl ?_;(refine (hp _).ret ?_))|refine Go.condB rfl (fun hc => ?_) (fun hc => ?_))
 refine Go.keep [(3,.sl none 1 l.length (l.map .str)),(5,.nils),(13,.int .i64 (l.length:Int)),(14,.int .i64 ((0:Nat):Int))] (.cons .refl (.cons .refl (.cons .refl (.cons .refl (.nil))))) ?_
 refine Go.while (α:=Nat×D×Mem) (fun x=>l.length - x.1) (fun x=>[(3,.sl none 1 l.length (l.map .str)),(5,x.2.1),(13,.int .i64 (l.length:Int)),(14,.int .i64 (x.1:Int))]) (fun x=>x.2.2)
  (fun x=>x.1≤l.length∧AccD S.length x.2.1 1 x.1 (((zonesP l).take x.1).map .str) x.2.2∧Grown S.length S x.2.2) ?_ (0,.nils,S) ⟨Nat.zero_le _,.inl ⟨rfl,rfl,rfl⟩,.refl⟩
 rintro ⟨i,o,S1⟩ ⟨hi,hacc,hg⟩ next
 dsimp only at hi hacc hg next
 by_cases h1:i<l.length
 ·have hz:i<(zonesP l).length:=by rw [zonesP_len];exact h1
  have hcut:=strs_cut0 (P:=Tryz.prog) (x:=l) (k:=i) (by omega) Tryz.underlying51 dsz9 (kk:=.i64)
  have hpt:=fun S=>pathText none (l.take i) (by rw [List.length_take];omega) (fun x hx=>hok x (List.mem_of_mem_take hx)) S
  obtain ⟨o',S2,hap,hacc2,hg2⟩:=(hacc.app [.own]).append (P:=Tryz.prog) del51 (own:=some S1.length) (m:=1) (new:=[.str (ptext (l.take i))]) (by simp;have:=hg.len;omega) (by omega) ⟨by omega,by omega,by omega,rfl⟩
  repeat' (first|refine Go.a rfl ?_|refine Go.rg ?_|refine GoR.nil ?_|refine Go.ret ?_|refine Go.b rfl ?_|(refine GoR.o (by rfl) (by rfl) ?_;(conv=>arg 1;simp only [G,Z,Y,Gx,un_neg,cutD,decide_true,decide_false,simprocAttr,fb3,fb51,show decide ((i:Int)<(l.length:Int))=true by simp;omega,hcut,hap,builtin_append,wrap_succ (show i<4611686018427387904 by omega)]);show GoR ..)|(refine GoR.c c110 (by rfl) (by rfl) rfl ?_;(refine (hpt _).ret ?_))|refine Go.condB rfl (fun hc => ?_) (fun hc => ?_))
  refine Go.lpN ?_
  refine Go.keep [(3,.sl none 1 l.length (l.map .str)),(5,o'),(13,.int .i64 (l.length:Int)),(14,.int .i64 ((i+1:Nat):Int))] (.cons .refl (.cons .refl (.cons .refl (.cons .refl (.nil))))) ?_
  refine next (i+1,o',S2) (by dsimp only;omega) ⟨h1,?_,hg.trans (Grown.app.trans hg2)⟩
  dsimp only
  rw [List.take_succ_eq_append_getElem hz,zonesP_at hz,List.map_append]
  exact hacc2
 ·clear next
  have hi':i=l.length:=by omega
  subst hi'
  rw [show l.length=(zonesP l).length from (zonesP_len l).symm,List.take_length] at hacc
  obtain ⟨E,hE⟩:=hg.pre [] S rfl (by simp)
  have hcl:=fun S=>CallD.weak (.cons hacc.wf .nil) (clipStrs (orc:=O) none (zonesP l) S)
  unfold strsD at hcl
  repeat' (first|refine Go.a rfl ?_|refine Go.rg ?_|refine GoR.nil ?_|refine Go.ret ?_|refine Go.b rfl ?_|(refine GoR.o (by rfl) (by rfl) ?_;(conv=>arg 1;simp only [G,Z,Y,Gx,un_neg,cutD,decide_true,decide_false,simprocAttr,fb3,fb51,show decide ((l.length:Int)<(l.length:Int))=false by simp]);show GoR ..)|(refine GoR.c c65 (by rfl) (by rfl) rfl ?_;(refine (hcl _).ret ?_))|refine Go.condB rfl (fun hc => ?_) (fun hc => ?_))
  refine ⟨(by first | exact .inl rfl | exact .inr rfl),fin ?_⟩
  rw [resD_tmp (fn:=Tryz.f77) rfl]
  simp only [optThen_some,resultD_tmp,resultD_cell,G,Z,Y,Gx,un_neg,cutD,decide_true,decide_false,simprocAttr,fb3,fb51]
  exact ⟨_,E,hE,.of_low (.sl' (strs_low _)),rfl⟩
end Go.Proofs.DtT
namespace Go.Proofs.DtT
open Go Go.DM Go.Proofs.DtF
set_option maxRecDepth 100000
variable {orc:DOracle}
theorem nilParts {n:Nat} {e:Int} {s:ByteArray} (h:pathR s=false∨piecesR s=[]):Wk n (.tup [.nils,.int .i64 e]) (.tup [strsD (partsP s),.int .i64 e]):=by
 have hp:partsP s=[]:=by
  unfold partsP
  rcases h with h | h
  ·rw [h];rfl
  ·rw [h];split<;>rfl
 rw [hp]
 exact (Wf.tup' (.cons .nilE (.cons .refl .nil))).to_Wk (.tup' (.cons (.sl' (sz:=1) .nil) (.cons (.int _ _) .nil)))
theorem refParts (s:ByteArray) (hs:s.size<1000000) (S:Mem):CallD Tryz.prog O 83 [.str s] S fun d S'=>S'=S ∧ ∃ e,d = .tup [strsD (partsP s),.int .i64 e]∧((e=0)↔pathR s=true):=by
 refine CallD.e Tryz.func83 rfl Tryz.ntmps83 (by rfl) ?_
 by_cases h47:s.data[0]?=some 47
 ·by_cases h1:s.size=1
  ·have e:cutD s = .tup [.nils,.bool true]:=by rw [cutD,if_pos h47,if_pos h1]
   have hcut:=fun S=>refCut s hs S
   simp only [e] at hcut
   repeat' (first|refine Go.a rfl ?_|refine Go.rg ?_|refine GoR.nil ?_|refine Go.ret ?_|refine Go.b rfl ?_|(refine GoR.o (by rfl) (by rfl) ?_;(conv=>arg 1;simp only [G,Z,Y,Gx,un_neg,cutD,decide_true,decide_false,simprocAttr,fb3,fb9,fb51]);show GoR ..)|(refine GoR.c c113 (by rfl) (by rfl) rfl ?_;(refine (hcut _).ret ?_))|refine Go.condB rfl (fun hc => ?_) (fun hc => ?_))
   refine Go.keep [(4,.nils),(6,.int .i64 ((0:Nat):Int))] (.cons .refl (.cons .refl (.nil))) ?_
   refine Go.loop ?_
   repeat' (first|refine Go.a rfl ?_|refine Go.rg ?_|refine GoR.nil ?_|refine Go.ret ?_|refine Go.b rfl ?_|(refine GoR.o (by rfl) (by rfl) ?_;(conv=>arg 1;simp only [G,Z,Y,Gx,un_neg,cutD,decide_true,decide_false,simprocAttr,fb3,fb9,fb51]);show GoR ..)|refine Go.condB rfl (fun hc => ?_) (fun hc => ?_))
   refine ⟨(by first | exact .inl rfl | exact .inr rfl),fin ?_⟩
   rw [resD_two (fn:=Tryz.f83) rfl]
   simp only [optThen_some,resultD_tmp,resultD_cell,G,Z,Y,Gx,un_neg,cutD,decide_true,decide_false,simprocAttr,fb3,fb9,fb51]
   exact ⟨_,[],by simp,nilParts (.inr (by rw [piecesR,if_pos h1])),_,rfl,⟨fun _=>(by unfold pathR piecesR;rw [if_pos h1,decide_eq_true h47];rfl),fun _=>rfl⟩⟩
  ·generalize hl:AtT.cutP (s.data.toList.drop 1)=l
   have hll:l.length≤s.size+1:=by
    rw [← hl,AtT.cutP,List.length_append]
    have:=AtT.cutL_count (s.data.toList.drop 1)
    rw [List.length_drop] at this
    have e2:s.data.toList.length=s.size:=by simp
    rw [List.length_cons,List.length_nil]
    omega
   have hp:piecesR s=l:=by rw [piecesR,if_neg h1,hl]
   have e:cutD s = .tup [.sl none 1 l.length (l.map .str),.bool true]:=by rw [cutD,if_pos h47,if_neg h1,hl]
   have hcut:=fun S=>refCut s hs S
   simp only [e] at hcut
   repeat' (first|refine Go.a rfl ?_|refine Go.rg ?_|refine GoR.nil ?_|refine Go.ret ?_|refine Go.b rfl ?_|(refine GoR.o (by rfl) (by rfl) ?_;(conv=>arg 1;simp only [G,Z,Y,Gx,un_neg,cutD,decide_true,decide_false,simprocAttr,fb3,fb9,fb51]);show GoR ..)|(refine GoR.c c113 (by rfl) (by rfl) rfl ?_;(refine (hcut _).ret ?_))|refine Go.condB rfl (fun hc => ?_) (fun hc => ?_))
   refine Go.keep [(4,.sl none 1 l.length (l.map .str)),(6,.int .i64 ((0:Nat):Int))] (.cons .refl (.cons .refl (.nil))) ?_
   refine Go.while (α:=Nat) (fun i=>l.length - i) (fun i=>[(4,.sl none 1 l.length (l.map .str)),(6,.int .i64 (i:Int))]) (fun _=>S) (fun i=>i≤l.length ∧ ∀ j (h:j<l.length),j<i→nameOk l[j]=true) ?_ 0 ⟨Nat.zero_le _,by simp⟩
   rintro i ⟨hi,hk⟩ next
   by_cases hil:i<l.length
   ·have di:decide ((i:Int)<(l.length:Int))=true:=by simp;omega
    have hsz:l[i].size<4611686018427387904:=by
     have:=cutP_small (s.data.toList.drop 1) l[i] (by rw [hl];exact List.getElem_mem _)
     rw [List.length_drop] at this
     have e2:s.data.toList.length=s.size:=by simp
     omega
    cases hn:nameOk l[i] with
    | true=>
     repeat' (first|refine Go.a rfl ?_|refine Go.rg ?_|refine GoR.nil ?_|refine Go.ret ?_|refine Go.b rfl ?_|(refine GoR.o (by rfl) (by rfl) ?_;(conv=>arg 1;simp only [G,Z,Y,Gx,un_neg,cutD,decide_true,decide_false,simprocAttr,fb3,fb9,fb51,di,strsAt hil,wrap_succ (show i<4611686018427387904 by omega),hn]);show GoR ..)|(refine GoR.c c68 (by rfl) (by rfl) rfl ?_;(refine (refName _ hsz _).ret ?_))|refine Go.condB rfl (fun hc => ?_) (fun hc => ?_))
     refine Go.lpN ?_
     refine Go.keep [(4,.sl none 1 l.length (l.map .str)),(6,.int .i64 ((i+1:Nat):Int))] (.cons .refl (.cons .refl (.nil))) ?_
     refine next (i+1) (by omega) ⟨hil,fun j hj hlt => ?_⟩
     rcases Nat.lt_or_ge j i with h | h
     ·exact hk j hj h
     ·obtain rfl:j=i:=by omega
      exact hn
    | false=>
     clear next
     repeat' (first|refine Go.a rfl ?_|refine Go.rg ?_|refine GoR.nil ?_|refine Go.ret ?_|refine Go.b rfl ?_|(refine GoR.o (by rfl) (by rfl) ?_;(conv=>arg 1;simp only [G,Z,Y,Gx,un_neg,cutD,decide_true,decide_false,simprocAttr,fb3,fb9,fb51,di,strsAt hil,hn]);show GoR ..)|(refine GoR.c c68 (by rfl) (by rfl) rfl ?_;(refine (refName _ hsz _).ret ?_))|refine Go.condB rfl (fun hc => ?_) (fun hc => ?_))
     refine ⟨(by first | exact .inl rfl | exact .inr rfl),fin ?_⟩
     rw [resD_two (fn:=Tryz.f83) rfl]
     simp only [optThen_some,resultD_tmp,resultD_cell,G,Z,Y,Gx,un_neg,cutD,decide_true,decide_false,simprocAttr,fb3,fb9,fb51]
     have:l.all nameOk=false:=List.all_eq_false.2 ⟨_,List.getElem_mem hil,by simp [hn]⟩
     have hf:pathR s=false:=by simp [pathR,hp,this]
     exact ⟨_,[],by simp,nilParts (.inl hf),_,rfl,by rw [hf];simp⟩
   ·clear next
    have di:decide ((i:Int)<(l.length:Int))=false:=by simp;omega
    have hall:l.all nameOk=true:=by
     rw [List.all_eq_true]
     intro x hx
     obtain ⟨j,hj,rfl⟩:=List.mem_iff_getElem.1 hx
     exact hk j hj (by omega)
    by_cases h4:4<l.length
    ·have d4:decide (4<(l.length:Int))=true:=by simp;omega
     repeat' (first|refine Go.a rfl ?_|refine Go.rg ?_|refine GoR.nil ?_|refine Go.ret ?_|refine Go.b rfl ?_|(refine GoR.o (by rfl) (by rfl) ?_;(conv=>arg 1;simp only [G,Z,Y,Gx,un_neg,cutD,decide_true,decide_false,simprocAttr,fb3,fb9,fb51,di,d4]);show GoR ..)|refine Go.condB rfl (fun hc => ?_) (fun hc => ?_))
     refine ⟨(by first | exact .inl rfl | exact .inr rfl),fin ?_⟩
     rw [resD_two (fn:=Tryz.f83) rfl]
     simp only [optThen_some,resultD_tmp,resultD_cell,G,Z,Y,Gx,un_neg,cutD,decide_true,decide_false,simprocAttr,fb3,fb9,fb51]
     have hf:pathR s=false:=by simp [pathR,hp,hall];omega
     exact ⟨_,[],by simp,nilParts (.inl hf),_,rfl,by rw [hf];simp⟩
    ·have d4:decide (4<(l.length:Int))=false:=by simp;omega
     repeat' (first|refine Go.a rfl ?_|refine Go.rg ?_|refine GoR.nil ?_|refine Go.ret ?_|refine Go.b rfl ?_|(refine GoR.o (by rfl) (by rfl) ?_;(conv=>arg 1;simp only [G,Z,Y,Gx,un_neg,cutD,decide_true,decide_false,simprocAttr,fb3,fb9,fb51,di,d4]);show GoR ..)|refine Go.condB rfl (fun hc => ?_) (fun hc => ?_))
     refine ⟨(by first | exact .inl rfl | exact .inr rfl),fin ?_⟩
     rw [resD_two (fn:=Tryz.f83) rfl]
     simp only [optThen_some,resultD_tmp,resultD_cell,G,Z,Y,Gx,un_neg,cutD,decide_true,decide_false,simprocAttr,fb3,fb9,fb51]
     have hf:pathR s=true:=by simp [pathR,hp,hall,h47];omega
     have hpp:partsP s=l:=by rw [partsP,if_pos hf,hp]
     rw [hpp]
     exact ⟨_,[],by simp,.of_low (.tup' (.cons (.sl' (strs_low _)) (.cons (.int _ _) .nil))),_,rfl,by simp [hf]⟩
 ·have e:cutD s = .tup [.nils,.bool false]:=by rw [cutD,if_neg h47]
  have hcut:=fun S=>refCut s hs S
  simp only [e] at hcut
  repeat' (first|refine Go.a rfl ?_|refine Go.rg ?_|refine GoR.nil ?_|refine Go.ret ?_|refine Go.b rfl ?_|(refine GoR.o (by rfl) (by rfl) ?_;(conv=>arg 1;simp only [G,Z,Y,Gx,un_neg,cutD,decide_true,decide_false,simprocAttr,fb3,fb9,fb51]);show GoR ..)|(refine GoR.c c113 (by rfl) (by rfl) rfl ?_;(refine (hcut _).ret ?_))|refine Go.condB rfl (fun hc => ?_) (fun hc => ?_))
  refine ⟨(by first | exact .inl rfl | exact .inr rfl),fin ?_⟩
  rw [resD_two (fn:=Tryz.f83) rfl]
  simp only [optThen_some,resultD_tmp,resultD_cell,G,Z,Y,Gx,un_neg,cutD,decide_true,decide_false,simprocAttr,fb3,fb9,fb51]
  have hf:pathR s=false:=by simp [pathR,h47]
  exact ⟨_,[],by simp,nilParts (.inl hf),_,rfl,by rw [hf];simp⟩
theorem refZones (s:ByteArray) (hs:s.size<1000000) (S:Mem):CallD Tryz.prog O 79 [.str s] S fun d S'=>S'=S∧d=strsD (zonesP (partsP s)):=by
 have hp:=fun S=>refParts s hs S
 have h4:=partsP_len s
 have hok:=partsP_ok s
 have hno:pathR s=false→partsP s=[]:=fun h=>by rw [partsP,h];rfl
 refine CallD.e Tryz.func79 rfl Tryz.ntmps79 (by rfl) ?_
 unfold strsD at *
 generalize partsP s=l at *
 repeat' (first|refine Go.a rfl ?_|refine Go.rg ?_|refine GoR.nil ?_|refine Go.ret ?_|refine Go.b rfl ?_|(refine GoR.o (by rfl) (by rfl) ?_;(conv=>arg 1;simp only [G,Z,Y,Gx,un_neg,cutD,decide_true,decide_false,simprocAttr,fb3,fb51]);show GoR ..)|(refine GoR.c c83 (by rfl) (by rfl) rfl ?_;(refine (hp _).mono ?_;rintro _ S' ⟨h1,e,rfl,he⟩;subst S')))
 refine Go.condB rfl (fun hc => ?_) (fun hc => ?_)
 ·have h0 : ¬ e=0:=by simpa using hc
  have hl:l=[]:=hno (by cases hq:pathR s with | false=>rfl | true=>exact absurd (he.2 hq) h0)
  subst hl
  repeat' (first|refine Go.a rfl ?_|refine Go.rg ?_|refine GoR.nil ?_|refine Go.ret ?_|refine Go.b rfl ?_|(refine GoR.o (by rfl) (by rfl) ?_;(conv=>arg 1;simp only [G,Z,Y,Gx,un_neg,cutD,decide_true,decide_false,simprocAttr,fb3,fb51]);show GoR ..)|refine Go.condB rfl (fun hc => ?_) (fun hc => ?_))
  refine ⟨(by first | exact .inl rfl | exact .inr rfl),fin ?_⟩
  rw [resD_tmp (fn:=Tryz.f79) rfl]
  simp only [optThen_some,resultD_tmp,resultD_cell,G,Z,Y,Gx,un_neg,cutD,decide_true,decide_false,simprocAttr,fb3,fb51]
  exact ⟨_,[],by simp,.nilE,rfl⟩
 obtain rfl:e=0:=by simpa using hc
 repeat' (first|refine Go.a rfl ?_|refine Go.rg ?_|refine GoR.nil ?_|refine Go.ret ?_|refine Go.b rfl ?_|(refine GoR.o (by rfl) (by rfl) ?_;(conv=>arg 1;simp only [G,Z,Y,Gx,un_neg,cutD,decide_true,decide_false,simprocAttr,fb3,fb51]);show GoR ..)|refine Go.condB rfl (fun hc => ?_) (fun hc => ?_))
 refine Go.keep [(3,.sl none 1 l.length (l.map .str)),(5,.nils),(6,.int .i64 ((0:Nat):Int))] (.cons .refl (.cons .refl (.cons .refl (.nil)))) ?_
 refine Go.while (α:=Nat×D×Mem) (fun x=>l.length - x.1) (fun x=>[(3,.sl none 1 l.length (l.map .str)),(5,x.2.1),(6,.int .i64 (x.1:Int))]) (fun x=>x.2.2)
  (fun x=>x.1≤l.length∧AccD S.length x.2.1 1 x.1 (((zonesP l).take x.1).map .str) x.2.2∧Grown S.length S x.2.2) ?_ (0,.nils,S) ⟨Nat.zero_le _,.inl ⟨rfl,rfl,rfl⟩,.refl⟩
 rintro ⟨i,o,S1⟩ ⟨hi,hacc,hg⟩ next
 dsimp only at hi hacc hg next
 by_cases h1:i<l.length
 ·have hz:i<(zonesP l).length:=by rw [zonesP_len];exact h1
  have hcut:=strs_cut0 (P:=Tryz.prog) (x:=l) (k:=i) (by omega) Tryz.underlying51 dsz9 (kk:=.i64)
  have hpt:=fun S=>refText (orc:=O) none (l.take i) (by rw [List.length_take];omega) (fun x hx=>hok x (List.mem_of_mem_take hx)) S
  obtain ⟨o',S2,hap,hacc2,hg2⟩:=(hacc.app [.own]).append (P:=Tryz.prog) del51 (own:=some S1.length) (m:=1) (new:=[.str (ptext (l.take i))]) (by simp;have:=hg.len;omega) (by omega) ⟨by omega,by omega,by omega,rfl⟩
  repeat' (first|refine Go.a rfl ?_|refine Go.rg ?_|refine GoR.nil ?_|refine Go.ret ?_|refine Go.b rfl ?_|(refine GoR.o (by rfl) (by rfl) ?_;(conv=>arg 1;simp only [G,Z,Y,Gx,un_neg,cutD,decide_true,decide_false,simprocAttr,fb3,fb51,show decide ((i:Int)<(l.length:Int))=true by simp;omega,hcut,hap,builtin_append,wrap_succ (show i<4611686018427387904 by omega)]);show GoR ..)|(refine GoR.c c111 (by rfl) (by rfl) rfl ?_;(refine (hpt _).ret ?_))|refine Go.condB rfl (fun hc => ?_) (fun hc => ?_))
  refine Go.lpN ?_
  refine Go.keep [(3,.sl none 1 l.length (l.map .str)),(5,o'),(6,.int .i64 ((i+1:Nat):Int))] (.cons .refl (.cons .refl (.cons .refl (.nil)))) ?_
  refine next (i+1,o',S2) (by dsimp only;omega) ⟨h1,?_,hg.trans (Grown.app.trans hg2)⟩
  dsimp only
  rw [List.take_succ_eq_append_getElem hz,zonesP_at hz,List.map_append]
  exact hacc2
 ·clear next
  have hi':i=l.length:=by omega
  subst hi'
  rw [show l.length=(zonesP l).length from (zonesP_len l).symm,List.take_length] at hacc
  obtain ⟨E,hE⟩:=hg.pre [] S rfl (by simp)
  repeat' (first|refine Go.a rfl ?_|refine Go.rg ?_|refine GoR.nil ?_|refine Go.ret ?_|refine Go.b rfl ?_|(refine GoR.o (by rfl) (by rfl) ?_;(conv=>arg 1;simp only [G,Z,Y,Gx,un_neg,cutD,decide_true,decide_false,simprocAttr,fb3,fb51,show decide ((l.length:Int)<(l.length:Int))=false by simp]);show GoR ..)|refine Go.condB rfl (fun hc => ?_) (fun hc => ?_))
  refine ⟨(by first | exact .inl rfl | exact .inr rfl),fin ?_⟩
  rw [resD_tmp (fn:=Tryz.f79) rfl]
  simp only [optThen_some,resultD_tmp,resultD_cell,G,Z,Y,Gx,un_neg,cutD,decide_true,decide_false,simprocAttr,fb3,fb51]
  exact ⟨_,E,hE,hacc.wf.to_Wk (.sl' (strs_low _)),rfl⟩
def findS (l:List ByteArray) (s:ByteArray):Int:=if l.findIdx (fun x=>decide (x=s))<l.length then (l.findIdx (fun x=>decide (x=s)):Int) else -1
theorem findS_hit {l:List ByteArray} {s:ByteArray} {i:Nat} (h:i<l.length) (e:l[i]=s) (hk : ∀ j (hj:j<l.length),j<i → ¬ l[j]=s):findS l s=i:=by
 have:l.findIdx (fun x=>decide (x=s))=i:=(List.findIdx_eq h).2 ⟨by simpa using e,fun j hj=>by simpa using hk j (by omega) hj⟩
 rw [findS,this,if_pos h]
theorem findS_miss {l:List ByteArray} {s:ByteArray} (hk : ∀ j (hj:j<l.length),¬ l[j]=s):findS l s = -1:=by
 rw [findS,if_neg]
 rw [Nat.not_lt,List.findIdx_eq_length.2 fun x hx=>by
  obtain ⟨j,hj,rfl⟩:=List.mem_iff_getElem.1 hx
  simpa using hk j hj]
 exact Nat.le_refl _
theorem indexS (l:List ByteArray) (hl:l.length<4611686018427387904) (s:ByteArray) (S:Mem):CallD Tryz.prog orc 112 [strsD l,.str s] S fun d S'=>S'=S∧d = .int .i64 (findS l s):=by
 unfold strsD
 refine CallD.e Tryz.func112 rfl Tryz.ntmps112 (by rfl) ?_
 repeat' (first|refine Go.a rfl ?_|refine Go.rg ?_|refine GoR.nil ?_|refine Go.ret ?_|refine Go.b rfl ?_|(refine GoR.o (by rfl) (by rfl) ?_;(conv=>arg 1;simp only [G,Z,Y,Gx,un_neg,cutD,decide_true,decide_false,simprocAttr,fb3,fb9,fb51]);show GoR ..)|refine Go.condB rfl (fun hc => ?_) (fun hc => ?_))
 refine Go.keep [(0,.sl none 1 l.length (l.map .str)),(1,.str s),(7,.int .i64 (l.length:Int)),(8,.int .i64 ((0:Nat):Int))] (.cons .refl (.cons .refl (.cons .refl (.cons .refl (.nil))))) ?_
 refine Go.while (α:=Nat) (fun i=>l.length - i) (fun i=>[(0,.sl none 1 l.length (l.map .str)),(1,.str s),(7,.int .i64 (l.length:Int)),(8,.int .i64 (i:Int))]) (fun _=>S) (fun i=>i≤l.length ∧ ∀ j (h:j<l.length),j<i → ¬ l[j]=s) ?_ 0 ⟨Nat.zero_le _,by simp⟩
 rintro i ⟨hi,hk⟩ next
 by_cases h1:i<l.length
 ·have a1:=strsAt h1
  by_cases he:l[i]=s
  ·clear next
   rw [findS_hit h1 he hk]
   repeat' (first|refine Go.a rfl ?_|refine Go.rg ?_|refine GoR.nil ?_|refine Go.ret ?_|refine Go.b rfl ?_|(refine GoR.o (by rfl) (by rfl) ?_;(conv=>arg 1;simp only [G,Z,Y,Gx,un_neg,cutD,decide_true,decide_false,simprocAttr,fb3,fb9,fb51,show decide ((i:Int)<(l.length:Int))=true by simp;omega,a1,show decide (s=l[i])=true by simp [he]]);show GoR ..)|refine Go.condB rfl (fun hc => ?_) (fun hc => ?_))
   refine ⟨(by first | exact .inl rfl | exact .inr rfl),fin ?_⟩
   rw [resD_tmp (fn:=Tryz.f112) rfl]
   simp only [optThen_some,resultD_tmp,resultD_cell,G,Z,Y,Gx,un_neg,cutD,decide_true,decide_false,simprocAttr,fb3,fb9,fb51]
   exact ⟨_,[],by simp,.int,rfl⟩
  ·repeat' (first|refine Go.a rfl ?_|refine Go.rg ?_|refine GoR.nil ?_|refine Go.ret ?_|refine Go.b rfl ?_|(refine GoR.o (by rfl) (by rfl) ?_;(conv=>arg 1;simp only [G,Z,Y,Gx,un_neg,cutD,decide_true,decide_false,simprocAttr,fb3,fb9,fb51,show decide ((i:Int)<(l.length:Int))=true by simp;omega,a1,show decide (s=l[i])=false by simp;exact fun e=>he e.symm,wrap_succ (show i<4611686018427387904 by omega)]);show GoR ..)|refine Go.condB rfl (fun hc => ?_) (fun hc => ?_))
   refine Go.lpN ?_
   refine Go.keep [(0,.sl none 1 l.length (l.map .str)),(1,.str s),(7,.int .i64 (l.length:Int)),(8,.int .i64 ((i+1:Nat):Int))] (.cons .refl (.cons .refl (.cons .refl (.cons .refl (.nil))))) ?_
   refine next (i+1) (by omega) ⟨h1,fun j hj hlt => ?_⟩
   rcases Nat.lt_or_ge j i with h | h
   ·exact hk j hj h
   ·obtain rfl:j=i:=by omega
    exact he
 ·clear next
  rw [findS_miss fun j hj=>hk j hj (by omega)]
  repeat' (first|refine Go.a rfl ?_|refine Go.rg ?_|refine GoR.nil ?_|refine Go.ret ?_|refine Go.b rfl ?_|(refine GoR.o (by rfl) (by rfl) ?_;(conv=>arg 1;simp only [G,Z,Y,Gx,un_neg,cutD,decide_true,decide_false,simprocAttr,fb3,fb9,fb51,show decide ((i:Int)<(l.length:Int))=false by simp;omega]);show GoR ..)|refine Go.condB rfl (fun hc => ?_) (fun hc => ?_))
  refine ⟨(by first | exact .inl rfl | exact .inr rfl),fin ?_⟩
  rw [resD_tmp (fn:=Tryz.f112) rfl]
  simp only [optThen_some,resultD_tmp,resultD_cell,G,Z,Y,Gx,un_neg,cutD,decide_true,decide_false,simprocAttr,fb3,fb9,fb51]
  exact ⟨_,[],by simp,.int,rfl⟩
theorem cloneS (l:List ByteArray) (hl:l.length<1000000) (S:Mem):CallD Tryz.prog orc 80 [strsD l] S fun d S'=>S'=S∧d=strsD l:=by
 unfold strsD
 cases l with
 | nil=>
  refine CallD.nilOr (pre:=[]) (post:=[]) ?_ ?_
  ·refine CallD.e Tryz.func80 rfl Tryz.ntmps80 (by rfl) ?_
   repeat' (first|refine Go.a rfl ?_|refine Go.rg ?_|refine GoR.nil ?_|refine Go.ret ?_|refine Go.b rfl ?_|(refine GoR.o (by rfl) (by rfl) ?_;(conv=>arg 1;simp only [G,Z,Y,Gx,un_neg,cutD,decide_true,decide_false,simprocAttr,fb51]);show GoR ..)|refine Go.condB rfl (fun hc => ?_) (fun hc => ?_))
   refine ⟨(by first | exact .inl rfl | exact .inr rfl),fin ?_⟩
   rw [resD_tmp (fn:=Tryz.f80) rfl]
   simp only [optThen_some,resultD_tmp,resultD_cell,G,Z,Y,Gx,un_neg,cutD,decide_true,decide_false,simprocAttr,fb51]
   exact ⟨_,[],by simp,.nilE,rfl⟩
  ·refine CallD.e Tryz.func80 rfl Tryz.ntmps80 (by rfl) ?_
   repeat' (first|refine Go.a rfl ?_|refine Go.rg ?_|refine GoR.nil ?_|refine Go.ret ?_|refine Go.b rfl ?_|(refine GoR.o (by rfl) (by rfl) ?_;(conv=>arg 1;simp only [G,Z,Y,Gx,un_neg,cutD,decide_true,decide_false,simprocAttr,fb51]);show GoR ..)|refine Go.condB rfl (fun hc => ?_) (fun hc => ?_))
   refine ⟨(by first | exact .inl rfl | exact .inr rfl),fin ?_⟩
   rw [resD_tmp (fn:=Tryz.f80) rfl]
   simp only [optThen_some,resultD_tmp,resultD_cell,G,Z,Y,Gx,un_neg,cutD,decide_true,decide_false,simprocAttr,fb51]
   exact ⟨_,_,rfl,.disown (by simp),rfl⟩
 | cons x l=>
  refine CallD.e Tryz.func80 rfl Tryz.ntmps80 (by rfl) ?_
  have hf:fitsD 16 (l.length+1) (D.str x::l.map D.str):=⟨by simp at hl;omega,by simp at hl;omega,by omega,by simp [D.one]⟩
  repeat' (first|refine Go.a rfl ?_|refine Go.rg ?_|refine GoR.nil ?_|refine Go.ret ?_|refine Go.b rfl ?_|(refine GoR.o (by rfl) (by rfl) ?_;(conv=>arg 1;simp only [G,Z,Y,Gx,un_neg,cutD,decide_true,decide_false,simprocAttr,fb51,builtin_append,Nat.zero_add,hf,show (l.length+1=0)=False by simp]);show GoR ..)|refine Go.condB rfl (fun hc => ?_) (fun hc => ?_))
  refine ⟨(by first | exact .inl rfl | exact .inr rfl),fin ?_⟩
  rw [resD_tmp (fn:=Tryz.f80) rfl]
  simp only [optThen_some,resultD_tmp,resultD_cell,G,Z,Y,Gx,un_neg,cutD,decide_true,decide_false,simprocAttr,fb51]
  exact ⟨_,_,rfl,.disown (strs_low (x::l)).get,rfl⟩
end Go.Proofs.DtT
