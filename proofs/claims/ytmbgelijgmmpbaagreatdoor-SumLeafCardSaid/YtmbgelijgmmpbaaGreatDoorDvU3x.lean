/- The law SumLeaf. -/
import Derived.Test.YtmbgelijgmmpbaaGreatDoorDvU1x
import Derived.Test.YtmbgelijgmmpbaaGreatDoorDvK0x
set_option linter.unusedSimpArgs false
set_option linter.unusedVariables false
namespace Go.Proofs.DvT
open Go Go.DM Go.Proofs.DvF
set_option maxRecDepth 100000
theorem set_put {l:List Att} {s:ByteArray} {v:Val} : setL l s v=putK Att.n l ⟨s,v⟩:=by
 unfold setL putK look
 rw [Option.isSome_map]
 rfl
theorem with_put {l:List Att} (hr:RiseB Att.n l) (s:ByteArray) (v:Val):withL l s v=putK Att.n l ⟨s,v⟩:=(with_set hr s v).trans set_put
theorem putK_comm {l:List Att} (hr:RiseB Att.n l) {a b:Att} (h : ¬ a.n=b.n):putK Att.n (putK Att.n l a) b=putK Att.n (putK Att.n l b) a:=by
 refine extK (riseK_put (riseK_put hr a) b) (riseK_put (riseK_put hr b) a) fun s => ?_
 by_cases ha:a.n=s
 ·subst ha
  rw [lookK_put_ne (riseK_put hr a) b (fun e=>h e.symm),lookK_put hr a,lookK_put (riseK_put hr b) a]
 ·by_cases hb:b.n=s
  ·subst hb
   rw [lookK_put (riseK_put hr a) b,lookK_put_ne (riseK_put hr b) a ha,lookK_put hr b]
  ·rw [lookK_put_ne (riseK_put hr a) b hb,lookK_put_ne hr a ha,lookK_put_ne (riseK_put hr b) a ha,lookK_put_ne hr b hb]
theorem same_mid {a b:Att} (h:sameA a b=true) (y:List Att) : ∀ x:List Att,sameL (x++a::y) (x++b::y)=true
 | []=>by rw [List.nil_append,List.nil_append,sameL,h,sameL_self];rfl
 | c::x=>by
  have:=sameL_self [c]
  simp only [sameL,Bool.and_true] at this
  rw [List.cons_append,List.cons_append,sameL,this,same_mid h y x]
  rfl
theorem same_put {l:List Att} (hr:RiseB Att.n l) {a b:Att} (hn:a.n=b.n) (hc:cmpV a.v b.v=0):sameL (putK Att.n l a) (putK Att.n l b)=true:=by
 obtain ⟨x,m,y,c⟩:=cutK_of hr a.n
 rw [c.put a rfl,c.put b hn.symm]
 exact same_mid (by simp [sameA,hn,hc]) y x
theorem loadV_k (l:List Att):(loadV l).k=1∧(loadV l).i=wholeI l:=by
 unfold loadV wholeI
 cases h:(look l (⟨#[108,111,97,100]⟩:ByteArray)).isSome&&((look l (⟨#[108,111,97,100]⟩:ByteArray)).getD noVal).k==1 with
 | false=>exact ⟨rfl,rfl⟩
 | true=>
  simp only [Bool.and_eq_true,beq_iff_eq] at h
  exact ⟨h.2,rfl⟩
theorem leaf_same (own:ByteArray) {l:List Att} (ver:Int) (hr:RiseB Att.n l):sameL (leafP own l ver) (leafR own l ver)=true:=by
 have k1 : ¬ (⟨#[108,111,97,100]⟩:ByteArray)=(⟨#[110]⟩:ByteArray):=by decide
 have k2 : ¬ (⟨#[108,111,97,100]⟩:ByteArray)=(⟨#[118,101,114]⟩:ByteArray):=by decide
 have k3 : ¬ (⟨#[108,111,97,100]⟩:ByteArray)=(⟨#[114,101,112]⟩:ByteArray):=by decide
 obtain ⟨h1,h2⟩:=loadV_k l
 unfold leafP leafR
 rw [with_put hr]
 have e1:=riseK_put hr ⟨(⟨#[108,111,97,100]⟩:ByteArray),loadV l⟩
 rw [with_put e1]
 have e2:=riseK_put e1 ⟨(⟨#[114,101,112]⟩:ByteArray),txtV own⟩
 rw [with_put e2]
 have e3:=riseK_put e2 ⟨(⟨#[110]⟩:ByteArray),numV 1⟩
 rw [with_put e3]
 have d1:=riseK_put hr ⟨(⟨#[114,101,112]⟩:ByteArray),txtV own⟩
 have d2:=riseK_put d1 ⟨(⟨#[110]⟩:ByteArray),numV 1⟩
 have d3:=riseK_put d2 ⟨(⟨#[118,101,114]⟩:ByteArray),numV ver⟩
 rw [putK_comm d1 (a:=⟨(⟨#[108,111,97,100]⟩:ByteArray),numV (wholeI l)⟩) (b:=⟨(⟨#[110]⟩:ByteArray),numV 1⟩) k1,putK_comm d2 (a:=⟨(⟨#[108,111,97,100]⟩:ByteArray),numV (wholeI l)⟩) (b:=⟨(⟨#[118,101,114]⟩:ByteArray),numV ver⟩) k2]
 rw [putK_comm hr (a:=⟨(⟨#[108,111,97,100]⟩:ByteArray),loadV l⟩) (b:=⟨(⟨#[114,101,112]⟩:ByteArray),txtV own⟩) k3,putK_comm d1 (a:=⟨(⟨#[108,111,97,100]⟩:ByteArray),loadV l⟩) (b:=⟨(⟨#[110]⟩:ByteArray),numV 1⟩) k1,putK_comm d2 (a:=⟨(⟨#[108,111,97,100]⟩:ByteArray),loadV l⟩) (b:=⟨(⟨#[118,101,114]⟩:ByteArray),numV ver⟩) k2]
 refine same_put d3 rfl ?_
 show cmpV (numV (wholeI l)) (loadV l)=0
 unfold cmpV
 have:(numV (wholeI l)).k=1:=rfl
 rw [this,h1,if_pos (by decide),if_pos rfl,h2]
 exact cmpI_self _
theorem chkA:chk ⟨0,0,0,(⟨#[47,97]⟩:ByteArray)⟩=0:=by decide +kernel
theorem good_iff {l:List Att} : goodL l=true↔fewL l=true∧l.length≤32∧(∀ a∈l,nameOk a.n=true∧chkV a.v=0)∧RiseB Att.n l:=by
 rw [goodL,Bool.and_eq_true,beq_iff_eq,rowA_ok chkA]
theorem putV_small {B:Nat} {l:List Att} (hr:RiseB Att.n l) (h : ∀ a∈l,a.v.l.length<B) {a:Att} (ha:a.v.l.length<B) : ∀ b∈putK Att.n l a,b.v.l.length<B:=fun b hb=>by
 rcases memK_put hr hb with hb | rfl
 ·exact h b hb
 ·exact ha
set_option maxHeartbeats 2000000 in
theorem lawLeaf (own:ByteArray) (l:List Att) (ver:Int):CallD Tryz.prog O 4 [.str own,.sl none 5 l.length (attsC l),.int .i64 ver] [] fun d S'=>S'=[]∧d = .bool true:=by
 have hg:=fun S=>good4 l S
 refine CallD.e Tryz.func4 rfl Tryz.ntmps4 (by rfl) ?_
 by_cases h64:64<own.size
 ·repeat' (first|refine Go.a rfl ?_|refine Go.rg ?_|refine GoR.nil ?_|refine Go.ret ?_|refine Go.b rfl ?_|(refine GoR.o (by rfl) (by rfl) ?_;(conv=>arg 1;simp only [G,Z,Y,Gx,un_neg,cutD,decide_true,decide_false,simprocAttr,fb3,fb9,show decide (64<(own.size:Int))=true by simp;omega]);show GoR ..)|(refine GoR.c c7 (by rfl) (by rfl) rfl ?_;(refine known19.ret ?_))|refine GoR.s (by rfl) rfl rfl ?_|(refine GoR.splitG rfl (fun hc => ?_) (fun hc => ?_)<;>simp only [hc])|refine Go.condB rfl (fun hc => ?_) (fun hc => ?_))
  refine ⟨(by first | exact .inl rfl | exact .inr rfl),fin ?_⟩
  rw [resD_tmp (fn:=Tryz.f4) rfl]
  simp only [optThen_some,resultD_tmp,resultD_cell,G,Z,Y,Gx,un_neg,cutD,decide_true,decide_false,simprocAttr,fb3,fb9]
  exact ⟨_,[],rfl,.bool,rfl⟩
 have d64:decide (64<(own.size:Int))=false:=by simp;omega
 cases hgl:goodL l with
 | false=>
  repeat' (first|refine Go.a rfl ?_|refine Go.rg ?_|refine GoR.nil ?_|refine Go.ret ?_|refine Go.b rfl ?_|(refine GoR.o (by rfl) (by rfl) ?_;(conv=>arg 1;simp only [G,Z,Y,Gx,un_neg,cutD,decide_true,decide_false,simprocAttr,fb3,fb9,d64,hgl]);show GoR ..)|(refine GoR.c c7 (by rfl) (by rfl) rfl ?_;(refine known19.ret ?_))|(refine GoR.c c18 (by rfl) (by rfl) rfl ?_;(refine (hg _).ret ?_))|refine GoR.s (by rfl) rfl rfl ?_|(refine GoR.splitG rfl (fun hc => ?_) (fun hc => ?_)<;>simp only [hc])|refine Go.condB rfl (fun hc => ?_) (fun hc => ?_))
  refine ⟨(by first | exact .inl rfl | exact .inr rfl),fin ?_⟩
  rw [resD_tmp (fn:=Tryz.f4) rfl]
  simp only [optThen_some,resultD_tmp,resultD_cell,G,Z,Y,Gx,un_neg,cutD,decide_true,decide_false,simprocAttr,fb3,fb9]
  exact ⟨_,[],rfl,.bool,rfl⟩
 | true=>
 obtain ⟨g1,g2,g3,g4⟩:=good_iff.1 hgl
 obtain ⟨_,gf⟩:=fewA_size g1
 have hv : ∀ a∈l,a.v.l.length<1000000:=fun a ha=>by have:=gf a ha;omega
 have hlf:=fun S=>sumLeaf own ver g4 (by omega) hv S
 have hrl:=fun S=>refLeaf (orc:=O) own ver g4 (by omega) S
 have hsm:=leaf_same own ver g4
 have r1:=riseK_put g4 ⟨(⟨#[114,101,112]⟩:ByteArray),txtV own⟩
 have r2:=riseK_put r1 ⟨(⟨#[108,111,97,100]⟩:ByteArray),numV (wholeI l)⟩
 have r3:=riseK_put r2 ⟨(⟨#[110]⟩:ByteArray),numV 1⟩
 have z0:0<1000000:=by decide
 have hvp : ∀ a∈leafP own l ver,a.v.l.length<1000000:=putV_small r3 (putV_small r2 (putV_small r1 (putV_small g4 hv z0) z0) z0) z0
 have e1:=riseK_put g4 ⟨(⟨#[108,111,97,100]⟩:ByteArray),loadV l⟩
 have e2:=riseK_put e1 ⟨(⟨#[114,101,112]⟩:ByteArray),txtV own⟩
 have e3:=riseK_put e2 ⟨(⟨#[110]⟩:ByteArray),numV 1⟩
 have hlv:(loadV l).l.length<1000000:=by
  unfold loadV
  split
  ·rename_i h
   cases hq:look l (⟨#[108,111,97,100]⟩:ByteArray) with
   | none=>simp [hq] at h
   | some v=>
    obtain ⟨a,ha,rfl⟩:=Option.map_eq_some_iff.1 hq
    exact hv a (List.mem_of_find?_eq_some ha)
  ·decide
 have hvr : ∀ a∈leafR own l ver,a.v.l.length<1000000:=by
  unfold leafR
  rw [with_put g4,with_put e1,with_put e2,with_put e3]
  exact putV_small e3 (putV_small e2 (putV_small e1 (putV_small g4 hv hlv) z0) z0) z0
 have lp:(leafP own l ver).length≤36:=by
  have l1:=len_put g4 ⟨(⟨#[114,101,112]⟩:ByteArray),txtV own⟩
  have l2:=len_put r1 ⟨(⟨#[108,111,97,100]⟩:ByteArray),numV (wholeI l)⟩
  have l3:=len_put r2 ⟨(⟨#[110]⟩:ByteArray),numV 1⟩
  have l4:=len_put r3 ⟨(⟨#[118,101,114]⟩:ByteArray),numV ver⟩
  unfold leafP
  omega
 generalize leafP own l ver=x at *
 generalize leafR own l ver=y at *
 have hox:=fun S=>ofAttrs (orc:=O) x (by omega) S
 have hol:=fun S=>ofAttrs (orc:=O) l (by omega) S
 have hsa:=fun S=>refSameAttrs (orc:=O) x y (by omega) hvp hvr S
 rw [hsm] at hsa
 unfold attsD at hlf hrl
 repeat' (first|refine Go.a rfl ?_|refine Go.rg ?_|refine GoR.nil ?_|refine Go.ret ?_|refine Go.b rfl ?_|(refine GoR.o (by rfl) (by rfl) ?_;(conv=>arg 1;simp only [G,Z,Y,Gx,un_neg,cutD,decide_true,decide_false,simprocAttr,fb3,fb9,d64,hgl]);show GoR ..)|(refine GoR.c c7 (by rfl) (by rfl) rfl ?_;(refine known19.ret ?_))|(refine GoR.c c18 (by rfl) (by rfl) rfl ?_;(refine (hg _).ret ?_))|(refine GoR.c c19 (by rfl) (by rfl) rfl ?_;(refine (hlf _).ret ?_))|(refine GoR.c c12 (by rfl) (by rfl) rfl ?_;(first | refine (hox _).ret ?_ | refine (hol _).ret ?_))|(refine GoR.c c20 (by rfl) (by rfl) rfl ?_;(refine (hrl _).ret ?_))|(refine GoR.c c11 (by rfl) (by rfl) rfl ?_;(refine (hsa _).ret ?_))|refine GoR.s (by rfl) rfl rfl ?_|(refine GoR.splitG rfl (fun hc => ?_) (fun hc => ?_)<;>simp only [hc])|refine Go.condB rfl (fun hc => ?_) (fun hc => ?_))
 refine ⟨(by first | exact .inl rfl | exact .inr rfl),fin ?_⟩
 rw [resD_tmp (fn:=Tryz.f4) rfl]
 simp only [optThen_some,resultD_tmp,resultD_cell,G,Z,Y,Gx,un_neg,cutD,decide_true,decide_false,simprocAttr,fb3,fb9]
 exact ⟨_,[],rfl,.bool,rfl⟩
end Go.Proofs.DvT
