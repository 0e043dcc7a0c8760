/- The law SumCounts. -/
import Derived.Test.YtmbgelijgmmpbaaGreatDoorDvU4x
import Derived.Test.YtmbgelijgmmpbaaGreatDoorDvK0x
import Derived.Test.YtmbgelijgmmpbaaGreatDoorDvR0x
set_option linter.unusedSimpArgs false
set_option linter.unusedVariables false
namespace Go.Proofs.DvT
open Go Go.DM Go.Proofs.DvF
set_option maxRecDepth 100000
theorem wt_rows {m:Nat} {x:List D} (h:WT Tryz.prog m 22 x) : ∃ l:List Rw,x=[.sl none 6 l.length (rowsC l)] ∧ ∀ r∈l,InR r:=by
 obtain ⟨m',xss,rfl,rfl,_,hx⟩:=WT.slice Tryz.underlying22 dsz63 h
 obtain ⟨l,rfl,hl⟩:=list_of (c:=Rw.c) (p:=InR) fun y hy=>wt_row (hx y hy)
 refine ⟨l,?_,hl⟩
 rw [List.length_map,rowsC,List.flatMap_def]
def sumM (l:List Rw):Int:=(l.map manyR).sum
theorem sumM_le : ∀ {l:List Rw},(∀ r∈l,OkC r)→(l.length:Int)≤sumM l
 | [],_=>by decide
 | r::l,h=>by
  have h1:=sumM_le (l:=l) fun r hr=>h r (List.mem_cons_of_mem _ hr)
  have h2:=(manyR_in (h r (List.mem_cons_self ..))).1
  unfold sumM at *
  rw [List.map_cons,List.sum_cons,List.length_cons]
  omega
theorem fold_min : ∀ {l:List Rw} {n:Int},(∀ r∈l,OkC r)→0≤n→n≤9223372036854775807→l.foldl (fun n r=>clampV (n+manyR r)) n=min 9223372036854775807 (n+sumM l)
 | [],n,_,h1,h2=>by
  show n=min 9223372036854775807 (n+0)
  omega
 | r::l,n,h,h1,h2=>by
  have hr:=manyR_in (h r (List.mem_cons_self ..))
  have hl:=fun r hr=>h r (List.mem_cons_of_mem _ hr)
  have h3:=sumM_le hl
  have hc:0≤clampV (n+manyR r)∧clampV (n+manyR r)≤9223372036854775807∧clampV (n+manyR r)=min 9223372036854775807 (n+manyR r):=by
   unfold clampV
   split
   ·omega
   ·split<;>omega
  rw [List.foldl_cons,fold_min hl hc.1 hc.2.1,hc.2.2]
  unfold sumM at *
  rw [List.map_cons,List.sum_cons]
  omega
theorem countR_min {l:List Rw} (h : ∀ r∈l,OkC r):countR l=min 9223372036854775807 (sumM l):=by
 rw [countR,fold_min h (by decide) (by decide),Int.zero_add]
theorem sumM_app (x y:List Rw):sumM (x++y)=sumM x+sumM y:=by unfold sumM;rw [List.map_append,List.sum_append]
theorem rows_take {l:List Rw} {k:Nat} (h:k≤l.length):(rowsC l).take (k*6)=rowsC (l.take k):=by
 have hl:(rowsC (l.take k)).length=k*6:=by rw [rowsC_len,List.length_take];omega
 have e:rowsC l=rowsC (l.take k)++rowsC (l.drop k):=by
  conv=>lhs;rw [← List.take_append_drop k l]
  simp only [rowsC,List.flatMap_append]
 rw [e,← hl,List.take_left]
theorem rows_drop {l:List Rw} {k:Nat} (h:k≤l.length):(rowsC l).drop (k*6)=rowsC (l.drop k):=by
 have hl:(rowsC (l.take k)).length=k*6:=by rw [rowsC_len,List.length_take];omega
 have e:rowsC l=rowsC (l.take k)++rowsC (l.drop k):=by
  conv=>lhs;rw [← List.take_append_drop k l]
  simp only [rowsC,List.flatMap_append]
 rw [e,← hl,List.drop_left]
theorem rows_cut0 {l:List Rw} {k:Nat} (h:k≤l.length) {kk:IntKind} : sliceD Tryz.prog 22 (.sl none 6 l.length (rowsC l)) none (some (.int kk (k:Int))) none=some (.sl none 6 (l.take k).length (rowsC (l.take k))):=by
 rw [cut_sl Tryz.underlying22 dsz63]
 simp only [optNatD,natD,Int.natCast_nonneg,if_true,Option.map_some,Option.bind_some,Int.toNat_natCast,DM.cutD]
 simp [List.length_take,Nat.min_eq_left h,rows_take h,h]
theorem rows_cut1 {l:List Rw} {k:Nat} (h:k≤l.length) {kk:IntKind} : sliceD Tryz.prog 22 (.sl none 6 l.length (rowsC l)) (some (.int kk (k:Int))) none none=some (.sl none 6 (l.drop k).length (rowsC (l.drop k))):=by
 rw [cut_sl Tryz.underlying22 dsz63]
 simp only [optNatD,natD,Int.natCast_nonneg,if_true,Option.map_some,Option.bind_some,Int.toNat_natCast,DM.cutD]
 have:(rowsC (l.drop k)).length≤(l.length - k)*6:=by rw [rowsC_len,List.length_drop];exact Nat.le_refl _
 simp [rows_drop h,h,List.take_of_length_le this]
theorem okC_of {r:Rw} (hi:InR r) (hf:fewR r=true) (hc:chkR r=0):OkC r:=by
 simp only [fewR,Bool.and_eq_true,decide_eq_true_eq] at hf
 obtain ⟨g1,g2⟩:=fewA_size hf.2.2
 have hr:RiseB Att.n r.at_:=by
  unfold chkR at hc
  split at hc
  ·cases hc
  ·split at hc
   ·unfold attrsE at hc
    split at hc
    ·cases hc
    ·exact rise_iff.2 (attsE_ok.1 hc).2.1
   ·rename_i h
    exact absurd hc h
 exact ⟨hr,by omega,fun a ha=>by have:=g2 a ha;omega,hi.i⟩
set_option maxHeartbeats 2000000 in
theorem lawCounts (l:List Rw) (hin : ∀ r∈l,InR r) (at_:Int) (hat:0≤at_∧at_≤255):CallD Tryz.prog O 5 [.sl none 6 l.length (rowsC l),.int .u8 at_] [] fun d S'=>S'=[]∧d = .bool true:=by
 have hrs:=fun S=>rise14 l S
 refine CallD.e Tryz.func5 rfl Tryz.ntmps5 (by rfl) ?_
 repeat' (first|refine Go.a rfl ?_|refine Go.rg ?_|refine GoR.nil ?_|refine Go.ret ?_|refine Go.b rfl ?_|(refine GoR.o (by rfl) (by rfl) ?_;(conv=>arg 1;simp only [G,Z,Y,Gx,un_neg,cutD,decide_true,decide_false,simprocAttr,fb2,fb3,fb5,fb22]);show GoR ..)|(refine GoR.c c7 (by rfl) (by rfl) rfl ?_;(refine known19.ret ?_))|(refine GoR.c c8 (by rfl) (by rfl) rfl ?_;(refine (hrs _).retE ?_;rintro _ ⟨b,rfl,hb⟩))|refine GoR.s (by rfl) rfl rfl ?_)
 cases b with
 | false=>
  repeat' (first|refine Go.a rfl ?_|refine Go.rg ?_|refine GoR.nil ?_|refine Go.ret ?_|refine Go.b rfl ?_|(refine GoR.o (by rfl) (by rfl) ?_;(conv=>arg 1;simp only [G,Z,Y,Gx,un_neg,cutD,decide_true,decide_false,simprocAttr,fb2,fb3,fb5,fb22]);show GoR ..)|refine GoR.s (by rfl) rfl rfl ?_|(refine GoR.splitG rfl (fun hc => ?_) (fun hc => ?_)<;>simp only [hc])|refine Go.condB rfl (fun hc => ?_) (fun hc => ?_))
  refine ⟨(by first | exact .inl rfl | exact .inr rfl),fin ?_⟩
  rw [resD_tmp (fn:=Tryz.f5) rfl]
  simp only [optThen_some,resultD_tmp,resultD_cell,G,Z,Y,Gx,un_neg,cutD,decide_true,decide_false,simprocAttr,fb2,fb3,fb5,fb22]
  exact ⟨_,[],rfl,.bool,rfl⟩
 | true=>
 obtain ⟨h64,hall⟩:=hb rfl
 clear hb
 have hok : ∀ r∈l,OkC r:=fun r hr=>okC_of (hin r hr) (hall r hr).1 (hall r hr).2
 obtain ⟨an,rfl⟩:=Int.eq_ofNat_of_zero_le hat.1
 have key : ∀ k:Nat,k≤l.length → ∃ a b n:Int,countR (l.take k)=a∧countR (l.drop k)=b∧countR l=n∧in64 a∧in64 b∧(4611686018427387904≤a∨4611686018427387904≤b→a≤n∧b≤n)∧(¬ 4611686018427387904≤a → ¬ 4611686018427387904≤b→IntKind.i64.wrap (a+b)=n∧clampV (a+b)=n∧(l.length:Int)≤n):=by
  intro k hk
  have o1 : ∀ r∈l.take k,OkC r:=fun r hr=>hok r (List.mem_of_mem_take hr)
  have o2 : ∀ r∈l.drop k,OkC r:=fun r hr=>hok r (List.mem_of_mem_drop hr)
  have s1:=sumM_le o1
  have s2:=sumM_le o2
  have s3:=sumM_le hok
  have e:sumM l=sumM (l.take k)+sumM (l.drop k):=by rw [← sumM_app,List.take_append_drop]
  refine ⟨_,_,_,rfl,rfl,rfl,?_,?_,?_,?_⟩
  ·rw [countR_min o1];unfold in64;omega
  ·rw [countR_min o2];unfold in64;omega
  ·rw [countR_min o1,countR_min o2,countR_min hok];omega
  ·rw [countR_min o1,countR_min o2,countR_min hok]
   intro h1 h2
   have hs:min 9223372036854775807 (sumM (l.take k))+min 9223372036854775807 (sumM (l.drop k))=min 9223372036854775807 (sumM l):=by omega
   rw [hs]
   refine ⟨wrap64 (by omega) (by omega),?_,by omega⟩
   unfold clampV
   split
   ·omega
   ·split<;>omega
 obtain ⟨k,hk,hkk⟩ : ∃ k,k≤l.length∧k=if l.length=0 then 0 else an%(l.length+1):=⟨_,by split<;>(try have:an%(l.length+1)<l.length+1:=Nat.mod_lt an (by omega))<;>omega,rfl⟩
 obtain ⟨a,b,n,ea,eb,en,ia,ib,k1,k2⟩:=key k hk
 have c0:=fun kk=>rows_cut0 hk (kk:=kk)
 have c1:=fun kk=>rows_cut1 hk (kk:=kk)
 have q1:=fun S=>sumCount (orc:=O) (l.take k) (by rw [List.length_take];omega) (fun r hr=>hok r (List.mem_of_mem_take hr)) S
 have q2:=fun S=>sumCount (orc:=O) (l.drop k) (by rw [List.length_drop];omega) (fun r hr=>hok r (List.mem_of_mem_drop hr)) S
 have q3:=fun S=>sumCount (orc:=O) l (by omega) hok S
 have hadd:=fun S=>valAdd (orc:=O) a b ia ib S
 rw [ea] at q1
 rw [eb] at q2
 rw [en] at q3
 have w1:IntKind.i64.wrap (an:Int)=(an:Int):=wrap64 (by omega) (by omega)
 have w2:=wrap_succ (show l.length<4611686018427387904 by omega)
 have w3:Int.tmod (an:Int) ((l.length+1:Nat):Int)=((an%(l.length+1):Nat):Int):=(Int.ofNat_tmod _ _).symm
 have g5:(((l.length+1:Nat):Int)=0)=False:=by simp;omega
 by_cases hl0:l.length=0
 ·obtain rfl:=List.eq_nil_of_length_eq_zero hl0
  have h0:=fun S=>sumCount (orc:=O) [] (by decide) (by simp) S
  have ha0:=fun S=>valAdd (orc:=O) 0 0 (by unfold in64;omega) (by unfold in64;omega) S
  rw [show countR []=0 from rfl] at h0
  rw [show clampV (0+0)=0 from rfl] at ha0
  simp only [rowsC,List.flatMap_nil,List.length_nil] at h0 ⊢
  repeat' (first|refine Go.a rfl ?_|refine Go.rg ?_|refine GoR.nil ?_|refine Go.ret ?_|refine Go.b rfl ?_|(refine GoR.o (by rfl) (by rfl) ?_;(conv=>arg 1;simp only [G,Z,Y,Gx,un_neg,cutD,decide_true,decide_false,simprocAttr,fb2,fb3,fb5,fb22,optNatD,natD,DM.cutD,Option.map_some,Option.map_none,show IntKind.i64.wrap (0+0)=0 from rfl,show decide ((4611686018427387904:Int)≤0)=false by decide,show decide ((0:Int)≤0)=true by decide,show decide ((0:Int)<0)=false by decide,beq_self_eq_true]);show GoR ..)|(refine GoR.c c16 (by rfl) (by rfl) rfl ?_;(refine (h0 _).ret ?_))|(refine GoR.c c21 (by rfl) (by rfl) rfl ?_;(refine (ha0 _).ret ?_))|refine GoR.s (by rfl) rfl rfl ?_|(refine GoR.splitG rfl (fun hc => ?_) (fun hc => ?_)<;>simp only [hc])|refine Go.condB rfl (fun hc => ?_) (fun hc => ?_))
  refine ⟨(by first | exact .inl rfl | exact .inr rfl),fin ?_⟩
  rw [resD_tmp (fn:=Tryz.f5) rfl]
  simp only [optThen_some,resultD_tmp,resultD_cell,G,Z,Y,Gx,un_neg,cutD,decide_true,decide_false,simprocAttr,fb2,fb3,fb5,fb22]
  exact ⟨_,[],rfl,.bool,rfl⟩
 ·rw [if_neg hl0] at hkk
  subst hkk
  generalize an%(l.length+1)=k at *
  have dl:decide ((0:Int)<(l.length:Int))=true:=by simp;omega
  by_cases ha:4611686018427387904≤a
  ·obtain ⟨j1,j2⟩:=k1 (.inl ha)
   repeat' (first|refine Go.a rfl ?_|refine Go.rg ?_|refine GoR.nil ?_|refine Go.ret ?_|refine Go.b rfl ?_|(refine GoR.o (by rfl) (by rfl) ?_;(conv=>arg 1;simp only [G,Z,Y,Gx,un_neg,cutD,decide_true,decide_false,simprocAttr,fb2,fb3,fb5,fb22,dl,w1,w2,w3,g5,c0,c1,Option.map_some,Option.map_none,decide_eq_true ha,decide_eq_true j1,decide_eq_true j2]);show GoR ..)|(refine GoR.c c16 (by rfl) (by rfl) rfl ?_;(first | refine (q1 _).ret ?_ | refine (q2 _).ret ?_ | refine (q3 _).ret ?_))|(refine GoR.c c21 (by rfl) (by rfl) rfl ?_;(refine (hadd _).ret ?_))|refine GoR.s (by rfl) rfl rfl ?_|(refine GoR.splitG rfl (fun hc => ?_) (fun hc => ?_)<;>simp only [hc])|refine Go.condB rfl (fun hc => ?_) (fun hc => ?_))
   refine ⟨(by first | exact .inl rfl | exact .inr rfl),fin ?_⟩
   rw [resD_tmp (fn:=Tryz.f5) rfl]
   simp only [optThen_some,resultD_tmp,resultD_cell,G,Z,Y,Gx,un_neg,cutD,decide_true,decide_false,simprocAttr,fb2,fb3,fb5,fb22]
   exact ⟨_,[],rfl,.bool,rfl⟩
  ·by_cases hb:4611686018427387904≤b
   ·obtain ⟨j1,j2⟩:=k1 (.inr hb)
    repeat' (first|refine Go.a rfl ?_|refine Go.rg ?_|refine GoR.nil ?_|refine Go.ret ?_|refine Go.b rfl ?_|(refine GoR.o (by rfl) (by rfl) ?_;(conv=>arg 1;simp only [G,Z,Y,Gx,un_neg,cutD,decide_true,decide_false,simprocAttr,fb2,fb3,fb5,fb22,dl,w1,w2,w3,g5,c0,c1,Option.map_some,Option.map_none,decide_eq_false ha,decide_eq_true hb,decide_eq_true j1,decide_eq_true j2]);show GoR ..)|(refine GoR.c c16 (by rfl) (by rfl) rfl ?_;(first | refine (q1 _).ret ?_ | refine (q2 _).ret ?_ | refine (q3 _).ret ?_))|(refine GoR.c c21 (by rfl) (by rfl) rfl ?_;(refine (hadd _).ret ?_))|refine GoR.s (by rfl) rfl rfl ?_|(refine GoR.splitG rfl (fun hc => ?_) (fun hc => ?_)<;>simp only [hc])|refine Go.condB rfl (fun hc => ?_) (fun hc => ?_))
    refine ⟨(by first | exact .inl rfl | exact .inr rfl),fin ?_⟩
    rw [resD_tmp (fn:=Tryz.f5) rfl]
    simp only [optThen_some,resultD_tmp,resultD_cell,G,Z,Y,Gx,un_neg,cutD,decide_true,decide_false,simprocAttr,fb2,fb3,fb5,fb22]
    exact ⟨_,[],rfl,.bool,rfl⟩
   ·obtain ⟨j1,j2,j3⟩:=k2 ha hb
    rw [j2] at hadd
    repeat' (first|refine Go.a rfl ?_|refine Go.rg ?_|refine GoR.nil ?_|refine Go.ret ?_|refine Go.b rfl ?_|(refine GoR.o (by rfl) (by rfl) ?_;(conv=>arg 1;simp only [G,Z,Y,Gx,un_neg,cutD,decide_true,decide_false,simprocAttr,fb2,fb3,fb5,fb22,dl,w1,w2,w3,g5,c0,c1,Option.map_some,Option.map_none,decide_eq_false ha,decide_eq_false hb,j1,decide_eq_true j3,beq_self_eq_true]);show GoR ..)|(refine GoR.c c16 (by rfl) (by rfl) rfl ?_;(first | refine (q1 _).ret ?_ | refine (q2 _).ret ?_ | refine (q3 _).ret ?_))|(refine GoR.c c21 (by rfl) (by rfl) rfl ?_;(refine (hadd _).ret ?_))|refine GoR.s (by rfl) rfl rfl ?_|(refine GoR.splitG rfl (fun hc => ?_) (fun hc => ?_)<;>simp only [hc])|refine Go.condB rfl (fun hc => ?_) (fun hc => ?_))
    refine ⟨(by first | exact .inl rfl | exact .inr rfl),fin ?_⟩
    rw [resD_tmp (fn:=Tryz.f5) rfl]
    simp only [optThen_some,resultD_tmp,resultD_cell,G,Z,Y,Gx,un_neg,cutD,decide_true,decide_false,simprocAttr,fb2,fb3,fb5,fb22]
    exact ⟨_,[],rfl,.bool,rfl⟩
end Go.Proofs.DvT
