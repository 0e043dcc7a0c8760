/- What the package of Chain's laws knows. -/
import Derived.Test.YtlllhmenekibjaaGreatDoorDtC6x
set_option linter.unusedSimpArgs false
set_option linter.unusedVariables false
namespace Go.Proofs.DtT
open Go Go.DM Go.Proofs.DtF
set_option maxRecDepth 100000
variable {orc:DOracle}
theorem ch0PutN {S0 S c ps zs most w l} (h:Ch0 S0 S c ps zs most w l) {s:ByteArray} {i:Nat} (hs:findS zs s=(i:Int)) {m:List Rw} (hm:(rowsOf l)[i]?=some m) (h1:1≤most) {k:ByteArray} {st:St} {m':List Rw} {e:Int} (hp:putT most m (rowAt k st)=(m',e)) (hll:m.length<900000) (hk:k.size<1000000) (ho:st.org.size<1000000) :
  CallD Tryz.prog O 35 [.ptr c 0,.str s,.agg [.str k,.int .i64 st.tick,.int .i64 st.inc,.int .i64 st.seq,.str st.org,.nils]] S fun d S'=>d = .int .i64 e ∧ ∃ l',rowsOf l'=(rowsOf l).set i m'∧Ch0 S0 S' c ps zs most w l'∧Off l S l' S' :=
 CallD.weak (.cons .refl (.cons .refl (.cons (.agg' (.cons .refl (.cons .refl (.cons .refl (.cons .refl (.cons .refl (.cons .nilE .nil))))))) .nil))) (ch0Put h hs hm h1 (rowAt k st) (rowAt_few hk ho) (rowAt_ok k st) hll hp)
theorem chPut0N {S c ps zs most w l} (h:ChAt S c ps zs most w l) {s:ByteArray} (hs:findS zs s<0) (k:ByteArray) (st:St) :
  CallD Tryz.prog orc 35 [.ptr c 0,.str s,.agg [.str k,.int .i64 st.tick,.int .i64 st.inc,.int .i64 st.seq,.str st.org,.nils]] S fun d S'=>S'=S∧d = .int .i64 12:=
 CallD.weak (.cons .refl (.cons .refl (.cons (.agg' (.cons .refl (.cons .refl (.cons .refl (.cons .refl (.cons .refl (.cons .nilE .nil))))))) .nil))) (chPut0 h hs (rowAt k st))
def kx3:Rw:=rowAt (⟨#[120]⟩:ByteArray) ⟨3,0,0,(⟨#[47,97,47,120]⟩:ByteArray)⟩
theorem kxR:pathR (⟨#[47,97,47,120]⟩:ByteArray)=true:=by decide +kernel
theorem kxP:partsP (⟨#[47,97,47,120]⟩:ByteArray)=[(⟨#[97]⟩:ByteArray),(⟨#[120]⟩:ByteArray)]:=by decide +kernel
theorem kxZ:zonesP [(⟨#[97]⟩:ByteArray),(⟨#[120]⟩:ByteArray)]=[(⟨#[47]⟩:ByteArray),(⟨#[47,97]⟩:ByteArray)]:=by decide +kernel
theorem kxF:findS [(⟨#[47]⟩:ByteArray),(⟨#[47,97]⟩:ByteArray)] (⟨#[47]⟩:ByteArray)=((0:Nat):Int)∧findS [(⟨#[47]⟩:ByteArray),(⟨#[47,97]⟩:ByteArray)] (⟨#[47,97]⟩:ByteArray)=((1:Nat):Int)∧findS [(⟨#[47]⟩:ByteArray),(⟨#[47,97]⟩:ByteArray)] (⟨#[47,98]⟩:ByteArray) = -1:=by decide +kernel
theorem kxput:putT 5 [] kx3=([kx3],0):=putT_new (by decide +kernel) rfl (by decide)
theorem kxlook:lookK Rw.key [kx3] (⟨#[120]⟩:ByteArray)=some kx3:=by rw [lookK_cons];exact if_pos rfl
theorem kxg1:goneL 10 2 ⟨#[]⟩ [kx3]=[(⟨#[120]⟩:ByteArray)]∧keptL 10 2 ⟨#[]⟩ [kx3]=[]:=by
 have h:goneP 10 2 ⟨#[]⟩ kx3=true:=by decide +kernel
 constructor
 ·simp [goneL,h];rfl
 ·simp [keptL,h]
theorem kxg2:goneL 10 2 (⟨#[120]⟩:ByteArray) [kx3]=[]∧keptL 10 2 (⟨#[120]⟩:ByteArray) [kx3]=[kx3]:=by
 have h:goneP 10 2 (⟨#[120]⟩:ByteArray) kx3=false:=by decide +kernel
 constructor
 ·simp [goneL,h]
 ·simp [keptL,h]
theorem kxsw:swC 10 2 [(⟨#[97]⟩:ByteArray),(⟨#[120]⟩:ByteArray)] [[kx3],[kx3]] 2=([[],[kx3]],1):=by
 have h0:keepC [(⟨#[97]⟩:ByteArray),(⟨#[120]⟩:ByteArray)] 2 0=⟨#[]⟩:=rfl
 have h1:keepC [(⟨#[97]⟩:ByteArray),(⟨#[120]⟩:ByteArray)] 2 1=(⟨#[120]⟩:ByteArray):=rfl
 have hn : ¬ ((10:Int)<0∨(2:Int)<0):=by decide
 simp only [swC,List.length_cons,List.length_nil,Nat.zero_add,Nat.reduceAdd,h0,h1,keptX,goneX,if_neg hn,List.getD_cons_zero,List.getD_cons_succ,kxg1,kxg2,List.set_cons_zero,List.set_cons_succ]
set_option maxHeartbeats 4000000 in
theorem known18 (S:Mem):CallD Tryz.prog O 29 [] S fun d S'=>S'=S∧d = .bool true:=by
 refine CallD.e Tryz.func29 rfl Tryz.ntmps29 (by rfl) ?_
 have hnew:=ch0New (⟨#[47,97,47,120]⟩:ByteArray) (by decide) kxR (by rw [kxP];decide) (most:=5) (by decide) (by decide) (S0:=S) .refl
 simp only [kxP,kxZ] at hnew
 repeat' (first|refine Go.a rfl ?_|refine Go.rg ?_|refine GoR.nil ?_|refine Go.ret ?_|refine Go.b rfl ?_|(refine GoR.o (by rfl) (by rfl) ?_;(conv=>arg 1;simp only [G,Z,Y,Gx,un_neg,cutD,decide_true,decide_false,simprocAttr,fb2,fb3,fb9,fb32,fb33,fb35,fb51,fb62,fb71,bne_self_eq_false]);show GoR ..)|(refine GoR.c c30 (by rfl) (by rfl) rfl ?_;(refine hnew.mono ?_;rintro _ S1 ⟨c,w,l,rfl,h1,hr1,hf1⟩))|refine GoR.s (by rfl) rfl rfl ?_|(refine GoR.splitG rfl (fun hc => ?_) (fun hc => ?_)<;>simp only [hc])|refine Go.condB rfl (fun hc => ?_) (fun hc => ?_))
 obtain ⟨f0,f1,fb⟩:=kxF
 have hr1':rowsOf l=[[],[]]:=hr1
 have hp1:=fun E=>ch0PutN (h1.app E) f1 (m:=[]) (by rw [hr1'];rfl) (by decide) kxput (by decide) (by decide) (by decide)
 have hro : ∀ E,objAt (S1++(.obj [.str (⟨#[120]⟩:ByteArray),.int .i64 3,.int .i64 0,.int .i64 0,.str (⟨#[47,97,47,120]⟩:ByteArray),.nils]::E)) S1.length=some [.str (⟨#[120]⟩:ByteArray),.int .i64 3,.int .i64 0,.int .i64 0,.str (⟨#[47,97,47,120]⟩:ByteArray),.nils]:=fun E=>by simp [objAt]
 have hn1:S1.length∉ownC l:=fun hx=>by have:=h1.at_.lt.2 _ hx;omega
 dsimp only at hp1
 repeat' (first|refine Go.a rfl ?_|refine Go.rg ?_|refine GoR.nil ?_|refine Go.ret ?_|refine Go.b rfl ?_|(refine GoR.o (by rfl) (by rfl) ?_;(conv=>arg 1;simp only [G,Z,Y,Gx,un_neg,cutD,decide_true,decide_false,simprocAttr,fb2,fb3,fb9,fb32,fb33,fb35,fb51,fb62,fb71,hro]);show GoR ..)|(refine GoR.c c35 (by rfl) (by rfl) rfl ?_;(refine (hp1 _).mono ?_;rintro _ S2 ⟨rfl,l2,hr2,h2,off2⟩))|refine GoR.s (by rfl) rfl rfl ?_)
 obtain ⟨ho2,hn2⟩:=off2 _ _ hn1 (hro _)
 rw [hr1'] at hr2
 have hr2':rowsOf l2=[[],[kx3]]:=hr2
 have hp2:=chPut0N (orc:=O) h2.at_ (s:=(⟨#[47,98]⟩:ByteArray)) (by rw [fb];decide) (⟨#[120]⟩:ByteArray) ⟨3,0,0,(⟨#[47,97,47,120]⟩:ByteArray)⟩
 have hg2:=ch0Get (orc:=O) h2 f1 (m:=[kx3]) (by rw [hr2'];rfl) (⟨#[120]⟩:ByteArray)
 rw [kxlook] at hg2
 have hz2:=fun E=>chZones (orc:=O) (h2.app E).at_
 have hl2:l2.length=2:=by have:=congrArg List.length hr2';simpa [rowsOf] using this
 have ht2:=fun E=>ch0Twin (orc:=O) (h2.app E) (by omega)
 have hxo : ∀ E,objAt (S2++(.obj kx3.c::E)) S2.length=some kx3.c:=fun E=>by simp [objAt]
 have hr2o:=fun E=>objAt_old (E:=E) ho2
 have hn2':S2.length∉ownC l2:=fun hx=>by have:=h2.at_.lt.2 _ hx;omega
 simp only [kx3,Rw.c,rowAt,Option.getD_some,Option.isSome_some,strsD,attsC,List.length_nil,List.flatMap_nil] at hg2 hxo hz2
 dsimp only at hp2
 repeat' (first|refine Go.a rfl ?_|refine Go.rg ?_|refine GoR.nil ?_|refine Go.ret ?_|refine Go.b rfl ?_|(refine GoR.o (by rfl) (by rfl) ?_;(conv=>arg 1;simp only [G,Z,Y,Gx,un_neg,cutD,decide_true,decide_false,simprocAttr,fb2,fb3,fb9,fb32,fb33,fb35,fb51,fb62,fb71,ho2,hr2o]);show GoR ..)|(refine GoR.c c35 (by rfl) (by rfl) rfl ?_;(refine hp2.ret ?_))|(refine GoR.c c39 (by rfl) (by rfl) rfl ?_;(refine hg2.ret ?_))|(refine GoR.c c33 (by rfl) (by rfl) rfl ?_;(refine (hz2 _).ret ?_))|(refine GoR.c c38 (by rfl) (by rfl) rfl ?_;(refine (ht2 _).mono ?_;rintro _ S3 ⟨t,w3,l3,rfl,h3,hr3,h3c,htn,hdis,hf3⟩))|refine GoR.s (by rfl) rfl rfl ?_)
 have ho3:=hf3.obj (hr2o _) (by simp)
 have hx3:=hf3.obj (hxo _) (by simp)
 rw [hr2'] at hr3
 have hp3:=ch0PutN h3c f0 (m:=[]) (by rw [hr2'];rfl) (by decide) kxput (by decide) (by decide) (by decide)
 dsimp only at hp3
 repeat' (first|refine Go.a rfl ?_|refine Go.rg ?_|refine GoR.nil ?_|refine Go.ret ?_|refine Go.b rfl ?_|(refine GoR.o (by rfl) (by rfl) ?_;(conv=>arg 1;simp only [G,Z,Y,Gx,un_neg,cutD,decide_true,decide_false,simprocAttr,fb2,fb3,fb9,fb32,fb33,fb35,fb51,fb62,fb71,ho3]);show GoR ..)|(refine GoR.c c35 (by rfl) (by rfl) rfl ?_;(refine hp3.mono ?_;rintro _ S4 ⟨rfl,l4,hr4,h4,off4⟩))|refine GoR.s (by rfl) rfl rfl ?_)
 obtain ⟨t4,tn4,td4⟩:=off4.chain h3.at_ htn hdis
 obtain ⟨hx4,xn4⟩:=off4 _ _ hn2' hx3
 rw [hr2'] at hr4
 have hr4':rowsOf l4=[[kx3],[kx3]]:=hr4
 have hl4:l4.length=2:=by have:=congrArg List.length hr4';simpa [rowsOf] using this
 have hs4:=ch0Sweep h4 10 2 (ls:=[[],[kx3]]) (n:=1) (by rw [hr4'];simp) (by rw [hr4',hl4];exact kxsw)
 have hn0:=fun S=>chNew0 (⟨#[47]⟩:ByteArray) (by decide) (.inr (by decide +kernel)) 5 S
 repeat' (first|refine Go.a rfl ?_|refine Go.rg ?_|refine GoR.nil ?_|refine Go.ret ?_|refine Go.b rfl ?_|(refine GoR.o (by rfl) (by rfl) ?_;(conv=>arg 1;simp only [G,Z,Y,Gx,un_neg,cutD,decide_true,decide_false,simprocAttr,fb2,fb3,fb9,fb32,fb33,fb35,fb51,fb62,fb71]);show GoR ..)|(refine GoR.c c37 (by rfl) (by rfl) rfl ?_;(refine hs4.mono ?_;rintro _ S5 ⟨rfl,l5,hr5,h5,off5⟩))|(refine GoR.c c30 (by rfl) (by rfl) rfl ?_;(refine (hn0 _).ret ?_))|refine GoR.s (by rfl) rfl rfl ?_)
 obtain ⟨t5,_,_⟩:=off5.chain t4 tn4 td4
 obtain ⟨hx5,_⟩:=off5 _ _ xn4 hx4
 have hk0:CallD Tryz.prog O 42 [.ptr c 0,.str (⟨#[47]⟩:ByteArray)] S5 fun d S'=>S'=S5∧d = .str (⟨#[97]⟩:ByteArray):=by
  have:=chKey (orc:=O) h5.at_ (⟨#[47]⟩:ByteArray)
  rw [f0] at this
  exact this
 have hk1:CallD Tryz.prog O 42 [.ptr c 0,.str (⟨#[47,97]⟩:ByteArray)] S5 fun d S'=>S'=S5∧d = .str (⟨#[120]⟩:ByteArray):=by
  have:=chKey (orc:=O) h5.at_ (⟨#[47,97]⟩:ByteArray)
  rw [f1] at this
  exact this
 have hk2:CallD Tryz.prog O 42 [.ptr c 0,.str (⟨#[47,98]⟩:ByteArray)] S5 fun d S'=>S'=S5∧d = .str ⟨#[]⟩:=by
  have:=chKey (orc:=O) h5.at_ (⟨#[47,98]⟩:ByteArray)
  rw [fb] at this
  exact this
 have hh1:CallD Tryz.prog O 41 [.ptr c 0,.str (⟨#[47,97]⟩:ByteArray)] S5 fun d S'=>S'=S5∧d = .bool true:=by
  have:=chHas (orc:=O) h5.at_ (⟨#[47,97]⟩:ByteArray)
  rw [f1] at this
  exact this
 have hh2:CallD Tryz.prog O 41 [.ptr c 0,.str (⟨#[47,98]⟩:ByteArray)] S5 fun d S'=>S'=S5∧d = .bool false:=by
  have:=chHas (orc:=O) h5.at_ (⟨#[47,98]⟩:ByteArray)
  rw [fb] at this
  exact this
 have hw0:CallD Tryz.prog O 44 [.ptr c 0,.str (⟨#[47]⟩:ByteArray)] S5 fun d S'=>S'=S5∧d = .sl none 6 0 []:=ch0Rows (orc:=O) h5 f0 (m:=[]) (by rw [hr5]<;>rfl)
 have hw1:CallD Tryz.prog O 44 [.ptr c 0,.str (⟨#[47,97]⟩:ByteArray)] S5 fun d S'=>S'=S5∧d = .sl none 6 1 (rowsC [kx3]):=ch0Rows (orc:=O) h5 f1 (m:=[kx3]) (by rw [hr5]<;>rfl)
 have h6:Ch0 S S5 t [(⟨#[97]⟩:ByteArray),(⟨#[120]⟩:ByteArray)] [(⟨#[47]⟩:ByteArray),(⟨#[47,97]⟩:ByteArray)] 5 w3 l3:=⟨t5,h3.lo,h3.low,h5.fr⟩
 have hw2:CallD Tryz.prog O 44 [.ptr t 0,.str (⟨#[47]⟩:ByteArray)] S5 fun d S'=>S'=S5∧d = .sl none 6 0 []:=ch0Rows (orc:=O) h6 f0 (m:=[]) (by rw [hr3]<;>rfl)
 have g0:IntKind.i64.wrap ((0:Int)+0)=0:=rfl
 have g3:Int.toNat 0=0:=rfl
 have g4:Int.toNat 1=1:=rfl
 repeat' (first|refine Go.a rfl ?_|refine Go.rg ?_|refine GoR.nil ?_|refine Go.ret ?_|refine Go.b rfl ?_|(refine GoR.o (by rfl) (by rfl) ?_;(conv=>arg 1;simp only [G,Z,Y,Gx,un_neg,cutD,decide_true,decide_false,simprocAttr,fb2,fb3,fb9,fb32,fb33,fb35,fb51,fb62,fb71,g0,g3,g4,hx5]);show GoR ..)|(refine GoR.c c42 (by rfl) (by rfl) rfl ?_;(first | (refine hk0.ret ?_) | (refine hk1.ret ?_) | (refine hk2.ret ?_)))|(refine GoR.c c41 (by rfl) (by rfl) rfl ?_;(first | (refine hh1.ret ?_) | (refine hh2.ret ?_)))|(refine GoR.c c44 (by rfl) (by rfl) rfl ?_;(first | (refine hw0.ret ?_) | (refine hw1.ret ?_) | (refine hw2.ret ?_)))|refine GoR.s (by rfl) rfl rfl ?_|(refine GoR.splitG rfl (fun hc => ?_) (fun hc => ?_)<;>simp only [hc])|refine Go.condB rfl (fun hc => ?_) (fun hc => ?_))
 refine ⟨(by first | exact .inl rfl | exact .inr rfl),fin ?_⟩
 rw [resD_tmp (fn:=Tryz.f29) rfl]
 simp only [optThen_some,resultD_tmp,resultD_cell,G,Z,Y,Gx,un_neg,cutD,decide_true,decide_false,simprocAttr,fb2,fb3,fb9,fb32,fb33,fb35,fb51,fb62,fb71]
 obtain ⟨E,hE⟩:=h5.fr.pre (by simp)
 exact ⟨_,E,hE,.bool,rfl⟩
end Go.Proofs.DtT
