/- The document's chain. -/
import Derived.Test.YtlllhmenekibjaaGreatDoorDtC9x
set_option linter.unusedSimpArgs false
set_option linter.unusedVariables false
namespace Go.Proofs.DtT
open Go Go.DM Go.Proofs.DtF
set_option maxRecDepth 100000
variable {orc:DOracle}
def tabsC (most:Int) (ls:List (List Rw)):List D:=ls.flatMap (refT most)
def refC (own:ByteArray) (zs:List ByteArray) (most:Int) (ls:List (List Rw)):List D:=[.str own,.sl none 1 zs.length (zs.map .str),.sl none 2 ls.length (tabsC most ls)]
theorem tabs_len {most:Int} : ∀ m:List Rw,(refT most m).length=2:=fun _=>rfl
theorem tabsC_len {most:Int} {ls:List (List Rw)} : (tabsC most ls).length=ls.length*2:=flat_length tabs_len ls
theorem tabsC_low {n:Nat} {most:Int} {ls:List (List Rw)} : LowL n (tabsC most ls):=.of_mem (by
 intro x hx
 obtain ⟨m,_,hx⟩:=List.mem_flatMap.1 hx
 simp only [refT,List.mem_cons,List.not_mem_nil,or_false] at hx
 rcases hx with rfl | rfl
 ·exact .int _ _
 ·exact .sl' (rows_low m))
theorem refC_low {n:Nat} {own:ByteArray} {zs:List ByteArray} {most:Int} {ls:List (List Rw)} : LowL n (refC own zs most ls):=.cons (.str _) (.cons (.sl' (strs_low _)) (.cons (.sl' tabsC_low) .nil))
theorem tabsAt {most:Int} {ls:List (List Rw)} {i:Nat} (h:i<ls.length):((0≤(i:Int)∧(i:Int)<(ls.length:Int))=True)∧((i*2+2≤(tabsC most ls).length)=True)∧((tabsC most ls).drop (i*2)).take 2=refT most ls[i]:=
 ⟨ix_ok h,flat_fits0 tabs_len ls i h,flat_all tabs_len ls i h⟩
theorem tabRow {most:Int} {ls:List (List Rw)} {i:Nat} (h:i<ls.length):(tabsC most ls)[i*2+1]?=some (.sl none 6 ls[i].length (rowsC ls[i])):=flat_cell tabs_len ls i h (by omega)
theorem refChAt {own:ByteArray} {zs:List ByteArray} {most:Int} {ls:List (List Rw)} (hl:zs.length<1000000) (s:ByteArray) (S:Mem):CallD Tryz.prog orc 40 [.agg (refC own zs most ls),.str s] S fun d S'=>S'=S∧d = .int .i64 (findS zs s):=by
 unfold refC
 have hb : ∀ E,objAt (S++(.obj [.str own,.sl none 1 zs.length (zs.map .str),.sl none 2 ls.length (tabsC most ls)]::E)) S.length=some [.str own,.sl none 1 zs.length (zs.map .str),.sl none 2 ls.length (tabsC most ls)]:=fun E=>by simp [objAt]
 refine CallD.e Tryz.func40 rfl Tryz.ntmps40 (by rfl) ?_
 repeat' (first|refine Go.a rfl ?_|refine Go.rg ?_|refine GoR.nil ?_|refine Go.ret ?_|refine Go.b rfl ?_|(refine GoR.o (by rfl) (by rfl) ?_;(conv=>arg 1;simp only [G,Z,Y,Gx,un_neg,cutD,decide_true,decide_false,simprocAttr,fb3,fb9,fb51,fb74,fb76]);show GoR ..)|refine Go.condB rfl (fun hc => ?_) (fun hc => ?_))
 refine Go.keep [(1,.str s),(2,.ptr S.length 0),(5,.int .i64 ((0:Nat):Int))] (.cons .refl (.cons .refl (.cons .refl (.nil)))) ?_
 refine Go.while (α:=Nat) (fun i=>zs.length - i) (fun i=>[(1,.str s),(2,.ptr S.length 0),(5,.int .i64 (i:Int))]) (fun _=>S++[.obj [.str own,.sl none 1 zs.length (zs.map .str),.sl none 2 ls.length (tabsC most ls)]]) (fun i=>i≤zs.length ∧ ∀ j (h:j<zs.length),j<i → ¬ zs[j]=s) ?_ 0 ⟨Nat.zero_le _,by simp⟩
 rintro i ⟨hi,hk⟩ next
 by_cases h1:i<zs.length
 ·have a1:=strsAt h1
  by_cases he:zs[i]=s
  ·clear next
   rw [findS_hit h1 he hk]
   repeat' (first|refine Go.a rfl ?_|refine Go.rg ?_|refine GoR.nil ?_|refine Go.ret ?_|refine Go.b rfl ?_|(refine GoR.o (by rfl) (by rfl) ?_;(conv=>arg 1;simp only [G,Z,Y,Gx,un_neg,cutD,decide_true,decide_false,simprocAttr,fb3,fb9,fb51,fb74,fb76,show decide ((i:Int)<(zs.length:Int))=true by simp;omega,a1,hb,decide_eq_true he]);show GoR ..)|refine Go.condB rfl (fun hc => ?_) (fun hc => ?_))
   refine ⟨(by first | exact .inl rfl | exact .inr rfl),fin ?_⟩
   rw [resD_tmp (fn:=Tryz.f40) rfl]
   simp only [optThen_some,resultD_tmp,resultD_cell,G,Z,Y,Gx,un_neg,cutD,decide_true,decide_false,simprocAttr,fb3,fb9,fb51,fb74,fb76]
   exact ⟨_,_,rfl,.int,rfl⟩
  ·repeat' (first|refine Go.a rfl ?_|refine Go.rg ?_|refine GoR.nil ?_|refine Go.ret ?_|refine Go.b rfl ?_|(refine GoR.o (by rfl) (by rfl) ?_;(conv=>arg 1;simp only [G,Z,Y,Gx,un_neg,cutD,decide_true,decide_false,simprocAttr,fb3,fb9,fb51,fb74,fb76,show decide ((i:Int)<(zs.length:Int))=true by simp;omega,a1,hb,decide_eq_false he,wrap_succ (show i<4611686018427387904 by omega)]);show GoR ..)|refine Go.condB rfl (fun hc => ?_) (fun hc => ?_))
   refine Go.lpN ?_
   refine Go.keep [(1,.str s),(2,.ptr S.length 0),(5,.int .i64 ((i+1:Nat):Int))] (.cons .refl (.cons .refl (.cons .refl (.nil)))) ?_
   refine next (i+1) (by omega) ⟨h1,fun j hj hlt => ?_⟩
   rcases Nat.lt_or_ge j i with h | h
   ·exact hk j hj h
   ·obtain rfl:j=i:=by omega
    exact he
 ·clear next
  rw [findS_miss fun j hj=>hk j hj (by omega)]
  repeat' (first|refine Go.a rfl ?_|refine Go.rg ?_|refine GoR.nil ?_|refine Go.ret ?_|refine Go.b rfl ?_|(refine GoR.o (by rfl) (by rfl) ?_;(conv=>arg 1;simp only [G,Z,Y,Gx,un_neg,cutD,decide_true,decide_false,simprocAttr,fb3,fb9,fb51,fb74,fb76,show decide ((i:Int)<(zs.length:Int))=false by simp;omega,hb]);show GoR ..)|refine Go.condB rfl (fun hc => ?_) (fun hc => ?_))
  refine ⟨(by first | exact .inl rfl | exact .inr rfl),fin ?_⟩
  rw [resD_tmp (fn:=Tryz.f40) rfl]
  simp only [optThen_some,resultD_tmp,resultD_cell,G,Z,Y,Gx,un_neg,cutD,decide_true,decide_false,simprocAttr,fb3,fb9,fb51,fb74,fb76]
  exact ⟨_,_,rfl,.int,rfl⟩
theorem refChKey {own:ByteArray} {zs:List ByteArray} {most:Int} {ls:List (List Rw)} (hs:own.size<1000000) (hr:pathR own=true) (hl:zs.length=(partsP own).length) (s:ByteArray) (S:Mem) :
  CallD Tryz.prog O 43 [.agg (refC own zs most ls),.str s] S fun d S'=>S'=S∧d = .str (if findS zs s<0 then ⟨#[]⟩ else (partsP own).getD (findS zs s).toNat ⟨#[]⟩):=by
 have hat:=fun S=>refChAt (orc:=O) (own:=own) (zs:=zs) (most:=most) (ls:=ls) (by have:=partsP_len own;omega) s S
 have hp : ∀ S,CallD Tryz.prog O 83 [.str own] S fun d S'=>S'=S∧d = .tup [strsD (partsP own),.int .i64 0]:=fun S=>(refParts own hs S).mono fun d S' ⟨h1,e,h2,h3⟩=>⟨h1,by rw [h2,h3.2 hr]⟩
 have h1:=findS_lt (l:=zs) (s:=s)
 rw [hl] at h1
 unfold refC at *
 have hb : ∀ E,objAt (S++(.obj [.str own,.sl none 1 zs.length (zs.map .str),.sl none 2 ls.length (tabsC most ls)]::E)) S.length=some [.str own,.sl none 1 zs.length (zs.map .str),.sl none 2 ls.length (tabsC most ls)]:=fun E=>by simp [objAt]
 generalize findS zs s=k at *
 generalize partsP own=ps at *
 unfold strsD at hp
 refine CallD.e Tryz.func43 rfl Tryz.ntmps43 (by rfl) ?_
 by_cases hk:k<0
 ·rw [if_pos hk]
  repeat' (first|refine Go.a rfl ?_|refine Go.rg ?_|refine GoR.nil ?_|refine Go.ret ?_|refine Go.b rfl ?_|(refine GoR.o (by rfl) (by rfl) ?_;(conv=>arg 1;simp only [G,Z,Y,Gx,un_neg,cutD,decide_true,decide_false,simprocAttr,fb3,fb9,fb51,fb74,fb76,hb,decide_eq_true hk,bne_self_eq_false]);show GoR ..)|(refine GoR.c c40 (by rfl) (by rfl) rfl ?_;(refine (hat _).ret ?_))|(refine GoR.c c83 (by rfl) (by rfl) rfl ?_;(refine (hp _).ret ?_))|refine GoR.s (by rfl) rfl rfl ?_|(refine GoR.splitG rfl (fun hc => ?_) (fun hc => ?_)<;>simp only [hc])|refine Go.condB rfl (fun hc => ?_) (fun hc => ?_))
  refine ⟨(by first | exact .inl rfl | exact .inr rfl),fin ?_⟩
  rw [resD_tmp (fn:=Tryz.f43) rfl]
  simp only [optThen_some,resultD_tmp,resultD_cell,G,Z,Y,Gx,un_neg,cutD,decide_true,decide_false,simprocAttr,fb3,fb9,fb51,fb74,fb76]
  exact ⟨_,_,rfl,.str,rfl⟩
 ·rw [if_neg hk]
  obtain ⟨i,rfl⟩:=Int.eq_ofNat_of_zero_le (show 0≤k by omega)
  have hi:i<ps.length:=by omega
  have a1:=strsAt hi
  rw [show (ps.getD ((i:Int)).toNat ⟨#[]⟩)=ps[i] by simp [hi]]
  repeat' (first|refine Go.a rfl ?_|refine Go.rg ?_|refine GoR.nil ?_|refine Go.ret ?_|refine Go.b rfl ?_|(refine GoR.o (by rfl) (by rfl) ?_;(conv=>arg 1;simp only [G,Z,Y,Gx,un_neg,cutD,decide_true,decide_false,simprocAttr,fb3,fb9,fb51,fb74,fb76,hb,decide_eq_false hk,a1,bne_self_eq_false,show decide ((ps.length:Int)≤(i:Int))=false by simp;omega]);show GoR ..)|(refine GoR.c c40 (by rfl) (by rfl) rfl ?_;(refine (hat _).ret ?_))|(refine GoR.c c83 (by rfl) (by rfl) rfl ?_;(refine (hp _).ret ?_))|refine GoR.s (by rfl) rfl rfl ?_|(refine GoR.splitG rfl (fun hc => ?_) (fun hc => ?_)<;>simp only [hc])|refine Go.condB rfl (fun hc => ?_) (fun hc => ?_))
  refine ⟨(by first | exact .inl rfl | exact .inr rfl),fin ?_⟩
  rw [resD_tmp (fn:=Tryz.f43) rfl]
  simp only [optThen_some,resultD_tmp,resultD_cell,G,Z,Y,Gx,un_neg,cutD,decide_true,decide_false,simprocAttr,fb3,fb9,fb51,fb74,fb76]
  exact ⟨_,_,rfl,.str,rfl⟩
end Go.Proofs.DtT
namespace Go.Proofs.DtT
open Go Go.DM Go.Proofs.DtF
set_option maxRecDepth 100000
variable {orc:DOracle}
theorem tabs_one (most:Int) (ls:List (List Rw)):(tabsC most ls).all D.one=true:=by
 rw [List.all_eq_true]
 intro x hx
 obtain ⟨m,_,hx⟩:=List.mem_flatMap.1 hx
 simp only [refT,List.mem_cons,List.not_mem_nil,or_false] at hx
 rcases hx with rfl | rfl<;>rfl
theorem tabs_put {most:Int} {ls:List (List Rw)} {i:Nat} (h:i<ls.length) (m:List Rw):wr (tabsC most ls) (i*2) (refT most m)=tabsC most (ls.set i m):=by
 have e:tabsC most ls=tabsC most (ls.take i)++(refT most ls[i]++tabsC most (ls.drop (i+1))):=by
  conv=>lhs;rw [← List.take_append_drop i ls,List.drop_eq_getElem_cons h]
  simp only [tabsC,List.flatMap_append,List.flatMap_cons]
 have hl:(tabsC most (ls.take i)).length=i*2:=by rw [tabsC_len,List.length_take];omega
 rw [e,← hl,wr_mid _ _ _ (by simp [refT])]
 rw [List.set_eq_take_append_cons_drop,if_pos h]
 simp only [tabsC,List.flatMap_append,List.flatMap_cons]
 simp [refT]
set_option maxHeartbeats 4000000 in
theorem refChWith {own:ByteArray} {zs:List ByteArray} {most:Int} {ls:List (List Rw)} {i:Nat} (hi:i<ls.length) (hl:ls.length<1000) (m:List Rw) (S:Mem) :
  CallD Tryz.prog orc 81 [.agg (refC own zs most ls),.int .i64 (i:Int),.agg (refT most m)] S fun d S'=>S'=S∧d = .agg (refC own zs most (ls.set i m)):=by
 have hput:=tabs_put (most:=most) hi m
 have hone:=tabs_one most ls
 have htl:=tabsC_len (most:=most) (ls:=ls)
 have hap : ∀ a b c,appendD Tryz.prog #[74,74] (.msl (S.length+3) 2 0) (.sl none 2 ls.length (tabsC most ls)) (S++[a,b,c,.obj []])=some (.msl (S.length+4) 2 ls.length,S++[a,b,c,.dead,.obj (tabsC most ls)]):=fun a b c=>by
  rw [ap_msl (P:=Tryz.prog) del74,if_neg (by omega),if_pos ⟨by omega,by omega,by omega,hone⟩]
  simp [objAt]
 unfold refC refT at *
 refine CallD.freeze ?_
 refine CallD.mono (R:=fun d S'=>d = .agg [.str own,.sl none 1 zs.length (zs.map .str),.msl (S.length+4) 2 ls.length] ∧ ∃ a b c,S'=S++[a,b,c,.dead,.obj (tabsC most (ls.set i m))]) ?_ ?_
 ·refine CallD.eb Tryz.func81 rfl Tryz.ntmps81 (by rfl) ?_
  have ix:=(tabsAt (most:=most) hi).1
  have ixm : ∀ {kk:IntKind},indexAtD Tryz.prog 74 (.msl (S.length+4) 2 ls.length) (.int kk (i:Int))=some (.ptr (S.length+4) (i*2)):=fun {kk} => by
   simp [indexAtD,Tryz.underlying74,dsz30,hi]
  have hle:(i*2+2≤(tabsC most ls).length)=True:=(tabsAt (most:=most) hi).2.1
  have hput2:((tabsC most ls).set (i*2) (.int .i64 most)).set (i*2+1) (.sl none 6 m.length (rowsC m))=tabsC most (ls.set i m):=hput
  repeat' (first|refine Go.a rfl ?_|refine Go.rg ?_|refine GoR.nil ?_|refine Go.ret ?_|refine Go.b rfl ?_|(refine GoR.oM (by rfl) (by rfl) ?_;(conv=>arg 1;simp only [G,Z,Y,Gx,un_neg,cutD,decide_true,decide_false,simprocAttr,fb3,fb9,fb28,fb30,fb51,fb74,fb76,hap,builtin_append,mslF,ixm,hle,hput2]);refine ⟨by first|rfl|simp,by first|rfl|simp,?_⟩;show GoR ..)|(refine GoR.o (by rfl) (by rfl) ?_;(conv=>arg 1;simp only [G,Z,Y,Gx,un_neg,cutD,decide_true,decide_false,simprocAttr,fb3,fb9,fb28,fb30,fb51,fb74,fb76,hap,builtin_append,mslF,ixm,hle,hput2]);show GoR ..)|refine Go.condB rfl (fun hc => ?_) (fun hc => ?_))
  refine ⟨(by first | exact .inl rfl | exact .inr rfl),fin ?_⟩
  rw [resD_cell (fn:=Tryz.f81) rfl]
  simp only [optThen_some,resultD_tmp,resultD_cell,G,Z,Y,Gx,un_neg,cutD,decide_true,decide_false,simprocAttr,fb3,fb9,fb28,fb30,fb51,fb74,fb76]
  exact ⟨_,_,_,rfl⟩
 ·rintro d S' ⟨rfl,a,b,c,rfl⟩
  have ho:objAt (S++[a,b,c,.dead,.obj (tabsC most (ls.set i m))]) (S.length+4)=some (tabsC most (ls.set i m)):=by simp [objAt]
  have hsl:(ls.set i m).length=ls.length:=List.length_set
  refine ⟨.agg [.str own,.sl none 1 zs.length (zs.map .str),.sl none 2 ls.length (tabsC most (ls.set i m))],[a,b,c,.dead,.obj (tabsC most (ls.set i m))],[S.length+4],rfl,?_,?_,by rw [hsl]⟩
  ·rintro o h
   rw [List.mem_singleton.1 h]
   exact ⟨by omega,_,ho⟩
  ·exact .agg (.cons (.of_low (fun _ _=>rfl) (Nat.le_refl _) (.str _)) (.cons (.of_low (fun _ _=>rfl) (Nat.le_refl _) (.sl' (strs_low _))) (.cons (.freeze (List.mem_singleton.2 rfl) ho (by rw [tabsC_len,List.length_set]) (WzL_low tabsC_low)) .nil)))
end Go.Proofs.DtT
namespace Go.Proofs.DtT
open Go Go.DM Go.Proofs.DtF
set_option maxRecDepth 100000
variable {orc:DOracle}
theorem refChPut0 {own:ByteArray} {zs:List ByteArray} {most:Int} {ls:List (List Rw)} (hl:zs.length<1000) {s:ByteArray} (hs:findS zs s<0) (r:Rw) (S:Mem) :
  CallD Tryz.prog O 34 [.agg (refC own zs most ls),.str s,.agg r.c] S fun d S'=>S'=S∧d = .tup [.agg (refC own zs most ls),.int .i64 12]:=by
 have hat:=fun S=>refChAt (orc:=O) (own:=own) (zs:=zs) (most:=most) (ls:=ls) (by omega) s S
 generalize findS zs s=k at *
 simp only [refC,Rw.c] at *
 refine CallD.e Tryz.func34 rfl Tryz.ntmps34 (by rfl) ?_
 repeat' (first|refine Go.a rfl ?_|refine Go.rg ?_|refine GoR.nil ?_|refine Go.ret ?_|refine Go.b rfl ?_|refine Go.rgS dmx (by decide) ?_|refine Go.rgF 10 [6] [] (fun _=>True) dmx (by decide) 6 (by decide) (by decide) rfl rfl rfl rfl dze30 (by simp [AM.scalarV,Value.cells]) (by trivial) ?_|refine GoW.nil rfl ?_|((first|refine GoR.o (by rfl) (by rfl) ?_|refine GoW.o (by rfl) (by rfl) ?_|refine GoW.rd (by rfl) (by rfl) ?_);(conv=>arg 1;simp only [G,Z,Y,Gx,un_neg,cutD,decide_true,decide_false,simprocAttr,fb3,fb9,fb28,fb30,fb41,fb42,fb44,fb51,fb74,fb76,decide_eq_true hs]);first|show GoR ..|(show _∧GoW ..;refine ⟨by exact fun _=>trivial,?_⟩)|(show _∧_∧_∧GoW ..;refine ⟨rfl,by trivial,(fun H _=>by simp only [G,Z,Y,Gx,un_neg,cutD,decide_true,decide_false,simprocAttr,fb3,fb9,fb28,fb30,fb41,fb42,fb44,fb51,fb74,fb76,decide_eq_true hs]),?_⟩))|(refine GoW.c c40 (by rfl) (by rfl) rfl ?_;(refine (hat _).ret ?_);refine ⟨by exact fun _=>trivial,?_⟩)|(refine GoR.c c40 (by rfl) (by rfl) rfl ?_;(refine (hat _).ret ?_))|refine Go.condB rfl (fun hc => ?_) (fun hc => ?_))
 refine ⟨(by first | exact .inl rfl | exact .inr rfl),fin ?_⟩
 rw [resD_two (fn:=Tryz.f34) rfl]
 simp only [optThen_some,resultD_tmp,resultD_cell,G,Z,Y,Gx,un_neg,cutD,decide_true,decide_false,simprocAttr,fb3,fb9,fb28,fb30,fb41,fb42,fb44,fb51,fb74,fb76]
 exact ⟨_,_,rfl,.of_low (.tup' (.cons (.agg' refC_low) (.cons (.int _ _) .nil))),rfl⟩
set_option maxHeartbeats 4000000 in
theorem refChPut {own:ByteArray} {zs:List ByteArray} {most:Int} {ls:List (List Rw)} (hl:zs.length<1000) (hll:ls.length<1000) (hm:1≤most) {s:ByteArray} {i:Nat} (hi:i<ls.length) (hs:findS zs s=(i:Int)) (hok:OkT ls[i]) (r:Rw) (hr:FewR r) (S:Mem) :
  CallD Tryz.prog O 34 [.agg (refC own zs most ls),.str s,.agg r.c] S fun d S'=>S'=S∧d = .tup [.agg (refC own zs most (ls.set i (putT most ls[i] r).1)),.int .i64 (putT most ls[i] r).2]:=by
 have hat:=fun S=>refChAt (orc:=O) (own:=own) (zs:=zs) (most:=most) (ls:=ls) (by omega) s S
 simp only [hs] at hat
 have hp:=fun S=>refPutT hok hm r hr S
 have ta:=tabsAt (most:=most) hi
 have herr : ¬ (putT most ls[i] r).2=0→(putT most ls[i] r).1=ls[i]:=putT_err
 have d1:decide ((i:Int)<0)=false:=by simp
 generalize hq:putT most ls[i] r=q at *
 obtain ⟨m',e⟩:=q
 have hw:=fun S=>refChWith (orc:=O) (own:=own) (zs:=zs) (most:=most) hi hll m' S
 dsimp only at hp herr ⊢
 by_cases he:e=0
 ·subst he
  simp only [refC,refT,Rw.c] at *
  refine CallD.e Tryz.func34 rfl Tryz.ntmps34 (by rfl) ?_
  repeat' (first|refine Go.a rfl ?_|refine Go.rg ?_|refine GoR.nil ?_|refine Go.ret ?_|refine Go.b rfl ?_|refine Go.rgS dmx (by decide) ?_|refine Go.rgF 10 [6] [] (fun H=>objAt H S.length=some [.str own,.sl none 1 zs.length (zs.map .str),.sl none 2 ls.length (tabsC most ls)]∧objAt H (S.length+1)=some [.str r.key,.int .i64 r.st.tick,.int .i64 r.st.inc,.int .i64 r.st.seq,.str r.st.org,.sl none 5 r.at_.length (attsC r.at_)]) dmx (by decide) 6 (by decide) (by decide) rfl rfl rfl rfl dze30 (by simp [AM.scalarV,Value.cells]) (by (simp [objAt])) ?_|refine GoW.nil rfl ?_|((first|refine GoR.o (by rfl) (by rfl) ?_|refine GoW.o (by rfl) (by rfl) ?_|refine GoW.rd (by rfl) (by rfl) ?_);(conv=>arg 1;simp only [G,Z,Y,Gx,un_neg,cutD,decide_true,decide_false,simprocAttr,fb3,fb9,fb28,fb30,fb41,fb42,fb44,fb51,fb74,fb76,d1,ta,bne_self_eq_false]);first|show GoR ..|(show _∧GoW ..;refine ⟨by (first|exact fun h=>absurd h (by decide)|(intro _;(simp [objAt]))),?_⟩)|(show _∧_∧_∧GoW ..;refine ⟨rfl,by (simp [objAt]),(fun H hI=>by (try dsimp only at hI);simp only [G,Z,Y,Gx,un_neg,cutD,decide_true,decide_false,simprocAttr,fb3,fb9,fb28,fb30,fb41,fb42,fb44,fb51,fb74,fb76,d1,ta,bne_self_eq_false,hI]),?_⟩))|(refine GoW.c c40 (by rfl) (by rfl) rfl ?_;(refine (hat _).ret ?_);refine ⟨by (first|exact fun h=>absurd h (by decide)|(intro _;(simp [objAt]))),?_⟩)|(refine GoR.c c40 (by rfl) (by rfl) rfl ?_;(refine (hat _).ret ?_))|(refine GoW.c c10 (by rfl) (by rfl) rfl ?_;(refine (hp _).ret ?_);refine ⟨by (first|exact fun h=>absurd h (by decide)|(intro _;(simp [objAt]))),?_⟩)|(refine GoR.c c10 (by rfl) (by rfl) rfl ?_;(refine (hp _).ret ?_))|(refine GoW.c c81 (by rfl) (by rfl) rfl ?_;(refine (hw _).ret ?_);refine ⟨by (first|exact fun h=>absurd h (by decide)|(intro _;(simp [objAt]))),?_⟩)|(refine GoR.c c81 (by rfl) (by rfl) rfl ?_;(refine (hw _).ret ?_))|refine Go.condB rfl (fun hc => ?_) (fun hc => ?_))
  refine ⟨(by first | exact .inl rfl | exact .inr rfl),fin ?_⟩
  rw [resD_two (fn:=Tryz.f34) rfl]
  simp only [optThen_some,resultD_tmp,resultD_cell,G,Z,Y,Gx,un_neg,cutD,decide_true,decide_false,simprocAttr,fb3,fb9,fb28,fb30,fb41,fb42,fb44,fb51,fb74,fb76]
  exact ⟨_,_,rfl,.of_low (.tup' (.cons (.agg' (refC_low (own:=own) (zs:=zs))) (.cons (.int _ _) .nil))),rfl⟩
 ·have hm':m'=ls[i]:=herr he
  have hsame:ls.set i m'=ls:=by rw [hm'];exact List.set_getElem_self hi
  rw [hsame]
  simp only [refC,refT,Rw.c] at *
  refine CallD.e Tryz.func34 rfl Tryz.ntmps34 (by rfl) ?_
  repeat' (first|refine Go.a rfl ?_|refine Go.rg ?_|refine GoR.nil ?_|refine Go.ret ?_|refine Go.b rfl ?_|refine Go.rgS dmx (by decide) ?_|refine Go.rgF 10 [6] [] (fun H=>objAt H S.length=some [.str own,.sl none 1 zs.length (zs.map .str),.sl none 2 ls.length (tabsC most ls)]∧objAt H (S.length+1)=some [.str r.key,.int .i64 r.st.tick,.int .i64 r.st.inc,.int .i64 r.st.seq,.str r.st.org,.sl none 5 r.at_.length (attsC r.at_)]) dmx (by decide) 6 (by decide) (by decide) rfl rfl rfl rfl dze30 (by simp [AM.scalarV,Value.cells]) (by (simp [objAt])) ?_|refine GoW.nil rfl ?_|((first|refine GoR.o (by rfl) (by rfl) ?_|refine GoW.o (by rfl) (by rfl) ?_|refine GoW.rd (by rfl) (by rfl) ?_);(conv=>arg 1;simp only [G,Z,Y,Gx,un_neg,cutD,decide_true,decide_false,simprocAttr,fb3,fb9,fb28,fb30,fb41,fb42,fb44,fb51,fb74,fb76,d1,ta,show (e != 0)=true by simpa using he]);first|show GoR ..|(show _∧GoW ..;refine ⟨by (first|exact fun h=>absurd h (by decide)|(intro _;(simp [objAt]))),?_⟩)|(show _∧_∧_∧GoW ..;refine ⟨rfl,by (simp [objAt]),(fun H hI=>by (try dsimp only at hI);simp only [G,Z,Y,Gx,un_neg,cutD,decide_true,decide_false,simprocAttr,fb3,fb9,fb28,fb30,fb41,fb42,fb44,fb51,fb74,fb76,d1,ta,show (e != 0)=true by simpa using he,hI]),?_⟩))|(refine GoW.c c40 (by rfl) (by rfl) rfl ?_;(refine (hat _).ret ?_);refine ⟨by (first|exact fun h=>absurd h (by decide)|(intro _;(simp [objAt]))),?_⟩)|(refine GoR.c c40 (by rfl) (by rfl) rfl ?_;(refine (hat _).ret ?_))|(refine GoW.c c10 (by rfl) (by rfl) rfl ?_;(refine (hp _).ret ?_);refine ⟨by (first|exact fun h=>absurd h (by decide)|(intro _;(simp [objAt]))),?_⟩)|(refine GoR.c c10 (by rfl) (by rfl) rfl ?_;(refine (hp _).ret ?_))|refine Go.condB rfl (fun hc => ?_) (fun hc => ?_))
  refine ⟨(by first | exact .inl rfl | exact .inr rfl),fin ?_⟩
  rw [resD_two (fn:=Tryz.f34) rfl]
  simp only [optThen_some,resultD_tmp,resultD_cell,G,Z,Y,Gx,un_neg,cutD,decide_true,decide_false,simprocAttr,fb3,fb9,fb28,fb30,fb41,fb42,fb44,fb51,fb74,fb76]
  exact ⟨_,_,rfl,.of_low (.tup' (.cons (.agg' (refC_low (own:=own) (zs:=zs))) (.cons (.int _ _) .nil))),rfl⟩
end Go.Proofs.DtT
namespace Go.Proofs.DtT
open Go Go.DM Go.Proofs.DtF
set_option maxRecDepth 100000
variable {orc:DOracle}
theorem swC_ok {now age:Int} {ps:List ByteArray} {ls:List (List Rw)} (h : ∀ m∈ls,m.length≤1000) : ∀ i,i≤ls.length→(swC now age ps ls i).2≤1000*i
 | 0,_=>by simp [swC]
 | i+1,hi=>by
  have h1:=swC_ok (now:=now) (age:=age) (ps:=ps) h i (by omega)
  have h2:=goneX_len (now:=now) (age:=age) (keep:=keepC ps ls.length i) (l:=ls.getD i [])
  have h3:(ls.getD i []).length≤1000:=by
   have:ls.getD i []=ls[i]:=by simp [show i<ls.length by omega]
   rw [this]
   exact h _ (List.getElem_mem _)
  rw [swC]
  dsimp only
  omega
set_option maxHeartbeats 4000000 in
theorem refChSweep {own:ByteArray} {zs:List ByteArray} {most:Int} {ls:List (List Rw)} (hs:own.size<1000000) (hr:pathR own=true) (hl:zs.length=(partsP own).length) (hll:ls.length=zs.length) (hz : ∀ i,i<zs.length→findS zs (zs.getD i ⟨#[]⟩)=(i:Int)) (hsm : ∀ m∈ls,m.length≤1000) (now age:Int) (S:Mem) :
  CallD Tryz.prog O 36 [.agg (refC own zs most ls),.int .i64 now,.int .i64 age] S fun d S'=>S'=S∧d = .tup [.agg (refC own zs most (swC now age (partsP own) ls ls.length).1),.int .i64 (((swC now age (partsP own) ls ls.length).2:Nat):Int)]:=by
 have h4:=partsP_len own
 have hkey:=fun ls2 s S=>refChKey (own:=own) (zs:=zs) (most:=most) (ls:=ls2) hs hr hl s S
 generalize partsP own=ps at *
 have hln:=fun i=>swC_len (now:=now) (age:=age) (ps:=ps) (ls:=ls) i
 have hat:=fun i j h=>swC_at (now:=now) (age:=age) (ps:=ps) (ls:=ls) i j h
 have hsum:=fun i h=>swC_ok (now:=now) (age:=age) (ps:=ps) hsm i h
 simp only [refC] at *
 refine CallD.e Tryz.func36 rfl Tryz.ntmps36 (by rfl) ?_
 repeat' (first|refine Go.a rfl ?_|refine Go.rg ?_|refine GoR.nil ?_|refine Go.ret ?_|refine Go.b rfl ?_|refine Go.rgS dmx (by decide) ?_|(refine GoR.o (by rfl) (by rfl) ?_;(conv=>arg 1;simp only [G,Z,Y,Gx,un_neg,cutD,decide_true,decide_false,simprocAttr,fb3,fb9,fb28,fb30,fb51,fb74,fb76]);show GoR ..)|refine Go.condB rfl (fun hc => ?_) (fun hc => ?_))
 refine Go.keep [(1,.int .i64 now),(2,.int .i64 age),(3,.ptr S.length 0),(6,.ptr (S.length+1) 0),(8,.int .i64 ((0:Nat):Int)),(9,.int .i64 ((0:Nat):Int))] (.cons .refl (.cons .refl (.cons .refl (.cons .refl (.cons .refl (.cons .refl (.nil))))))) ?_
 refine Go.while (α:=Nat×Mem) (fun x=>zs.length - x.1) (fun x=>[(1,.int .i64 now),(2,.int .i64 age),(3,.ptr S.length 0),(6,.ptr (S.length+1) 0),(8,.int .i64 (((swC now age ps ls x.1).2:Nat):Int)),(9,.int .i64 (x.1:Int))]) (fun x=>x.2)
  (fun x=>x.1≤zs.length∧Fr [] S x.2∧objAt x.2 S.length=some [.str own,.sl none 1 zs.length (zs.map .str),.sl none 2 ls.length (tabsC most (swC now age ps ls x.1).1)]∧objAt x.2 (S.length+1)=some [.str ⟨#[]⟩,.nils,.nils]) ?_ (0,_) ⟨Nat.zero_le _,.app,by simp [objAt,swC],by simp [objAt]⟩
 rintro ⟨i,M⟩ ⟨hi,hfr,hc,hres⟩ next
 dsimp only at hi hfr hc hres next
 have hc' : ∀ E,objAt (M++E) S.length=some [.str own,.sl none 1 zs.length (zs.map .str),.sl none 2 ls.length (tabsC most (swC now age ps ls i).1)]:=fun E=>objAt_old hc
 by_cases h1:i<zs.length
 ·have dl:decide ((i:Int)<(zs.length:Int))=true:=by simp;omega
  have hi2:i<(swC now age ps ls i).1.length:=by rw [hln];omega
  have ta:=tabsAt (most:=most) hi2
  have a1:=strsAt h1
  have hgi:(swC now age ps ls i).1[i]=ls.getD i []:=by
   rw [← hat i i (Nat.le_refl _),List.getD_eq_getElem?_getD,List.getElem?_eq_getElem hi2]
   rfl
  rw [hln] at ta
  rw [hgi] at ta
  have w1:IntKind.i64.wrap ((zs.length:Int) - 1)=((zs.length - 1:Nat):Int):=by rw [wrap64 (by omega) (by omega)];omega
  have hgl:(ls.getD i []).length≤1000:=by
   have:ls.getD i []=ls[i]:=by simp [show i<ls.length by omega]
   rw [this]
   exact hsm _ (List.getElem_mem _)
  have hsw:=fun S=>refSweepX (most:=most) (l:=ls.getD i []) (by omega) now age (keepC ps ls.length i) S
  have hwi:=fun S=>refChWith (orc:=O) (own:=own) (zs:=zs) (most:=most) (i:=i) (ls:=(swC now age ps ls i).1) hi2 (by rw [hln];omega) (keptX now age (keepC ps ls.length i) (ls.getD i [])) S
  simp only [refC,refT,hln] at hwi
  have hsu:=hsum (i+1) (by omega)
  have w2:IntKind.i64.wrap ((((swC now age ps ls i).2:Nat):Int)+((goneX now age (keepC ps ls.length i) (ls.getD i [])).length:Int))=(((swC now age ps ls (i+1)).2:Nat):Int):=by
   rw [swC] at hsu ⊢
   dsimp only at hsu ⊢
   rw [wrap64 (by omega) (by omega)]
   omega
  have hnx:(swC now age ps ls (i+1)).1=(swC now age ps ls i).1.set i (keptX now age (keepC ps ls.length i) (ls.getD i [])):=rfl
  rw [← hnx] at hwi
  simp only [hln] at hwi
  have hkeyi:i+1=zs.length → ∀ S,CallD Tryz.prog O 43 [.agg [.str own,.sl none 1 zs.length (zs.map .str),.sl none 2 ls.length (tabsC most (swC now age ps ls i).1)],.str zs[i]] S fun d S'=>S'=S∧d = .str (keepC ps ls.length i):=fun e S=>by
   have:=hkey (swC now age ps ls i).1 zs[i] S
   rw [hln] at this
   have hzi:=hz i h1
   rw [show zs.getD i ⟨#[]⟩=zs[i] by simp [h1]] at hzi
   rw [hzi,if_neg (by omega)] at this
   rw [keepC,if_pos (by omega)]
   exact this
  have hkeep : ¬ i+1=zs.length→keepC ps ls.length i=⟨#[]⟩:=fun e=>if_neg (by omega)
  generalize hgg:goneX now age (keepC ps ls.length i) (ls.getD i [])=gg at *
  simp only [refT,strsD] at hsw ta
  by_cases e:i+1=zs.length
  ·have hky:=hkeyi e
   generalize keepC ps ls.length i=kp at *
   repeat' (first|refine Go.a rfl ?_|refine Go.rg ?_|refine GoR.nil ?_|refine Go.ret ?_|refine Go.b rfl ?_|refine Go.rgS dmx (by decide) ?_|(refine GoR.o (by rfl) (by rfl) ?_;(conv=>arg 1;simp only [G,Z,Y,Gx,un_neg,cutD,decide_true,decide_false,simprocAttr,fb3,fb9,fb28,fb30,fb51,fb74,fb76,dl,w1,a1,ta,hc,hc',w2,show ((i:Int)==((zs.length - 1:Nat):Int))=true by simp;omega,wrap_succ (show i<4611686018427387904 by omega)]);show GoR ..)|(refine GoR.c c43 (by rfl) (by rfl) rfl ?_;(refine (hky _).ret ?_))|(refine GoR.c c16 (by rfl) (by rfl) rfl ?_;(refine (hsw _).ret ?_))|(refine GoR.c c81 (by rfl) (by rfl) rfl ?_;(refine (hwi _).ret ?_))|refine Go.condB rfl (fun hc => ?_) (fun hc => ?_))
   refine Go.lpN ?_
   refine Go.keep [(1,.int .i64 now),(2,.int .i64 age),(3,.ptr S.length 0),(6,.ptr (S.length+1) 0),(8,.int .i64 (((swC now age ps ls (i+1)).2:Nat):Int)),(9,.int .i64 ((i+1:Nat):Int))] (.cons .refl (.cons .refl (.cons .refl (.cons .refl (.cons .refl (.cons .refl (.nil))))))) ?_
   refine next (i+1,_) (by dsimp only;omega) ⟨h1,(hfr.trans (F:=[]) (G:=[]) .app (by simp)).trans (F:=[]) (G:=[S.length]) (.set (by simp)) (by simp),by dsimp only;refine objAt_set_eq ?_;rw [List.length_append];have:=objAt_lt hc;omega,by dsimp only;refine (objAt_set_ne ?_).trans (objAt_old hres);omega⟩
  ·have hkp:=hkeep e
   rw [hkp] at hsw hwi hnx hgg
   repeat' (first|refine Go.a rfl ?_|refine Go.rg ?_|refine GoR.nil ?_|refine Go.ret ?_|refine Go.b rfl ?_|refine Go.rgS dmx (by decide) ?_|(refine GoR.o (by rfl) (by rfl) ?_;(conv=>arg 1;simp only [G,Z,Y,Gx,un_neg,cutD,decide_true,decide_false,simprocAttr,fb3,fb9,fb28,fb30,fb51,fb74,fb76,dl,w1,a1,ta,hc,hc',w2,show ((i:Int)==((zs.length - 1:Nat):Int))=false by simp;omega,wrap_succ (show i<4611686018427387904 by omega)]);show GoR ..)|(refine GoR.c c16 (by rfl) (by rfl) rfl ?_;(refine (hsw _).ret ?_))|(refine GoR.c c81 (by rfl) (by rfl) rfl ?_;(refine (hwi _).ret ?_))|refine Go.condB rfl (fun hc => ?_) (fun hc => ?_))
   refine Go.lpN ?_
   refine Go.keep [(1,.int .i64 now),(2,.int .i64 age),(3,.ptr S.length 0),(6,.ptr (S.length+1) 0),(8,.int .i64 (((swC now age ps ls (i+1)).2:Nat):Int)),(9,.int .i64 ((i+1:Nat):Int))] (.cons .refl (.cons .refl (.cons .refl (.cons .refl (.cons .refl (.cons .refl (.nil))))))) ?_
   refine next (i+1,_) (by dsimp only;omega) ⟨h1,(hfr.trans (F:=[]) (G:=[]) .app (by simp)).trans (F:=[]) (G:=[S.length]) (.set (by simp)) (by simp),by dsimp only;refine objAt_set_eq ?_;rw [List.length_append];have:=objAt_lt hc;omega,by dsimp only;refine (objAt_set_ne ?_).trans (objAt_old hres);omega⟩
 ·clear next
  obtain rfl:i=ls.length:=by omega
  obtain ⟨E,hE⟩:=(hfr.trans (F:=[]) (G:=[S.length+1]) (.set (o:=S.length+1) (x:=.obj [.str own,.sl none 1 zs.length (zs.map .str),.sl none 2 ls.length (tabsC most (swC now age ps ls ls.length).1)]) (by simp)) (by simp)).pre (by simp)
  have hs1 : ∀ c,objAt (M.set (S.length+1) (.obj c)) (S.length+1)=some c:=fun c=>objAt_set_eq (objAt_lt hres)
  rw [hln]
  repeat' (first|refine Go.a rfl ?_|refine Go.rg ?_|refine GoR.nil ?_|refine Go.ret ?_|refine Go.b rfl ?_|refine Go.rgS dmx (by decide) ?_|(refine GoR.o (by rfl) (by rfl) ?_;(conv=>arg 1;simp only [G,Z,Y,Gx,un_neg,cutD,decide_true,decide_false,simprocAttr,fb3,fb9,fb28,fb30,fb51,fb74,fb76,show decide ((ls.length:Int)<(zs.length:Int))=false by simp;omega,hc,hres]);show GoR ..)|refine Go.condB rfl (fun hc => ?_) (fun hc => ?_))
  refine ⟨(by first | exact .inl rfl | exact .inr rfl),fin ?_⟩
  rw [resD_two (fn:=Tryz.f36) rfl]
  simp only [optThen_some,resultD_tmp,resultD_cell,G,Z,Y,Gx,un_neg,cutD,decide_true,decide_false,simprocAttr,fb3,fb9,fb28,fb30,fb51,fb74,fb76,hs1]
  exact ⟨_,E,hE,.of_low (.tup' (.cons (.agg' (.cons (.str _) (.cons (.sl' (strs_low _)) (.cons (.sl' tabsC_low) .nil)))) (.cons (.int _ _) .nil))),rfl⟩
end Go.Proofs.DtT
namespace Go.Proofs.DtT
open Go Go.DM Go.Proofs.DtF
set_option maxRecDepth 100000
variable {orc:DOracle}
def nilT (most:Int) (n:Nat):List D:=(List.replicate n [D.int .i64 most,D.nils]).flatten
theorem nilT_succ {most:Int} {n:Nat} : nilT most (n+1)=nilT most n++[.int .i64 most,.nils]:=by
 rw [nilT,List.replicate_succ',List.flatten_append]
 simp [nilT]
theorem nilT_wf {most:Int} : ∀ l:List ByteArray,WfL (nilT most l.length) (tabsC most (l.map fun _=>[]))
 | []=>.nil
 | x::l=>by
  have:=nilT_wf (most:=most) l
  rw [nilT,List.length_cons,List.replicate_succ,List.flatten_cons,List.map_cons,tabsC,List.flatMap_cons]
  exact .append (.cons .refl (.cons .nilE .nil)) this
set_option maxHeartbeats 4000000 in
theorem refNewChain (own:ByteArray) (hs:own.size<1000000) (most:Int) (S:Mem):CallD Tryz.prog O 32 [.str own,.int .i64 most] S fun d S'=>S'=S∧d = .agg (refC own (zonesP (partsP own)) most ((zonesP (partsP own)).map fun _=>[])):=by
 have hz:=fun S=>refZones own hs S
 have h4:=zonesP_len (partsP own)
 have h5:=partsP_len own
 generalize zonesP (partsP own)=zs at *
 unfold strsD at hz
 unfold refC
 refine CallD.e Tryz.func32 rfl Tryz.ntmps32 (by rfl) ?_
 repeat' (first|refine Go.a rfl ?_|refine Go.rg ?_|refine GoR.nil ?_|refine Go.ret ?_|refine Go.b rfl ?_|(refine GoR.o (by rfl) (by rfl) ?_;(conv=>arg 1;simp only [G,Z,Y,Gx,un_neg,cutD,decide_true,decide_false,simprocAttr,fb3,fb9,fb28,fb30,fb51,fb74,fb76]);show GoR ..)|(refine GoR.c c79 (by rfl) (by rfl) rfl ?_;(refine (hz _).ret ?_))|refine Go.condB rfl (fun hc => ?_) (fun hc => ?_))
 refine Go.keep [(1,.int .i64 most),(4,.ptr S.length 0),(5,.ptr (S.length+1) 0),(6,.int .i64 ((0:Nat):Int))] (.cons .refl (.cons .refl (.cons .refl (.cons .refl (.nil))))) ?_
 refine Go.while (α:=Nat×D×Mem) (fun x=>zs.length - x.1) (fun x=>[(1,.int .i64 most),(4,.ptr S.length 0),(5,.ptr (S.length+1) 0),(6,.int .i64 (x.1:Int))]) (fun x=>x.2.2)
  (fun x=>x.1≤zs.length∧Fr [] S x.2.2∧objAt x.2.2 (S.length+1)=some [.str own,.sl none 1 zs.length (zs.map .str),x.2.1]∧objAt x.2.2 S.length=some [.str ⟨#[]⟩,.nils,.nils]∧AccD (S.length+2) x.2.1 2 x.1 (nilT most x.1) x.2.2) ?_ (0,.nils,_) ⟨Nat.zero_le _,.app,by simp [objAt],by simp [objAt],.inl ⟨rfl,rfl,rfl⟩⟩
 rintro ⟨i,o,M⟩ ⟨hi,hfr,hc,hres,hacc⟩ next
 dsimp only at hi hfr hc hres hacc next
 by_cases h1:i<zs.length
 ·have hcl:=objAt_lt hc
  obtain ⟨o',M3,hap,hx3,hone,hx4,hacc4,hkeep,hfr4,hlen⟩:=accV (P:=Tryz.prog) del74 (own:=some M.length) (new:=[.int .i64 most,.nils]) (objAt_old (E:=[.own]) hc) (by omega) (by simp;omega) (hacc.app [.own]) ⟨by omega,by omega,by omega,rfl⟩
  repeat' (first|refine Go.a rfl ?_|refine Go.rg ?_|refine GoR.nil ?_|refine Go.ret ?_|refine Go.b rfl ?_|(refine GoR.o (by rfl) (by rfl) ?_;(conv=>arg 1;simp only [G,Z,Y,Gx,un_neg,cutD,decide_true,decide_false,simprocAttr,fb3,fb9,fb28,fb30,fb51,fb74,fb76,show decide ((i:Int)<(zs.length:Int))=true by simp;omega,hc,hap,builtin_append,hx3,hone,wrap_succ (show i<4611686018427387904 by omega)]);show GoR ..)|refine Go.condB rfl (fun hc => ?_) (fun hc => ?_))
  refine Go.lpN ?_
  refine Go.keep [(1,.int .i64 most),(4,.ptr S.length 0),(5,.ptr (S.length+1) 0),(6,.int .i64 ((i+1:Nat):Int))] (.cons .refl (.cons .refl (.cons .refl (.cons .refl (.nil))))) ?_
  exact next (i+1,o',_) (by dsimp only;omega) ⟨h1,hfr4 S (hfr.trans (F:=[]) (G:=[]) .app (by simp)) (by omega),hx4,hkeep _ _ (by omega) (objAt_old hres),by dsimp only;rw [nilT_succ];exact hacc4⟩
 ·clear next
  obtain rfl:i=zs.length:=by omega
  have hone:=hacc.one
  have hs1 : ∀ c,objAt (M.set S.length (.obj c)) S.length=some c:=fun c=>objAt_set_eq (objAt_lt hres)
  obtain ⟨E,hE⟩:=(hfr.trans (F:=[]) (G:=[S.length]) (.set (o:=S.length) (x:=.obj [.str own,.sl none 1 zs.length (zs.map .str),o]) (by simp)) (by simp)).pre (by simp)
  repeat' (first|refine Go.a rfl ?_|refine Go.rg ?_|refine GoR.nil ?_|refine Go.ret ?_|refine Go.b rfl ?_|(refine GoR.o (by rfl) (by rfl) ?_;(conv=>arg 1;simp only [G,Z,Y,Gx,un_neg,cutD,decide_true,decide_false,simprocAttr,fb3,fb9,fb28,fb30,fb51,fb74,fb76,show decide ((zs.length:Int)<(zs.length:Int))=false by simp,hc,hres,hone]);show GoR ..)|refine Go.condB rfl (fun hc => ?_) (fun hc => ?_))
  refine ⟨(by first | exact .inl rfl | exact .inr rfl),fin ?_⟩
  rw [resD_cell (fn:=Tryz.f32) rfl]
  simp only [optThen_some,resultD_tmp,resultD_cell,G,Z,Y,Gx,un_neg,cutD,decide_true,decide_false,simprocAttr,fb3,fb9,fb28,fb30,fb51,fb74,fb76,hs1]
  have hw:Wf o (.sl none 2 zs.length (tabsC most (zs.map fun _=>[]))):=hacc.wf.trans (.sl' (nilT_wf zs))
  refine ⟨_,E,hE,(Wf.agg' (.cons .refl (.cons .refl (.cons hw .nil)))).to_Wk (.agg' (.cons (.str _) (.cons (.sl' (strs_low _)) (.cons (.sl' tabsC_low) .nil)))),by rw [List.length_map]⟩
end Go.Proofs.DtT
