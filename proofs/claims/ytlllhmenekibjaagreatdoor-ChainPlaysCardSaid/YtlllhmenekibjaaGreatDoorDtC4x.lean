/- The chain of tables: what it is, looked at. -/
import Derived.Test.YtlllhmenekibjaaGreatDoorDtC1x
set_option linter.unusedSimpArgs false
set_option linter.unusedVariables false
namespace Go.Proofs.DtT
open Go Go.DM Go.Proofs.DtF
set_option maxRecDepth 100000
variable {orc:DOracle}
abbrev Tl:=List (Tb×List Rw)
def ptrsC (l:Tl):List D:=l.map fun x=>.ptr x.1.t 0
def ownC (l:Tl):List Nat:=l.flatMap fun x=>x.1.own
structure ChAt (S:Mem) (c:Nat) (ps zs:List ByteArray) (most:Int) (w:Option Nat) (l:Tl):Prop where
 obj:objAt S c=some [strsD ps,strsD zs,.sl w 1 l.length (ptrsC l)]
 tab : ∀ i (h:i<l.length),TabAt S l[i].1 most l[i].2∧OkT l[i].2
 apart : ∀ i (h:i<l.length) j (k:j<l.length),¬ i=j → ∀ o∈l[i].1.own,o∉l[j].1.own
 nc : ∀ i (h:i<l.length),c∉l[i].1.own
 z:zs.length=l.length
 p:ps.length=l.length
 n:l.length≤4
theorem ownC_at {l:Tl} {i:Nat} (h:i<l.length) {o:Nat} (ho:o∈l[i].1.own):o∈ownC l:=List.mem_flatMap.2 ⟨_,List.getElem_mem h,ho⟩
theorem ownC_of {l:Tl} {o:Nat} (h:o∈ownC l) : ∃ i,∃ h:i<l.length,o∈l[i].1.own:=by
 obtain ⟨x,hx,ho⟩:=List.mem_flatMap.1 h
 obtain ⟨i,hi,rfl⟩:=List.mem_iff_getElem.1 hx
 exact ⟨i,hi,ho⟩
theorem ChAt.fr {F S S' c ps zs most w l} (h:ChAt S c ps zs most w l) (x:Fr F S S') (hc:c∉F) (hF : ∀ o∈ownC l,o∉F):ChAt S' c ps zs most w l:=
 ⟨x.obj h.obj hc,fun i hi=>⟨(h.tab i hi).1.fr x fun o ho=>hF o (ownC_at hi ho),(h.tab i hi).2⟩,h.apart,h.nc,h.z,h.p,h.n⟩
theorem ChAt.app {S c ps zs most w l} (h:ChAt S c ps zs most w l) (E:Mem):ChAt (S++E) c ps zs most w l:=h.fr (F:=[]) .app (by simp) (by simp)
theorem ChAt.lt {S c ps zs most w l} (h:ChAt S c ps zs most w l):c<S.length ∧ ∀ o∈ownC l,o<S.length:=
 ⟨objAt_lt h.obj,fun o ho=>by
  obtain ⟨i,hi,ho⟩:=ownC_of ho
  exact (h.tab i hi).1.lt o ho⟩
theorem ptrsC_set {l:Tl} {i:Nat} {T:Tb} {m:List Rw} (h:i<l.length) (e:T.t=l[i].1.t):ptrsC (l.set i (T,m))=ptrsC l:=by
 unfold ptrsC
 refine List.ext_getElem (by simp) fun j h1 h2 => ?_
 simp only [List.getElem_map,List.getElem_set]
 split
 ·rename_i hij
  subst hij
  simp [e]
 ·rfl
theorem ChAt.moved {S S' c ps zs most w l i} (h:ChAt S c ps zs most w l) (hi:i<l.length) {m:List Rw} (hok:OkT m) (x:MovedT S l[i].1 most m S') :
  ∃ T':Tb,T'.t=l[i].1.t∧ChAt S' c ps zs most w (l.set i (T',m))∧Fr (ownC l) S S' ∧ ∀ o∈ownC (l.set i (T',m)),o∈ownC l∨S.length≤o:=by
 obtain ⟨T',e1,_,h1,h2,h3⟩:=x
 have hfr:Fr (ownC l) S S':=⟨h3.len,fun o ho hF=>h3.at_ o ho fun hx=>hF (ownC_at hi hx)⟩
 refine ⟨T',e1,⟨?_,fun j hj => ?_,fun j hj k hk hjk o ho => ?_,fun j hj => ?_,by simpa using h.z,by simpa using h.p,by simpa using h.n⟩,hfr,fun o ho => ?_⟩
 ·rw [ptrsC_set hi e1,List.length_set]
  exact h3.obj h.obj (h.nc i hi)
 ·rw [List.length_set] at hj
  rw [List.getElem_set]
  split
  ·exact ⟨h1,hok⟩
  ·rename_i hij
   exact ⟨(h.tab j hj).1.fr h3 fun o ho=>h.apart j hj i hi (fun e=>hij e.symm) o ho,(h.tab j hj).2⟩
 ·rw [List.length_set] at hj hk
  rw [List.getElem_set] at ho ⊢
  by_cases hij:i=j
  ·subst hij
   rw [if_pos rfl] at ho
   rw [if_neg hjk]
   rcases h2 o ho with hh | hh
   ·exact h.apart i hj k hk hjk o hh
   ·exact fun hx=>by have:=(h.tab k hk).1.lt o hx;omega
  ·rw [if_neg hij] at ho
   by_cases hik:i=k
   ·subst hik
    rw [if_pos rfl]
    intro hx
    rcases h2 o hx with hh | hh
    ·exact h.apart j hj i hk hjk o ho hh
    ·have:=(h.tab j hj).1.lt o ho;omega
   ·rw [if_neg hik]
    exact h.apart j hj k hk hjk o ho
 ·rw [List.length_set] at hj
  rw [List.getElem_set]
  split
  ·intro hx
   rcases h2 c hx with hh | hh
   ·exact h.nc i hi hh
   ·have:=h.lt.1;omega
  ·exact h.nc j hj
 ·obtain ⟨j,hj,ho⟩:=ownC_of ho
  rw [List.length_set] at hj
  rw [List.getElem_set] at ho
  split at ho
  ·rcases h2 o ho with hh | hh
   ·exact .inl (ownC_at hi hh)
   ·exact .inr hh
  ·exact .inl (ownC_at hj ho)
theorem ptrAt {l:Tl} {i:Nat} (h:i<l.length):((0≤(i:Int)∧(i:Int)<(l.length:Int))=True)∧(ptrsC l)[i]?=some (.ptr l[i].1.t 0):=⟨ix_ok h,by simp [ptrsC,h]⟩
theorem chFind {S c ps zs most w l} (h:ChAt S c ps zs most w l) (s:ByteArray):CallD Tryz.prog orc 82 [.ptr c 0,.str s] S fun d S'=>S'=S∧d = .int .i64 (findS zs s):=by
 have hob:=h.obj
 have hi:=fun S=>indexS (orc:=orc) zs (by have:=h.z;have:=h.n;omega) s S
 refine CallD.e Tryz.func82 rfl Tryz.ntmps82 (by rfl) ?_
 repeat' (first|refine Go.a rfl ?_|refine Go.rg ?_|refine GoR.nil ?_|refine Go.ret ?_|refine Go.b rfl ?_|(refine GoR.o (by rfl) (by rfl) ?_;(conv=>arg 1;simp only [G,Z,Y,Gx,un_neg,cutD,decide_true,decide_false,simprocAttr,fb51,fb128,fb130,hob]);show GoR ..)|(refine GoR.c c112 (by rfl) (by rfl) rfl ?_;(refine (hi _).ret ?_))|refine Go.condB rfl (fun hc => ?_) (fun hc => ?_))
 refine ⟨(by first | exact .inl rfl | exact .inr rfl),fin ?_⟩
 rw [resD_tmp (fn:=Tryz.f82) rfl]
 simp only [optThen_some,resultD_tmp,resultD_cell,G,Z,Y,Gx,un_neg,cutD,decide_true,decide_false,simprocAttr,fb51,fb128,fb130]
 exact ⟨_,[],by simp,.int,rfl⟩
theorem findS_lt {l:List ByteArray} {s:ByteArray} : findS l s<l.length∧(findS l s<0→findS l s = -1):=by
 unfold findS
 split<;>omega
theorem chHas {S c ps zs most w l} (h:ChAt S c ps zs most w l) (s:ByteArray):CallD Tryz.prog orc 41 [.ptr c 0,.str s] S fun d S'=>S'=S∧d = .bool (decide (0≤findS zs s)):=by
 have hf:=chFind (orc:=orc) h s
 refine CallD.e Tryz.func41 rfl Tryz.ntmps41 (by rfl) ?_
 repeat' (first|refine Go.a rfl ?_|refine Go.rg ?_|refine GoR.nil ?_|refine Go.ret ?_|refine Go.b rfl ?_|(refine GoR.o (by rfl) (by rfl) ?_;(conv=>arg 1;simp only [G,Z,Y,Gx,un_neg,cutD,decide_true,decide_false,simprocAttr,fb3]);show GoR ..)|(refine GoR.c c82 (by rfl) (by rfl) rfl ?_;(refine hf.ret ?_))|refine Go.condB rfl (fun hc => ?_) (fun hc => ?_))
 refine ⟨(by first | exact .inl rfl | exact .inr rfl),fin ?_⟩
 rw [resD_tmp (fn:=Tryz.f41) rfl]
 simp only [optThen_some,resultD_tmp,resultD_cell,G,Z,Y,Gx,un_neg,cutD,decide_true,decide_false,simprocAttr,fb3]
 exact ⟨_,[],by simp,.bool,rfl⟩
theorem chZones {S c ps zs most w l} (h:ChAt S c ps zs most w l):CallD Tryz.prog orc 33 [.ptr c 0] S fun d S'=>S'=S∧d=strsD zs:=by
 have hob:=h.obj
 have hc:=fun S=>cloneS (orc:=orc) zs (by have:=h.z;have:=h.n;omega) S
 have hcl:=fun S=>clipStrs (orc:=orc) none zs S
 unfold strsD at *
 refine CallD.e Tryz.func33 rfl Tryz.ntmps33 (by rfl) ?_
 repeat' (first|refine Go.a rfl ?_|refine Go.rg ?_|refine GoR.nil ?_|refine Go.ret ?_|refine Go.b rfl ?_|(refine GoR.o (by rfl) (by rfl) ?_;(conv=>arg 1;simp only [G,Z,Y,Gx,un_neg,cutD,decide_true,decide_false,simprocAttr,fb51,fb128,fb130,hob]);show GoR ..)|(refine GoR.c c80 (by rfl) (by rfl) rfl ?_;(refine (hc _).ret ?_))|(refine GoR.c c65 (by rfl) (by rfl) rfl ?_;(refine (hcl _).ret ?_))|refine Go.condB rfl (fun hc => ?_) (fun hc => ?_))
 refine ⟨(by first | exact .inl rfl | exact .inr rfl),fin ?_⟩
 rw [resD_tmp (fn:=Tryz.f33) rfl]
 simp only [optThen_some,resultD_tmp,resultD_cell,G,Z,Y,Gx,un_neg,cutD,decide_true,decide_false,simprocAttr,fb51,fb128,fb130]
 exact ⟨_,[],by simp,.of_low (.sl' (strs_low _)),rfl⟩
theorem chKey {S c ps zs most w l} (h:ChAt S c ps zs most w l) (s:ByteArray):CallD Tryz.prog orc 42 [.ptr c 0,.str s] S fun d S'=>S'=S∧d = .str (if findS zs s<0 then ⟨#[]⟩ else ps.getD (findS zs s).toNat ⟨#[]⟩):=by
 have hob:=h.obj
 have hf:=chFind (orc:=orc) h s
 have h1:=findS_lt (l:=zs) (s:=s)
 have h2:=h.z
 have h3:=h.p
 generalize findS zs s=k at *
 unfold strsD at hob
 refine CallD.e Tryz.func42 rfl Tryz.ntmps42 (by rfl) ?_
 by_cases hk:k<0
 ·rw [if_pos hk]
  repeat' (first|refine Go.a rfl ?_|refine Go.rg ?_|refine GoR.nil ?_|refine Go.ret ?_|refine Go.b rfl ?_|(refine GoR.o (by rfl) (by rfl) ?_;(conv=>arg 1;simp only [G,Z,Y,Gx,un_neg,cutD,decide_true,decide_false,simprocAttr,fb3,fb9,fb51,fb128,fb130,decide_eq_true hk]);show GoR ..)|(refine GoR.c c82 (by rfl) (by rfl) rfl ?_;(refine hf.ret ?_))|refine Go.condB rfl (fun hc => ?_) (fun hc => ?_))
  refine ⟨(by first | exact .inl rfl | exact .inr rfl),fin ?_⟩
  rw [resD_tmp (fn:=Tryz.f42) rfl]
  simp only [optThen_some,resultD_tmp,resultD_cell,G,Z,Y,Gx,un_neg,cutD,decide_true,decide_false,simprocAttr,fb3,fb9,fb51,fb128,fb130]
  exact ⟨_,[],by simp,.str,rfl⟩
 ·rw [if_neg hk]
  obtain ⟨i,rfl⟩:=Int.eq_ofNat_of_zero_le (show 0≤k by omega)
  have hi:i<ps.length:=by omega
  have a1:=strsAt hi
  rw [show (ps.getD ((i:Int)).toNat ⟨#[]⟩)=ps[i] by simp [hi]]
  repeat' (first|refine Go.a rfl ?_|refine Go.rg ?_|refine GoR.nil ?_|refine Go.ret ?_|refine Go.b rfl ?_|(refine GoR.o (by rfl) (by rfl) ?_;(conv=>arg 1;simp only [G,Z,Y,Gx,un_neg,cutD,decide_true,decide_false,simprocAttr,fb3,fb9,fb51,fb128,fb130,decide_eq_false hk,hob,a1]);show GoR ..)|(refine GoR.c c82 (by rfl) (by rfl) rfl ?_;(refine hf.ret ?_))|refine Go.condB rfl (fun hc => ?_) (fun hc => ?_))
  refine ⟨(by first | exact .inl rfl | exact .inr rfl),fin ?_⟩
  rw [resD_tmp (fn:=Tryz.f42) rfl]
  simp only [optThen_some,resultD_tmp,resultD_cell,G,Z,Y,Gx,un_neg,cutD,decide_true,decide_false,simprocAttr,fb3,fb9,fb51,fb128,fb130]
  exact ⟨_,[],by simp,.str,rfl⟩
theorem chRows0 {S c ps zs most w l} (h:ChAt S c ps zs most w l) {s:ByteArray} (hs:findS zs s<0):CallD Tryz.prog orc 44 [.ptr c 0,.str s] S fun d S'=>S'=S∧d = .sl none 6 0 []:=by
 have hf:=chFind (orc:=orc) h s
 refine CallD.e Tryz.func44 rfl Tryz.ntmps44 (by rfl) ?_
 repeat' (first|refine Go.a rfl ?_|refine Go.rg ?_|refine GoR.nil ?_|refine Go.ret ?_|refine Go.b rfl ?_|(refine GoR.o (by rfl) (by rfl) ?_;(conv=>arg 1;simp only [G,Z,Y,Gx,un_neg,cutD,decide_true,decide_false,simprocAttr,fb3,fb24,fb51,fb128,fb130,decide_eq_true hs]);show GoR ..)|(refine GoR.c c82 (by rfl) (by rfl) rfl ?_;(refine hf.ret ?_))|refine Go.condB rfl (fun hc => ?_) (fun hc => ?_))
 refine ⟨(by first | exact .inl rfl | exact .inr rfl),fin ?_⟩
 rw [resD_tmp (fn:=Tryz.f44) rfl]
 simp only [optThen_some,resultD_tmp,resultD_cell,G,Z,Y,Gx,un_neg,cutD,decide_true,decide_false,simprocAttr,fb3,fb24,fb51,fb128,fb130]
 exact ⟨_,[],by simp,.nilE,rfl⟩
theorem chRows {S c ps zs most w l} (h:ChAt S c ps zs most w l) {s:ByteArray} {i:Nat} (hi:i<l.length) (hs:findS zs s=i):CallD Tryz.prog orc 44 [.ptr c 0,.str s] S fun d S'=>S'=S∧d = .sl none 6 l[i].2.length (rowsC l[i].2):=by
 have hob:=h.obj
 have hf:=chFind (orc:=orc) h s
 rw [hs] at hf
 have a1:=ptrAt hi
 obtain ⟨t1,t2⟩:=h.tab i hi
 have hr:=tabRows (orc:=orc) t1 t2.len t2.ok
 have d1:decide ((i:Int)<0)=false:=by simp
 refine CallD.e Tryz.func44 rfl Tryz.ntmps44 (by rfl) ?_
 repeat' (first|refine Go.a rfl ?_|refine Go.rg ?_|refine GoR.nil ?_|refine Go.ret ?_|refine Go.b rfl ?_|(refine GoR.o (by rfl) (by rfl) ?_;(conv=>arg 1;simp only [G,Z,Y,Gx,un_neg,cutD,decide_true,decide_false,simprocAttr,fb3,fb24,fb51,fb128,fb130,d1,hob,a1]);show GoR ..)|(refine GoR.c c82 (by rfl) (by rfl) rfl ?_;(refine hf.ret ?_))|(refine GoR.c c26 (by rfl) (by rfl) rfl ?_;(refine hr.ret ?_))|refine Go.condB rfl (fun hc => ?_) (fun hc => ?_))
 refine ⟨(by first | exact .inl rfl | exact .inr rfl),fin ?_⟩
 rw [resD_tmp (fn:=Tryz.f44) rfl]
 simp only [optThen_some,resultD_tmp,resultD_cell,G,Z,Y,Gx,un_neg,cutD,decide_true,decide_false,simprocAttr,fb3,fb24,fb51,fb128,fb130]
 exact ⟨_,[],by simp,.of_low (.sl' (rows_low _)),rfl⟩
theorem chGet0 {S c ps zs most w l} (h:ChAt S c ps zs most w l) {s:ByteArray} (hs:findS zs s<0) (k:ByteArray):CallD Tryz.prog orc 39 [.ptr c 0,.str s,.str k] S fun d S'=>S'=S∧d = .tup [.agg noRow.c,.bool false]:=by
 have hf:=fun E=>chFind (orc:=orc) (h.app E) s
 simp only [Rw.c,noRow]
 refine CallD.e Tryz.func39 rfl Tryz.ntmps39 (by rfl) ?_
 repeat' (first|refine Go.a rfl ?_|refine Go.rg ?_|refine GoR.nil ?_|refine Go.ret ?_|refine Go.b rfl ?_|(refine GoR.o (by rfl) (by rfl) ?_;(conv=>arg 1;simp only [G,Z,Y,Gx,un_neg,cutD,decide_true,decide_false,simprocAttr,fb3,fb9,fb24,fb32,fb33,fb35,fb51,fb128,fb130,decide_eq_true hs]);show GoR ..)|(refine GoR.c c82 (by rfl) (by rfl) rfl ?_;(refine (hf _).ret ?_))|refine Go.condB rfl (fun hc => ?_) (fun hc => ?_))
 refine ⟨(by first | exact .inl rfl | exact .inr rfl),fin ?_⟩
 rw [resD_two (fn:=Tryz.f39) rfl]
 simp only [optThen_some,resultD_tmp,resultD_cell,G,Z,Y,Gx,un_neg,cutD,decide_true,decide_false,simprocAttr,fb3,fb9,fb24,fb32,fb33,fb35,fb51,fb128,fb130]
 exact ⟨_,_,rfl,(Wf.tup' (.cons (.agg' (.cons .refl (.cons .refl (.cons .refl (.cons .refl (.cons .refl (.cons .nilE .nil))))))) (.cons .refl .nil))).to_Wk (.tup' (.cons (.agg' (row_low noRow)) (.cons (.bool _) .nil))),rfl⟩
theorem chGet {S c ps zs most w l} (h:ChAt S c ps zs most w l) {s:ByteArray} {i:Nat} (hi:i<l.length) (hs:findS zs s=i) (k:ByteArray):CallD Tryz.prog orc 39 [.ptr c 0,.str s,.str k] S fun d S'=>S'=S∧d = .tup [.agg ((lookK Rw.key l[i].2 k).getD noRow).c,.bool (lookK Rw.key l[i].2 k).isSome]:=by
 have hob:=fun E=>(h.app E).obj
 have hf:=fun E=>chFind (orc:=orc) (h.app E) s
 simp only [hs] at hf
 have a1:=ptrAt hi
 obtain ⟨t1,t2⟩:=h.tab i hi
 have hr:=fun E=>tabGet (orc:=orc) (t1.app E) t2 k
 have d1:decide ((i:Int)<0)=false:=by simp
 generalize (lookK Rw.key l[i].2 k).getD noRow=x at *
 generalize (lookK Rw.key l[i].2 k).isSome=b at *
 simp only [Rw.c] at *
 refine CallD.e Tryz.func39 rfl Tryz.ntmps39 (by rfl) ?_
 repeat' (first|refine Go.a rfl ?_|refine Go.rg ?_|refine GoR.nil ?_|refine Go.ret ?_|refine Go.b rfl ?_|(refine GoR.o (by rfl) (by rfl) ?_;(conv=>arg 1;simp only [G,Z,Y,Gx,un_neg,cutD,decide_true,decide_false,simprocAttr,fb3,fb9,fb24,fb32,fb33,fb35,fb51,fb128,fb130,d1,hob,a1]);show GoR ..)|(refine GoR.c c82 (by rfl) (by rfl) rfl ?_;(refine (hf _).ret ?_))|(refine GoR.c c21 (by rfl) (by rfl) rfl ?_;(refine (hr _).ret ?_))|refine Go.condB rfl (fun hc => ?_) (fun hc => ?_))
 refine ⟨(by first | exact .inl rfl | exact .inr rfl),fin ?_⟩
 rw [resD_two (fn:=Tryz.f39) rfl]
 simp only [optThen_some,resultD_tmp,resultD_cell,G,Z,Y,Gx,un_neg,cutD,decide_true,decide_false,simprocAttr,fb3,fb9,fb24,fb32,fb33,fb35,fb51,fb128,fb130]
 exact ⟨_,_,rfl,.of_low (.tup' (.cons (.agg' (row_low x)) (.cons (.bool _) .nil))),rfl⟩
theorem chPut0 {S c ps zs most w l} (h:ChAt S c ps zs most w l) {s:ByteArray} (hs:findS zs s<0) (r:Rw):CallD Tryz.prog orc 35 [.ptr c 0,.str s,.agg r.c] S fun d S'=>S'=S∧d = .int .i64 12:=by
 have hf:=fun E=>chFind (orc:=orc) (h.app E) s
 simp only [Rw.c]
 refine CallD.e Tryz.func35 rfl Tryz.ntmps35 (by rfl) ?_
 repeat' (first|refine Go.a rfl ?_|refine Go.rg ?_|refine GoR.nil ?_|refine Go.ret ?_|refine Go.b rfl ?_|refine Go.rgS dmx (by decide) ?_|(refine GoR.o (by rfl) (by rfl) ?_;(conv=>arg 1;simp only [G,Z,Y,Gx,un_neg,cutD,decide_true,decide_false,simprocAttr,fb3,fb9,fb24,fb32,fb33,fb35,fb51,fb128,fb130,decide_eq_true hs]);show GoR ..)|(refine GoR.c c82 (by rfl) (by rfl) rfl ?_;(refine (hf _).ret ?_))|refine Go.condB rfl (fun hc => ?_) (fun hc => ?_))
 refine ⟨(by first | exact .inl rfl | exact .inr rfl),fin ?_⟩
 rw [resD_tmp (fn:=Tryz.f35) rfl]
 simp only [optThen_some,resultD_tmp,resultD_cell,G,Z,Y,Gx,un_neg,cutD,decide_true,decide_false,simprocAttr,fb3,fb9,fb24,fb32,fb33,fb35,fb51,fb128,fb130]
 exact ⟨_,_,rfl,.int,rfl⟩
theorem chPut {S c ps zs most w l} (h:ChAt S c ps zs most w l) {s:ByteArray} {i:Nat} (hi:i<l.length) (hs:findS zs s=i) (hm:1≤most) (r:Rw) (hr:FewR r) (hrl:OkR r) (hll:l[i].2.length<900000) :
  CallD Tryz.prog O 35 [.ptr c 0,.str s,.agg r.c] S fun d S'=>d = .int .i64 (putT most l[i].2 r).2 ∧ ∃ T':Tb,T'.t=l[i].1.t∧ChAt S' c ps zs most w (l.set i (T',(putT most l[i].2 r).1))∧Fr (ownC l) S S' ∧ ∀ o∈ownC (l.set i (T',(putT most l[i].2 r).1)),o∈ownC l∨S.length≤o:=by
 have hob:=fun E=>(h.app E).obj
 have hf:=fun E=>chFind (orc:=O) (h.app E) s
 simp only [hs] at hf
 have a1:=ptrAt hi
 obtain ⟨t1,t2⟩:=h.tab i hi
 have hp:=fun E=>tabPut (t1.app E) t2 hm r hr hrl
 have d1:decide ((i:Int)<0)=false:=by simp
 have hok:=t2.putT (most:=most) hll hrl
 generalize putT most l[i].2 r=q at *
 simp only [Rw.c] at *
 refine CallD.eb Tryz.func35 rfl Tryz.ntmps35 (by rfl) ?_
 repeat' (first|refine Go.a rfl ?_|refine Go.rg ?_|refine GoR.nil ?_|refine Go.ret ?_|refine Go.b rfl ?_|refine Go.rgS dmx (by decide) ?_|(refine GoR.o (by rfl) (by rfl) ?_;(conv=>arg 1;simp only [G,Z,Y,Gx,un_neg,cutD,decide_true,decide_false,simprocAttr,fb3,fb9,fb24,fb32,fb33,fb35,fb51,fb128,fb130,d1,hob,a1]);show GoR ..)|(refine GoR.c c82 (by rfl) (by rfl) rfl ?_;(refine (hf _).ret ?_))|(refine GoR.c c12 (by rfl) (by rfl) rfl ?_;(refine (hp _).mono ?_;rintro _ S2 ⟨rfl,hmv⟩))|refine Go.condB rfl (fun hc => ?_) (fun hc => ?_))
 refine ⟨(by first | exact .inl rfl | exact .inr rfl),fin ?_⟩
 rw [resD_tmp (fn:=Tryz.f35) rfl]
 simp only [optThen_some,resultD_tmp,resultD_cell,G,Z,Y,Gx,un_neg,cutD,decide_true,decide_false,simprocAttr,fb3,fb9,fb24,fb32,fb33,fb35,fb51,fb128,fb130]
 obtain ⟨T',e1,g1,g2,g3⟩:=(h.app _).moved hi hok hmv
 exact ⟨T',e1,g1,Fr.trans (F:=ownC l) (G:=ownC l) .app g2 (fun o ho=>.inl ho),fun o ho=>(g3 o ho).imp id (fun hh=>by simp at hh;omega)⟩
end Go.Proofs.DtT
namespace Go.Proofs.DtT
open Go Go.DM Go.Proofs.DtF
set_option maxRecDepth 100000
variable {orc:DOracle}
def keptX (now age:Int) (keep:ByteArray) (l:List Rw):List Rw:=if now<0∨age<0 then l else keptL now age keep l
def goneX (now age:Int) (keep:ByteArray) (l:List Rw):List ByteArray:=if now<0∨age<0 then [] else goneL now age keep l
theorem keptX_sub {now age:Int} {keep:ByteArray} {l:List Rw} : (keptX now age keep l).Sublist l:=by
 unfold keptX
 split
 ·exact List.Sublist.refl _
 ·exact keptL_sub
theorem goneX_len {now age:Int} {keep:ByteArray} {l:List Rw} : (goneX now age keep l).length≤l.length:=by
 unfold goneX
 split
 ·simp
 ·rw [goneL,List.length_map];exact List.length_filter_le _ _
theorem tabSweepX {S:Mem} {T:Tb} {most:Int} {l:List Rw} (h:TabAt S T most l) (ho:OkT l) (now age:Int) (keep:ByteArray) :
  CallD Tryz.prog O 18 [.ptr T.t 0,.int .i64 now,.int .i64 age,.str keep] S fun d S'=>d=strsD (goneX now age keep l)∧MovedT S T most (keptX now age keep l) S':=by
 unfold goneX keptX
 by_cases hn:now<0∨age<0
 ·simp only [if_pos hn]
  exact (tabSweepNo hn keep).mono fun d S' ⟨h1,h2⟩=>⟨h2,by rw [h1];exact MovedT.same h⟩
 ·simp only [if_neg hn]
  exact tabSweep h ho (by omega) (by omega) keep
theorem refSweepX {most:Int} {l:List Rw} (hl:l.length<1000000) (now age:Int) (keep:ByteArray) (S:Mem):CallD Tryz.prog O 16 [.agg (refT most l),.int .i64 now,.int .i64 age,.str keep] S fun d S'=>S'=S∧d = .tup [.agg (refT most (keptX now age keep l)),strsD (goneX now age keep l)]:=by
 unfold goneX keptX
 by_cases hn:now<0∨age<0
 ·simp only [if_pos hn]
  exact refSweepNo hn keep S
 ·simp only [if_neg hn]
  exact refSweep hl (by omega) (by omega) keep S
def keepC (ps:List ByteArray) (n i:Nat):ByteArray:=if i+1=n then ps.getD i ⟨#[]⟩ else ⟨#[]⟩
def swC (now age:Int) (ps:List ByteArray) (ls:List (List Rw)):Nat→List (List Rw)×Nat
 | 0=>(ls,0)
 | i+1=>((swC now age ps ls i).1.set i (keptX now age (keepC ps ls.length i) (ls.getD i [])),(swC now age ps ls i).2+(goneX now age (keepC ps ls.length i) (ls.getD i [])).length)
theorem swC_len {now age:Int} {ps:List ByteArray} {ls:List (List Rw)} : ∀ i,(swC now age ps ls i).1.length=ls.length
 | 0=>rfl
 | i+1=>by rw [swC,List.length_set,swC_len i]
theorem swC_at {now age:Int} {ps:List ByteArray} {ls:List (List Rw)} : ∀ i,∀ j,i≤j→(swC now age ps ls i).1.getD j []=ls.getD j []
 | 0,_,_=>rfl
 | i+1,j,h=>by
  rw [swC,List.getD_eq_getElem?_getD,List.getElem?_set_ne (by omega),← List.getD_eq_getElem?_getD,swC_at i j (by omega)]
def rowsOf (l:Tl):List (List Rw):=l.map (·.2)
theorem rowsOf_set {l:Tl} {i:Nat} {T:Tb} {m:List Rw} : rowsOf (l.set i (T,m))=(rowsOf l).set i m:=by simp [rowsOf,List.map_set]
theorem rowsOf_at {l:Tl} {i:Nat} (h:i<l.length):(rowsOf l).getD i []=l[i].2:=by simp [rowsOf,h]
set_option maxHeartbeats 4000000 in
theorem chSweep {S c ps zs most w l} (h:ChAt S c ps zs most w l) (now age:Int) (hsm : ∀ i (hi:i<l.length),l[i].2.length≤1000) :
  CallD Tryz.prog O 37 [.ptr c 0,.int .i64 now,.int .i64 age] S fun d S'=>d = .int .i64 ((swC now age ps (rowsOf l) l.length).2:Nat) ∧ ∃ l',rowsOf l'=(swC now age ps (rowsOf l) l.length).1∧ChAt S' c ps zs most w l'∧ptrsC l'=ptrsC l∧Fr (ownC l) S S' ∧ ∀ o∈ownC l',o∈ownC l∨S.length≤o:=by
 have hob:=h.obj
 have hn4:=h.n
 have hps:=h.p
 refine CallD.eb Tryz.func37 rfl Tryz.ntmps37 (by rfl) ?_
 unfold strsD at hob
 repeat' (first|refine Go.a rfl ?_|refine Go.rg ?_|refine GoR.nil ?_|refine Go.ret ?_|refine Go.b rfl ?_|(refine GoR.o (by rfl) (by rfl) ?_;(conv=>arg 1;simp only [G,Z,Y,Gx,un_neg,cutD,decide_true,decide_false,simprocAttr,fb3,fb9,fb24,fb51,fb128,fb130,hob]);show GoR ..)|refine Go.condB rfl (fun hc => ?_) (fun hc => ?_))
 refine Go.keep [(0,.ptr c 0),(1,.int .i64 now),(2,.int .i64 age),(7,.int .i64 ((0:Nat):Int)),(14,.sl w 1 l.length (ptrsC l)),(15,.int .i64 (l.length:Int)),(16,.int .i64 ((0:Nat):Int))] (.cons .refl (.cons .refl (.cons .refl (.cons .refl (.cons .refl (.cons .refl (.cons .refl (.nil)))))))) ?_
 refine Go.while (α:=Nat×Tl×Mem) (fun x=>l.length - x.1) (fun x=>[(0,.ptr c 0),(1,.int .i64 now),(2,.int .i64 age),(7,.int .i64 (((swC now age ps (rowsOf l) x.1).2:Nat):Int)),(14,.sl w 1 l.length (ptrsC l)),(15,.int .i64 (l.length:Int)),(16,.int .i64 (x.1:Int))]) (fun x=>x.2.2)
  (fun x=>x.1≤l.length∧x.2.1.length=l.length∧rowsOf x.2.1=(swC now age ps (rowsOf l) x.1).1∧ChAt x.2.2 c ps zs most w x.2.1∧ptrsC x.2.1=ptrsC l∧Fr (ownC l) S x.2.2∧(∀ o∈ownC x.2.1,o∈ownC l∨S.length≤o)∧(swC now age ps (rowsOf l) x.1).2≤1000*x.1) ?_ (0,l,S) ⟨Nat.zero_le _,rfl,rfl,h,rfl,.refl,fun o ho=>.inl ho,by simp [swC]⟩
 rintro ⟨i,l1,S1⟩ ⟨hi,hln,hrw,hC,hpt,hfr,hown,hsum⟩ next
 dsimp only at hi hln hrw hC hpt hfr hown hsum next
 have hob1:=hC.obj
 unfold strsD at hob1
 rw [hln,hpt] at hob1
 by_cases h1:i<l.length
 ·have h2:i<l1.length:=by omega
  have dl:decide ((i:Int)<(l.length:Int))=true:=by simp;omega
  have a1:=ptrAt h1
  have hrl:(rowsOf l).length=l.length:=by simp [rowsOf]
  have hpi:l1[i].1.t=l[i].1.t:=by
   have e1:=(ptrAt h2).2
   rw [hpt,a1.2] at e1
   exact ((D.ptr.inj (Option.some.inj e1)).1).symm
  have hri:l1[i].2=l[i].2:=by
   rw [← rowsOf_at h2,hrw,swC_at i i (Nat.le_refl _),rowsOf_at h1]
  obtain ⟨t1,t2⟩:=hC.tab i h2
  have hsl:=hsm i h1
  have hsw:=tabSweepX t1 t2 now age (keepC ps l.length i)
  have hgl:=goneX_len (now:=now) (age:=age) (keep:=keepC ps l.length i) (l:=l1[i].2)
  rw [hri] at hgl
  have w1:IntKind.i64.wrap ((l.length:Int) - 1)=((l.length - 1:Nat):Int):=by rw [wrap64 (by omega) (by omega)];omega
  have hs1:(swC now age ps (rowsOf l) (i+1)).2=(swC now age ps (rowsOf l) i).2+(goneX now age (keepC ps l.length i) l[i].2).length:=by rw [swC,hrl,rowsOf_at h1]
  have hs2:(swC now age ps (rowsOf l) (i+1)).1=(swC now age ps (rowsOf l) i).1.set i (keptX now age (keepC ps l.length i) l[i].2):=by rw [swC,hrl,rowsOf_at h1]
  have w2:IntKind.i64.wrap ((((swC now age ps (rowsOf l) i).2:Nat):Int)+((goneX now age (keepC ps l.length i) l[i].2).length:Int))=(((swC now age ps (rowsOf l) (i+1)).2:Nat):Int):=by rw [wrap64 (by omega) (by omega),hs1];omega
  rw [hpi,hri] at hsw
  have hfin : ∀ S2,MovedT S1 l1[i].1 most (keptX now age (keepC ps l.length i) l1[i].2) S2 → ∃ l2:Tl,l2.length=l.length∧rowsOf l2=(swC now age ps (rowsOf l) (i+1)).1∧ChAt S2 c ps zs most w l2∧ptrsC l2=ptrsC l∧Fr (ownC l) S S2∧(∀ o∈ownC l2,o∈ownC l∨S.length≤o):=fun S2 hmv=>by
   obtain ⟨T',e1,g1,g2,g3⟩:=hC.moved h2 (t2.sub keptX_sub) hmv
   refine ⟨_,by rw [List.length_set];exact hln,by rw [rowsOf_set,hrw,hs2,hri],g1,by rw [ptrsC_set h2 e1,hpt],hfr.trans g2 hown,fun o ho => ?_⟩
   rcases g3 o ho with hh | hh
   ·exact hown o hh
   ·exact .inr (Nat.le_trans hfr.len hh)
  rw [hri] at hfin
  unfold strsD at hsw
  by_cases hlast:i+1=l.length
  ·have b1:((i:Int)==((l.length - 1:Nat):Int))=true:=by simp;omega
   have hip:i<ps.length:=by omega
   have a2:=strsAt hip
   have hkp:keepC ps l.length i=ps[i]:=by simp [keepC,hlast,hip]
   rw [hkp] at hsw hfin w2 hs1 hs2 hgl
   repeat' (first|refine Go.a rfl ?_|refine Go.rg ?_|refine GoR.nil ?_|refine Go.ret ?_|refine Go.b rfl ?_|(refine GoR.o (by rfl) (by rfl) ?_;(conv=>arg 1;simp only [G,Z,Y,Gx,un_neg,cutD,decide_true,decide_false,simprocAttr,fb3,fb9,fb24,fb51,fb128,fb130,dl,a1,w1,b1,hob1,a2,w2,wrap_succ (show i<4611686018427387904 by omega)]);show GoR ..)|(refine GoR.c c18 (by rfl) (by rfl) rfl ?_;(refine hsw.mono ?_;rintro _ S2 ⟨rfl,hmv⟩))|refine Go.condB rfl (fun hc => ?_) (fun hc => ?_))
   obtain ⟨l2,f1,f2,f3,f4,f5,f6⟩:=hfin S2 hmv
   refine Go.lpN ?_
   refine Go.keep [(0,.ptr c 0),(1,.int .i64 now),(2,.int .i64 age),(7,.int .i64 (((swC now age ps (rowsOf l) (i+1)).2:Nat):Int)),(14,.sl w 1 l.length (ptrsC l)),(15,.int .i64 (l.length:Int)),(16,.int .i64 ((i+1:Nat):Int))] (.cons .refl (.cons .refl (.cons .refl (.cons .refl (.cons .refl (.cons .refl (.cons .refl (.nil)))))))) ?_
   exact next (i+1,l2,S2) (by dsimp only;omega) ⟨h1,f1,f2,f3,f4,f5,f6,by dsimp only;omega⟩
  ·have b1:((i:Int)==((l.length - 1:Nat):Int))=false:=by simp;omega
   have hkp:keepC ps l.length i=⟨#[]⟩:=by simp [keepC,hlast]
   rw [hkp] at hsw hfin w2 hs1 hs2 hgl
   repeat' (first|refine Go.a rfl ?_|refine Go.rg ?_|refine GoR.nil ?_|refine Go.ret ?_|refine Go.b rfl ?_|(refine GoR.o (by rfl) (by rfl) ?_;(conv=>arg 1;simp only [G,Z,Y,Gx,un_neg,cutD,decide_true,decide_false,simprocAttr,fb3,fb9,fb24,fb51,fb128,fb130,dl,a1,w1,b1,hob1,w2,wrap_succ (show i<4611686018427387904 by omega)]);show GoR ..)|(refine GoR.c c18 (by rfl) (by rfl) rfl ?_;(refine hsw.mono ?_;rintro _ S2 ⟨rfl,hmv⟩))|refine Go.condB rfl (fun hc => ?_) (fun hc => ?_))
   obtain ⟨l2,f1,f2,f3,f4,f5,f6⟩:=hfin S2 hmv
   refine Go.lpN ?_
   refine Go.keep [(0,.ptr c 0),(1,.int .i64 now),(2,.int .i64 age),(7,.int .i64 (((swC now age ps (rowsOf l) (i+1)).2:Nat):Int)),(14,.sl w 1 l.length (ptrsC l)),(15,.int .i64 (l.length:Int)),(16,.int .i64 ((i+1:Nat):Int))] (.cons .refl (.cons .refl (.cons .refl (.cons .refl (.cons .refl (.cons .refl (.cons .refl (.nil)))))))) ?_
   exact next (i+1,l2,S2) (by dsimp only;omega) ⟨h1,f1,f2,f3,f4,f5,f6,by dsimp only;omega⟩
 ·clear next
  obtain rfl:i=l.length:=by omega
  repeat' (first|refine Go.a rfl ?_|refine Go.rg ?_|refine GoR.nil ?_|refine Go.ret ?_|refine Go.b rfl ?_|(refine GoR.o (by rfl) (by rfl) ?_;(conv=>arg 1;simp only [G,Z,Y,Gx,un_neg,cutD,decide_true,decide_false,simprocAttr,fb3,fb9,fb24,fb51,fb128,fb130,show decide ((l.length:Int)<(l.length:Int))=false by simp]);show GoR ..)|refine Go.condB rfl (fun hc => ?_) (fun hc => ?_))
  refine ⟨(by first | exact .inl rfl | exact .inr rfl),fin ?_⟩
  rw [resD_tmp (fn:=Tryz.f37) rfl]
  simp only [optThen_some,resultD_tmp,resultD_cell,G,Z,Y,Gx,un_neg,cutD,decide_true,decide_false,simprocAttr,fb3,fb9,fb24,fb51,fb128,fb130]
  exact ⟨l1,hrw,hC,hpt,hfr,hown⟩
end Go.Proofs.DtT
