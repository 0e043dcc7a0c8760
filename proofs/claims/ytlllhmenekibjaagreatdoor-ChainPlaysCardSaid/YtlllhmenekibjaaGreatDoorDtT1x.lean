/- A map of rows, rising by their keys: where a key is. -/
import Derived.Test.YtlllhmenekibjaaGreatDoorDtS27x
import Derived.Test.YtlllhmenekibjaaGreatDoorDmOx
set_option linter.unusedSimpArgs false
set_option linter.unusedVariables false
namespace Go.DM
open Go.AM
structure Fr (F:List Nat) (S S':Mem):Prop where
 len:S.length≤S'.length
 at_ : ∀ o,o<S.length→o∉F→S'[o]?=S[o]?
theorem Fr.refl {F S} : Fr F S S:=⟨Nat.le_refl _,fun _ _ _=>rfl⟩
theorem Fr.app {F:List Nat} {S E:Mem} : Fr F S (S++E):=⟨by simp,fun o h _=>List.getElem?_append_left h⟩
theorem Fr.trans {F G:List Nat} {S S1 S2:Mem} (x:Fr F S S1) (y:Fr G S1 S2) (h : ∀ o∈G,o∈F∨S.length≤o):Fr F S S2:=
 ⟨Nat.le_trans x.len y.len,fun o ho hF=>by
  rw [y.at_ o (Nat.lt_of_lt_of_le ho x.len) fun hG=>(h o hG).elim hF fun h=>by omega]
  exact x.at_ o ho hF⟩
theorem Fr.set {F:List Nat} {S:Mem} {o:Nat} {x:Ob} (h:o∈F):Fr F S (S.set o x):=
 ⟨by simp,fun j _ hj=>List.getElem?_set_ne (by rintro rfl;exact hj h)⟩
theorem Fr.obj {F S S' o c} (x:Fr F S S') (h:objAt S o=some c) (ho:o∉F):objAt S' o=some c:=by
 unfold objAt at *
 rw [x.at_ o (objAt_lt (S:=S) (c:=c) h) ho]
 exact h
theorem Fr.pre {F:List Nat} {S S':Mem} (x:Fr F S S') (h : ∀ o∈F,S.length≤o) : ∃ E,S'=S++E:=by
 refine ⟨S'.drop S.length,?_⟩
 apply List.ext_getElem?
 intro i
 rcases Nat.lt_or_ge i S.length with hi | hi
 ·rw [List.getElem?_append_left hi]
  exact x.at_ i hi fun hF=>by have:=h i hF;omega
 ·rw [List.getElem?_append_right hi,List.getElem?_drop]
  congr 1
  omega
theorem objAt_set_ne {S:Mem} {i j:Nat} {x:Ob} (h:i≠j):objAt (S.set i x) j=objAt S j:=by
 unfold objAt
 rw [List.getElem?_set_ne h]
theorem objAt_set_eq {S:Mem} {i:Nat} {c:List D} (h:i<S.length):objAt (S.set i (.obj c)) i=some c:=by
 unfold objAt
 rw [List.getElem?_set_self h]
theorem lookK_iff {α:Type} {f:α→ByteArray} {l:List α} {s:ByteArray} (hr:RiseB f l) {i:Nat} (h2 : ∀ k (h:k<l.length),k<i→ltB (f l[k]) s=true) (h3 : ∀ k (h:k<l.length),i≤k→ltB (f l[k]) s=false):(lookK f l s).isSome=true ↔ ∃ h:i<l.length,f l[i]=s:=by
 constructor
 ·intro h
  obtain ⟨a,ha⟩:=Option.isSome_iff_exists.1 h
  obtain ⟨hm,he⟩:=lookK_mem ha
  obtain ⟨j,hj,rfl⟩:=List.mem_iff_getElem.1 hm
  have hj2 : ¬ j<i:=fun h=>by have:=h2 j hj h;rw [he,ltB_irrefl] at this;cases this
  have hi:i<l.length:=by omega
  have hj3 : ¬ i<j:=fun h=>by have:=h3 i hi (Nat.le_refl _);rw [← he,hr.lt hj h] at this;cases this
  obtain rfl:i=j:=by omega
  exact ⟨hi,he⟩
 ·rintro ⟨h,e⟩
  have:=lookK_of_mem hr (List.getElem_mem h)
  rw [e] at this
  rw [this]
  rfl
end Go.DM
namespace Go.Proofs.DtT
open Go Go.DM Go.Proofs.DtF
set_option maxRecDepth 100000
variable {orc:DOracle}
def pairC (r:Rw):List D:=[.str r.key,.str r.key,.int .i64 r.st.tick,.int .i64 r.st.inc,.int .i64 r.st.seq,.str r.st.org,.sl none 5 r.at_.length (attsC r.at_)]
def pairsC (l:List Rw):List D:=l.flatMap pairC
def rowsC (l:List Rw):List D:=l.flatMap Rw.c
theorem pair_len (r:Rw):(pairC r).length=7:=rfl
theorem row_len (r:Rw):r.c.length=6:=rfl
theorem pairsC_len {l:List Rw} : (pairsC l).length=l.length*7:=flat_length pair_len l
theorem rowsC_len {l:List Rw} : (rowsC l).length=l.length*6:=flat_length row_len l
theorem pairsAt {l:List Rw} {i:Nat} (h:i<l.length) :
  ((0≤(i:Int)∧(i:Int)<(l.length:Int))=True)∧(pairsC l)[i*7]?=some (.str l[i].key)∧((i*7+1+6≤(pairsC l).length)=True)∧((pairsC l).drop (i*7+1)).take 6=l[i].c ∧
  ((i*7+7≤(pairsC l).length)=True)∧((pairsC l).drop (i*7)).take 7=pairC l[i]:=
 ⟨ix_ok h,flat_cell0 pair_len l i h (by omega),flat_fits pair_len l i h (by omega),flat_part pair_len l i h (by omega),flat_fits0 pair_len l i h,flat_all pair_len l i h⟩
theorem rowsAt {l:List Rw} {i:Nat} (h:i<l.length) :
  ((0≤(i:Int)∧(i:Int)<(l.length:Int))=True)∧((i*6+6≤(rowsC l).length)=True)∧((rowsC l).drop (i*6)).take 6=l[i].c:=
 ⟨ix_ok h,flat_fits0 row_len l i h,flat_all row_len l i h⟩
theorem row_low {n:Nat} (r:Rw):LowL n r.c:=.cons (.str _) (.cons (.int _ _) (.cons (.int _ _) (.cons (.int _ _) (.cons (.str _) (.cons (.sl' (atts_low _)) .nil)))))
theorem flat_low {n:Nat} {α:Type} {f:α→List D} (h : ∀ a,LowL n (f a)) (l:List α):LowL n (l.flatMap f):=.of_mem (by
 intro x hx
 obtain ⟨a,_,hx⟩:=List.mem_flatMap.1 hx
 obtain ⟨i,hi,rfl⟩:=List.mem_iff_getElem.1 hx
 exact (h a).get i hi)
theorem rows_low {n:Nat} (l:List Rw):LowL n (rowsC l):=flat_low row_low l
theorem flat_one {α:Type} {f:α→List D} (h : ∀ a,(f a).all D.one=true) (l:List α):(l.flatMap f).all D.one=true:=by
 rw [List.all_eq_true]
 intro x hx
 obtain ⟨a,_,hx⟩:=List.mem_flatMap.1 hx
 exact List.all_eq_true.1 (h a) x hx
theorem pairs_one (l:List Rw):(pairsC l).all D.one=true:=flat_one (fun _=>rfl) l
theorem rows_one (l:List Rw):(rowsC l).all D.one=true:=flat_one (fun _=>rfl) l
theorem findP1 (r:Rw) (s:ByteArray) (S:Mem):CallD Tryz.prog orc 120 [.agg (pairC r),.str s] S fun d S'=>S'=S∧d = .int .i64 (cmpB r.key s):=by
 obtain ⟨n,⟨a,b,c,o⟩,v⟩:=r
 simp only [pairC]
 refine CallD.e Tryz.func120 rfl Tryz.ntmps120 (by rfl) ?_
 repeat' (first|refine Go.a rfl ?_|refine Go.rg ?_|refine GoR.nil ?_|refine Go.ret ?_|refine Go.b rfl ?_|(refine GoR.o (by rfl) (by rfl) ?_;(conv=>arg 1;simp only [G,Z,Y,Gx,un_neg,cutD,decide_true,decide_false,simprocAttr,fb9,fb35,fb148]);show GoR ..)|(refine GoR.c c73 (by rfl) (by rfl) rfl ?_;(refine (compareS _ _ _).ret ?_))|refine Go.condB rfl (fun hc => ?_) (fun hc => ?_))
 refine ⟨(by first | exact .inl rfl | exact .inr rfl),fin ?_⟩
 rw [resD_tmp (fn:=Tryz.f120) rfl]
 simp only [optThen_some,resultD_tmp,resultD_cell,G,Z,Y,Gx,un_neg,cutD,decide_true,decide_false,simprocAttr,fb9,fb35,fb148]
 exact ⟨_,_,rfl,.int,rfl⟩
theorem searchNil (s:ByteArray) (S:Mem):CallD Tryz.prog orc 119 [.nils,.str s,.fn (.func 120) [] []] S
   fun d S'=>S'=S∧d = .tup [.int .i64 0,.bool false]:=by
 refine CallD.e Tryz.func119 rfl Tryz.ntmps119 (by rfl) ?_
 repeat' (first|refine Go.a rfl ?_|refine Go.rg ?_|refine GoR.nil ?_|refine Go.ret ?_|refine Go.b rfl ?_|(refine GoR.o (by rfl) (by rfl) ?_;(conv=>arg 1;simp only [G,Z,Y,Gx,un_neg,cutD,decide_true,decide_false,simprocAttr,fb3,fb9,fb35,fb136,fb148,fb181]);show GoR ..)|refine GoR.s (by rfl) rfl rfl ?_|(refine GoR.splitG rfl (fun hc => ?_) (fun hc => ?_)<;>simp only [hc])|refine Go.condB rfl (fun hc => ?_) (fun hc => ?_))
 refine Go.loop ?_
 repeat' (first|refine Go.a rfl ?_|refine Go.rg ?_|refine GoR.nil ?_|refine Go.ret ?_|refine Go.b rfl ?_|(refine GoR.o (by rfl) (by rfl) ?_;(conv=>arg 1;simp only [G,Z,Y,Gx,un_neg,cutD,decide_true,decide_false,simprocAttr,fb3,fb9,fb35,fb136,fb148,fb181]);show GoR ..)|refine GoR.s (by rfl) rfl rfl ?_|(refine GoR.splitG rfl (fun hc => ?_) (fun hc => ?_)<;>simp only [hc])|refine Go.condB rfl (fun hc => ?_) (fun hc => ?_))
 refine ⟨(by first | exact .inl rfl | exact .inr rfl),fin ?_⟩
 rw [resD_two (fn:=Tryz.f119) rfl]
 simp only [optThen_some,resultD_tmp,resultD_cell,G,Z,Y,Gx,un_neg,cutD,decide_true,decide_false,simprocAttr,fb3,fb9,fb35,fb136,fb148,fb181]
 exact ⟨_,[],by simp,.of_low (.tup' (.cons (.int _ _) (.cons (.bool _) .nil))),rfl⟩
theorem searchP (o:Nat) (l:List Rw) (s:ByteArray) (hr:RiseB Rw.key l) (hl:l.length<1000000) (S:Mem) (hob:objAt S o=some (pairsC l)) :
  CallD Tryz.prog orc 119 [.msl o 7 l.length,.str s,.fn (.func 120) [] []] S
   fun d S'=>S'=S∧d = .tup [.int .i64 ((posK Rw.key l s:Nat):Int),.bool (lookK Rw.key l s).isSome]:=by
 suffices h:CallD Tryz.prog orc 119 [.msl o 7 l.length,.str s,.fn (.func 120) [] []] S
   fun d S'=>S'=S ∧ ∃ i b,d = .tup [.int .i64 ((i:Nat):Int),.bool b]∧i≤l.length∧(∀ k (h:k<l.length),k<i→ltB l[k].key s=true)∧(∀ k (h:k<l.length),i≤k→ltB l[k].key s=false)∧(b=true ↔ ∃ h:i<l.length,l[i].key=s) by
  refine h.mono ?_
  rintro d S' ⟨rfl,i,b,rfl,h1,h2,h3,h4⟩
  have e:=posK_of h1 h2 h3
  subst e
  refine ⟨rfl,?_⟩
  rw [show b=(lookK Rw.key l s).isSome from Bool.eq_iff_iff.2 (h4.trans (lookK_iff hr h2 h3).symm)]
 refine CallD.e Tryz.func119 rfl Tryz.ntmps119 (by rfl) ?_
 repeat' (first|refine Go.a rfl ?_|refine Go.rg ?_|refine GoR.nil ?_|refine Go.ret ?_|refine Go.b rfl ?_|(refine GoR.o (by rfl) (by rfl) ?_;(conv=>arg 1;simp only [G,Z,Y,Gx,un_neg,cutD,decide_true,decide_false,simprocAttr,fb3,fb9,fb35,fb136,fb148,fb181,hob,len_msl (P:=Tryz.prog) (at_ := #[136]) (t:=136) rfl Tryz.underlying136,ix_msl (P:=Tryz.prog) (t:=136) (e:=148) (n:=7) Tryz.underlying136 dsz148]);show GoR ..)|refine GoR.s (by rfl) rfl rfl ?_|(refine GoR.splitG rfl (fun hc => ?_) (fun hc => ?_)<;>simp only [hc])|refine Go.condB rfl (fun hc => ?_) (fun hc => ?_))
 refine Go.keep [(0,.msl o 7 l.length),(1,.str s),(2,.fn (.func 120) [] []),(8,.int .i64 (l.length:Int)),(9,.int .i64 ((0:Nat):Int)),(10,.int .i64 (l.length:Int))] (.cons .refl (.cons .refl (.cons .refl (.cons .refl (.cons .refl (.cons .refl (.nil))))))) ?_
 refine Go.while (α:=Nat×Nat) (fun a=>a.2 - a.1) (fun a=>[(0,.msl o 7 l.length),(1,.str s),(2,.fn (.func 120) [] []),(8,.int .i64 (l.length:Int)),(9,.int .i64 (a.1:Int)),(10,.int .i64 (a.2:Int))]) (fun _=>S)
  (fun a=>a.1≤a.2∧a.2≤l.length∧(∀ k (h:k<l.length),k<a.1→ltB l[k].key s=true)∧(∀ k (h:k<l.length),a.2≤k→ltB l[k].key s=false)) ?_ (0,l.length) ⟨Nat.zero_le _,Nat.le_refl _,by simp,fun k h h2=>absurd h (by dsimp only at h2;omega)⟩
 rintro ⟨i,j⟩ ⟨hij,hj,hlo,hhi⟩ next
 dsimp only at hij hj hlo hhi next
 repeat' (first|refine Go.a rfl ?_|refine Go.rg ?_|refine GoR.nil ?_|refine Go.ret ?_|refine Go.b rfl ?_|(refine GoR.o (by rfl) (by rfl) ?_;(conv=>arg 1;simp only [G,Z,Y,Gx,un_neg,cutD,decide_true,decide_false,simprocAttr,fb3,fb9,fb35,fb136,fb148,fb181,hob,len_msl (P:=Tryz.prog) (at_ := #[136]) (t:=136) rfl Tryz.underlying136]);show GoR ..)|refine GoR.s (by rfl) rfl rfl ?_|(refine GoR.splitG rfl (fun hc => ?_) (fun hc => ?_)<;>simp only [hc])|refine Go.condB rfl (fun hc => ?_) (fun hc => ?_))
 ·have h1:i<j:=by simpa using hc
  have hh:(i+j)/2<l.length:=by omega
  repeat' (first|refine Go.a rfl ?_|refine Go.rg ?_|refine GoR.nil ?_|refine Go.ret ?_|refine Go.b rfl ?_|(refine GoR.o (by rfl) (by rfl) ?_;(conv=>arg 1;simp only [G,Z,Y,Gx,un_neg,cutD,decide_true,decide_false,simprocAttr,fb3,fb9,fb35,fb136,fb148,fb181,hob,ix_msl (P:=Tryz.prog) (t:=136) (e:=148) (n:=7) Tryz.underlying136 dsz148,add_cast (show i+j<4611686018427387904 by omega),u64_cast (show i+j<4611686018427387904 by omega),shr1,i64_cast (show (i+j)/2<4611686018427387904 by omega),pairsAt hh,wrap_succ (show (i+j)/2<4611686018427387904 by omega)]);show GoR ..)|(refine GoR.c c120 (by rfl) (by rfl) rfl ?_;(refine (findP1 _ _ _).ret ?_))|refine GoR.s (by rfl) rfl rfl ?_|(refine GoR.splitG rfl (fun hc => ?_) (fun hc => ?_)<;>simp only [hc])|refine Go.condB rfl (fun hc => ?_) (fun hc => ?_))
  ·refine Go.lpN ?_
   refine Go.keep [(0,.msl o 7 l.length),(1,.str s),(2,.fn (.func 120) [] []),(8,.int .i64 (l.length:Int)),(9,.int .i64 (((i+j)/2+1:Nat):Int)),(10,.int .i64 (j:Int))] (.cons .refl (.cons .refl (.cons .refl (.cons .refl (.cons .refl (.cons .refl (.nil))))))) ?_
   have hlt:=cmpB_neg.1 (of_decide_eq_true hc)
   refine next ((i+j)/2+1,j) (by dsimp only;omega) ⟨by dsimp only;omega,hj,fun k hk hk2 => ?_,hhi⟩
   dsimp only at hk2
   rcases Nat.lt_or_ge k ((i+j)/2) with h | h
   ·exact ltB_trans (hr.lt hh h) hlt
   ·obtain rfl:k=(i+j)/2:=by omega
    exact hlt
  ·refine Go.lpN ?_
   refine Go.keep [(0,.msl o 7 l.length),(1,.str s),(2,.fn (.func 120) [] []),(8,.int .i64 (l.length:Int)),(9,.int .i64 (i:Int)),(10,.int .i64 (((i+j)/2:Nat):Int))] (.cons .refl (.cons .refl (.cons .refl (.cons .refl (.cons .refl (.cons .refl (.nil))))))) ?_
   have hge:ltB l[(i+j)/2].key s=false:=by
    cases hq:ltB l[(i+j)/2].key s with
    | false=>rfl
    | true=>exact absurd (cmpB_neg.2 hq) (of_decide_eq_false hc)
   refine next (i,(i+j)/2) (by dsimp only;omega) ⟨by dsimp only;omega,by dsimp only;omega,hlo,fun k hk hk2 => ?_⟩
   dsimp only at hk2
   rcases Nat.lt_or_ge ((i+j)/2) k with h | h
   ·cases hq:ltB l[k].key s with
    | false=>rfl
    | true=>rw [ltB_trans (hr.lt hk h) hq] at hge;cases hge
   ·obtain rfl:k=(i+j)/2:=by omega
    exact hge
 ·clear next
  rename_i h0
  have hi:i=j:=by
             have:j≤i:=by simpa using h0
             omega
  subst hi
  have hn:i<l.length:=by simpa using hc
  repeat' (first|refine Go.a rfl ?_|refine Go.rg ?_|refine GoR.nil ?_|refine Go.ret ?_|refine Go.b rfl ?_|(refine GoR.o (by rfl) (by rfl) ?_;(conv=>arg 1;simp only [G,Z,Y,Gx,un_neg,cutD,decide_true,decide_false,simprocAttr,fb3,fb9,fb35,fb136,fb148,fb181,hob,ix_msl (P:=Tryz.prog) (t:=136) (e:=148) (n:=7) Tryz.underlying136 dsz148,pairsAt hn]);show GoR ..)|(refine GoR.c c120 (by rfl) (by rfl) rfl ?_;(refine (findP1 _ _ _).ret ?_))|refine GoR.s (by rfl) rfl rfl ?_|(refine GoR.splitG rfl (fun hc => ?_) (fun hc => ?_)<;>simp only [hc])|refine Go.condB rfl (fun hc => ?_) (fun hc => ?_))
  refine ⟨(by first | exact .inl rfl | exact .inr rfl),fin ?_⟩
  rw [resD_two (fn:=Tryz.f119) rfl]
  simp only [optThen_some,resultD_tmp,resultD_cell,G,Z,Y,Gx,un_neg,cutD,decide_true,decide_false,simprocAttr,fb3,fb9,fb35,fb136,fb148,fb181]
  exact ⟨_,[],by simp,.of_low (.tup' (.cons (.int _ _) (.cons (.bool _) .nil))),i,_,rfl,hj,hlo,hhi,by simp [cmpB_zero,hn]⟩
 ·clear next
  rename_i h0
  have hi:i=j:=by
             have:j≤i:=by simpa using h0
             omega
  subst hi
  have hn : ¬ i<l.length:=by simpa using hc
  refine ⟨(by first | exact .inl rfl | exact .inr rfl),fin ?_⟩
  rw [resD_two (fn:=Tryz.f119) rfl]
  simp only [optThen_some,resultD_tmp,resultD_cell,G,Z,Y,Gx,un_neg,cutD,decide_true,decide_false,simprocAttr,fb3,fb9,fb35,fb136,fb148,fb181]
  exact ⟨_,[],by simp,.of_low (.tup' (.cons (.int _ _) (.cons (.bool _) .nil))),i,_,rfl,hj,hlo,hhi,by simp [hn]⟩
def MapAt (S:Mem) (m a:Nat) (l:List Rw):Prop:=(a=m∧l=[]∧objAt S m=some [.nils])∨(a≠m∧objAt S m=some [.msl a 7 l.length]∧objAt S a=some (pairsC l))
theorem MapAt.fr {F S S' m a l} (h:MapAt S m a l) (x:Fr F S S') (hm:m∉F) (ha:a∉F):MapAt S' m a l:=by
 rcases h with ⟨h1,h2,h3⟩ | ⟨h1,h2,h3⟩
 ·exact .inl ⟨h1,h2,x.obj h3 hm⟩
 ·exact .inr ⟨h1,x.obj h2 hm,x.obj h3 ha⟩
theorem MapAt.lt {S m a l} (h:MapAt S m a l):m<S.length∧a<S.length:=by
 rcases h with ⟨h1,_,h3⟩ | ⟨_,h2,h3⟩
 ·subst h1
  exact ⟨objAt_lt h3,objAt_lt h3⟩
 ·exact ⟨objAt_lt h2,objAt_lt h3⟩
theorem mapFind {S:Mem} {m a:Nat} {l:List Rw} (h:MapAt S m a l) (hr:RiseB Rw.key l) (hl:l.length<1000000) (s:ByteArray) :
  CallD Tryz.prog orc 93 [.ptr m 0,.str s] S fun d S'=>S'=S∧d = .tup [.int .i64 ((posK Rw.key l s:Nat):Int),.bool (lookK Rw.key l s).isSome]:=by
 rcases h with ⟨rfl,rfl,hm⟩ | ⟨hne,hm,ha⟩
 ·refine CallD.e Tryz.func93 rfl Tryz.ntmps93 (by rfl) ?_
  repeat' (first|refine Go.a rfl ?_|refine Go.rg ?_|refine GoR.nil ?_|refine Go.ret ?_|refine Go.b rfl ?_|(refine GoR.o (by rfl) (by rfl) ?_;(conv=>arg 1;simp only [G,Z,Y,Gx,un_neg,cutD,decide_true,decide_false,simprocAttr,fb136,fb138,hm]);show GoR ..)|(refine GoR.c c119 (by rfl) (by rfl) rfl ?_;(refine (searchNil s _).ret ?_))|refine Go.condB rfl (fun hc => ?_) (fun hc => ?_))
  refine ⟨(by first | exact .inl rfl | exact .inr rfl),fin ?_⟩
  rw [resD_two (fn:=Tryz.f93) rfl]
  simp only [optThen_some,resultD_tmp,resultD_cell,G,Z,Y,Gx,un_neg,cutD,decide_true,decide_false,simprocAttr,fb136,fb138]
  exact ⟨_,[],by simp,.of_low (.tup' (.cons (.int _ _) (.cons (.bool _) .nil))),rfl⟩
 ·refine CallD.e Tryz.func93 rfl Tryz.ntmps93 (by rfl) ?_
  repeat' (first|refine Go.a rfl ?_|refine Go.rg ?_|refine GoR.nil ?_|refine Go.ret ?_|refine Go.b rfl ?_|(refine GoR.o (by rfl) (by rfl) ?_;(conv=>arg 1;simp only [G,Z,Y,Gx,un_neg,cutD,decide_true,decide_false,simprocAttr,fb136,fb138,hm]);show GoR ..)|(refine GoR.c c119 (by rfl) (by rfl) rfl ?_;(refine (searchP a l s hr hl _ ha).ret ?_))|refine Go.condB rfl (fun hc => ?_) (fun hc => ?_))
  refine ⟨(by first | exact .inl rfl | exact .inr rfl),fin ?_⟩
  rw [resD_two (fn:=Tryz.f93) rfl]
  simp only [optThen_some,resultD_tmp,resultD_cell,G,Z,Y,Gx,un_neg,cutD,decide_true,decide_false,simprocAttr,fb136,fb138]
  exact ⟨_,[],by simp,.of_low (.tup' (.cons (.int _ _) (.cons (.bool _) .nil))),rfl⟩
theorem mapLen {S:Mem} {m a:Nat} {l:List Rw} (h:MapAt S m a l):CallD Tryz.prog orc 59 [.ptr m 0] S fun d S'=>S'=S∧d = .int .i64 (l.length:Int):=by
 rcases h with ⟨rfl,rfl,hm⟩ | ⟨hne,hm,ha⟩
 ·refine CallD.e Tryz.func59 rfl Tryz.ntmps59 (by rfl) ?_
  repeat' (first|refine Go.a rfl ?_|refine Go.rg ?_|refine GoR.nil ?_|refine Go.ret ?_|refine Go.b rfl ?_|(refine GoR.o (by rfl) (by rfl) ?_;(conv=>arg 1;simp only [G,Z,Y,Gx,un_neg,cutD,decide_true,decide_false,simprocAttr,fb136,fb138,hm]);show GoR ..)|refine Go.condB rfl (fun hc => ?_) (fun hc => ?_))
  refine ⟨(by first | exact .inl rfl | exact .inr rfl),fin ?_⟩
  rw [resD_tmp (fn:=Tryz.f59) rfl]
  simp only [optThen_some,resultD_tmp,resultD_cell,G,Z,Y,Gx,un_neg,cutD,decide_true,decide_false,simprocAttr,fb136,fb138]
  exact ⟨_,[],by simp,.int,rfl⟩
 ·refine CallD.e Tryz.func59 rfl Tryz.ntmps59 (by rfl) ?_
  repeat' (first|refine Go.a rfl ?_|refine Go.rg ?_|refine GoR.nil ?_|refine Go.ret ?_|refine Go.b rfl ?_|(refine GoR.o (by rfl) (by rfl) ?_;(conv=>arg 1;simp only [G,Z,Y,Gx,un_neg,cutD,decide_true,decide_false,simprocAttr,fb136,fb138,hm,len_msl (P:=Tryz.prog) (at_ := #[136]) (t:=136) rfl Tryz.underlying136]);show GoR ..)|refine Go.condB rfl (fun hc => ?_) (fun hc => ?_))
  refine ⟨(by first | exact .inl rfl | exact .inr rfl),fin ?_⟩
  rw [resD_tmp (fn:=Tryz.f59) rfl]
  simp only [optThen_some,resultD_tmp,resultD_cell,G,Z,Y,Gx,un_neg,cutD,decide_true,decide_false,simprocAttr,fb136,fb138]
  exact ⟨_,[],by simp,.int,rfl⟩
theorem mapNew (S:Mem):CallD Tryz.prog orc 50 [] S fun d S'=>S'=S++[.obj [.nils]]∧d = .ptr S.length 0:=by
 refine CallD.eb Tryz.func50 rfl Tryz.ntmps50 (by rfl) ?_
 repeat' (first|refine Go.a rfl ?_|refine Go.rg ?_|refine GoR.nil ?_|refine Go.ret ?_|refine Go.b rfl ?_|(refine GoR.o (by rfl) (by rfl) ?_;(conv=>arg 1;simp only [G,Z,Y,Gx,un_neg,cutD,decide_true,decide_false,simprocAttr,fb136,fb138]);show GoR ..)|refine Go.condB rfl (fun hc => ?_) (fun hc => ?_))
 refine ⟨(by first | exact .inl rfl | exact .inr rfl),fin ?_⟩
 rw [resD_tmp (fn:=Tryz.f50) rfl]
 simp only [optThen_some,resultD_tmp,resultD_cell,G,Z,Y,Gx,un_neg,cutD,decide_true,decide_false,simprocAttr,fb136,fb138]
end Go.Proofs.DtT
namespace Go.Proofs.DtT
open Go Go.DM Go.Proofs.DtF
set_option maxRecDepth 100000
variable {orc:DOracle}
theorem mslF:(∀ o z l,cellsD (.msl o z l)=some [.msl o z l])∧(∀ o z l,D.one (.msl o z l)=true):=⟨fun _ _ _=>rfl,fun _ _ _=>rfl⟩
theorem insertM {o n i:Nat} {own:Option Nat} {cells new:List D} {S:Mem} (hnl:new.length=7) (hin:i≤n) (hlim:n≤1000000) (h1c:cells.all D.one=true) (h1n:new.all D.one=true) (hob:objAt S o=some cells) (hcl:cells.length=n*7) :
  CallD Tryz.prog O 97 [.msl o 7 n,.int .i64 (i:Int),.sl own 7 1 new] S fun d S'=>d = .msl S.length 7 (n+1)∧objAt S' S.length=some (putL cells (i*7) new)∧Fr [o] S S' :=
 (insert hnl hin hlim h1c h1n hob hcl).mono fun d S' ⟨h1,h2⟩=>by
  subst h1
  refine ⟨h2,?_,(Fr.set (List.mem_singleton.2 rfl)).trans (F:=[o]) (G:=[]) .app (by simp)⟩
  have:=objAt_app0 (S:=S.set o .dead) (E:=[.obj (putL cells (i*7) new)])
  rw [List.length_set] at this
  rw [this]
  rfl
theorem insertM0 {own:Option Nat} {new:List D} {S:Mem} (hnl:new.length=7) (h1n:new.all D.one=true) :
  CallD Tryz.prog O 97 [.nils,.int .i64 ((0:Nat):Int),.sl own 7 1 new] S fun d S'=>d = .msl S.length 7 1∧objAt S' S.length=some new∧Fr [] S S' :=
 (insert0 hnl h1n).mono fun d S' ⟨h1,h2⟩=>by
  subst h1
  exact ⟨h2,by rw [objAt_app0];rfl,.app⟩
theorem pairs_split {l:List Rw} {i:Nat} (h:i<l.length):pairsC l=pairsC (l.take i)++(pairC l[i]++pairsC (l.drop (i+1))):=by
 have e:l.take i++l[i]::l.drop (i+1)=l:=by rw [← List.drop_eq_getElem_cons h,List.take_append_drop]
 have:=congrArg pairsC e
 rw [← this]
 simp only [pairsC,List.flatMap_append,List.flatMap_cons]
theorem pairs_put {l:List Rw} {i:Nat} (h:i<l.length) {r:Rw} (hk:l[i].key=r.key):wr (pairsC l) (i*7+1) r.c=pairsC (l.set i r):=by
 have hl:(pairsC (l.take i)++[D.str l[i].key]).length=i*7+1:=by rw [List.length_append,pairsC_len,List.length_take,List.length_singleton];omega
 have e:pairsC l=(pairsC (l.take i)++[D.str l[i].key])++(l[i].c++pairsC (l.drop (i+1))):=by rw [pairs_split h];simp [pairC,Rw.c]
 rw [e,← hl,wr_mid _ _ _ (by simp [Rw.c]),pairs_split (l:=l.set i r) (i:=i) (by simpa using h)]
 have e2:(List.take i l).set i r=List.take i l:=List.set_eq_of_length_le (by rw [List.length_take];omega)
 simp [pairC,Rw.c,List.take_set,List.drop_set,e2,hk]
theorem pairs_take {l:List Rw} {i:Nat} (h:i≤l.length):(pairsC l).take (i*7)=pairsC (l.take i):=by
 have hl:(pairsC (l.take i)).length=i*7:=by rw [pairsC_len,List.length_take];omega
 have e:pairsC l=pairsC (l.take i)++pairsC (l.drop i):=by
  conv=>lhs;rw [← List.take_append_drop i l]
  simp only [pairsC,List.flatMap_append]
 rw [e,← hl,List.take_left]
theorem pairs_drop {l:List Rw} {i:Nat} (h:i≤l.length):(pairsC l).drop (i*7)=pairsC (l.drop i):=by
 have hl:(pairsC (l.take i)).length=i*7:=by rw [pairsC_len,List.length_take];omega
 have e:pairsC l=pairsC (l.take i)++pairsC (l.drop i):=by
  conv=>lhs;rw [← List.take_append_drop i l]
  simp only [pairsC,List.flatMap_append]
 rw [e,← hl,List.drop_left]
theorem pairs_ins {l:List Rw} {i:Nat} (h:i≤l.length) (r:Rw):putL (pairsC l) (i*7) (pairC r)=pairsC (l.take i++r::l.drop i):=by
 rw [putL,pairs_take h,pairs_drop h]
 simp [pairsC]
theorem pairs_cut {l:List Rw} {i:Nat} (h:i<l.length):cutL (pairsC l) (i*7) 7=pairsC (l.take i++l.drop (i+1)):=by
 rw [cutL,pairs_take (by omega),show i*7+7=(i+1)*7 by omega,pairs_drop (by omega)]
 simp [pairsC]
theorem putK_old {l:List Rw} {r:Rw} (h:(lookK Rw.key l r.key).isSome=true):putK Rw.key l r=l.set (posK Rw.key l r.key) r:=by rw [putK,if_pos h]
theorem putK_new {l:List Rw} {r:Rw} (h:(lookK Rw.key l r.key).isSome=false):putK Rw.key l r=l.take (posK Rw.key l r.key)++r::l.drop (posK Rw.key l r.key):=by rw [putK,if_neg (by simp [h])]
theorem posK_at {l:List Rw} (hr:RiseB Rw.key l) {s:ByteArray} (h:(lookK Rw.key l s).isSome=true) : ∃ h:posK Rw.key l s<l.length,l[posK Rw.key l s].key=s:=
 (lookK_iff hr (fun k hk hlt=>posK_lt hk hlt) (fun k hk hle=>by
  have h1:posK Rw.key l s<l.length:=by omega
  have:=posK_ge h1
  rcases Nat.lt_or_ge (posK Rw.key l s) k with h2 | h2
  ·cases hq:ltB l[k].key s with
   | false=>rfl
   | true=>rw [ltB_trans (hr.lt hk h2) hq] at this;cases this
  ·obtain rfl:k=posK Rw.key l s:=by omega
   exact this)).1 h
theorem lookK_getElem {l:List Rw} (hr:RiseB Rw.key l) {i:Nat} (h:i<l.length):lookK Rw.key l l[i].key=some l[i]:=lookK_of_mem hr (List.getElem_mem h)
def Moved (S:Mem) (m a:Nat) (l:List Rw) (S':Mem):Prop := ∃ a',MapAt S' m a' l∧(a'=a∨a'=m∨S.length≤a')∧Fr [m,a] S S'
theorem mapPut {S:Mem} {m a:Nat} {l:List Rw} (h:MapAt S m a l) (hr:RiseB Rw.key l) (hl:l.length<1000000) (r:Rw) :
  CallD Tryz.prog O 62 [.ptr m 0,.str r.key,.agg r.c] S fun d S'=>d = .bool (!(lookK Rw.key l r.key).isSome)∧Moved S m a (putK Rw.key l r) S':=by
 have hf:=mapFind (orc:=O) h hr hl r.key
 have hf':=fun E=>mapFind (orc:=O) (h.fr (F:=[]) (S':=S++E) .app (by simp) (by simp)) hr hl r.key
 have hmlt:=h.lt
 rcases h with ⟨rfl,rfl,hm⟩ | ⟨hne,hm,ha⟩
 ·have hm' : ∀ E,objAt (S++E) a=some [.nils]:=fun E=>objAt_old hm
  have hput:putK Rw.key [] r=[r]:=rfl
  have hins:=fun S own=>insertM0 (own:=own) (new:=pairC r) (S:=S) rfl rfl
  rw [hput]
  simp only [Rw.c,pairC] at *
  refine CallD.eb Tryz.func62 rfl Tryz.ntmps62 (by rfl) ?_
  repeat' (first|refine Go.a rfl ?_|refine Go.rg ?_|refine GoR.nil ?_|refine Go.ret ?_|refine Go.b rfl ?_|refine Go.rgS dmx (by decide) ?_|refine Go.rgD [4] (fun H=>objAt H a=some [.nils]) dmx (by decide) 10 (by decide) (by (simp only [List.append_assoc,hm'])) ?_|refine GoW.nil rfl ?_|((first|refine GoR.o (by rfl) (by rfl) ?_|refine GoW.o (by rfl) (by rfl) ?_|refine GoW.rd (by rfl) (by rfl) ?_);(conv=>arg 1;simp only [G,Z,Y,Gx,un_neg,cutD,decide_true,decide_false,simprocAttr,fb9,fb32,fb33,fb35,fb136,fb138,fb148,hm',mslF,List.append_assoc]);first|show GoR ..|(show _∧GoW ..;refine ⟨by (first|exact fun h=>absurd h (by decide)|(intro _;(simp only [List.append_assoc,hm']))),?_⟩)|(show _∧_∧_∧GoW ..;refine ⟨rfl,by (simp only [List.append_assoc,hm']),(fun H hI=>by (try dsimp only at hI);simp only [G,Z,Y,Gx,un_neg,cutD,decide_true,decide_false,simprocAttr,fb9,fb32,fb33,fb35,fb136,fb138,fb148,hm',mslF,List.append_assoc,hI]),?_⟩))|(refine GoW.c c93 (by rfl) (by rfl) rfl ?_;(refine (hf' _).ret ?_);refine ⟨by (first|exact fun h=>absurd h (by decide)|(intro _;(simp only [List.append_assoc,hm']))),?_⟩)|(refine GoR.c c93 (by rfl) (by rfl) rfl ?_;(refine (hf' _).ret ?_))|(refine GoW.c c97 (by rfl) (by rfl) rfl ?_;(refine (hins _ _).mono ?_;rintro _ S2 ⟨rfl,h2,h3⟩);refine ⟨by (first|exact fun h=>absurd h (by decide)|(intro _;(simp only [List.append_assoc,hm']))),?_⟩)|(refine GoR.c c97 (by rfl) (by rfl) rfl ?_;(refine (hins _ _).mono ?_;rintro _ S2 ⟨rfl,h2,h3⟩))|refine Go.condB rfl (fun hc => ?_) (fun hc => ?_))
  have hm2:objAt S2 a=some [.nils]:=h3.obj (hm' _) (by simp)
  repeat' (first|refine Go.a rfl ?_|refine Go.rg ?_|refine GoR.nil ?_|refine Go.ret ?_|refine Go.b rfl ?_|refine Go.rgS dmx (by decide) ?_|refine Go.rgD [4] (fun H=>objAt H a=some [.nils]) dmx (by decide) 10 (by decide) (by (assumption)) ?_|refine GoW.nil rfl ?_|((first|refine GoR.o (by rfl) (by rfl) ?_|refine GoW.o (by rfl) (by rfl) ?_|refine GoW.rd (by rfl) (by rfl) ?_);(conv=>arg 1;simp only [G,Z,Y,Gx,un_neg,cutD,decide_true,decide_false,simprocAttr,fb9,fb32,fb33,fb35,fb136,fb138,fb148,hm2,mslF]);first|show GoR ..|(show _∧GoW ..;refine ⟨by (first|exact fun h=>absurd h (by decide)|(intro _;(assumption))),?_⟩)|(show _∧_∧_∧GoW ..;refine ⟨rfl,by (assumption),(fun H hI=>by (try dsimp only at hI);simp only [G,Z,Y,Gx,un_neg,cutD,decide_true,decide_false,simprocAttr,fb9,fb32,fb33,fb35,fb136,fb138,fb148,hm2,mslF,hI]),?_⟩))|refine Go.condB rfl (fun hc => ?_) (fun hc => ?_))
  refine ⟨(by first | exact .inl rfl | exact .inr rfl),fin ?_⟩
  rw [resD_tmp (fn:=Tryz.f62) rfl]
  simp only [optThen_some,resultD_tmp,resultD_cell,G,Z,Y,Gx,un_neg,cutD,decide_true,decide_false,simprocAttr,fb9,fb32,fb33,fb35,fb136,fb138,fb148]
  have h2':objAt S2 (S.length+2)=some (pairsC [r]):=by simpa [pairsC,pairC] using h2
  refine ⟨rfl,_,.inr ⟨?_,objAt_set_eq (objAt_lt hm2),(objAt_set_ne ?_).trans h2'⟩,.inr (.inr (by simp)),?_⟩
  ·omega
  ·omega
  ·exact (Fr.app.trans (F:=[a,a]) h3 (by simp)).trans (.set (F:=[a]) (by simp)) (by simp)
 ·have hm' : ∀ E,objAt (S++E) m=some [.msl a 7 l.length]:=fun E=>objAt_old hm
  have ha' : ∀ E,objAt (S++E) a=some (pairsC l):=fun E=>objAt_old ha
  have hpl:=posK_le (f:=Rw.key) l r.key
  cases hq:(lookK Rw.key l r.key).isSome with
  | true=>
   obtain ⟨hi,hk⟩:=posK_at hr hq
   rw [putK_old hq]
   rw [hq] at hf'
   generalize posK Rw.key l r.key=i at *
   have hst : ∀ E,storeD Tryz.prog 35 (.ptr a (i*7+1)) (.agg r.c) (S++E)=some ((S++E).set a (.obj (pairsC (l.set i r)))):=fun E=>by
    simp only [storeD,cellsD,dsz35,ha',row_len]
    rw [if_pos ⟨trivial,by rw [pairsC_len];omega,rfl⟩,pairs_put hi hk]
   have hix:=ix_ok hi
   simp only [Rw.c] at *
   refine CallD.eb Tryz.func62 rfl Tryz.ntmps62 (by rfl) ?_
   repeat' (first|refine Go.a rfl ?_|refine Go.rg ?_|refine GoR.nil ?_|refine Go.ret ?_|refine Go.b rfl ?_|refine Go.rgS dmx (by decide) ?_|refine Go.rgD [4] (fun _=>True) dmx (by decide) 10 (by decide) (by trivial) ?_|refine GoW.nil rfl ?_|((first|refine GoR.o (by rfl) (by rfl) ?_|refine GoW.o (by rfl) (by rfl) ?_|refine GoW.rd (by rfl) (by rfl) ?_);(conv=>arg 1;simp only [G,Z,Y,Gx,un_neg,cutD,decide_true,decide_false,simprocAttr,fb9,fb32,fb33,fb35,fb136,fb138,fb148,hm',hix,hst,ix_msl (P:=Tryz.prog) (t:=136) (e:=148) (n:=7) Tryz.underlying136 dsz148]);first|show GoR ..|(show _∧GoW ..;refine ⟨by exact fun _=>trivial,?_⟩)|(show _∧_∧_∧GoW ..;refine ⟨rfl,by trivial,(fun H _=>by simp only [G,Z,Y,Gx,un_neg,cutD,decide_true,decide_false,simprocAttr,fb9,fb32,fb33,fb35,fb136,fb138,fb148,hm',hix,hst,ix_msl (P:=Tryz.prog) (t:=136) (e:=148) (n:=7) Tryz.underlying136 dsz148]),?_⟩))|(refine GoW.c c93 (by rfl) (by rfl) rfl ?_;(refine (hf' _).ret ?_);refine ⟨by exact fun _=>trivial,?_⟩)|(refine GoR.c c93 (by rfl) (by rfl) rfl ?_;(refine (hf' _).ret ?_))|refine Go.condB rfl (fun hc => ?_) (fun hc => ?_))
   refine ⟨(by first | exact .inl rfl | exact .inr rfl),fin ?_⟩
   rw [resD_tmp (fn:=Tryz.f62) rfl]
   simp only [optThen_some,resultD_tmp,resultD_cell,G,Z,Y,Gx,un_neg,cutD,decide_true,decide_false,simprocAttr,fb9,fb32,fb33,fb35,fb136,fb138,fb148]
   refine ⟨a,.inr ⟨hne,?_,?_⟩,.inl rfl,Fr.app.trans (F:=[m,a]) (.set (F:=[a]) (by simp)) (by simp)⟩
   ·rw [objAt_set_ne hne,List.length_set];exact hm' _
   ·exact objAt_set_eq (by simp;omega)
  | false=>
   rw [putK_new hq]
   rw [hq] at hf'
   generalize posK Rw.key l r.key=i at *
   have hins:=fun own x=>insertM (own:=own) (o:=a) (n:=l.length) (i:=i) (cells:=pairsC l) (new:=pairC r) (S:=S++[.obj x,.own]) rfl hpl (by omega) (pairs_one l) rfl (ha' _) pairsC_len
   rw [pairs_ins hpl] at hins
   simp only [Rw.c,pairC] at *
   refine CallD.eb Tryz.func62 rfl Tryz.ntmps62 (by rfl) ?_
   repeat' (first|refine Go.a rfl ?_|refine Go.rg ?_|refine GoR.nil ?_|refine Go.ret ?_|refine Go.b rfl ?_|refine Go.rgS dmx (by decide) ?_|refine Go.rgD [4] (fun H=>objAt H m=some [.msl a 7 l.length]) dmx (by decide) 10 (by decide) (by (simp only [List.append_assoc,hm'])) ?_|refine GoW.nil rfl ?_|((first|refine GoR.o (by rfl) (by rfl) ?_|refine GoW.o (by rfl) (by rfl) ?_|refine GoW.rd (by rfl) (by rfl) ?_);(conv=>arg 1;simp only [G,Z,Y,Gx,un_neg,cutD,decide_true,decide_false,simprocAttr,fb9,fb32,fb33,fb35,fb136,fb138,fb148,hm',mslF,List.append_assoc]);first|show GoR ..|(show _∧GoW ..;refine ⟨by (first|exact fun h=>absurd h (by decide)|(intro _;(simp only [List.append_assoc,hm']))),?_⟩)|(show _∧_∧_∧GoW ..;refine ⟨rfl,by (simp only [List.append_assoc,hm']),(fun H hI=>by (try dsimp only at hI);simp only [G,Z,Y,Gx,un_neg,cutD,decide_true,decide_false,simprocAttr,fb9,fb32,fb33,fb35,fb136,fb138,fb148,hm',mslF,List.append_assoc,hI]),?_⟩))|(refine GoW.c c93 (by rfl) (by rfl) rfl ?_;(refine (hf' _).ret ?_);refine ⟨by (first|exact fun h=>absurd h (by decide)|(intro _;(simp only [List.append_assoc,hm']))),?_⟩)|(refine GoR.c c93 (by rfl) (by rfl) rfl ?_;(refine (hf' _).ret ?_))|(refine GoW.c c97 (by rfl) (by rfl) rfl ?_;(refine (hins _ _).mono ?_;rintro _ S2 ⟨rfl,h2,h3⟩);refine ⟨by (first|exact fun h=>absurd h (by decide)|(intro _;(simp only [List.append_assoc,hm']))),?_⟩)|(refine GoR.c c97 (by rfl) (by rfl) rfl ?_;(refine (hins _ _).mono ?_;rintro _ S2 ⟨rfl,h2,h3⟩))|refine Go.condB rfl (fun hc => ?_) (fun hc => ?_))
   have hm2:objAt S2 m=some [.msl a 7 l.length]:=h3.obj (hm' _) (by simp;exact fun e=>hne e.symm)
   repeat' (first|refine Go.a rfl ?_|refine Go.rg ?_|refine GoR.nil ?_|refine Go.ret ?_|refine Go.b rfl ?_|refine Go.rgS dmx (by decide) ?_|refine Go.rgD [4] (fun H=>objAt H m=some [.msl a 7 l.length]) dmx (by decide) 10 (by decide) (by (assumption)) ?_|refine GoW.nil rfl ?_|((first|refine GoR.o (by rfl) (by rfl) ?_|refine GoW.o (by rfl) (by rfl) ?_|refine GoW.rd (by rfl) (by rfl) ?_);(conv=>arg 1;simp only [G,Z,Y,Gx,un_neg,cutD,decide_true,decide_false,simprocAttr,fb9,fb32,fb33,fb35,fb136,fb138,fb148,hm2,mslF]);first|show GoR ..|(show _∧GoW ..;refine ⟨by (first|exact fun h=>absurd h (by decide)|(intro _;(assumption))),?_⟩)|(show _∧_∧_∧GoW ..;refine ⟨rfl,by (assumption),(fun H hI=>by (try dsimp only at hI);simp only [G,Z,Y,Gx,un_neg,cutD,decide_true,decide_false,simprocAttr,fb9,fb32,fb33,fb35,fb136,fb138,fb148,hm2,mslF,hI]),?_⟩))|refine Go.condB rfl (fun hc => ?_) (fun hc => ?_))
   refine ⟨(by first | exact .inl rfl | exact .inr rfl),fin ?_⟩
   rw [resD_tmp (fn:=Tryz.f62) rfl]
   simp only [optThen_some,resultD_tmp,resultD_cell,G,Z,Y,Gx,un_neg,cutD,decide_true,decide_false,simprocAttr,fb9,fb32,fb33,fb35,fb136,fb138,fb148]
   have hle:(l.take i++r::l.drop i).length=l.length+1:=by simp;omega
   have h2':objAt S2 (S.length+2)=some (pairsC (l.take i++r::l.drop i)):=by simpa using h2
   refine ⟨_,.inr ⟨?_,(objAt_set_eq (objAt_lt hm2)).trans (by rw [hle]),(objAt_set_ne ?_).trans h2'⟩,.inr (.inr (by simp)),?_⟩
   ·omega
   ·omega
   ·exact (Fr.app.trans (F:=[m,a]) h3 (by simp)).trans (.set (F:=[m]) (by simp)) (by simp)
theorem mapGet {S:Mem} {m a:Nat} {l:List Rw} (h:MapAt S m a l) (hr:RiseB Rw.key l) (hl:l.length<1000000) (s:ByteArray) :
  CallD Tryz.prog orc 58 [.ptr m 0,.str s] S fun d S'=>S'=S∧d = .tup [.agg ((lookK Rw.key l s).getD ⟨⟨#[]⟩,⟨0,0,0,⟨#[]⟩⟩,[]⟩).c,.bool (lookK Rw.key l s).isSome]:=by
 have hf':=fun E=>mapFind (orc:=orc) (h.fr (F:=[]) (S':=S++E) .app (by simp) (by simp)) hr hl s
 cases hq:lookK Rw.key l s with
 | none=>
  rw [hq] at hf'
  simp only [Option.getD_none,Option.isSome_none,Rw.c] at *
  refine CallD.e Tryz.func58 rfl Tryz.ntmps58 (by rfl) ?_
  repeat' (first|refine Go.a rfl ?_|refine Go.rg ?_|refine GoR.nil ?_|refine Go.ret ?_|refine Go.b rfl ?_|(refine GoR.o (by rfl) (by rfl) ?_;(conv=>arg 1;simp only [G,Z,Y,Gx,un_neg,cutD,decide_true,decide_false,simprocAttr,fb9,fb32,fb33,fb35,fb136,fb138,fb148]);show GoR ..)|(refine GoR.c c93 (by rfl) (by rfl) rfl ?_;(refine (hf' _).ret ?_))|refine Go.condB rfl (fun hc => ?_) (fun hc => ?_))
  refine ⟨(by first | exact .inl rfl | exact .inr rfl),fin ?_⟩
  rw [resD_two (fn:=Tryz.f58) rfl]
  simp only [optThen_some,resultD_tmp,resultD_cell,G,Z,Y,Gx,un_neg,cutD,decide_true,decide_false,simprocAttr,fb9,fb32,fb33,fb35,fb136,fb138,fb148]
  exact ⟨_,_,rfl,(Wf.tup' (.cons (.agg' (.cons .refl (.cons .refl (.cons .refl (.cons .refl (.cons .refl (.cons .nilE .nil))))))) (.cons .refl .nil))).to_Wk (.tup' (.cons (.agg' (row_low ⟨⟨#[]⟩,⟨0,0,0,⟨#[]⟩⟩,[]⟩)) (.cons (.bool _) .nil))),rfl⟩
 | some r=>
  have hso:(lookK Rw.key l s).isSome=true:=by rw [hq];rfl
  obtain ⟨hi,hk⟩:=posK_at hr hso
  have e:l[posK Rw.key l s]=r:=by
   have:=lookK_getElem hr hi
   rw [hk,hq] at this
   exact (Option.some.inj this).symm
  rw [hq] at hf'
  have at1:=pairsAt hi
  rw [e] at at1
  generalize posK Rw.key l s=i at *
  rcases h with ⟨rfl,rfl,hm⟩ | ⟨hne,hm,ha⟩
  ·simp at hi
  have hm' : ∀ E,objAt (S++E) m=some [.msl a 7 l.length]:=fun E=>objAt_old hm
  have ha' : ∀ E,objAt (S++E) a=some (pairsC l):=fun E=>objAt_old ha
  simp only [Option.getD_some,Option.isSome_some,Rw.c,pairC] at *
  refine CallD.e Tryz.func58 rfl Tryz.ntmps58 (by rfl) ?_
  repeat' (first|refine Go.a rfl ?_|refine Go.rg ?_|refine GoR.nil ?_|refine Go.ret ?_|refine Go.b rfl ?_|(refine GoR.o (by rfl) (by rfl) ?_;(conv=>arg 1;simp only [G,Z,Y,Gx,un_neg,cutD,decide_true,decide_false,simprocAttr,fb9,fb32,fb33,fb35,fb136,fb138,fb148,hm',ha',at1,ix_msl (P:=Tryz.prog) (t:=136) (e:=148) (n:=7) Tryz.underlying136 dsz148]);show GoR ..)|(refine GoR.c c93 (by rfl) (by rfl) rfl ?_;(refine (hf' _).ret ?_))|refine Go.condB rfl (fun hc => ?_) (fun hc => ?_))
  refine ⟨(by first | exact .inl rfl | exact .inr rfl),fin ?_⟩
  rw [resD_two (fn:=Tryz.f58) rfl]
  simp only [optThen_some,resultD_tmp,resultD_cell,G,Z,Y,Gx,un_neg,cutD,decide_true,decide_false,simprocAttr,fb9,fb32,fb33,fb35,fb136,fb138,fb148]
  exact ⟨_,_,rfl,.of_low (.tup' (.cons (.agg' (row_low r)) (.cons (.bool _) .nil))),rfl⟩
theorem dropK_some {l:List Rw} {s:ByteArray} (h:(lookK Rw.key l s).isSome=true):dropK Rw.key l s=l.take (posK Rw.key l s)++l.drop (posK Rw.key l s+1):=by rw [dropK,if_pos h]
theorem dropK_none {l:List Rw} {s:ByteArray} (h:(lookK Rw.key l s).isSome=false):dropK Rw.key l s=l:=by rw [dropK,if_neg (by simp [h])]
theorem mapDrop {S:Mem} {m a:Nat} {l:List Rw} (h:MapAt S m a l) (hr:RiseB Rw.key l) (hl:l.length<1000000) (s:ByteArray) :
  CallD Tryz.prog O 61 [.ptr m 0,.str s] S fun d S'=>d = .bool (lookK Rw.key l s).isSome∧Moved S m a (dropK Rw.key l s) S':=by
 have hf:=mapFind (orc:=O) h hr hl s
 cases hq:(lookK Rw.key l s).isSome with
 | false=>
  rw [hq] at hf
  rw [dropK_none hq]
  refine CallD.eb Tryz.func61 rfl Tryz.ntmps61 (by rfl) ?_
  repeat' (first|refine Go.a rfl ?_|refine Go.rg ?_|refine GoR.nil ?_|refine Go.ret ?_|refine Go.b rfl ?_|(refine GoR.o (by rfl) (by rfl) ?_;(conv=>arg 1;simp only [G,Z,Y,Gx,un_neg,cutD,decide_true,decide_false,simprocAttr,fb3,fb136,fb138]);show GoR ..)|(refine GoR.c c93 (by rfl) (by rfl) rfl ?_;(refine hf.ret ?_))|refine Go.condB rfl (fun hc => ?_) (fun hc => ?_))
  refine ⟨(by first | exact .inl rfl | exact .inr rfl),fin ?_⟩
  rw [resD_tmp (fn:=Tryz.f61) rfl]
  simp only [optThen_some,resultD_tmp,resultD_cell,G,Z,Y,Gx,un_neg,cutD,decide_true,decide_false,simprocAttr,fb3,fb136,fb138]
  exact ⟨a,h,.inl rfl,.refl⟩
 | true=>
  obtain ⟨hi,hk⟩:=posK_at hr hq
  rw [hq] at hf
  rw [dropK_some hq]
  generalize posK Rw.key l s=i at *
  rcases h with ⟨rfl,rfl,hm⟩ | ⟨hne,hm,ha⟩
  ·simp at hi
  have hdel:=delete (o:=a) (n:=l.length) (i:=i) (cells:=pairsC l) (S:=S) hi (pairs_one l) ha pairsC_len
  rw [pairs_cut hi] at hdel
  have hm2:objAt (S.set a (.obj (pairsC (l.take i++l.drop (i+1))))) m=some [.msl a 7 l.length]:=(objAt_set_ne hne).trans hm
  refine CallD.eb Tryz.func61 rfl Tryz.ntmps61 (by rfl) ?_
  repeat' (first|refine Go.a rfl ?_|refine Go.rg ?_|refine GoR.nil ?_|refine Go.ret ?_|refine Go.b rfl ?_|(refine GoR.o (by rfl) (by rfl) ?_;(conv=>arg 1;simp only [G,Z,Y,Gx,un_neg,cutD,decide_true,decide_false,simprocAttr,fb3,fb136,fb138,hm,hm2,mslF,wrap_succ (show i<4611686018427387904 by omega)]);show GoR ..)|(refine GoR.c c93 (by rfl) (by rfl) rfl ?_;(refine hf.ret ?_))|(refine GoR.c c96 (by rfl) (by rfl) rfl ?_;(refine hdel.mono ?_;rintro _ _ ⟨rfl,rfl⟩))|refine Go.condB rfl (fun hc => ?_) (fun hc => ?_))
  refine ⟨(by first | exact .inl rfl | exact .inr rfl),fin ?_⟩
  rw [resD_tmp (fn:=Tryz.f61) rfl]
  simp only [optThen_some,resultD_tmp,resultD_cell,G,Z,Y,Gx,un_neg,cutD,decide_true,decide_false,simprocAttr,fb3,fb136,fb138]
  refine ⟨a,.inr ⟨hne,(objAt_set_eq (objAt_lt hm2)).trans ?_,(objAt_set_ne (fun e=>hne e.symm)).trans (objAt_set_eq (objAt_lt ha))⟩,.inl rfl,(Fr.set (F:=[m,a]) (by simp)).trans (.set (F:=[m]) (by simp)) (by simp)⟩
  rw [show (l.take i++l.drop (i+1)).length=l.length - 1 by simp;omega]
theorem ap_msl2 {P:Program} {S:Mem} {t e n bytes:Nat} (h:ElemT P t e n bytes) {o1 o len m:Nat} {c0 cells:List D} (h1:objAt S o1=some c0) (hl0:c0.length=len*n) (h2:objAt S o=some cells) (hl:cells.length=m*n) :
  appendD P #[t,t] (.msl o1 n len) (.msl o n m) S=if m=0 then some (.msl o1 n len,S) else if fitsD bytes (len+m) cells then some (.msl S.length n (len+m),S.set o1 .dead++[.obj (c0++cells)]) else none:=by
 obtain ⟨hu,i,z,hi,rfl,rfl,hz,hs⟩:=h
 simp [appendD,hu,hi,hz,hs,elemsD,srcD,h1,h2,hl0,hl,fitsD]
theorem eq_msl {P:Program} {t e:Nat} {x y:Operand} (hu:P.underlying t=some (.slice e)) {o n len:Nat} : binD P .eql t x y (.msl o n len) .nils=some (.bool false):=by simp [binD,toV,toS,nilEqD,hu]
theorem cloneP {S:Mem} {o:Nat} {l:List Rw} (hob:objAt S o=some (pairsC l)) (hl:l.length<1000000):CallD Tryz.prog orc 99 [.msl o 7 l.length] S fun d S' => ∃ o',d = .msl o' 7 l.length∧S.length≤o'∧objAt S' o'=some (pairsC l)∧Fr [] S S':=by
 have hob' : ∀ E,objAt (S++E) o=some (pairsC l):=fun E=>objAt_old hob
 have hap:=ap_msl2 (P:=Tryz.prog) del136 (S:=S++[.obj []]) (o1:=S.length) (c0:=[]) (len:=0) (by rw [objAt_app0];rfl) rfl (hob' _) pairsC_len
 by_cases h0:l.length=0
 ·have hl0:l=[]:=List.length_eq_zero_iff.1 h0
  subst hl0
  rw [if_pos h0] at hap
  simp only [List.length_nil] at hap ⊢
  refine CallD.eb Tryz.func99 rfl Tryz.ntmps99 (by rfl) ?_
  repeat' (first|refine Go.a rfl ?_|refine Go.rg ?_|refine GoR.nil ?_|refine Go.ret ?_|refine Go.b rfl ?_|(refine GoR.oM (by rfl) (by rfl) ?_;(conv=>arg 1;simp only [G,Z,Y,Gx,un_neg,cutD,decide_true,decide_false,simprocAttr,fb136,hap,builtin_append,eq_msl (P:=Tryz.prog) (t:=136) Tryz.underlying136]);refine ⟨by first|rfl|simp,by first|rfl|simp,?_⟩;show GoR ..)|(refine GoR.o (by rfl) (by rfl) ?_;(conv=>arg 1;simp only [G,Z,Y,Gx,un_neg,cutD,decide_true,decide_false,simprocAttr,fb136,hap,builtin_append,eq_msl (P:=Tryz.prog) (t:=136) Tryz.underlying136]);show GoR ..)|refine Go.condB rfl (fun hc => ?_) (fun hc => ?_))
  refine ⟨(by first | exact .inl rfl | exact .inr rfl),fin ?_⟩
  rw [resD_tmp (fn:=Tryz.f99) rfl]
  simp only [optThen_some,resultD_tmp,resultD_cell,G,Z,Y,Gx,un_neg,cutD,decide_true,decide_false,simprocAttr,fb136]
  exact ⟨_,rfl,Nat.le_refl _,by rw [objAt_app0];rfl,.app⟩
 ·rw [if_neg h0,if_pos ⟨by omega,by omega,by omega,pairs_one l⟩] at hap
  have e1:(S++[Ob.obj []]).set S.length .dead++[.obj (pairsC l)]=S++[.dead,.obj (pairsC l)]:=by
   rw [set_app0]
   simp
  simp only [List.nil_append,e1,Nat.zero_add] at hap
  refine CallD.eb Tryz.func99 rfl Tryz.ntmps99 (by rfl) ?_
  repeat' (first|refine Go.a rfl ?_|refine Go.rg ?_|refine GoR.nil ?_|refine Go.ret ?_|refine Go.b rfl ?_|(refine GoR.oM (by rfl) (by rfl) ?_;(conv=>arg 1;simp only [G,Z,Y,Gx,un_neg,cutD,decide_true,decide_false,simprocAttr,fb136,hap,builtin_append,eq_msl (P:=Tryz.prog) (t:=136) Tryz.underlying136]);refine ⟨by first|rfl|simp,by first|rfl|simp,?_⟩;show GoR ..)|(refine GoR.o (by rfl) (by rfl) ?_;(conv=>arg 1;simp only [G,Z,Y,Gx,un_neg,cutD,decide_true,decide_false,simprocAttr,fb136,hap,builtin_append,eq_msl (P:=Tryz.prog) (t:=136) Tryz.underlying136]);show GoR ..)|refine Go.condB rfl (fun hc => ?_) (fun hc => ?_))
  refine ⟨(by first | exact .inl rfl | exact .inr rfl),fin ?_⟩
  rw [resD_tmp (fn:=Tryz.f99) rfl]
  simp only [optThen_some,resultD_tmp,resultD_cell,G,Z,Y,Gx,un_neg,cutD,decide_true,decide_false,simprocAttr,fb136]
  exact ⟨_,rfl,by simp,by simp [objAt,List.getElem?_append_right],.app⟩
theorem cloneP0 (S:Mem):CallD Tryz.prog orc 99 [.nils] S fun d S'=>S'=S∧d = .nils:=by
 refine CallD.e Tryz.func99 rfl Tryz.ntmps99 (by rfl) ?_
 repeat' (first|refine Go.a rfl ?_|refine Go.rg ?_|refine GoR.nil ?_|refine Go.ret ?_|refine Go.b rfl ?_|(refine GoR.o (by rfl) (by rfl) ?_;(conv=>arg 1;simp only [G,Z,Y,Gx,un_neg,cutD,decide_true,decide_false,simprocAttr,fb136]);show GoR ..)|refine Go.condB rfl (fun hc => ?_) (fun hc => ?_))
 refine ⟨(by first | exact .inl rfl | exact .inr rfl),fin ?_⟩
 rw [resD_tmp (fn:=Tryz.f99) rfl]
 simp only [optThen_some,resultD_tmp,resultD_cell,G,Z,Y,Gx,un_neg,cutD,decide_true,decide_false,simprocAttr,fb136]
 exact ⟨_,[],by simp,.of_low .nils,rfl⟩
theorem mapTwin {S:Mem} {m a:Nat} {l:List Rw} (h:MapAt S m a l) (hl:l.length<1000000) :
  CallD Tryz.prog orc 66 [.ptr m 0] S fun d S' => ∃ m' a',d = .ptr m' 0∧MapAt S' m' a' l∧S.length≤m'∧S.length≤a'∧Fr [] S S':=by
 rcases h with ⟨rfl,rfl,hm⟩ | ⟨hne,hm,ha⟩
 ·refine CallD.eb Tryz.func66 rfl Tryz.ntmps66 (by rfl) ?_
  repeat' (first|refine Go.a rfl ?_|refine Go.rg ?_|refine GoR.nil ?_|refine Go.ret ?_|refine Go.b rfl ?_|(refine GoR.o (by rfl) (by rfl) ?_;(conv=>arg 1;simp only [G,Z,Y,Gx,un_neg,cutD,decide_true,decide_false,simprocAttr,fb136,fb138,hm]);show GoR ..)|(refine GoR.c c99 (by rfl) (by rfl) rfl ?_;(refine (cloneP0 _).ret ?_))|refine Go.condB rfl (fun hc => ?_) (fun hc => ?_))
  refine ⟨(by first | exact .inl rfl | exact .inr rfl),fin ?_⟩
  rw [resD_tmp (fn:=Tryz.f66) rfl]
  simp only [optThen_some,resultD_tmp,resultD_cell,G,Z,Y,Gx,un_neg,cutD,decide_true,decide_false,simprocAttr,fb136,fb138]
  exact ⟨S.length,S.length,rfl,.inl ⟨rfl,rfl,by rw [objAt_app0];rfl⟩,Nat.le_refl _,Nat.le_refl _,.app⟩
 ·refine CallD.eb Tryz.func66 rfl Tryz.ntmps66 (by rfl) ?_
  repeat' (first|refine Go.a rfl ?_|refine Go.rg ?_|refine GoR.nil ?_|refine Go.ret ?_|refine Go.b rfl ?_|(refine GoR.o (by rfl) (by rfl) ?_;(conv=>arg 1;simp only [G,Z,Y,Gx,un_neg,cutD,decide_true,decide_false,simprocAttr,fb136,fb138,hm,mslF]);show GoR ..)|(refine GoR.c c99 (by rfl) (by rfl) rfl ?_;(refine (cloneP ha hl).mono ?_;rintro _ S2 ⟨o',rfl,h1,h2,h3⟩))|refine Go.condB rfl (fun hc => ?_) (fun hc => ?_))
  refine ⟨(by first | exact .inl rfl | exact .inr rfl),fin ?_⟩
  rw [resD_tmp (fn:=Tryz.f66) rfl]
  simp only [optThen_some,resultD_tmp,resultD_cell,G,Z,Y,Gx,un_neg,cutD,decide_true,decide_false,simprocAttr,fb136,fb138]
  have:=objAt_lt h2
  exact ⟨S2.length,o',rfl,.inr ⟨by omega,by rw [objAt_app0];rfl,objAt_old h2⟩,h3.len,h1,h3.trans (F:=[]) (G:=[]) .app (by simp)⟩
end Go.Proofs.DtT
