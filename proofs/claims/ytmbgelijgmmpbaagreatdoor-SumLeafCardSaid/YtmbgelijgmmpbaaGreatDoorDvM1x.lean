/- A map of attributes, rising by their keys: where a key is. -/
import Derived.Test.YtmbgelijgmmpbaaGreatDoorDvS33x
import Derived.Test.YtmbgelijgmmpbaaGreatDoorDvS27x
import Derived.Test.YtmbgelijgmmpbaaGreatDoorDmOx
set_option linter.unusedSimpArgs false
set_option linter.unusedVariables false
namespace Go.DM
open Go.AM
structure Fr (F:List Nat) (S S':Mem):Prop where
 len:S.length≤S'.length
 at_ : ∀ o,o<S.length→o∉F→S'[o]?=S[o]?
theorem Fr.app {F:List Nat} {S E:Mem} : Fr F S (S++E):=⟨by simp,fun o h _=>List.getElem?_append_left h⟩
theorem Fr.trans {F G:List Nat} {S S1 S2:Mem} (x:Fr F S S1) (y:Fr G S1 S2) (h : ∀ o∈G,o∈F∨S.length≤o):Fr F S S2:=
 ⟨Nat.le_trans x.len y.len,fun o ho hF=>by
  rw [y.at_ o (Nat.lt_of_lt_of_le ho x.len) fun hG=>(h o hG).elim hF fun h=>by omega]
  exact x.at_ o ho hF⟩
theorem Fr.set {F:List Nat} {S:Mem} {o:Nat} {x:Ob} (h:o∈F):Fr F S (S.set o x):=
 ⟨by simp,fun j _ hj=>List.getElem?_set_ne (by rintro rfl;exact hj h)⟩
theorem Fr.obj {F S S' o c} (x:Fr F S S') (h:objAt S o=some c) (ho:o∉F):objAt S' o=some c:=by
 unfold objAt at *
 rw [x.at_ o (objAt_lt (S:=S) (c:=c) h) ho]
 exact h
theorem Fr.pre {F:List Nat} {S S':Mem} (x:Fr F S S') (h : ∀ o∈F,S.length≤o) : ∃ E,S'=S++E:=by
 refine ⟨S'.drop S.length,?_⟩
 apply List.ext_getElem?
 intro i
 rcases Nat.lt_or_ge i S.length with hi | hi
 ·rw [List.getElem?_append_left hi]
  exact x.at_ i hi fun hF=>by have:=h i hF;omega
 ·rw [List.getElem?_append_right hi,List.getElem?_drop]
  congr 1
  omega
theorem objAt_set_ne {S:Mem} {i j:Nat} {x:Ob} (h:i≠j):objAt (S.set i x) j=objAt S j:=by
 unfold objAt
 rw [List.getElem?_set_ne h]
theorem objAt_set_eq {S:Mem} {i:Nat} {c:List D} (h:i<S.length):objAt (S.set i (.obj c)) i=some c:=by
 unfold objAt
 rw [List.getElem?_set_self h]
theorem lookK_iff {α:Type} {f:α→ByteArray} {l:List α} {s:ByteArray} (hr:RiseB f l) {i:Nat} (h2 : ∀ k (h:k<l.length),k<i→ltB (f l[k]) s=true) (h3 : ∀ k (h:k<l.length),i≤k→ltB (f l[k]) s=false):(lookK f l s).isSome=true ↔ ∃ h:i<l.length,f l[i]=s:=by
 constructor
 ·intro h
  obtain ⟨a,ha⟩:=Option.isSome_iff_exists.1 h
  obtain ⟨hm,he⟩:=lookK_mem ha
  obtain ⟨j,hj,rfl⟩:=List.mem_iff_getElem.1 hm
  have hj2 : ¬ j<i:=fun h=>by have:=h2 j hj h;rw [he,ltB_irrefl] at this;cases this
  have hi:i<l.length:=by omega
  have hj3 : ¬ i<j:=fun h=>by have:=h3 i hi (Nat.le_refl _);rw [← he,hr.lt hj h] at this;cases this
  obtain rfl:i=j:=by omega
  exact ⟨hi,he⟩
 ·rintro ⟨h,e⟩
  have:=lookK_of_mem hr (List.getElem_mem h)
  rw [e] at this
  rw [this]
  rfl
end Go.DM
namespace Go.Proofs.DvT
open Go Go.DM Go.Proofs.DvF
set_option maxRecDepth 100000
variable {orc:DOracle}
def pairC (a:Att):List D:=a.c
def pairsC (l:List Att):List D:=l.flatMap pairC
theorem pair_len (r:Att):(pairC r).length=5:=rfl
theorem pairsC_len {l:List Att} : (pairsC l).length=l.length*5:=flat_length pair_len l
theorem pairsAt {l:List Att} {i:Nat} (h:i<l.length) :
  ((0≤(i:Int)∧(i:Int)<(l.length:Int))=True)∧(pairsC l)[i*5]?=some (.str l[i].n)∧((i*5+1+4≤(pairsC l).length)=True)∧((pairsC l).drop (i*5+1)).take 4=l[i].v.c ∧
  ((i*5+5≤(pairsC l).length)=True)∧((pairsC l).drop (i*5)).take 5=pairC l[i]:=
 ⟨ix_ok h,flat_cell0 pair_len l i h (by omega),flat_fits pair_len l i h (by omega),flat_part pair_len l i h (by omega),flat_fits0 pair_len l i h,flat_all pair_len l i h⟩
theorem flat_one {α:Type} {f:α→List D} (h : ∀ a,(f a).all D.one=true) (l:List α):(l.flatMap f).all D.one=true:=by
 rw [List.all_eq_true]
 intro x hx
 obtain ⟨a,_,hx⟩:=List.mem_flatMap.1 hx
 exact List.all_eq_true.1 (h a) x hx
theorem pairs_one (l:List Att):(pairsC l).all D.one=true:=flat_one (fun _=>rfl) l
theorem findP1 (r:Att) (s:ByteArray) (S:Mem):CallD Tryz.prog orc 123 [.agg (pairC r),.str s] S fun d S'=>S'=S∧d = .int .i64 (cmpB r.n s):=by
 obtain ⟨n,⟨k,i,x,v⟩⟩:=r
 simp only [pairC,Att.c]
 refine CallD.e Tryz.func123 rfl Tryz.ntmps123 (by rfl) ?_
 repeat' (first|refine Go.a rfl ?_|refine Go.rg ?_|refine GoR.nil ?_|refine Go.ret ?_|refine Go.b rfl ?_|(refine GoR.o (by rfl) (by rfl) ?_;(conv=>arg 1;simp only [G,Z,Y,Gx,un_neg,cutD,decide_true,decide_false,simprocAttr,fb9,fb53,fb158]);show GoR ..)|(refine GoR.c c93 (by rfl) (by rfl) rfl ?_;(refine (compareS _ _ _).ret ?_))|refine Go.condB rfl (fun hc => ?_) (fun hc => ?_))
 refine ⟨(by first | exact .inl rfl | exact .inr rfl),fin ?_⟩
 rw [resD_tmp (fn:=Tryz.f123) rfl]
 simp only [optThen_some,resultD_tmp,resultD_cell,G,Z,Y,Gx,un_neg,cutD,decide_true,decide_false,simprocAttr,fb9,fb53,fb158]
 exact ⟨_,_,rfl,.int,rfl⟩
theorem searchNil (s:ByteArray) (S:Mem):CallD Tryz.prog orc 122 [.nils,.str s,.fn (.func 123) [] []] S
   fun d S'=>S'=S∧d = .tup [.int .i64 0,.bool false]:=by
 refine CallD.e Tryz.func122 rfl Tryz.ntmps122 (by rfl) ?_
 repeat' (first|refine Go.a rfl ?_|refine Go.rg ?_|refine GoR.nil ?_|refine Go.ret ?_|refine Go.b rfl ?_|(refine GoR.o (by rfl) (by rfl) ?_;(conv=>arg 1;simp only [G,Z,Y,Gx,un_neg,cutD,decide_true,decide_false,simprocAttr,fb3,fb9,fb53,fb158,fb159,fb218]);show GoR ..)|refine GoR.s (by rfl) rfl rfl ?_|(refine GoR.splitG rfl (fun hc => ?_) (fun hc => ?_)<;>simp only [hc])|refine Go.condB rfl (fun hc => ?_) (fun hc => ?_))
 refine Go.loop ?_
 repeat' (first|refine Go.a rfl ?_|refine Go.rg ?_|refine GoR.nil ?_|refine Go.ret ?_|refine Go.b rfl ?_|(refine GoR.o (by rfl) (by rfl) ?_;(conv=>arg 1;simp only [G,Z,Y,Gx,un_neg,cutD,decide_true,decide_false,simprocAttr,fb3,fb9,fb53,fb158,fb159,fb218]);show GoR ..)|refine GoR.s (by rfl) rfl rfl ?_|(refine GoR.splitG rfl (fun hc => ?_) (fun hc => ?_)<;>simp only [hc])|refine Go.condB rfl (fun hc => ?_) (fun hc => ?_))
 refine ⟨(by first | exact .inl rfl | exact .inr rfl),fin ?_⟩
 rw [resD_two (fn:=Tryz.f122) rfl]
 simp only [optThen_some,resultD_tmp,resultD_cell,G,Z,Y,Gx,un_neg,cutD,decide_true,decide_false,simprocAttr,fb3,fb9,fb53,fb158,fb159,fb218]
 exact ⟨_,[],by simp,.of_low (.tup' (.cons (.int _ _) (.cons (.bool _) .nil))),rfl⟩
theorem searchP (o:Nat) (l:List Att) (s:ByteArray) (hr:RiseB Att.n l) (hl:l.length<1000000) (S:Mem) (hob:objAt S o=some (pairsC l)) :
  CallD Tryz.prog orc 122 [.msl o 5 l.length,.str s,.fn (.func 123) [] []] S
   fun d S'=>S'=S∧d = .tup [.int .i64 ((posK Att.n l s:Nat):Int),.bool (lookK Att.n l s).isSome]:=by
 suffices h:CallD Tryz.prog orc 122 [.msl o 5 l.length,.str s,.fn (.func 123) [] []] S
   fun d S'=>S'=S ∧ ∃ i b,d = .tup [.int .i64 ((i:Nat):Int),.bool b]∧i≤l.length∧(∀ k (h:k<l.length),k<i→ltB l[k].n s=true)∧(∀ k (h:k<l.length),i≤k→ltB l[k].n s=false)∧(b=true ↔ ∃ h:i<l.length,l[i].n=s) by
  refine h.mono ?_
  rintro d S' ⟨rfl,i,b,rfl,h1,h2,h3,h4⟩
  have e:=posK_of h1 h2 h3
  subst e
  refine ⟨rfl,?_⟩
  rw [show b=(lookK Att.n l s).isSome from Bool.eq_iff_iff.2 (h4.trans (lookK_iff hr h2 h3).symm)]
 refine CallD.e Tryz.func122 rfl Tryz.ntmps122 (by rfl) ?_
 repeat' (first|refine Go.a rfl ?_|refine Go.rg ?_|refine GoR.nil ?_|refine Go.ret ?_|refine Go.b rfl ?_|(refine GoR.o (by rfl) (by rfl) ?_;(conv=>arg 1;simp only [G,Z,Y,Gx,un_neg,cutD,decide_true,decide_false,simprocAttr,fb3,fb9,fb53,fb158,fb159,fb218,hob,len_msl (P:=Tryz.prog) (at_ := #[159]) (t:=159) rfl Tryz.underlying159,ix_msl (P:=Tryz.prog) (t:=159) (e:=158) (n:=5) Tryz.underlying159 dsz158]);show GoR ..)|refine GoR.s (by rfl) rfl rfl ?_|(refine GoR.splitG rfl (fun hc => ?_) (fun hc => ?_)<;>simp only [hc])|refine Go.condB rfl (fun hc => ?_) (fun hc => ?_))
 refine Go.keep [(0,.msl o 5 l.length),(1,.str s),(2,.fn (.func 123) [] []),(8,.int .i64 (l.length:Int)),(9,.int .i64 ((0:Nat):Int)),(10,.int .i64 (l.length:Int))] (.cons .refl (.cons .refl (.cons .refl (.cons .refl (.cons .refl (.cons .refl (.nil))))))) ?_
 refine Go.while (α:=Nat×Nat) (fun a=>a.2 - a.1) (fun a=>[(0,.msl o 5 l.length),(1,.str s),(2,.fn (.func 123) [] []),(8,.int .i64 (l.length:Int)),(9,.int .i64 (a.1:Int)),(10,.int .i64 (a.2:Int))]) (fun _=>S)
  (fun a=>a.1≤a.2∧a.2≤l.length∧(∀ k (h:k<l.length),k<a.1→ltB l[k].n s=true)∧(∀ k (h:k<l.length),a.2≤k→ltB l[k].n s=false)) ?_ (0,l.length) ⟨Nat.zero_le _,Nat.le_refl _,by simp,fun k h h2=>absurd h (by dsimp only at h2;omega)⟩
 rintro ⟨i,j⟩ ⟨hij,hj,hlo,hhi⟩ next
 dsimp only at hij hj hlo hhi next
 repeat' (first|refine Go.a rfl ?_|refine Go.rg ?_|refine GoR.nil ?_|refine Go.ret ?_|refine Go.b rfl ?_|(refine GoR.o (by rfl) (by rfl) ?_;(conv=>arg 1;simp only [G,Z,Y,Gx,un_neg,cutD,decide_true,decide_false,simprocAttr,fb3,fb9,fb53,fb158,fb159,fb218,hob,len_msl (P:=Tryz.prog) (at_ := #[159]) (t:=159) rfl Tryz.underlying159]);show GoR ..)|refine GoR.s (by rfl) rfl rfl ?_|(refine GoR.splitG rfl (fun hc => ?_) (fun hc => ?_)<;>simp only [hc])|refine Go.condB rfl (fun hc => ?_) (fun hc => ?_))
 ·have h1:i<j:=by simpa using hc
  have hh:(i+j)/2<l.length:=by omega
  repeat' (first|refine Go.a rfl ?_|refine Go.rg ?_|refine GoR.nil ?_|refine Go.ret ?_|refine Go.b rfl ?_|(refine GoR.o (by rfl) (by rfl) ?_;(conv=>arg 1;simp only [G,Z,Y,Gx,un_neg,cutD,decide_true,decide_false,simprocAttr,fb3,fb9,fb53,fb158,fb159,fb218,hob,ix_msl (P:=Tryz.prog) (t:=159) (e:=158) (n:=5) Tryz.underlying159 dsz158,add_cast (show i+j<4611686018427387904 by omega),u64_cast (show i+j<4611686018427387904 by omega),shr1,i64_cast (show (i+j)/2<4611686018427387904 by omega),pairsAt hh,wrap_succ (show (i+j)/2<4611686018427387904 by omega)]);show GoR ..)|(refine GoR.c c123 (by rfl) (by rfl) rfl ?_;(refine (findP1 _ _ _).ret ?_))|refine GoR.s (by rfl) rfl rfl ?_|(refine GoR.splitG rfl (fun hc => ?_) (fun hc => ?_)<;>simp only [hc])|refine Go.condB rfl (fun hc => ?_) (fun hc => ?_))
  ·refine Go.lpN ?_
   refine Go.keep [(0,.msl o 5 l.length),(1,.str s),(2,.fn (.func 123) [] []),(8,.int .i64 (l.length:Int)),(9,.int .i64 (((i+j)/2+1:Nat):Int)),(10,.int .i64 (j:Int))] (.cons .refl (.cons .refl (.cons .refl (.cons .refl (.cons .refl (.cons .refl (.nil))))))) ?_
   have hlt:=cmpB_neg.1 (of_decide_eq_true hc)
   refine next ((i+j)/2+1,j) (by dsimp only;omega) ⟨by dsimp only;omega,hj,fun k hk hk2 => ?_,hhi⟩
   dsimp only at hk2
   rcases Nat.lt_or_ge k ((i+j)/2) with h | h
   ·exact ltB_trans (hr.lt hh h) hlt
   ·obtain rfl:k=(i+j)/2:=by omega
    exact hlt
  ·refine Go.lpN ?_
   refine Go.keep [(0,.msl o 5 l.length),(1,.str s),(2,.fn (.func 123) [] []),(8,.int .i64 (l.length:Int)),(9,.int .i64 (i:Int)),(10,.int .i64 (((i+j)/2:Nat):Int))] (.cons .refl (.cons .refl (.cons .refl (.cons .refl (.cons .refl (.cons .refl (.nil))))))) ?_
   have hge:ltB l[(i+j)/2].n s=false:=by
    cases hq:ltB l[(i+j)/2].n s with
    | false=>rfl
    | true=>exact absurd (cmpB_neg.2 hq) (of_decide_eq_false hc)
   refine next (i,(i+j)/2) (by dsimp only;omega) ⟨by dsimp only;omega,by dsimp only;omega,hlo,fun k hk hk2 => ?_⟩
   dsimp only at hk2
   rcases Nat.lt_or_ge ((i+j)/2) k with h | h
   ·cases hq:ltB l[k].n s with
    | false=>rfl
    | true=>rw [ltB_trans (hr.lt hk h) hq] at hge;cases hge
   ·obtain rfl:k=(i+j)/2:=by omega
    exact hge
 ·clear next
  rename_i h0
  have hi:i=j:=by
             have:j≤i:=by simpa using h0
             omega
  subst hi
  have hn:i<l.length:=by simpa using hc
  repeat' (first|refine Go.a rfl ?_|refine Go.rg ?_|refine GoR.nil ?_|refine Go.ret ?_|refine Go.b rfl ?_|(refine GoR.o (by rfl) (by rfl) ?_;(conv=>arg 1;simp only [G,Z,Y,Gx,un_neg,cutD,decide_true,decide_false,simprocAttr,fb3,fb9,fb53,fb158,fb159,fb218,hob,ix_msl (P:=Tryz.prog) (t:=159) (e:=158) (n:=5) Tryz.underlying159 dsz158,pairsAt hn]);show GoR ..)|(refine GoR.c c123 (by rfl) (by rfl) rfl ?_;(refine (findP1 _ _ _).ret ?_))|refine GoR.s (by rfl) rfl rfl ?_|(refine GoR.splitG rfl (fun hc => ?_) (fun hc => ?_)<;>simp only [hc])|refine Go.condB rfl (fun hc => ?_) (fun hc => ?_))
  refine ⟨(by first | exact .inl rfl | exact .inr rfl),fin ?_⟩
  rw [resD_two (fn:=Tryz.f122) rfl]
  simp only [optThen_some,resultD_tmp,resultD_cell,G,Z,Y,Gx,un_neg,cutD,decide_true,decide_false,simprocAttr,fb3,fb9,fb53,fb158,fb159,fb218]
  exact ⟨_,[],by simp,.of_low (.tup' (.cons (.int _ _) (.cons (.bool _) .nil))),i,_,rfl,hj,hlo,hhi,by simp [cmpB_zero,hn]⟩
 ·clear next
  rename_i h0
  have hi:i=j:=by
             have:j≤i:=by simpa using h0
             omega
  subst hi
  have hn : ¬ i<l.length:=by simpa using hc
  refine ⟨(by first | exact .inl rfl | exact .inr rfl),fin ?_⟩
  rw [resD_two (fn:=Tryz.f122) rfl]
  simp only [optThen_some,resultD_tmp,resultD_cell,G,Z,Y,Gx,un_neg,cutD,decide_true,decide_false,simprocAttr,fb3,fb9,fb53,fb158,fb159,fb218]
  exact ⟨_,[],by simp,.of_low (.tup' (.cons (.int _ _) (.cons (.bool _) .nil))),i,_,rfl,hj,hlo,hhi,by simp [hn]⟩
def MapAt (S:Mem) (m a:Nat) (l:List Att):Prop:=(a=m∧l=[]∧objAt S m=some [.nils])∨(a≠m∧objAt S m=some [.msl a 5 l.length]∧objAt S a=some (pairsC l))
theorem MapAt.fr {F S S' m a l} (h:MapAt S m a l) (x:Fr F S S') (hm:m∉F) (ha:a∉F):MapAt S' m a l:=by
 rcases h with ⟨h1,h2,h3⟩ | ⟨h1,h2,h3⟩
 ·exact .inl ⟨h1,h2,x.obj h3 hm⟩
 ·exact .inr ⟨h1,x.obj h2 hm,x.obj h3 ha⟩
theorem MapAt.lt {S m a l} (h:MapAt S m a l):m<S.length∧a<S.length:=by
 rcases h with ⟨h1,_,h3⟩ | ⟨_,h2,h3⟩
 ·subst h1
  exact ⟨objAt_lt h3,objAt_lt h3⟩
 ·exact ⟨objAt_lt h2,objAt_lt h3⟩
theorem mapFind {S:Mem} {m a:Nat} {l:List Att} (h:MapAt S m a l) (hr:RiseB Att.n l) (hl:l.length<1000000) (s:ByteArray) :
  CallD Tryz.prog orc 81 [.ptr m 0,.str s] S fun d S'=>S'=S∧d = .tup [.int .i64 ((posK Att.n l s:Nat):Int),.bool (lookK Att.n l s).isSome]:=by
 rcases h with ⟨rfl,rfl,hm⟩ | ⟨hne,hm,ha⟩
 ·refine CallD.e Tryz.func81 rfl Tryz.ntmps81 (by rfl) ?_
  repeat' (first|refine Go.a rfl ?_|refine Go.rg ?_|refine GoR.nil ?_|refine Go.ret ?_|refine Go.b rfl ?_|(refine GoR.o (by rfl) (by rfl) ?_;(conv=>arg 1;simp only [G,Z,Y,Gx,un_neg,cutD,decide_true,decide_false,simprocAttr,fb159,fb161,hm]);show GoR ..)|(refine GoR.c c122 (by rfl) (by rfl) rfl ?_;(refine (searchNil s _).ret ?_))|refine Go.condB rfl (fun hc => ?_) (fun hc => ?_))
  refine ⟨(by first | exact .inl rfl | exact .inr rfl),fin ?_⟩
  rw [resD_two (fn:=Tryz.f81) rfl]
  simp only [optThen_some,resultD_tmp,resultD_cell,G,Z,Y,Gx,un_neg,cutD,decide_true,decide_false,simprocAttr,fb159,fb161]
  exact ⟨_,[],by simp,.of_low (.tup' (.cons (.int _ _) (.cons (.bool _) .nil))),rfl⟩
 ·refine CallD.e Tryz.func81 rfl Tryz.ntmps81 (by rfl) ?_
  repeat' (first|refine Go.a rfl ?_|refine Go.rg ?_|refine GoR.nil ?_|refine Go.ret ?_|refine Go.b rfl ?_|(refine GoR.o (by rfl) (by rfl) ?_;(conv=>arg 1;simp only [G,Z,Y,Gx,un_neg,cutD,decide_true,decide_false,simprocAttr,fb159,fb161,hm]);show GoR ..)|(refine GoR.c c122 (by rfl) (by rfl) rfl ?_;(refine (searchP a l s hr hl _ ha).ret ?_))|refine Go.condB rfl (fun hc => ?_) (fun hc => ?_))
  refine ⟨(by first | exact .inl rfl | exact .inr rfl),fin ?_⟩
  rw [resD_two (fn:=Tryz.f81) rfl]
  simp only [optThen_some,resultD_tmp,resultD_cell,G,Z,Y,Gx,un_neg,cutD,decide_true,decide_false,simprocAttr,fb159,fb161]
  exact ⟨_,[],by simp,.of_low (.tup' (.cons (.int _ _) (.cons (.bool _) .nil))),rfl⟩
theorem mapLen {S:Mem} {m a:Nat} {l:List Att} (h:MapAt S m a l):CallD Tryz.prog orc 78 [.ptr m 0] S fun d S'=>S'=S∧d = .int .i64 (l.length:Int):=by
 rcases h with ⟨rfl,rfl,hm⟩ | ⟨hne,hm,ha⟩
 ·refine CallD.e Tryz.func78 rfl Tryz.ntmps78 (by rfl) ?_
  repeat' (first|refine Go.a rfl ?_|refine Go.rg ?_|refine GoR.nil ?_|refine Go.ret ?_|refine Go.b rfl ?_|(refine GoR.o (by rfl) (by rfl) ?_;(conv=>arg 1;simp only [G,Z,Y,Gx,un_neg,cutD,decide_true,decide_false,simprocAttr,fb159,fb161,hm]);show GoR ..)|refine Go.condB rfl (fun hc => ?_) (fun hc => ?_))
  refine ⟨(by first | exact .inl rfl | exact .inr rfl),fin ?_⟩
  rw [resD_tmp (fn:=Tryz.f78) rfl]
  simp only [optThen_some,resultD_tmp,resultD_cell,G,Z,Y,Gx,un_neg,cutD,decide_true,decide_false,simprocAttr,fb159,fb161]
  exact ⟨_,[],by simp,.int,rfl⟩
 ·refine CallD.e Tryz.func78 rfl Tryz.ntmps78 (by rfl) ?_
  repeat' (first|refine Go.a rfl ?_|refine Go.rg ?_|refine GoR.nil ?_|refine Go.ret ?_|refine Go.b rfl ?_|(refine GoR.o (by rfl) (by rfl) ?_;(conv=>arg 1;simp only [G,Z,Y,Gx,un_neg,cutD,decide_true,decide_false,simprocAttr,fb159,fb161,hm,len_msl (P:=Tryz.prog) (at_ := #[159]) (t:=159) rfl Tryz.underlying159]);show GoR ..)|refine Go.condB rfl (fun hc => ?_) (fun hc => ?_))
  refine ⟨(by first | exact .inl rfl | exact .inr rfl),fin ?_⟩
  rw [resD_tmp (fn:=Tryz.f78) rfl]
  simp only [optThen_some,resultD_tmp,resultD_cell,G,Z,Y,Gx,un_neg,cutD,decide_true,decide_false,simprocAttr,fb159,fb161]
  exact ⟨_,[],by simp,.int,rfl⟩
theorem mapNew (S:Mem):CallD Tryz.prog orc 75 [] S fun d S'=>S'=S++[.obj [.nils]]∧d = .ptr S.length 0:=by
 refine CallD.eb Tryz.func75 rfl Tryz.ntmps75 (by rfl) ?_
 repeat' (first|refine Go.a rfl ?_|refine Go.rg ?_|refine GoR.nil ?_|refine Go.ret ?_|refine Go.b rfl ?_|(refine GoR.o (by rfl) (by rfl) ?_;(conv=>arg 1;simp only [G,Z,Y,Gx,un_neg,cutD,decide_true,decide_false,simprocAttr,fb159,fb161]);show GoR ..)|refine Go.condB rfl (fun hc => ?_) (fun hc => ?_))
 refine ⟨(by first | exact .inl rfl | exact .inr rfl),fin ?_⟩
 rw [resD_tmp (fn:=Tryz.f75) rfl]
 simp only [optThen_some,resultD_tmp,resultD_cell,G,Z,Y,Gx,un_neg,cutD,decide_true,decide_false,simprocAttr,fb159,fb161]
end Go.Proofs.DvT
namespace Go.Proofs.DvT
open Go Go.DM Go.Proofs.DvF
set_option maxRecDepth 100000
variable {orc:DOracle}
theorem val_len (v:Val):v.c.length=4:=rfl
theorem mslF:(∀ o z l,cellsD (.msl o z l)=some [.msl o z l])∧(∀ o z l,D.one (.msl o z l)=true):=⟨fun _ _ _=>rfl,fun _ _ _=>rfl⟩
theorem insertM {o n i:Nat} {own:Option Nat} {cells new:List D} {S:Mem} (hnl:new.length=5) (hin:i≤n) (hlim:n≤1000000) (h1c:cells.all D.one=true) (h1n:new.all D.one=true) (hob:objAt S o=some cells) (hcl:cells.length=n*5) :
  CallD Tryz.prog O 82 [.msl o 5 n,.int .i64 (i:Int),.sl own 5 1 new] S fun d S'=>d = .msl S.length 5 (n+1)∧objAt S' S.length=some (putL cells (i*5) new)∧Fr [o] S S' :=
 (insert hnl hin hlim h1c h1n hob hcl).mono fun d S' ⟨h1,h2⟩=>by
  subst h1
  refine ⟨h2,?_,(Fr.set (List.mem_singleton.2 rfl)).trans (F:=[o]) (G:=[]) .app (by simp)⟩
  have:=objAt_app0 (S:=S.set o .dead) (E:=[.obj (putL cells (i*5) new)])
  rw [List.length_set] at this
  rw [this]
  rfl
theorem insertM0 {own:Option Nat} {new:List D} {S:Mem} (hnl:new.length=5) (h1n:new.all D.one=true) :
  CallD Tryz.prog O 82 [.nils,.int .i64 ((0:Nat):Int),.sl own 5 1 new] S fun d S'=>d = .msl S.length 5 1∧objAt S' S.length=some new∧Fr [] S S' :=
 (insert0 hnl h1n).mono fun d S' ⟨h1,h2⟩=>by
  subst h1
  exact ⟨h2,by rw [objAt_app0];rfl,.app⟩
theorem pairs_split {l:List Att} {i:Nat} (h:i<l.length):pairsC l=pairsC (l.take i)++(pairC l[i]++pairsC (l.drop (i+1))):=by
 have e:l.take i++l[i]::l.drop (i+1)=l:=by rw [← List.drop_eq_getElem_cons h,List.take_append_drop]
 have:=congrArg pairsC e
 rw [← this]
 simp only [pairsC,List.flatMap_append,List.flatMap_cons]
theorem pairs_put {l:List Att} {i:Nat} (h:i<l.length) {r:Att} (hk:l[i].n=r.n):wr (pairsC l) (i*5+1) r.v.c=pairsC (l.set i r):=by
 have hl:(pairsC (l.take i)++[D.str l[i].n]).length=i*5+1:=by rw [List.length_append,pairsC_len,List.length_take,List.length_singleton];omega
 have e:pairsC l=(pairsC (l.take i)++[D.str l[i].n])++(l[i].v.c++pairsC (l.drop (i+1))):=by rw [pairs_split h];simp [pairC,Att.c,Val.c]
 rw [e,← hl,wr_mid _ _ _ (by simp [Val.c]),pairs_split (l:=l.set i r) (i:=i) (by simpa using h)]
 have e2:(List.take i l).set i r=List.take i l:=List.set_eq_of_length_le (by rw [List.length_take];omega)
 simp [pairC,Att.c,Val.c,List.take_set,List.drop_set,e2,hk]
theorem pairs_take {l:List Att} {i:Nat} (h:i≤l.length):(pairsC l).take (i*5)=pairsC (l.take i):=by
 have hl:(pairsC (l.take i)).length=i*5:=by rw [pairsC_len,List.length_take];omega
 have e:pairsC l=pairsC (l.take i)++pairsC (l.drop i):=by
  conv=>lhs;rw [← List.take_append_drop i l]
  simp only [pairsC,List.flatMap_append]
 rw [e,← hl,List.take_left]
theorem pairs_drop {l:List Att} {i:Nat} (h:i≤l.length):(pairsC l).drop (i*5)=pairsC (l.drop i):=by
 have hl:(pairsC (l.take i)).length=i*5:=by rw [pairsC_len,List.length_take];omega
 have e:pairsC l=pairsC (l.take i)++pairsC (l.drop i):=by
  conv=>lhs;rw [← List.take_append_drop i l]
  simp only [pairsC,List.flatMap_append]
 rw [e,← hl,List.drop_left]
theorem pairs_ins {l:List Att} {i:Nat} (h:i≤l.length) (r:Att):putL (pairsC l) (i*5) (pairC r)=pairsC (l.take i++r::l.drop i):=by
 rw [putL,pairs_take h,pairs_drop h]
 simp [pairsC]
theorem putK_old {l:List Att} {r:Att} (h:(lookK Att.n l r.n).isSome=true):putK Att.n l r=l.set (posK Att.n l r.n) r:=by rw [putK,if_pos h]
theorem putK_new {l:List Att} {r:Att} (h:(lookK Att.n l r.n).isSome=false):putK Att.n l r=l.take (posK Att.n l r.n)++r::l.drop (posK Att.n l r.n):=by rw [putK,if_neg (by simp [h])]
theorem posK_at {l:List Att} (hr:RiseB Att.n l) {s:ByteArray} (h:(lookK Att.n l s).isSome=true) : ∃ h:posK Att.n l s<l.length,l[posK Att.n l s].n=s:=
 (lookK_iff hr (fun k hk hlt=>posK_lt hk hlt) (fun k hk hle=>by
  have h1:posK Att.n l s<l.length:=by omega
  have:=posK_ge h1
  rcases Nat.lt_or_ge (posK Att.n l s) k with h2 | h2
  ·cases hq:ltB l[k].n s with
   | false=>rfl
   | true=>rw [ltB_trans (hr.lt hk h2) hq] at this;cases this
  ·obtain rfl:k=posK Att.n l s:=by omega
   exact this)).1 h
def Moved (S:Mem) (m a:Nat) (l:List Att) (S':Mem):Prop := ∃ a',MapAt S' m a' l∧(a'=a∨a'=m∨S.length≤a')∧Fr [m,a] S S'
theorem mapPut {S:Mem} {m a:Nat} {l:List Att} (h:MapAt S m a l) (hr:RiseB Att.n l) (hl:l.length<1000000) (r:Att) :
  CallD Tryz.prog O 38 [.ptr m 0,.str r.n,.agg r.v.c] S fun d S'=>d = .bool (!(lookK Att.n l r.n).isSome)∧Moved S m a (putK Att.n l r) S':=by
 have hf:=mapFind (orc:=O) h hr hl r.n
 have hf':=fun E=>mapFind (orc:=O) (h.fr (F:=[]) (S':=S++E) .app (by simp) (by simp)) hr hl r.n
 have hmlt:=h.lt
 rcases h with ⟨rfl,rfl,hm⟩ | ⟨hne,hm,ha⟩
 ·have hm' : ∀ E,objAt (S++E) a=some [.nils]:=fun E=>objAt_old hm
  have hput:putK Att.n [] r=[r]:=rfl
  have hins:=fun S own=>insertM0 (own:=own) (new:=pairC r) (S:=S) rfl rfl
  rw [hput]
  simp only [Val.c,pairC,Att.c] at *
  refine CallD.eb Tryz.func38 rfl Tryz.ntmps38 (by rfl) ?_
  repeat' (first|refine Go.a rfl ?_|refine Go.rg ?_|refine GoR.nil ?_|refine Go.ret ?_|refine Go.b rfl ?_|refine Go.rgS dmx (by decide) ?_|refine Go.rgD [4] (fun H=>objAt H a=some [.nils]) dmx (by decide) 10 (by decide) (by (simp only [List.append_assoc,hm'])) ?_|refine GoW.nil rfl ?_|((first|refine GoR.o (by rfl) (by rfl) ?_|refine GoW.o (by rfl) (by rfl) ?_|refine GoW.rd (by rfl) (by rfl) ?_);(conv=>arg 1;simp only [G,Z,Y,Gx,un_neg,cutD,decide_true,decide_false,simprocAttr,fb2,fb3,fb9,fb51,fb53,fb158,fb159,fb161,hm',mslF,List.append_assoc]);first|show GoR ..|(show _∧GoW ..;refine ⟨by (first|exact fun h=>absurd h (by decide)|(intro _;(simp only [List.append_assoc,hm']))),?_⟩)|(show _∧_∧_∧GoW ..;refine ⟨rfl,by (simp only [List.append_assoc,hm']),(fun H hI=>by (try dsimp only at hI);simp only [G,Z,Y,Gx,un_neg,cutD,decide_true,decide_false,simprocAttr,fb2,fb3,fb9,fb51,fb53,fb158,fb159,fb161,hm',mslF,List.append_assoc,hI]),?_⟩))|(refine GoW.c c81 (by rfl) (by rfl) rfl ?_;(refine (hf' _).ret ?_);refine ⟨by (first|exact fun h=>absurd h (by decide)|(intro _;(simp only [List.append_assoc,hm']))),?_⟩)|(refine GoR.c c81 (by rfl) (by rfl) rfl ?_;(refine (hf' _).ret ?_))|(refine GoW.c c82 (by rfl) (by rfl) rfl ?_;(refine (hins _ _).mono ?_;rintro _ S2 ⟨rfl,h2,h3⟩);refine ⟨by (first|exact fun h=>absurd h (by decide)|(intro _;(simp only [List.append_assoc,hm']))),?_⟩)|(refine GoR.c c82 (by rfl) (by rfl) rfl ?_;(refine (hins _ _).mono ?_;rintro _ S2 ⟨rfl,h2,h3⟩))|refine Go.condB rfl (fun hc => ?_) (fun hc => ?_))
  have hm2:objAt S2 a=some [.nils]:=h3.obj (hm' _) (by simp)
  repeat' (first|refine Go.a rfl ?_|refine Go.rg ?_|refine GoR.nil ?_|refine Go.ret ?_|refine Go.b rfl ?_|refine Go.rgS dmx (by decide) ?_|refine Go.rgD [4] (fun H=>objAt H a=some [.nils]) dmx (by decide) 10 (by decide) (by (assumption)) ?_|refine GoW.nil rfl ?_|((first|refine GoR.o (by rfl) (by rfl) ?_|refine GoW.o (by rfl) (by rfl) ?_|refine GoW.rd (by rfl) (by rfl) ?_);(conv=>arg 1;simp only [G,Z,Y,Gx,un_neg,cutD,decide_true,decide_false,simprocAttr,fb2,fb3,fb9,fb51,fb53,fb158,fb159,fb161,hm2,mslF]);first|show GoR ..|(show _∧GoW ..;refine ⟨by (first|exact fun h=>absurd h (by decide)|(intro _;(assumption))),?_⟩)|(show _∧_∧_∧GoW ..;refine ⟨rfl,by (assumption),(fun H hI=>by (try dsimp only at hI);simp only [G,Z,Y,Gx,un_neg,cutD,decide_true,decide_false,simprocAttr,fb2,fb3,fb9,fb51,fb53,fb158,fb159,fb161,hm2,mslF,hI]),?_⟩))|refine Go.condB rfl (fun hc => ?_) (fun hc => ?_))
  refine ⟨(by first | exact .inl rfl | exact .inr rfl),fin ?_⟩
  rw [resD_tmp (fn:=Tryz.f38) rfl]
  simp only [optThen_some,resultD_tmp,resultD_cell,G,Z,Y,Gx,un_neg,cutD,decide_true,decide_false,simprocAttr,fb2,fb3,fb9,fb51,fb53,fb158,fb159,fb161]
  have h2':objAt S2 (S.length+2)=some (pairsC [r]):=by simpa [pairsC,pairC,Att.c] using h2
  refine ⟨rfl,_,.inr ⟨?_,objAt_set_eq (objAt_lt hm2),(objAt_set_ne ?_).trans h2'⟩,.inr (.inr (by simp)),?_⟩
  ·omega
  ·omega
  ·exact (Fr.app.trans (F:=[a,a]) h3 (by simp)).trans (.set (F:=[a]) (by simp)) (by simp)
 ·have hm' : ∀ E,objAt (S++E) m=some [.msl a 5 l.length]:=fun E=>objAt_old hm
  have ha' : ∀ E,objAt (S++E) a=some (pairsC l):=fun E=>objAt_old ha
  have hpl:=posK_le (f:=Att.n) l r.n
  cases hq:(lookK Att.n l r.n).isSome with
  | true=>
   obtain ⟨hi,hk⟩:=posK_at hr hq
   rw [putK_old hq]
   rw [hq] at hf'
   generalize posK Att.n l r.n=i at *
   have hst : ∀ E,storeD Tryz.prog 53 (.ptr a (i*5+1)) (.agg r.v.c) (S++E)=some ((S++E).set a (.obj (pairsC (l.set i r)))):=fun E=>by
    simp only [storeD,cellsD,dsz53,ha',val_len]
    rw [if_pos ⟨trivial,by rw [pairsC_len];omega,rfl⟩,pairs_put hi hk]
   have hix:=ix_ok hi
   simp only [Val.c] at *
   refine CallD.eb Tryz.func38 rfl Tryz.ntmps38 (by rfl) ?_
   repeat' (first|refine Go.a rfl ?_|refine Go.rg ?_|refine GoR.nil ?_|refine Go.ret ?_|refine Go.b rfl ?_|refine Go.rgS dmx (by decide) ?_|refine Go.rgD [4] (fun _=>True) dmx (by decide) 10 (by decide) (by trivial) ?_|refine GoW.nil rfl ?_|((first|refine GoR.o (by rfl) (by rfl) ?_|refine GoW.o (by rfl) (by rfl) ?_|refine GoW.rd (by rfl) (by rfl) ?_);(conv=>arg 1;simp only [G,Z,Y,Gx,un_neg,cutD,decide_true,decide_false,simprocAttr,fb2,fb3,fb9,fb51,fb53,fb158,fb159,fb161,hm',hix,hst,ix_msl (P:=Tryz.prog) (t:=159) (e:=158) (n:=5) Tryz.underlying159 dsz158]);first|show GoR ..|(show _∧GoW ..;refine ⟨by exact fun _=>trivial,?_⟩)|(show _∧_∧_∧GoW ..;refine ⟨rfl,by trivial,(fun H _=>by simp only [G,Z,Y,Gx,un_neg,cutD,decide_true,decide_false,simprocAttr,fb2,fb3,fb9,fb51,fb53,fb158,fb159,fb161,hm',hix,hst,ix_msl (P:=Tryz.prog) (t:=159) (e:=158) (n:=5) Tryz.underlying159 dsz158]),?_⟩))|(refine GoW.c c81 (by rfl) (by rfl) rfl ?_;(refine (hf' _).ret ?_);refine ⟨by exact fun _=>trivial,?_⟩)|(refine GoR.c c81 (by rfl) (by rfl) rfl ?_;(refine (hf' _).ret ?_))|refine Go.condB rfl (fun hc => ?_) (fun hc => ?_))
   refine ⟨(by first | exact .inl rfl | exact .inr rfl),fin ?_⟩
   rw [resD_tmp (fn:=Tryz.f38) rfl]
   simp only [optThen_some,resultD_tmp,resultD_cell,G,Z,Y,Gx,un_neg,cutD,decide_true,decide_false,simprocAttr,fb2,fb3,fb9,fb51,fb53,fb158,fb159,fb161]
   refine ⟨a,.inr ⟨hne,?_,?_⟩,.inl rfl,Fr.app.trans (F:=[m,a]) (.set (F:=[a]) (by simp)) (by simp)⟩
   ·rw [objAt_set_ne hne,List.length_set];exact hm' _
   ·exact objAt_set_eq (by simp;omega)
  | false=>
   rw [putK_new hq]
   rw [hq] at hf'
   generalize posK Att.n l r.n=i at *
   have hins:=fun own x=>insertM (own:=own) (o:=a) (n:=l.length) (i:=i) (cells:=pairsC l) (new:=pairC r) (S:=S++[.obj x,.own]) rfl hpl (by omega) (pairs_one l) rfl (ha' _) pairsC_len
   rw [pairs_ins hpl] at hins
   simp only [Val.c,pairC,Att.c] at *
   refine CallD.eb Tryz.func38 rfl Tryz.ntmps38 (by rfl) ?_
   repeat' (first|refine Go.a rfl ?_|refine Go.rg ?_|refine GoR.nil ?_|refine Go.ret ?_|refine Go.b rfl ?_|refine Go.rgS dmx (by decide) ?_|refine Go.rgD [4] (fun H=>objAt H m=some [.msl a 5 l.length]) dmx (by decide) 10 (by decide) (by (simp only [List.append_assoc,hm'])) ?_|refine GoW.nil rfl ?_|((first|refine GoR.o (by rfl) (by rfl) ?_|refine GoW.o (by rfl) (by rfl) ?_|refine GoW.rd (by rfl) (by rfl) ?_);(conv=>arg 1;simp only [G,Z,Y,Gx,un_neg,cutD,decide_true,decide_false,simprocAttr,fb2,fb3,fb9,fb51,fb53,fb158,fb159,fb161,hm',mslF,List.append_assoc]);first|show GoR ..|(show _∧GoW ..;refine ⟨by (first|exact fun h=>absurd h (by decide)|(intro _;(simp only [List.append_assoc,hm']))),?_⟩)|(show _∧_∧_∧GoW ..;refine ⟨rfl,by (simp only [List.append_assoc,hm']),(fun H hI=>by (try dsimp only at hI);simp only [G,Z,Y,Gx,un_neg,cutD,decide_true,decide_false,simprocAttr,fb2,fb3,fb9,fb51,fb53,fb158,fb159,fb161,hm',mslF,List.append_assoc,hI]),?_⟩))|(refine GoW.c c81 (by rfl) (by rfl) rfl ?_;(refine (hf' _).ret ?_);refine ⟨by (first|exact fun h=>absurd h (by decide)|(intro _;(simp only [List.append_assoc,hm']))),?_⟩)|(refine GoR.c c81 (by rfl) (by rfl) rfl ?_;(refine (hf' _).ret ?_))|(refine GoW.c c82 (by rfl) (by rfl) rfl ?_;(refine (hins _ _).mono ?_;rintro _ S2 ⟨rfl,h2,h3⟩);refine ⟨by (first|exact fun h=>absurd h (by decide)|(intro _;(simp only [List.append_assoc,hm']))),?_⟩)|(refine GoR.c c82 (by rfl) (by rfl) rfl ?_;(refine (hins _ _).mono ?_;rintro _ S2 ⟨rfl,h2,h3⟩))|refine Go.condB rfl (fun hc => ?_) (fun hc => ?_))
   have hm2:objAt S2 m=some [.msl a 5 l.length]:=h3.obj (hm' _) (by simp;exact fun e=>hne e.symm)
   repeat' (first|refine Go.a rfl ?_|refine Go.rg ?_|refine GoR.nil ?_|refine Go.ret ?_|refine Go.b rfl ?_|refine Go.rgS dmx (by decide) ?_|refine Go.rgD [4] (fun H=>objAt H m=some [.msl a 5 l.length]) dmx (by decide) 10 (by decide) (by (assumption)) ?_|refine GoW.nil rfl ?_|((first|refine GoR.o (by rfl) (by rfl) ?_|refine GoW.o (by rfl) (by rfl) ?_|refine GoW.rd (by rfl) (by rfl) ?_);(conv=>arg 1;simp only [G,Z,Y,Gx,un_neg,cutD,decide_true,decide_false,simprocAttr,fb2,fb3,fb9,fb51,fb53,fb158,fb159,fb161,hm2,mslF]);first|show GoR ..|(show _∧GoW ..;refine ⟨by (first|exact fun h=>absurd h (by decide)|(intro _;(assumption))),?_⟩)|(show _∧_∧_∧GoW ..;refine ⟨rfl,by (assumption),(fun H hI=>by (try dsimp only at hI);simp only [G,Z,Y,Gx,un_neg,cutD,decide_true,decide_false,simprocAttr,fb2,fb3,fb9,fb51,fb53,fb158,fb159,fb161,hm2,mslF,hI]),?_⟩))|refine Go.condB rfl (fun hc => ?_) (fun hc => ?_))
   refine ⟨(by first | exact .inl rfl | exact .inr rfl),fin ?_⟩
   rw [resD_tmp (fn:=Tryz.f38) rfl]
   simp only [optThen_some,resultD_tmp,resultD_cell,G,Z,Y,Gx,un_neg,cutD,decide_true,decide_false,simprocAttr,fb2,fb3,fb9,fb51,fb53,fb158,fb159,fb161]
   have hle:(l.take i++r::l.drop i).length=l.length+1:=by simp;omega
   have h2':objAt S2 (S.length+2)=some (pairsC (l.take i++r::l.drop i)):=by simpa using h2
   refine ⟨_,.inr ⟨?_,(objAt_set_eq (objAt_lt hm2)).trans (by rw [hle]),(objAt_set_ne ?_).trans h2'⟩,.inr (.inr (by simp)),?_⟩
   ·omega
   ·omega
   ·exact (Fr.app.trans (F:=[m,a]) h3 (by simp)).trans (.set (F:=[m]) (by simp)) (by simp)
end Go.Proofs.DvT
