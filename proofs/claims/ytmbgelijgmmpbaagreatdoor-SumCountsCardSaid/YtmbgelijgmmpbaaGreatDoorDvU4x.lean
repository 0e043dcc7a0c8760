/- Rows counted; rows that rise. -/
import Derived.Test.YtmbgelijgmmpbaaGreatDoorDvU1x
set_option linter.unusedSimpArgs false
set_option linter.unusedVariables false
namespace Go.Proofs.DvT
open Go Go.DM Go.Proofs.DvF
set_option maxRecDepth 100000
variable {orc:DOracle}
def rowsC (l:List Rw):List D:=l.flatMap Rw.c
theorem row_len (r:Rw):r.c.length=6:=rfl
theorem rowsC_len {l:List Rw} : (rowsC l).length=l.length*6:=flat_length row_len l
theorem rowsAt {l:List Rw} {i:Nat} (h:i<l.length) :
  ((0≤(i:Int)∧(i:Int)<(l.length:Int))=True)∧((i*6+6≤(rowsC l).length)=True)∧((rowsC l).drop (i*6)).take 6=l[i].c:=
 ⟨ix_ok h,flat_fits0 row_len l i h,flat_all row_len l i h⟩
theorem fewRows (l:List Rw) (S:Mem):CallD Tryz.prog orc 26 [.sl none 6 l.length (rowsC l)] S fun d S'=>S'=S∧d = .bool (decide (l.length≤70)&&l.all fewR):=by
 refine CallD.e Tryz.func26 rfl Tryz.ntmps26 (by rfl) ?_
 by_cases h70:l.length≤70
 rotate_left
 ·repeat' (first|refine Go.a rfl ?_|refine Go.rg ?_|refine GoR.nil ?_|refine Go.ret ?_|refine Go.b rfl ?_|(refine GoR.o (by rfl) (by rfl) ?_;(conv=>arg 1;simp only [G,Z,Y,Gx,un_neg,cutD,decide_true,decide_false,simprocAttr,fb3,fb9,fb22,fb33,fb61,fb63,show decide (70<(l.length:Int))=true by simp;omega]);show GoR ..)|refine Go.condB rfl (fun hc => ?_) (fun hc => ?_))
  refine ⟨(by first | exact .inl rfl | exact .inr rfl),fin ?_⟩
  rw [resD_tmp (fn:=Tryz.f26) rfl]
  simp only [optThen_some,resultD_tmp,resultD_cell,G,Z,Y,Gx,un_neg,cutD,decide_true,decide_false,simprocAttr,fb3,fb9,fb22,fb33,fb61,fb63]
  exact ⟨_,[],by simp,.bool,by simp [h70]⟩
 ·repeat' (first|refine Go.a rfl ?_|refine Go.rg ?_|refine GoR.nil ?_|refine Go.ret ?_|refine Go.b rfl ?_|(refine GoR.o (by rfl) (by rfl) ?_;(conv=>arg 1;simp only [G,Z,Y,Gx,un_neg,cutD,decide_true,decide_false,simprocAttr,fb3,fb9,fb22,fb33,fb61,fb63,show decide (70<(l.length:Int))=false by simp;omega]);show GoR ..)|refine Go.condB rfl (fun hc => ?_) (fun hc => ?_))
  refine Go.keep [(0,.sl none 6 l.length (rowsC l)),(3,.int .i64 ((0:Nat):Int))] (.cons .refl (.cons .refl (.nil))) ?_
  refine Go.while (α:=Nat) (fun i=>l.length - i) (fun i=>[(0,.sl none 6 l.length (rowsC l)),(3,.int .i64 (i:Int))]) (fun _=>S) (fun i=>i≤l.length ∧ ∀ j (h:j<l.length),j<i→fewR l[j]=true) ?_ 0 ⟨Nat.zero_le _,by simp⟩
  rintro i ⟨hi,hk⟩ next
  by_cases h1:i<l.length
  ·have dl:decide ((i:Int)<(l.length:Int))=true:=by simp;omega
   have at1:=rowsAt h1
   have hf:=fun S=>few4 (orc:=orc) l[i] S
   cases hq:fewR l[i] with
   | false=>
    clear next
    rw [hq] at hf
    simp only [Rw.c] at hf at1
    repeat' (first|refine Go.a rfl ?_|refine Go.rg ?_|refine GoR.nil ?_|refine Go.ret ?_|refine Go.b rfl ?_|(refine GoR.o (by rfl) (by rfl) ?_;(conv=>arg 1;simp only [G,Z,Y,Gx,un_neg,cutD,decide_true,decide_false,simprocAttr,fb3,fb9,fb22,fb33,fb61,fb63,dl,at1]);show GoR ..)|(refine GoR.c c61 (by rfl) (by rfl) rfl ?_;(refine (hf _).ret ?_))|refine Go.condB rfl (fun hc => ?_) (fun hc => ?_))
    refine ⟨(by first | exact .inl rfl | exact .inr rfl),fin ?_⟩
    rw [resD_tmp (fn:=Tryz.f26) rfl]
    simp only [optThen_some,resultD_tmp,resultD_cell,G,Z,Y,Gx,un_neg,cutD,decide_true,decide_false,simprocAttr,fb3,fb9,fb22,fb33,fb61,fb63]
    refine ⟨_,[],by simp,.bool,?_⟩
    rw [all_false_at h1 hq]
    simp
   | true=>
    rw [hq] at hf
    simp only [Rw.c] at hf at1
    repeat' (first|refine Go.a rfl ?_|refine Go.rg ?_|refine GoR.nil ?_|refine Go.ret ?_|refine Go.b rfl ?_|(refine GoR.o (by rfl) (by rfl) ?_;(conv=>arg 1;simp only [G,Z,Y,Gx,un_neg,cutD,decide_true,decide_false,simprocAttr,fb3,fb9,fb22,fb33,fb61,fb63,dl,at1,wrap_succ (show i<4611686018427387904 by omega)]);show GoR ..)|(refine GoR.c c61 (by rfl) (by rfl) rfl ?_;(refine (hf _).ret ?_))|refine Go.condB rfl (fun hc => ?_) (fun hc => ?_))
    refine Go.lpN ?_
    refine Go.keep [(0,.sl none 6 l.length (rowsC l)),(3,.int .i64 ((i+1:Nat):Int))] (.cons .refl (.cons .refl (.nil))) ?_
    refine next (i+1) (by omega) ⟨h1,fun j hj hlt => ?_⟩
    rcases Nat.lt_or_ge j i with h | h
    ·exact hk j hj h
    ·obtain rfl:j=i:=by omega
     exact hq
  ·clear next
   repeat' (first|refine Go.a rfl ?_|refine Go.rg ?_|refine GoR.nil ?_|refine Go.ret ?_|refine Go.b rfl ?_|(refine GoR.o (by rfl) (by rfl) ?_;(conv=>arg 1;simp only [G,Z,Y,Gx,un_neg,cutD,decide_true,decide_false,simprocAttr,fb3,fb9,fb22,fb33,fb61,fb63,show decide ((i:Int)<(l.length:Int))=false by simp;omega]);show GoR ..)|refine Go.condB rfl (fun hc => ?_) (fun hc => ?_))
   refine ⟨(by first | exact .inl rfl | exact .inr rfl),fin ?_⟩
   rw [resD_tmp (fn:=Tryz.f26) rfl]
   simp only [optThen_some,resultD_tmp,resultD_cell,G,Z,Y,Gx,un_neg,cutD,decide_true,decide_false,simprocAttr,fb3,fb9,fb22,fb33,fb61,fb63]
   refine ⟨_,[],by simp,.bool,?_⟩
   rw [all_true_of fun j hj=>hk j hj (by omega)]
   simp [h70]
def clampV (x:Int):Int:=if x>9223372036854775807 then 9223372036854775807 else if x < -9223372036854775808 then -9223372036854775808 else x
theorem clampV_in (x:Int):in64 (clampV x):=by unfold in64 clampV;split<;>(try split)<;>omega
theorem valCut (b:Bool) (S:Mem):CallD Tryz.prog orc 53 [.bool b] S fun d S'=>S'=S∧d = .int .i64 (if b then -9223372036854775808 else 9223372036854775807):=by
 refine CallD.e Tryz.func53 rfl Tryz.ntmps53 (by rfl) ?_
 cases b
 all_goals
  repeat' (first|refine Go.a rfl ?_|refine Go.rg ?_|refine GoR.nil ?_|refine Go.ret ?_|refine Go.b rfl ?_|(refine GoR.o (by rfl) (by rfl) ?_;(conv=>arg 1;simp only [G,Z,Y,Gx,un_neg,cutD,decide_true,decide_false,simprocAttr]);show GoR ..)|refine Go.condB rfl (fun hc => ?_) (fun hc => ?_))
  refine ⟨(by first | exact .inl rfl | exact .inr rfl),fin ?_⟩
  rw [resD_tmp (fn:=Tryz.f53) rfl]
  simp only [optThen_some,resultD_tmp,resultD_cell,G,Z,Y,Gx,un_neg,cutD,decide_true,decide_false,simprocAttr]
  exact ⟨_,[],by simp,.int,rfl⟩
theorem valAdd (a b:Int) (ha:in64 a) (hb:in64 b) (S:Mem):CallD Tryz.prog orc 21 [.int .i64 a,.int .i64 b] S fun d S'=>S'=S∧d = .int .i64 (clampV (a+b)):=by
 obtain ⟨a1,a2⟩:=ha
 obtain ⟨b1,b2⟩:=hb
 refine CallD.e Tryz.func21 rfl Tryz.ntmps21 (by rfl) ?_
 repeat' (first|refine Go.a rfl ?_|refine Go.rg ?_|refine GoR.nil ?_|refine Go.ret ?_|refine Go.b rfl ?_|(refine GoR.o (by rfl) (by rfl) ?_;(conv=>arg 1;simp only [G,Z,Y,Gx,un_neg,cutD,decide_true,decide_false,simprocAttr,fb2,fb4]);show GoR ..)|(refine GoR.c c53 (by rfl) (by rfl) rfl ?_;(refine (valCut _ _).ret ?_))|refine GoR.s (by rfl) rfl rfl ?_|(refine GoR.splitG rfl (fun hc => ?_) (fun hc => ?_)<;>simp only [hc])|refine Go.condB rfl (fun hc => ?_) (fun hc => ?_))
 all_goals
  refine ⟨(by first | exact .inl rfl | exact .inr rfl),fin ?_⟩
  rw [resD_tmp (fn:=Tryz.f21) rfl]
  simp only [optThen_some,resultD_tmp,resultD_cell,G,Z,Y,Gx,un_neg,cutD,decide_true,decide_false,simprocAttr,fb2,fb4]
  refine ⟨_,[],by simp,.int,?_⟩
  congr 1
  simp [IntKind.wrap_i64] at *
  unfold clampV
  (repeat' split)<;>omega
def manyR (r:Rw):Int:=if (look r.at_ (⟨#[110]⟩:ByteArray)).isSome&&((look r.at_ (⟨#[110]⟩:ByteArray)).getD noVal).k==1 then (if ((look r.at_ (⟨#[110]⟩:ByteArray)).getD noVal).i<1 then 1 else ((look r.at_ (⟨#[110]⟩:ByteArray)).getD noVal).i) else 1
def countR (l:List Rw):Int:=l.foldl (fun n r=>clampV (n+manyR r)) 0
structure OkC (r:Rw):Prop where
 rise:RiseB Att.n r.at_
 len:r.at_.length<1000000
 l : ∀ a∈r.at_,a.v.l.length<1000000
 i : ∀ a∈r.at_,in64 a.v.i
theorem manyR_in {r:Rw} (h:OkC r):1≤manyR r∧manyR r≤9223372036854775807:=by
 unfold manyR
 split
 ·split
  ·omega
  ·rename_i h1 h2
   cases hq:look r.at_ (⟨#[110]⟩:ByteArray) with
   | none=>rw [hq] at h1;simp at h1
   | some v=>
    obtain ⟨a,ha,rfl⟩:=Option.map_eq_some_iff.1 hq
    have:=h.i a (List.mem_of_find?_eq_some ha)
    rw [hq] at h2
    simp only [Option.getD_some] at h2 ⊢
    obtain ⟨_,h4⟩:=this
    omega
 ·omega
set_option maxHeartbeats 1000000 in
theorem sumCount (l:List Rw) (hl:l.length<1000000) (hok : ∀ r∈l,OkC r) (S:Mem):CallD Tryz.prog orc 16 [.sl none 6 l.length (rowsC l)] S fun d S'=>S'=S∧d = .int .i64 (countR l):=by
 refine CallD.e Tryz.func16 rfl Tryz.ntmps16 (by rfl) ?_
 repeat' (first|refine Go.a rfl ?_|refine Go.rg ?_|refine GoR.nil ?_|refine Go.ret ?_|refine Go.b rfl ?_|(refine GoR.o (by rfl) (by rfl) ?_;(conv=>arg 1;simp only [G,Z,Y,Gx,un_neg,cutD,decide_true,decide_false,simprocAttr,fb2,fb3,fb9,fb22,fb33,fb61,fb63]);show GoR ..)|refine GoR.s (by rfl) rfl rfl ?_|(refine GoR.splitG rfl (fun hc => ?_) (fun hc => ?_)<;>simp only [hc])|refine Go.condB rfl (fun hc => ?_) (fun hc => ?_))
 refine Go.keep [(3,.int .i64 0),(8,.sl none 6 l.length (rowsC l)),(9,.int .i64 (l.length:Int)),(10,.int .i64 ((0:Nat):Int))] (.cons .refl (.cons .refl (.cons .refl (.cons .refl (.nil))))) ?_
 refine Go.while (α:=Nat×Int×Mem) (fun x=>l.length - x.1) (fun x=>[(3,.int .i64 x.2.1),(8,.sl none 6 l.length (rowsC l)),(9,.int .i64 (l.length:Int)),(10,.int .i64 (x.1:Int))]) (fun x=>x.2.2)
  (fun x=>x.1≤l.length∧x.2.1=countR (l.take x.1)∧in64 x.2.1 ∧ ∃ E,x.2.2=S++E) ?_ (0,0,S) ⟨Nat.zero_le _,rfl,(by unfold in64;omega:in64 0),[],by simp⟩
 rintro ⟨i,n,S1⟩ ⟨hi,hn,hin,E,hE⟩ next
 dsimp only at hi hn hin hE next
 by_cases h1:i<l.length
 ·have at1:=rowsAt h1
  have hr:=hok _ (List.getElem_mem h1)
  have hw:=fun S=>sumWhole (orc:=orc) l[i].at_ (⟨#[110]⟩:ByteArray) hr.rise hr.len hr.l S
  have hm:=manyR_in hr
  have hadd:=fun S=>valAdd (orc:=orc) n (manyR l[i]) hin (by unfold in64;omega) S
  have hnx:clampV (n+manyR l[i])=countR (l.take (i+1)):=by
   rw [hn,countR,countR,List.take_succ_eq_append_getElem h1,List.foldl_append]
   rfl
  rw [hnx] at hadd
  have hin2:in64 (countR (l.take (i+1))):=by rw [← hnx];exact clampV_in _
  have dl:decide ((i:Int)<(l.length:Int))=true:=by simp;omega
  have hmr:manyR l[i]=if (look l[i].at_ (⟨#[110]⟩:ByteArray)).isSome&&((look l[i].at_ (⟨#[110]⟩:ByteArray)).getD noVal).k==1 then (if ((look l[i].at_ (⟨#[110]⟩:ByteArray)).getD noVal).i<1 then 1 else ((look l[i].at_ (⟨#[110]⟩:ByteArray)).getD noVal).i) else 1:=rfl
  generalize manyR l[i]=mr at *
  generalize ((look l[i].at_ (⟨#[110]⟩:ByteArray)).getD noVal).i=vi at *
  generalize ((look l[i].at_ (⟨#[110]⟩:ByteArray)).isSome&&((look l[i].at_ (⟨#[110]⟩:ByteArray)).getD noVal).k==1)=ok at *
  have fin2 : ∀ E2:Mem,(n:Int)=n→i+1≤l.length∧countR (l.take (i+1))=countR (l.take (i+1))∧in64 (countR (l.take (i+1))) ∧ ∃ E3,S1++E2=S++E3:=fun E2 _=>⟨h1,rfl,hin2,E++E2,by rw [hE,List.append_assoc]⟩
  simp only [Rw.c] at at1
  cases ok with
  | false=>
   simp only [Bool.false_eq_true,if_false] at hw hmr
   subst hmr
   repeat' (first|refine Go.a rfl ?_|refine Go.rg ?_|refine GoR.nil ?_|refine Go.ret ?_|refine Go.b rfl ?_|(refine GoR.o (by rfl) (by rfl) ?_;(conv=>arg 1;simp only [G,Z,Y,Gx,un_neg,cutD,decide_true,decide_false,simprocAttr,fb2,fb3,fb9,fb22,fb33,fb61,fb63,dl,at1,wrap_succ (show i<4611686018427387904 by omega)]);show GoR ..)|(refine GoR.c c49 (by rfl) (by rfl) rfl ?_;(refine (hw _).ret ?_))|(refine GoR.c c21 (by rfl) (by rfl) rfl ?_;(refine (hadd _).ret ?_))|refine GoR.s (by rfl) rfl rfl ?_|(refine GoR.splitG rfl (fun hc => ?_) (fun hc => ?_)<;>simp only [hc])|refine Go.condB rfl (fun hc => ?_) (fun hc => ?_))
   refine Go.lpN ?_
   refine Go.keep [(3,.int .i64 (countR (l.take (i+1)))),(8,.sl none 6 l.length (rowsC l)),(9,.int .i64 (l.length:Int)),(10,.int .i64 ((i+1:Nat):Int))] (.cons .refl (.cons .refl (.cons .refl (.cons .refl (.nil))))) ?_
   exact next (i+1,_,_) (by dsimp only;omega) (fin2 _ rfl)
  | true=>
   simp only [if_true] at hw hmr
   by_cases hv:vi<1
   ·rw [if_pos hv] at hmr
    subst hmr
    repeat' (first|refine Go.a rfl ?_|refine Go.rg ?_|refine GoR.nil ?_|refine Go.ret ?_|refine Go.b rfl ?_|(refine GoR.o (by rfl) (by rfl) ?_;(conv=>arg 1;simp only [G,Z,Y,Gx,un_neg,cutD,decide_true,decide_false,simprocAttr,fb2,fb3,fb9,fb22,fb33,fb61,fb63,dl,at1,decide_eq_true hv,wrap_succ (show i<4611686018427387904 by omega)]);show GoR ..)|(refine GoR.c c49 (by rfl) (by rfl) rfl ?_;(refine (hw _).ret ?_))|(refine GoR.c c21 (by rfl) (by rfl) rfl ?_;(refine (hadd _).ret ?_))|refine GoR.s (by rfl) rfl rfl ?_|(refine GoR.splitG rfl (fun hc => ?_) (fun hc => ?_)<;>simp only [hc])|refine Go.condB rfl (fun hc => ?_) (fun hc => ?_))
    refine Go.lpN ?_
    refine Go.keep [(3,.int .i64 (countR (l.take (i+1)))),(8,.sl none 6 l.length (rowsC l)),(9,.int .i64 (l.length:Int)),(10,.int .i64 ((i+1:Nat):Int))] (.cons .refl (.cons .refl (.cons .refl (.cons .refl (.nil))))) ?_
    exact next (i+1,_,_) (by dsimp only;omega) (fin2 _ rfl)
   ·rw [if_neg hv] at hmr
    subst hmr
    repeat' (first|refine Go.a rfl ?_|refine Go.rg ?_|refine GoR.nil ?_|refine Go.ret ?_|refine Go.b rfl ?_|(refine GoR.o (by rfl) (by rfl) ?_;(conv=>arg 1;simp only [G,Z,Y,Gx,un_neg,cutD,decide_true,decide_false,simprocAttr,fb2,fb3,fb9,fb22,fb33,fb61,fb63,dl,at1,decide_eq_false hv,wrap_succ (show i<4611686018427387904 by omega)]);show GoR ..)|(refine GoR.c c49 (by rfl) (by rfl) rfl ?_;(refine (hw _).ret ?_))|(refine GoR.c c21 (by rfl) (by rfl) rfl ?_;(refine (hadd _).ret ?_))|refine GoR.s (by rfl) rfl rfl ?_|(refine GoR.splitG rfl (fun hc => ?_) (fun hc => ?_)<;>simp only [hc])|refine Go.condB rfl (fun hc => ?_) (fun hc => ?_))
    refine Go.lpN ?_
    refine Go.keep [(3,.int .i64 (countR (l.take (i+1)))),(8,.sl none 6 l.length (rowsC l)),(9,.int .i64 (l.length:Int)),(10,.int .i64 ((i+1:Nat):Int))] (.cons .refl (.cons .refl (.cons .refl (.cons .refl (.nil))))) ?_
    exact next (i+1,_,_) (by dsimp only;omega) (fin2 _ rfl)
 ·clear next
  obtain rfl:i=l.length:=by omega
  rw [List.take_length] at hn
  subst hn
  repeat' (first|refine Go.a rfl ?_|refine Go.rg ?_|refine GoR.nil ?_|refine Go.ret ?_|refine Go.b rfl ?_|(refine GoR.o (by rfl) (by rfl) ?_;(conv=>arg 1;simp only [G,Z,Y,Gx,un_neg,cutD,decide_true,decide_false,simprocAttr,fb2,fb3,fb9,fb22,fb33,fb61,fb63,show decide ((l.length:Int)<(l.length:Int))=false by simp]);show GoR ..)|refine GoR.s (by rfl) rfl rfl ?_|(refine GoR.splitG rfl (fun hc => ?_) (fun hc => ?_)<;>simp only [hc])|refine Go.condB rfl (fun hc => ?_) (fun hc => ?_))
  refine ⟨(by first | exact .inl rfl | exact .inr rfl),fin ?_⟩
  rw [resD_tmp (fn:=Tryz.f16) rfl]
  simp only [optThen_some,resultD_tmp,resultD_cell,G,Z,Y,Gx,un_neg,cutD,decide_true,decide_false,simprocAttr,fb2,fb3,fb9,fb22,fb33,fb61,fb63]
  exact ⟨_,E,hE,.int,rfl⟩
theorem fewR_few0 {r:Rw} (h:fewR r=true):FewR r∧r.at_.length≤40:=by
 simp only [fewR,Bool.and_eq_true,decide_eq_true_eq] at h
 obtain ⟨h1,h2,h3⟩:=h
 exact ⟨fewR_of (k:=r.key) (st:=r.st) (l:=r.at_) (by omega) (by omega) h3,(fewA_size h3).1⟩
theorem fewR_few' {r:Rw} (h:fewR r=true):FewR r:=(fewR_few0 h).1
theorem rise14 (l:List Rw) (S:Mem):CallD Tryz.prog O 8 [.sl none 6 l.length (rowsC l)] S fun d S'=>S'=S ∧ ∃ b,d = .bool b∧(b=true→l.length≤64 ∧ ∀ r∈l,fewR r=true∧chkR r=0):=by
 have hf:=fun S=>fewRows (orc:=O) l S
 refine CallD.e Tryz.func8 rfl Tryz.ntmps8 (by rfl) ?_
 cases hq:(decide (l.length≤70)&&l.all fewR) with
 | false=>
  rw [hq] at hf
  repeat' (first|refine Go.a rfl ?_|refine Go.rg ?_|refine GoR.nil ?_|refine Go.ret ?_|refine Go.b rfl ?_|refine Go.rgS dmx (by decide) ?_|(refine GoR.o (by rfl) (by rfl) ?_;(conv=>arg 1;simp only [G,Z,Y,Gx,un_neg,cutD,decide_true,decide_false,simprocAttr,fb3,fb9,fb22,fb33,fb61,fb63]);show GoR ..)|(refine GoR.c c26 (by rfl) (by rfl) rfl ?_;(refine (hf _).ret ?_))|refine GoR.s (by rfl) rfl rfl ?_|(refine GoR.splitG rfl (fun hc => ?_) (fun hc => ?_)<;>simp only [hc])|refine Go.condB rfl (fun hc => ?_) (fun hc => ?_))
  refine ⟨(by first | exact .inl rfl | exact .inr rfl),fin ?_⟩
  rw [resD_tmp (fn:=Tryz.f8) rfl]
  simp only [optThen_some,resultD_tmp,resultD_cell,G,Z,Y,Gx,un_neg,cutD,decide_true,decide_false,simprocAttr,fb3,fb9,fb22,fb33,fb61,fb63]
  exact ⟨_,[],by simp,.bool,false,rfl,fun h=>by cases h⟩
 | true=>
 rw [hq] at hf
 simp only [Bool.and_eq_true,decide_eq_true_eq,List.all_eq_true] at hq
 by_cases h64:64<l.length
 ·repeat' (first|refine Go.a rfl ?_|refine Go.rg ?_|refine GoR.nil ?_|refine Go.ret ?_|refine Go.b rfl ?_|refine Go.rgS dmx (by decide) ?_|(refine GoR.o (by rfl) (by rfl) ?_;(conv=>arg 1;simp only [G,Z,Y,Gx,un_neg,cutD,decide_true,decide_false,simprocAttr,fb3,fb9,fb22,fb33,fb61,fb63,show decide (64<(l.length:Int))=true by simp;omega]);show GoR ..)|(refine GoR.c c26 (by rfl) (by rfl) rfl ?_;(refine (hf _).ret ?_))|refine GoR.s (by rfl) rfl rfl ?_|(refine GoR.splitG rfl (fun hc => ?_) (fun hc => ?_)<;>simp only [hc])|refine Go.condB rfl (fun hc => ?_) (fun hc => ?_))
  refine ⟨(by first | exact .inl rfl | exact .inr rfl),fin ?_⟩
  rw [resD_tmp (fn:=Tryz.f8) rfl]
  simp only [optThen_some,resultD_tmp,resultD_cell,G,Z,Y,Gx,un_neg,cutD,decide_true,decide_false,simprocAttr,fb3,fb9,fb22,fb33,fb61,fb63]
  exact ⟨_,[],by simp,.bool,false,rfl,fun h=>by cases h⟩
 repeat' (first|refine Go.a rfl ?_|refine Go.rg ?_|refine GoR.nil ?_|refine Go.ret ?_|refine Go.b rfl ?_|refine Go.rgS dmx (by decide) ?_|(refine GoR.o (by rfl) (by rfl) ?_;(conv=>arg 1;simp only [G,Z,Y,Gx,un_neg,cutD,decide_true,decide_false,simprocAttr,fb3,fb9,fb22,fb33,fb61,fb63,show decide (64<(l.length:Int))=false by simp;omega]);show GoR ..)|(refine GoR.c c26 (by rfl) (by rfl) rfl ?_;(refine (hf _).ret ?_))|refine GoR.s (by rfl) rfl rfl ?_|(refine GoR.splitG rfl (fun hc => ?_) (fun hc => ?_)<;>simp only [hc])|refine Go.condB rfl (fun hc => ?_) (fun hc => ?_))
 refine Go.keep [(0,.sl none 6 l.length (rowsC l)),(3,.int .i64 ((0:Nat):Int))] (.cons .refl (.cons .refl (.nil))) ?_
 refine Go.while (α:=Nat) (fun i=>l.length - i) (fun i=>[(0,.sl none 6 l.length (rowsC l)),(3,.int .i64 (i:Int))]) (fun _=>S) (fun i=>i≤l.length ∧ ∀ j (h:j<l.length),j<i→chkR l[j]=0) ?_ 0 ⟨Nat.zero_le _,by simp⟩
 rintro i ⟨hi,hk⟩ next
 by_cases h1:i<l.length
 ·have dl:decide ((i:Int)<(l.length:Int))=true:=by simp;omega
  have at1:=rowsAt h1
  have hfr:=hq.2 _ (List.getElem_mem h1)
  have hfr2:FewR l[i]:=fewR_few' hfr
  have hat:l[i].at_.length≤1000000:=by
   simp only [fewR,Bool.and_eq_true,decide_eq_true_eq] at hfr
   have:=(fewA_size hfr.2.2).1
   omega
  have h4:=fun S=>of4 (orc:=O) l[i] hat S
  have hck:=fun S=>refCheck l[i] hfr2 S
  simp only [Rw.c] at at1 h4 hck
  by_cases hc0:chkR l[i]=0
  ·rw [hc0] at hck
   have hk2 : ∀ j (h:j<l.length),j<i+1→chkR l[j]=0:=fun j hj hlt=>by
    rcases Nat.lt_or_ge j i with h | h
    ·exact hk j hj h
    ·obtain rfl:j=i:=by omega
     exact hc0
   by_cases h0:i=0
   ·repeat' (first|refine Go.a rfl ?_|refine Go.rg ?_|refine GoR.nil ?_|refine Go.ret ?_|refine Go.b rfl ?_|refine Go.rgS dmx (by decide) ?_|(refine GoR.o (by rfl) (by rfl) ?_;(conv=>arg 1;simp only [G,Z,Y,Gx,un_neg,cutD,decide_true,decide_false,simprocAttr,fb3,fb9,fb22,fb33,fb61,fb63,dl,at1,bne_self_eq_false,show decide ((0:Int)<(i:Int))=false by simp;omega,wrap_succ (show i<4611686018427387904 by omega)]);show GoR ..)|(refine GoR.c c28 (by rfl) (by rfl) rfl ?_;(refine (h4 _).ret ?_))|(refine GoR.c c27 (by rfl) (by rfl) rfl ?_;(refine (hck _).ret ?_))|refine GoR.s (by rfl) rfl rfl ?_|(refine GoR.splitG rfl (fun hc => ?_) (fun hc => ?_)<;>simp only [hc])|refine Go.condB rfl (fun hc => ?_) (fun hc => ?_))
    refine Go.lpN ?_
    refine Go.keep [(0,.sl none 6 l.length (rowsC l)),(3,.int .i64 ((i+1:Nat):Int))] (.cons .refl (.cons .refl (.nil))) ?_
    exact next (i+1) (by omega) ⟨h1,hk2⟩
   ·have hp:i - 1<l.length:=by omega
    have at2:=rowsAt hp
    have w1:IntKind.i64.wrap ((i:Int) - 1)=((i - 1:Nat):Int):=by rw [wrap64 (by omega) (by omega)];omega
    have k1:(rowsC l)[(i - 1)*6]?=some (.str l[i - 1].key):=flat_cell0 row_len l (i - 1) hp (by omega)
    have k2:(rowsC l)[i*6]?=some (.str l[i].key):=flat_cell0 row_len l i h1 (by omega)
    repeat' (first|refine Go.a rfl ?_|refine Go.rg ?_|refine GoR.nil ?_|refine Go.ret ?_|refine Go.b rfl ?_|refine Go.rgS dmx (by decide) ?_|(refine GoR.o (by rfl) (by rfl) ?_;(conv=>arg 1;simp only [G,Z,Y,Gx,un_neg,cutD,decide_true,decide_false,simprocAttr,fb3,fb9,fb22,fb33,fb61,fb63,dl,at1,at2,k1,k2,w1,bne_self_eq_false,show decide ((0:Int)<(i:Int))=true by simp;omega,wrap_succ (show i<4611686018427387904 by omega)]);show GoR ..)|(refine GoR.c c28 (by rfl) (by rfl) rfl ?_;(refine (h4 _).ret ?_))|(refine GoR.c c27 (by rfl) (by rfl) rfl ?_;(refine (hck _).ret ?_))|refine GoR.s (by rfl) rfl rfl ?_|(refine GoR.splitG rfl (fun hc => ?_) (fun hc => ?_)<;>simp only [hc])|refine Go.condB rfl (fun hc => ?_) (fun hc => ?_))
    ·refine ⟨(by first | exact .inl rfl | exact .inr rfl),fin ?_⟩
     rw [resD_tmp (fn:=Tryz.f8) rfl]
     simp only [optThen_some,resultD_tmp,resultD_cell,G,Z,Y,Gx,un_neg,cutD,decide_true,decide_false,simprocAttr,fb3,fb9,fb22,fb33,fb61,fb63]
     exact ⟨_,[],by simp,.bool,false,rfl,fun h=>by cases h⟩
    ·refine Go.lpN ?_
     refine Go.keep [(0,.sl none 6 l.length (rowsC l)),(3,.int .i64 ((i+1:Nat):Int))] (.cons .refl (.cons .refl (.nil))) ?_
     exact next (i+1) (by omega) ⟨h1,hk2⟩
  ·clear next
   repeat' (first|refine Go.a rfl ?_|refine Go.rg ?_|refine GoR.nil ?_|refine Go.ret ?_|refine Go.b rfl ?_|refine Go.rgS dmx (by decide) ?_|(refine GoR.o (by rfl) (by rfl) ?_;(conv=>arg 1;simp only [G,Z,Y,Gx,un_neg,cutD,decide_true,decide_false,simprocAttr,fb3,fb9,fb22,fb33,fb61,fb63,dl,at1,show (chkR l[i] != 0)=true by simpa using hc0]);show GoR ..)|(refine GoR.c c28 (by rfl) (by rfl) rfl ?_;(refine (h4 _).ret ?_))|(refine GoR.c c27 (by rfl) (by rfl) rfl ?_;(refine (hck _).ret ?_))|refine GoR.s (by rfl) rfl rfl ?_|(refine GoR.splitG rfl (fun hc => ?_) (fun hc => ?_)<;>simp only [hc])|refine Go.condB rfl (fun hc => ?_) (fun hc => ?_))
   refine ⟨(by first | exact .inl rfl | exact .inr rfl),fin ?_⟩
   rw [resD_tmp (fn:=Tryz.f8) rfl]
   simp only [optThen_some,resultD_tmp,resultD_cell,G,Z,Y,Gx,un_neg,cutD,decide_true,decide_false,simprocAttr,fb3,fb9,fb22,fb33,fb61,fb63]
   exact ⟨_,[],by simp,.bool,false,rfl,fun h=>by cases h⟩
 ·clear next
  repeat' (first|refine Go.a rfl ?_|refine Go.rg ?_|refine GoR.nil ?_|refine Go.ret ?_|refine Go.b rfl ?_|refine Go.rgS dmx (by decide) ?_|(refine GoR.o (by rfl) (by rfl) ?_;(conv=>arg 1;simp only [G,Z,Y,Gx,un_neg,cutD,decide_true,decide_false,simprocAttr,fb3,fb9,fb22,fb33,fb61,fb63,show decide ((i:Int)<(l.length:Int))=false by simp;omega]);show GoR ..)|refine GoR.s (by rfl) rfl rfl ?_|(refine GoR.splitG rfl (fun hc => ?_) (fun hc => ?_)<;>simp only [hc])|refine Go.condB rfl (fun hc => ?_) (fun hc => ?_))
  refine ⟨(by first | exact .inl rfl | exact .inr rfl),fin ?_⟩
  rw [resD_tmp (fn:=Tryz.f8) rfl]
  simp only [optThen_some,resultD_tmp,resultD_cell,G,Z,Y,Gx,un_neg,cutD,decide_true,decide_false,simprocAttr,fb3,fb9,fb22,fb33,fb61,fb63]
  exact ⟨_,[],by simp,.bool,true,rfl,fun _=>⟨by omega,fun r hr=>⟨hq.2 r hr,by
   obtain ⟨j,hj,rfl⟩:=List.mem_iff_getElem.1 hr
   exact hk j hj (by omega)⟩⟩⟩
end Go.Proofs.DvT
