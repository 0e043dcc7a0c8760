/- The document's table: looked at. -/
import Derived.Test.YtlllhmenekibjaaGreatDoorDtT8x
import Derived.Test.YtlllhmenekibjaaGreatDoorDmOx
set_option linter.unusedSimpArgs false
set_option linter.unusedVariables false
namespace Go.Proofs.DtT
open Go Go.DM Go.Proofs.DtF
set_option maxRecDepth 100000
variable {orc:DOracle}
def refT (most:Int) (l:List Rw):List D:=[.int .i64 most,.sl none 6 l.length (rowsC l)]
theorem refT_low {n:Nat} {most:Int} {l:List Rw} : LowL n (refT most l):=.cons (.int _ _) (.cons (.sl' (rows_low l)) .nil)
theorem rowKey {l:List Rw} {i:Nat} (h:i<l.length):(rowsC l)[i*6]?=some (.str l[i].key):=flat_cell0 row_len l i h (by omega)
theorem rowSt {l:List Rw} {i:Nat} (h:i<l.length):((i*6+1+4≤(rowsC l).length)=True)∧((rowsC l).drop (i*6+1)).take 4=l[i].st.c:=⟨flat_fits row_len l i h (by omega),flat_part row_len l i h (by omega)⟩
theorem rowTick {l:List Rw} {i:Nat} (h:i<l.length):(rowsC l)[i*6+1]?=some (.int .i64 l[i].st.tick):=flat_cell row_len l i h (by omega)
theorem refAt {most:Int} {l:List Rw} (hr:RiseB Rw.key l) (hl:l.length<1000000) (s:ByteArray) (S:Mem):CallD Tryz.prog orc 54 [.agg (refT most l),.str s] S fun d S'=>S'=S∧d = .tup [.int .i64 ((posK Rw.key l s:Nat):Int),.bool (lookK Rw.key l s).isSome]:=by
 unfold refT
 refine CallD.e Tryz.func54 rfl Tryz.ntmps54 (by rfl) ?_
 repeat' (first|refine Go.a rfl ?_|refine Go.rg ?_|refine GoR.nil ?_|refine Go.ret ?_|refine Go.b rfl ?_|refine Go.rgS dmx (by decide) ?_|(refine GoR.o (by rfl) (by rfl) ?_;(conv=>arg 1;simp only [G,Z,Y,Gx,un_neg,cutD,decide_true,decide_false,simprocAttr,fb3,fb9,fb28,fb30,fb41,fb42,fb44]);show GoR ..)|refine GoR.s (by rfl) rfl rfl ?_|(refine GoR.splitG rfl (fun hc => ?_) (fun hc => ?_)<;>simp only [hc])|refine Go.condB rfl (fun hc => ?_) (fun hc => ?_))
 refine Go.keep [(1,.str s),(2,.ptr S.length 0),(6,.int .i64 ((0:Nat):Int))] (.cons .refl (.cons .refl (.cons .refl (.nil)))) ?_
 refine Go.while (α:=Nat) (fun i=>l.length - i) (fun i=>[(1,.str s),(2,.ptr S.length 0),(6,.int .i64 (i:Int))]) (fun _=>S++[.obj (refT most l)]) (fun i=>i≤posK Rw.key l s) ?_ 0 (Nat.zero_le _)
 intro i hi next
 unfold refT
 have hpl:=posK_le (f:=Rw.key) l s
 by_cases h1:i<posK Rw.key l s
 ·have h2:i<l.length:=by omega
  have hbl:Op.bytesLess l[i].key.toList s.toList=true:=posK_lt h2 h1
  repeat' (first|refine Go.a rfl ?_|refine Go.rg ?_|refine GoR.nil ?_|refine Go.ret ?_|refine Go.b rfl ?_|refine Go.rgS dmx (by decide) ?_|(refine GoR.o (by rfl) (by rfl) ?_;(conv=>arg 1;simp only [G,Z,Y,Gx,un_neg,cutD,decide_true,decide_false,simprocAttr,fb3,fb9,fb28,fb30,fb41,fb42,fb44,show decide ((i:Int)<(l.length:Int))=true by simp;omega,rowsAt h2,rowKey h2,hbl,wrap_succ (show i<4611686018427387904 by omega)]);show GoR ..)|refine GoR.s (by rfl) rfl rfl ?_|(refine GoR.splitG rfl (fun hc => ?_) (fun hc => ?_)<;>simp only [hc])|refine Go.condB rfl (fun hc => ?_) (fun hc => ?_))
  refine Go.lpN ?_
  refine Go.keep [(1,.str s),(2,.ptr S.length 0),(6,.int .i64 ((i+1:Nat):Int))] (.cons .refl (.cons .refl (.cons .refl (.nil)))) ?_
  exact next (i+1) (by omega) h1
 ·clear next
  obtain rfl:i=posK Rw.key l s:=by omega
  by_cases h2:posK Rw.key l s<l.length
  ·have hbl:Op.bytesLess l[posK Rw.key l s].key.toList s.toList=false:=posK_ge h2
   have hq:(lookK Rw.key l s).isSome=decide (l[posK Rw.key l s].key=s):=by
    rw [Bool.eq_iff_iff,decide_eq_true_eq]
    refine ⟨fun h=>(posK_at hr h).2,fun h => ?_⟩
    have:=lookK_getElem hr h2
    rw [h] at this
    rw [this]
    rfl
   rw [hq]
   have hk:=rowKey h2
   have ha:=rowsAt h2
   generalize l[posK Rw.key l s].key=kk at *
   generalize posK Rw.key l s=i at *
   repeat' (first|refine Go.a rfl ?_|refine Go.rg ?_|refine GoR.nil ?_|refine Go.ret ?_|refine Go.b rfl ?_|refine Go.rgS dmx (by decide) ?_|(refine GoR.o (by rfl) (by rfl) ?_;(conv=>arg 1;simp only [G,Z,Y,Gx,un_neg,cutD,decide_true,decide_false,simprocAttr,fb3,fb9,fb28,fb30,fb41,fb42,fb44,show decide ((i:Int)<(l.length:Int))=true by simp;omega,ha,hk,hbl]);show GoR ..)|refine GoR.s (by rfl) rfl rfl ?_|(refine GoR.splitG rfl (fun hc => ?_) (fun hc => ?_)<;>simp only [hc])|refine Go.condB rfl (fun hc => ?_) (fun hc => ?_))
   refine ⟨(by first | exact .inl rfl | exact .inr rfl),fin ?_⟩
   rw [resD_two (fn:=Tryz.f54) rfl]
   simp only [optThen_some,resultD_tmp,resultD_cell,G,Z,Y,Gx,un_neg,cutD,decide_true,decide_false,simprocAttr,fb3,fb9,fb28,fb30,fb41,fb42,fb44]
   exact ⟨_,_,rfl,.of_low (.tup' (.cons (.int _ _) (.cons (.bool _) .nil))),rfl⟩
  ·have hq:(lookK Rw.key l s).isSome=false:=by
    cases hq:(lookK Rw.key l s).isSome with
    | false=>rfl
    | true=>exact absurd (posK_at hr hq).1 h2
   rw [hq]
   generalize posK Rw.key l s=i at *
   repeat' (first|refine Go.a rfl ?_|refine Go.rg ?_|refine GoR.nil ?_|refine Go.ret ?_|refine Go.b rfl ?_|refine Go.rgS dmx (by decide) ?_|(refine GoR.o (by rfl) (by rfl) ?_;(conv=>arg 1;simp only [G,Z,Y,Gx,un_neg,cutD,decide_true,decide_false,simprocAttr,fb3,fb9,fb28,fb30,fb41,fb42,fb44,show decide ((i:Int)<(l.length:Int))=false by simp;omega]);show GoR ..)|refine GoR.s (by rfl) rfl rfl ?_|(refine GoR.splitG rfl (fun hc => ?_) (fun hc => ?_)<;>simp only [hc])|refine Go.condB rfl (fun hc => ?_) (fun hc => ?_))
   refine ⟨(by first | exact .inl rfl | exact .inr rfl),fin ?_⟩
   rw [resD_two (fn:=Tryz.f54) rfl]
   simp only [optThen_some,resultD_tmp,resultD_cell,G,Z,Y,Gx,un_neg,cutD,decide_true,decide_false,simprocAttr,fb3,fb9,fb28,fb30,fb41,fb42,fb44]
   exact ⟨_,_,rfl,.of_low (.tup' (.cons (.int _ _) (.cons (.bool _) .nil))),rfl⟩
theorem refGetT {most:Int} {l:List Rw} (hr:RiseB Rw.key l) (hl:l.length<1000000) (s:ByteArray) (S:Mem):CallD Tryz.prog orc 13 [.agg (refT most l),.str s] S fun d S'=>S'=S∧d = .tup [.agg ((lookK Rw.key l s).getD noRow).c,.bool (lookK Rw.key l s).isSome]:=by
 have hat:=fun S=>refAt (orc:=orc) (most:=most) hr hl s S
 cases hq:lookK Rw.key l s with
 | none=>
  rw [hq] at hat
  simp only [Option.getD_none,Option.isSome_none,Rw.c,noRow,refT] at *
  refine CallD.e Tryz.func13 rfl Tryz.ntmps13 (by rfl) ?_
  repeat' (first|refine Go.a rfl ?_|refine Go.rg ?_|refine GoR.nil ?_|refine Go.ret ?_|refine Go.b rfl ?_|(refine GoR.o (by rfl) (by rfl) ?_;(conv=>arg 1;simp only [G,Z,Y,Gx,un_neg,cutD,decide_true,decide_false,simprocAttr,fb3,fb9,fb28,fb30,fb41,fb42,fb44]);show GoR ..)|(refine GoR.c c54 (by rfl) (by rfl) rfl ?_;(refine (hat _).ret ?_))|refine Go.condB rfl (fun hc => ?_) (fun hc => ?_))
  refine ⟨(by first | exact .inl rfl | exact .inr rfl),fin ?_⟩
  rw [resD_two (fn:=Tryz.f13) rfl]
  simp only [optThen_some,resultD_tmp,resultD_cell,G,Z,Y,Gx,un_neg,cutD,decide_true,decide_false,simprocAttr,fb3,fb9,fb28,fb30,fb41,fb42,fb44]
  exact ⟨_,_,rfl,(Wf.tup' (.cons (.agg' (.cons .refl (.cons .refl (.cons .refl (.cons .refl (.cons .refl (.cons .nilE .nil))))))) (.cons .refl .nil))).to_Wk (.tup' (.cons (.agg' (row_low noRow)) (.cons (.bool _) .nil))),rfl⟩
 | some r=>
  have hso:(lookK Rw.key l s).isSome=true:=by rw [hq];rfl
  obtain ⟨hi,hk⟩:=posK_at hr hso
  have e:l[posK Rw.key l s]=r:=by
   have:=lookK_getElem hr hi
   rw [hk,hq] at this
   exact (Option.some.inj this).symm
  rw [hq] at hat
  have at1:=rowsAt hi
  rw [e] at at1
  generalize posK Rw.key l s=i at *
  simp only [Option.getD_some,Option.isSome_some,Rw.c,refT] at *
  refine CallD.e Tryz.func13 rfl Tryz.ntmps13 (by rfl) ?_
  repeat' (first|refine Go.a rfl ?_|refine Go.rg ?_|refine GoR.nil ?_|refine Go.ret ?_|refine Go.b rfl ?_|(refine GoR.o (by rfl) (by rfl) ?_;(conv=>arg 1;simp only [G,Z,Y,Gx,un_neg,cutD,decide_true,decide_false,simprocAttr,fb3,fb9,fb28,fb30,fb41,fb42,fb44,at1]);show GoR ..)|(refine GoR.c c54 (by rfl) (by rfl) rfl ?_;(refine (hat _).ret ?_))|refine Go.condB rfl (fun hc => ?_) (fun hc => ?_))
  refine ⟨(by first | exact .inl rfl | exact .inr rfl),fin ?_⟩
  rw [resD_two (fn:=Tryz.f13) rfl]
  simp only [optThen_some,resultD_tmp,resultD_cell,G,Z,Y,Gx,un_neg,cutD,decide_true,decide_false,simprocAttr,fb3,fb9,fb28,fb30,fb41,fb42,fb44]
  exact ⟨_,_,rfl,.of_low (.tup' (.cons (.agg' (row_low r)) (.cons (.bool _) .nil))),rfl⟩
end Go.Proofs.DtT
namespace Go.Proofs.DtT
open Go Go.DM Go.Proofs.DtF
set_option maxRecDepth 100000
variable {orc:DOracle}
theorem fewR_ok {r:Rw} (h:fewR r=true):FewR r∧OkR r:=by
 simp only [fewR,Bool.and_eq_true,decide_eq_true_eq] at h
 obtain ⟨h1,h2,h3⟩:=h
 obtain ⟨h4,h5⟩:=fewA_size h3
 exact ⟨fewR_of (k:=r.key) (st:=r.st) (l:=r.at_) (by omega) (by omega) h3,by omega,fun a ha=>by have:=h5 a ha;omega⟩
theorem putT_err {most:Int} {l:List Rw} {r:Rw} (h : ¬ (putT most l r).2=0):(putT most l r).1=l:=by
 unfold putT at *
 split
 ·rfl
 ·rename_i hc
  rw [if_neg hc] at h
  split
  ·rename_i o hq
   rw [hq] at h
   dsimp only at h
   split
   ·rename_i hn
    rw [if_pos hn] at h
    exact absurd rfl h
   ·rfl
  ·rename_i hq
   rw [hq] at h
   dsimp only at h
   split
   ·rename_i hm
    rw [if_pos hm] at h
    split
    ·rename_i hn
     rw [if_pos hn] at h
     exact absurd rfl h
    ·rfl
   ·rename_i hm
    rw [if_neg hm] at h
    exact absurd rfl h
theorem sameA_self (a:Att):sameA a a=true:=by
 have h:cmpV a.v a.v=0:=by
  have hl : ∀ l:List Int,cmpL l l=0:=by
   intro l
   induction l with
   | nil=>rfl
   | cons x l ih=>simp [cmpL,cmpI,ih]
  have hb : ∀ s:ByteArray,cmpB s s=0:=fun s=>cmpB_zero.2 rfl
  unfold cmpV
  simp [cmpI,hl,hb,orI]
 unfold sameA
 simp [h]
theorem sameR_self (r:Rw):sameR r r=true:=by
 have hl : ∀ l:List Att,sameL l l=true:=by
  intro l
  induction l with
  | nil=>rfl
  | cons a l ih=>simp [sameL,sameA_self,ih]
 have hs:cmpSt r.st r.st=0:=by
  have hb : ∀ s:ByteArray,cmpB s s=0:=fun s=>cmpB_zero.2 rfl
  unfold cmpSt
  simp [cmpI,hb,orI]
 unfold sameR
 simp [hl,hs]
def ltSt (a b:St):Prop:=a.tick<b.tick∨(a.tick=b.tick∧(a.inc<b.inc∨(a.inc=b.inc∧(a.seq<b.seq∨(a.seq=b.seq∧ltB a.org b.org=true)))))
theorem cmpSt_cases (a b:St):(cmpSt a b = -1∧ltSt a b)∨(cmpSt a b=0∧a=b)∨(cmpSt a b=1∧ltSt b a):=by
 obtain ⟨a1,a2,a3,a4⟩:=a
 obtain ⟨b1,b2,b3,b4⟩:=b
 have key : ∀ x y:Int,(cmpI x y = -1∧x<y)∨(cmpI x y=0∧x=y)∨(cmpI x y=1∧y<x):=by
  intro x y
  unfold cmpI
  rcases Int.lt_trichotomy x y with h | h | h
  ·exact .inl ⟨by rw [if_pos h],h⟩
  ·exact .inr (.inl ⟨by rw [if_neg (by omega),if_neg (by omega)],h⟩)
  ·exact .inr (.inr ⟨by rw [if_neg (by omega),if_pos h],h⟩)
 have keyB:(cmpB a4 b4 = -1∧ltB a4 b4=true)∨(cmpB a4 b4=0∧a4=b4)∨(cmpB a4 b4=1∧ltB b4 a4=true):=by
  unfold cmpB
  rcases ltB_total a4 b4 with h | h | h
  ·exact .inl ⟨by rw [if_pos h],h⟩
  ·subst h
   exact .inr (.inl ⟨by rw [if_neg (by rw [ltB_irrefl];decide),if_pos rfl],rfl⟩)
  ·have h1:=ltB_asymm h
   refine .inr (.inr ⟨?_,h⟩)
   rw [if_neg (by rw [h1];decide),if_neg]
   rintro rfl
   rw [ltB_irrefl] at h
   cases h
 simp only [cmpSt,orI,ltSt,St.mk.injEq]
 rcases key a1 b1 with ⟨e1,h1⟩ | ⟨e1,h1⟩ | ⟨e1,h1⟩<;>rw [e1]
 ·simp [h1]
 ·subst h1
  rcases key a2 b2 with ⟨e2,h2⟩ | ⟨e2,h2⟩ | ⟨e2,h2⟩<;>rw [e2]
  ·simp [h2]
  ·subst h2
   rcases key a3 b3 with ⟨e3,h3⟩ | ⟨e3,h3⟩ | ⟨e3,h3⟩<;>rw [e3]
   ·simp [h3]
   ·subst h3
    rcases keyB with ⟨e4,h4⟩ | ⟨e4,h4⟩ | ⟨e4,h4⟩<;>rw [e4]
    ·simp [h4]
    ·simp [h4]
    ·simp [h4]
   ·simp [h3]
  ·simp [h2]
 ·simp [h1]
theorem ltSt_trans {a b c:St} (h:ltSt a b) (k:ltSt b c):ltSt a c:=by
 unfold ltSt at *
 rcases h with h | ⟨h1,h | ⟨h2,h | ⟨h3,h⟩⟩⟩<;>rcases k with k | ⟨k1,k | ⟨k2,k | ⟨k3,k⟩⟩⟩ <;>
  first
   | (exact .inr ⟨by omega,.inr ⟨by omega,.inr ⟨by omega,ltB_trans h k⟩⟩⟩)
   | (exact .inl (by omega))
   | (exact .inr ⟨by omega,.inl (by omega)⟩)
   | (exact .inr ⟨by omega,.inr ⟨by omega,.inl (by omega)⟩⟩)
theorem ltSt_irrefl (a:St) : ¬ ltSt a a:=by
 unfold ltSt
 rw [ltB_irrefl]
 rintro (h | ⟨_,h | ⟨_,h | ⟨_,h⟩⟩⟩)
 ·omega
 ·omega
 ·omega
 ·cases h
theorem cmpSt_swap (a b:St):cmpSt b a=0 - cmpSt a b:=by
 rcases cmpSt_cases a b with ⟨e,h⟩ | ⟨e,h⟩ | ⟨e,h⟩<;>rcases cmpSt_cases b a with ⟨e2,h2⟩ | ⟨e2,h2⟩ | ⟨e2,h2⟩<;>rw [e,e2]<;>first
  | rfl
  | (exact absurd (ltSt_trans h h2) (ltSt_irrefl _))
  | (subst h;exact absurd h2 (ltSt_irrefl _))
  | (subst h2;exact absurd h (ltSt_irrefl _))
end Go.Proofs.DtT
