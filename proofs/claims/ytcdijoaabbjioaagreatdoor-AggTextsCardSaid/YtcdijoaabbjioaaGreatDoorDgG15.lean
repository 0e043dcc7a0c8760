/- A fold out of a text, by the document. -/
import Derived.Test.YtcdijoaabbjioaaGreatDoorDgG12x
import Derived.Test.YtcdijoaabbjioaaGreatDoorDgP9x
set_option linter.unusedSimpArgs false
set_option linter.unusedVariables false
namespace Go.Proofs.DgT
open Go Go.DM
set_option maxRecDepth 100000
theorem Fam.three (S:Mem) (x1 x3:Ob) (E:Mem):Fam (fun c=>S++(x1 :: .obj c::x3::E)) (S.length+1) (S.length+(E.length+3)):=
 ⟨by omega,fun c=>by simp,fun c=>by simp [objAt,List.getElem?_append_right],fun c c'=>by
  show (S++(x1 :: .obj c::x3::E)).set (S.length+1) _=_
  rw [set_app]
  rfl⟩
theorem AccE.ext {n:Nat} {w:D} {ws:List Cd} {E:Mem} (h:AccE n w ws E) (X:Mem):AccE n w ws (E++X):=by
 rcases h with h | ⟨h1,k,h2,h3⟩
 ·exact .inl h
 ·exact .inr ⟨h1,k,h2,by rw [List.getElem?_append_left (List.getElem?_eq_some_iff.1 h3).1];exact h3⟩
theorem AccE.moreR {n:Nat} {w:D} {ws:List Cd} {E:Mem} (h:AccE n w ws E) (hl:ws.length<1000) (c:Cd) {S0:Mem} (h0:S0.length=n+2) :
  ∃ w' E',(∀ own,appendD Tryz.prog #[35,35] w (.sl own 9 1 (Cd.c c)) (S0++(E++[.own]))=some (w',S0++E'))∧AccE n w' (ws++[c]) E':=by
 have ha:=(h.acc h0).app [.own]
 rw [List.append_assoc] at ha
 obtain ⟨w',S',hap,hacc,hg⟩:=ha.append (P:=Tryz.prog) del35 (own:=none) (m:=1) (new:=Cd.c c) (by simp;omega) (by omega) ⟨by omega,by omega,by omega,by simp [Cd.c,Nd.one,D.one]⟩
 obtain ⟨E',hE⟩:=hg.pre (E++[.own]) S0 h0 rfl
 subst hE
 refine ⟨w',E',fun own=>append_own.trans hap,?_⟩
 rcases hacc with ⟨_,h2,_⟩ | ⟨_,h2,_⟩ | ⟨id,h1,h2,h3⟩
 ·omega
 ·omega
 ·refine .inr ⟨by simp,id - (n+2),?_,?_⟩
  ·rw [h2,show n+2+(id - (n+2))=id by omega]
   simp [cdsC]
  ·rw [List.getElem?_append_right (by omega),h0] at h3
   exact h3
def m3 (S:Mem) (A:List D) (l:List Tok) (a b w:Int) (E:Mem):Mem:=S++(.obj zA :: .obj (rC l a 0 b w) :: .obj A::E)
variable {l:List Tok}
theorem r3WantNo (S:Mem) (A:List D) (E:Mem) (a b w:Int) (hb:b≠0) (s:ByteArray):CallD Tryz.prog O 34 [.ptr (S.length+1) 0,.str s] (m3 S A l a b w E) fun d S'=>S'=m3 S A l a b w E∧d = .tup []:=by
 have h:=rWantNo (Fam.three S (.obj zA) (.obj A) E) [] l a 0 b w hb s
 simpa only [List.append_nil,m3] using h
theorem r3WantOk (hl:l.length<100000) (S:Mem) (A:List D) (E:Mem) (i:Nat) (hi:i≤l.length) (s:ByteArray) {j:Nat} (h:wX l i s = .ok j):CallD Tryz.prog O 34 [.ptr (S.length+1) 0,.str s] (m3 S A l i 0 0 E) fun d S'=>S'=m3 S A l j 0 0 E∧d = .tup []:=by
 have h:=rWantOk hl (Fam.three S (.obj zA) (.obj A) E) [] i hi s h
 simpa only [List.append_nil,m3] using h
theorem r3WantBad (hl:l.length<100000) (S:Mem) (A:List D) (E:Mem) (i:Nat) (hi:i≤l.length) (s:ByteArray) {j:Nat} {e:Int} (h:wX l i s = .error (j,e)):CallD Tryz.prog O 34 [.ptr (S.length+1) 0,.str s] (m3 S A l i 0 0 E) fun d S'=>S'=m3 S A l j e j E∧d = .tup []:=by
 have h:=rWantBad hl (Fam.three S (.obj zA) (.obj A) E) [] i hi s h
 simpa only [List.append_nil,m3] using h
theorem r3Fail (S:Mem) (A:List D) (E:Mem) (a w e:Int):CallD Tryz.prog O 32 [.ptr (S.length+1) 0,.int .i64 e] (m3 S A l a 0 w E) fun d S'=>S'=m3 S A l a e a E∧d = .tup []:=
 rFail (Fam.three S (.obj zA) (.obj A) E) l a 0 w e
theorem r3Word (S:Mem) (A:List D) (E:Mem) (i:Nat) (b w:Int) (s:ByteArray):CallD Tryz.prog O 36 [.ptr (S.length+1) 0,.str s] (m3 S A l i b w E) fun d S'=>S'=m3 S A l i b w E∧d = .bool (isW l i 1 s):=
 rWord (Fam.three S (.obj zA) (.obj A) E) l i 0 b w s
theorem isW_lt {i:Nat} {k:Int} {s:ByteArray} (h:isW l i k s=true):i<l.length:=by
 unfold isW at h
 cases hq:l[i]? with
 | none=>rw [hq] at h;cases h
 | some t=>exact (List.getElem?_eq_some_iff.1 hq).1
theorem fin_err {p:Nat} {e:Int} : Wf (.tup [.agg zA,.int .i64 (p:Int),.int .i64 e]) (resA (.error (p,e))):=.tup' (.cons zero_wfa .refl)
set_option maxHeartbeats 4000000 in
theorem refParse (s:ByteArray) (hs:s.size<1000000) (S:Mem):CallD Tryz.prog O 10 [.str s] S fun d S'=>S'=S∧d=resA (parseA s):=by
 have htok:=fun S=>refTokens (orc:=O) s hs S
 cases hlex:lexF s with
 | error x=>
  obtain ⟨p,e⟩:=x
  have he0:=lexF_err hlex
  have hp:parseA s = .error (p,e):=by simp [parseA,hlex]
  rw [hp]
  simp only [hlex,toksD] at htok
  refine CallD.e Tryz.func10 rfl Tryz.ntmps10 (by rfl) ?_
  repeat' (first|refine Go.a rfl ?_|refine Go.rg ?_|refine GoR.nil ?_|refine Go.ret ?_|refine Go.b rfl ?_|refine Go.rgS dmx (by decide) ?_|refine Go.rgD [11] (fun _=>True) dmx (by decide) 15 (by decide) (by trivial) ?_|refine GoW.nil rfl ?_|((first|refine GoR.o (by rfl) (by rfl) ?_|refine GoW.o (by rfl) (by rfl) ?_|refine GoW.rd (by rfl) (by rfl) ?_);(conv=>arg 1;simp only [G,Z,Y,Gx,vV,simprocAttr,fb2,fb3,fb9,fb34,fb35,fb37,fb82,fb87,fb88,fb93,show (e != 0)=true by simpa using he0]);first|show GoR ..|(show _∧GoW ..;refine ⟨by exact fun _=>trivial,?_⟩)|(show _∧_∧_∧GoW ..;refine ⟨rfl,by trivial,(fun H _=>by simp only [G,Z,Y,Gx,vV,simprocAttr,fb2,fb3,fb9,fb34,fb35,fb37,fb82,fb87,fb88,fb93,show (e != 0)=true by simpa using he0]),?_⟩))|(refine GoW.c c31 (by rfl) (by rfl) rfl ?_;(refine CallD.ret2 (htok _) ?_);refine ⟨by exact fun _=>trivial,?_⟩)|(refine GoR.c c31 (by rfl) (by rfl) rfl ?_;(refine CallD.ret2 (htok _) ?_))|refine GoR.s (by rfl) rfl rfl ?_|refine GoW.s (by rfl) rfl rfl (by exact fun _=>trivial) ?_|(refine GoR.splitG rfl (fun hc => ?_) (fun hc => ?_)<;>simp only [hc])|refine Go.condB rfl (fun hc => ?_) (fun hc => ?_))
  refine ⟨(by first | exact .inl rfl | exact .inr rfl),fin ?_⟩
  rw [resD_three (fn:=Tryz.f10) rfl]
  simp only [optThen_some,resultD_tmp,resultD_cell,G,Z,Y,Gx,vV,simprocAttr,fb2,fb3,fb9,fb34,fb35,fb37,fb82,fb87,fb88,fb93]
  exact ⟨_,_,rfl,Wf.to_Wk fin_err (resA_low (.error (p,e))),rfl⟩
 | ok l=>
  have hll:=lexF_len hs hlex
  have hw:=lex_word hlex
  have hops:=lex_ops hlex
  have hl:l.length<100000:=by omega
  simp only [hlex,toksD] at htok
  have c0:((0:Nat):Int)=0:=rfl
  have c1:((1:Nat):Int)=1:=rfl
  have hwn:=fun A E a b w hb s=>r3WantNo (l:=l) S A E a b w hb s
  have hfl:=fun A E a w e=>r3Fail (l:=l) S A E a w e
  have hpl:=fun i S=>refPlace l i s S
  have hp:parseA s=match aggX l with | .ok a=>.ok a | .error (j,e)=>.error (placeF l j s,e):=by
   simp only [parseA,hlex]
   cases aggX l with
   | ok a=>rfl
   | error x=>rfl
  by_cases h0:0<l.length
  rotate_left
  ·have hl0:((l.length:Int)==0)=true:=by simp;exact List.eq_nil_of_length_eq_zero (by omega)
   have hx:aggX l = .error (0,2):=by simp only [aggX,List.getElem?_eq_none (show l.length≤0 by omega)]
   rw [hp,hx]
   have hpl':=hpl 0
   have hwn':=fun s=>hwn (zA) [] 0 2 0 (by decide) s
   have hfl':=hfl zA [] 0 0 2
   simp only [m3,rC,zA,zAf,c0,c1] at hwn' hfl' hpl'
   refine CallD.e Tryz.func10 rfl Tryz.ntmps10 (by rfl) ?_
   repeat' (first|refine Go.a rfl ?_|refine Go.rg ?_|refine GoR.nil ?_|refine Go.ret ?_|refine Go.b rfl ?_|refine Go.rgS dmx (by decide) ?_|refine Go.rgD [11] (fun H=>objAt H (S.length+1)=some [.sl none 4 l.length (toksC l),.int .i64 0,.int .i64 0,.int .i64 2,.int .i64 0]) dmx (by decide) 15 (by decide) (by (simp only [objAt_app,objAt_app0,objAt_succ,objAt_zero])) ?_|refine GoW.nil rfl ?_|((first|refine GoR.o (by rfl) (by rfl) ?_|refine GoW.o (by rfl) (by rfl) ?_|refine GoW.rd (by rfl) (by rfl) ?_);(conv=>arg 1;simp only [G,Z,Y,Gx,vV,simprocAttr,fb2,fb3,fb9,fb34,fb35,fb37,fb82,fb87,fb88,fb93,hl0]);first|show GoR ..|(show _∧GoW ..;refine ⟨by (first|exact fun h=>absurd h (by decide)|(intro _;(simp only [objAt_app,objAt_app0,objAt_succ,objAt_zero]))),?_⟩)|(show _∧_∧_∧GoW ..;refine ⟨rfl,by (simp only [objAt_app,objAt_app0,objAt_succ,objAt_zero]),(fun H hI=>by (try dsimp only at hI);simp only [G,Z,Y,Gx,vV,simprocAttr,fb2,fb3,fb9,fb34,fb35,fb37,fb82,fb87,fb88,fb93,hl0,hI]),?_⟩))|(refine GoW.c c31 (by rfl) (by rfl) rfl ?_;(refine CallD.ret2 (htok _) ?_);refine ⟨by (first|exact fun h=>absurd h (by decide)|(intro _;(simp only [objAt_app,objAt_app0,objAt_succ,objAt_zero]))),?_⟩)|(refine GoR.c c31 (by rfl) (by rfl) rfl ?_;(refine CallD.ret2 (htok _) ?_))|(refine GoW.c c32 (by rfl) (by rfl) rfl ?_;(refine CallD.ret2 hfl' ?_);refine ⟨by (first|exact fun h=>absurd h (by decide)|(intro _;(simp only [objAt_app,objAt_app0,objAt_succ,objAt_zero]))),?_⟩)|(refine GoR.c c32 (by rfl) (by rfl) rfl ?_;(refine CallD.ret2 hfl' ?_))|(refine GoW.c c34 (by rfl) (by rfl) rfl ?_;(refine CallD.ret2 (hwn' _) ?_);refine ⟨by (first|exact fun h=>absurd h (by decide)|(intro _;(simp only [objAt_app,objAt_app0,objAt_succ,objAt_zero]))),?_⟩)|(refine GoR.c c34 (by rfl) (by rfl) rfl ?_;(refine CallD.ret2 (hwn' _) ?_))|(refine GoW.c c38 (by rfl) (by rfl) rfl ?_;(refine CallD.ret2 (hpl' _) ?_);refine ⟨by (first|exact fun h=>absurd h (by decide)|(intro _;(simp only [objAt_app,objAt_app0,objAt_succ,objAt_zero]))),?_⟩)|(refine GoR.c c38 (by rfl) (by rfl) rfl ?_;(refine CallD.ret2 (hpl' _) ?_))|refine GoR.s (by rfl) rfl rfl ?_|refine GoW.s (by rfl) rfl rfl (by (first|exact fun h=>absurd h (by decide)|(intro _;(simp only [objAt_app,objAt_app0,objAt_succ,objAt_zero])))) ?_|(refine GoR.splitG rfl (fun hc => ?_) (fun hc => ?_)<;>simp only [hc])|refine Go.condB rfl (fun hc => ?_) (fun hc => ?_))
   refine ⟨(by first | exact .inl rfl | exact .inr rfl),fin ?_⟩
   rw [resD_three (fn:=Tryz.f10) rfl]
   simp only [optThen_some,resultD_tmp,resultD_cell,G,Z,Y,Gx,vV,simprocAttr,fb2,fb3,fb9,fb34,fb35,fb37,fb82,fb87,fb88,fb93]
   exact ⟨_,_,rfl,Wf.to_Wk fin_err (resA_low (.error (placeF l 0 s,2))),rfl⟩
  have hl0:((l.length:Int)==0)=false:=beq_eq_false_iff_ne.2 (by omega)
  have hg0:l[0]?=some l[0]:=List.getElem?_eq_getElem h0
  have ta:=toksAt h0
  have tb:((0:Int)<(l.length:Int))=True:=by simp;omega
  have tc:(4≤(toksC l).length)=True:=by have:=ta.2.1;simpa using this
  have td:(toksC l).take 4=Tok.c l[0]:=by have:=ta.2.2.1;simpa using this
  have te:((0:Int)≤0∧(0:Int)<(l.length:Int))=True:=by simp;omega
  simp only [c0] at ta
  by_cases hk:l[0].k=1
  rotate_left
  ·have hk2:(l[0].k != 1)=true:=by simpa using hk
   have hx:aggX l = .error (0,2):=by simp [aggX,hg0,hk]
   rw [hp,hx]
   have hpl':=hpl 0
   have hwn':=fun s=>hwn (zA) [] 0 2 0 (by decide) s
   have hfl':=hfl zA [] 0 0 2
   simp only [m3,rC,zA,zAf,c0,c1] at hwn' hfl' hpl'
   refine CallD.e Tryz.func10 rfl Tryz.ntmps10 (by rfl) ?_
   repeat' (first|refine Go.a rfl ?_|refine Go.rg ?_|refine GoR.nil ?_|refine Go.ret ?_|refine Go.b rfl ?_|refine Go.rgS dmx (by decide) ?_|refine Go.rgD [11] (fun H=>objAt H (S.length+1)=some [.sl none 4 l.length (toksC l),.int .i64 0,.int .i64 0,.int .i64 2,.int .i64 0]) dmx (by decide) 15 (by decide) (by (simp only [objAt_app,objAt_app0,objAt_succ,objAt_zero])) ?_|refine GoW.nil rfl ?_|((first|refine GoR.o (by rfl) (by rfl) ?_|refine GoW.o (by rfl) (by rfl) ?_|refine GoW.rd (by rfl) (by rfl) ?_);(conv=>arg 1;simp only [G,Z,Y,Gx,vV,simprocAttr,fb2,fb3,fb9,fb34,fb35,fb37,fb82,fb87,fb88,fb93,hl0,ta,tb,tc,td,te,Int.toNat_zero,Nat.zero_mul,Nat.zero_add,List.drop_zero,Int.le_refl,true_and,Tok.c,hk2]);first|show GoR ..|(show _∧GoW ..;refine ⟨by (first|exact fun h=>absurd h (by decide)|(intro _;(simp only [objAt_app,objAt_app0,objAt_succ,objAt_zero]))),?_⟩)|(show _∧_∧_∧GoW ..;refine ⟨rfl,by (simp only [objAt_app,objAt_app0,objAt_succ,objAt_zero]),(fun H hI=>by (try dsimp only at hI);simp only [G,Z,Y,Gx,vV,simprocAttr,fb2,fb3,fb9,fb34,fb35,fb37,fb82,fb87,fb88,fb93,hl0,ta,tb,tc,td,te,Int.toNat_zero,Nat.zero_mul,Nat.zero_add,List.drop_zero,Int.le_refl,true_and,Tok.c,hk2,hI]),?_⟩))|(refine GoW.c c31 (by rfl) (by rfl) rfl ?_;(refine CallD.ret2 (htok _) ?_);refine ⟨by (first|exact fun h=>absurd h (by decide)|(intro _;(simp only [objAt_app,objAt_app0,objAt_succ,objAt_zero]))),?_⟩)|(refine GoR.c c31 (by rfl) (by rfl) rfl ?_;(refine CallD.ret2 (htok _) ?_))|(refine GoW.c c32 (by rfl) (by rfl) rfl ?_;(refine CallD.ret2 hfl' ?_);refine ⟨by (first|exact fun h=>absurd h (by decide)|(intro _;(simp only [objAt_app,objAt_app0,objAt_succ,objAt_zero]))),?_⟩)|(refine GoR.c c32 (by rfl) (by rfl) rfl ?_;(refine CallD.ret2 hfl' ?_))|(refine GoW.c c34 (by rfl) (by rfl) rfl ?_;(refine CallD.ret2 (hwn' _) ?_);refine ⟨by (first|exact fun h=>absurd h (by decide)|(intro _;(simp only [objAt_app,objAt_app0,objAt_succ,objAt_zero]))),?_⟩)|(refine GoR.c c34 (by rfl) (by rfl) rfl ?_;(refine CallD.ret2 (hwn' _) ?_))|(refine GoW.c c38 (by rfl) (by rfl) rfl ?_;(refine CallD.ret2 (hpl' _) ?_);refine ⟨by (first|exact fun h=>absurd h (by decide)|(intro _;(simp only [objAt_app,objAt_app0,objAt_succ,objAt_zero]))),?_⟩)|(refine GoR.c c38 (by rfl) (by rfl) rfl ?_;(refine CallD.ret2 (hpl' _) ?_))|refine GoR.s (by rfl) rfl rfl ?_|refine GoW.s (by rfl) rfl rfl (by (first|exact fun h=>absurd h (by decide)|(intro _;(simp only [objAt_app,objAt_app0,objAt_succ,objAt_zero])))) ?_|(refine GoR.splitG rfl (fun hc => ?_) (fun hc => ?_)<;>simp only [hc])|refine Go.condB rfl (fun hc => ?_) (fun hc => ?_))
   refine ⟨(by first | exact .inl rfl | exact .inr rfl),fin ?_⟩
   rw [resD_three (fn:=Tryz.f10) rfl]
   simp only [optThen_some,resultD_tmp,resultD_cell,G,Z,Y,Gx,vV,simprocAttr,fb2,fb3,fb9,fb34,fb35,fb37,fb82,fb87,fb88,fb93]
   exact ⟨_,_,rfl,Wf.to_Wk fin_err (resA_low (.error (placeF l 0 s,2))),rfl⟩
  have hk2:(l[0].k != 1)=false:=by simp [hk]
  have hfu:=refFunc (orc:=O) l[0].t
  cases hfn:(needsF l[0].t).2.2.2 with
  | false=>
   rw [hfn] at hfu
   have hx:aggX l = .error (0,5):=by simp [aggX,hg0,hk,hfn]
   rw [hp,hx]
   have hpl':=hpl 0
   have hwn':=fun s=>hwn (zA) [] 0 5 0 (by decide) s
   have hfl':=hfl zA [] 0 0 5
   simp only [m3,rC,zA,zAf,c0,c1] at hwn' hfl' hpl'
   refine CallD.e Tryz.func10 rfl Tryz.ntmps10 (by rfl) ?_
   repeat' (first|refine Go.a rfl ?_|refine Go.rg ?_|refine GoR.nil ?_|refine Go.ret ?_|refine Go.b rfl ?_|refine Go.rgS dmx (by decide) ?_|refine Go.rgD [11] (fun H=>objAt H (S.length+1)=some [.sl none 4 l.length (toksC l),.int .i64 0,.int .i64 0,.int .i64 5,.int .i64 0]) dmx (by decide) 15 (by decide) (by (simp only [objAt_app,objAt_app0,objAt_succ,objAt_zero])) ?_|refine GoW.nil rfl ?_|((first|refine GoR.o (by rfl) (by rfl) ?_|refine GoW.o (by rfl) (by rfl) ?_|refine GoW.rd (by rfl) (by rfl) ?_);(conv=>arg 1;simp only [G,Z,Y,Gx,vV,simprocAttr,fb2,fb3,fb9,fb34,fb35,fb37,fb82,fb87,fb88,fb93,hl0,ta,tb,tc,td,te,Int.toNat_zero,Nat.zero_mul,Nat.zero_add,List.drop_zero,Int.le_refl,true_and,Tok.c,hk2]);first|show GoR ..|(show _∧GoW ..;refine ⟨by (first|exact fun h=>absurd h (by decide)|(intro _;(simp only [objAt_app,objAt_app0,objAt_succ,objAt_zero]))),?_⟩)|(show _∧_∧_∧GoW ..;refine ⟨rfl,by (simp only [objAt_app,objAt_app0,objAt_succ,objAt_zero]),(fun H hI=>by (try dsimp only at hI);simp only [G,Z,Y,Gx,vV,simprocAttr,fb2,fb3,fb9,fb34,fb35,fb37,fb82,fb87,fb88,fb93,hl0,ta,tb,tc,td,te,Int.toNat_zero,Nat.zero_mul,Nat.zero_add,List.drop_zero,Int.le_refl,true_and,Tok.c,hk2,hI]),?_⟩))|(refine GoW.c c31 (by rfl) (by rfl) rfl ?_;(refine CallD.ret2 (htok _) ?_);refine ⟨by (first|exact fun h=>absurd h (by decide)|(intro _;(simp only [objAt_app,objAt_app0,objAt_succ,objAt_zero]))),?_⟩)|(refine GoR.c c31 (by rfl) (by rfl) rfl ?_;(refine CallD.ret2 (htok _) ?_))|(refine GoW.c c32 (by rfl) (by rfl) rfl ?_;(refine CallD.ret2 hfl' ?_);refine ⟨by (first|exact fun h=>absurd h (by decide)|(intro _;(simp only [objAt_app,objAt_app0,objAt_succ,objAt_zero]))),?_⟩)|(refine GoR.c c32 (by rfl) (by rfl) rfl ?_;(refine CallD.ret2 hfl' ?_))|(refine GoW.c c34 (by rfl) (by rfl) rfl ?_;(refine CallD.ret2 (hwn' _) ?_);refine ⟨by (first|exact fun h=>absurd h (by decide)|(intro _;(simp only [objAt_app,objAt_app0,objAt_succ,objAt_zero]))),?_⟩)|(refine GoR.c c34 (by rfl) (by rfl) rfl ?_;(refine CallD.ret2 (hwn' _) ?_))|(refine GoW.c c38 (by rfl) (by rfl) rfl ?_;(refine CallD.ret2 (hpl' _) ?_);refine ⟨by (first|exact fun h=>absurd h (by decide)|(intro _;(simp only [objAt_app,objAt_app0,objAt_succ,objAt_zero]))),?_⟩)|(refine GoR.c c38 (by rfl) (by rfl) rfl ?_;(refine CallD.ret2 (hpl' _) ?_))|(refine GoW.c c33 (by rfl) (by rfl) rfl ?_;(refine CallD.ret2 (hfu _) ?_);refine ⟨by (first|exact fun h=>absurd h (by decide)|(intro _;(simp only [objAt_app,objAt_app0,objAt_succ,objAt_zero]))),?_⟩)|(refine GoR.c c33 (by rfl) (by rfl) rfl ?_;(refine CallD.ret2 (hfu _) ?_))|refine GoR.s (by rfl) rfl rfl ?_|refine GoW.s (by rfl) rfl rfl (by (first|exact fun h=>absurd h (by decide)|(intro _;(simp only [objAt_app,objAt_app0,objAt_succ,objAt_zero])))) ?_|(refine GoR.splitG rfl (fun hc => ?_) (fun hc => ?_)<;>simp only [hc])|refine Go.condB rfl (fun hc => ?_) (fun hc => ?_))
   refine ⟨(by first | exact .inl rfl | exact .inr rfl),fin ?_⟩
   rw [resD_three (fn:=Tryz.f10) rfl]
   simp only [optThen_some,resultD_tmp,resultD_cell,G,Z,Y,Gx,vV,simprocAttr,fb2,fb3,fb9,fb34,fb35,fb37,fb82,fb87,fb88,fb93]
   exact ⟨_,_,rfl,Wf.to_Wk fin_err (resA_low (.error (placeF l 0 s,5))),rfl⟩
  | true=>
  rw [hfn] at hfu
  have hx0:aggX l=midX l l[0].t (needsF l[0].t):=by simp [aggX,hg0,hk,hfn]
  rw [midX_args] at hx0
  have h1l:1≤l.length:=h0
  cases h1:wX l 1 (⟨#[40]⟩:ByteArray) with
  | error x=>
   obtain ⟨j,e⟩:=x
   obtain ⟨rfl,rfl⟩:=wX_err h1
   have hw1:=r3WantBad hl S (zAf l[0].t) [] 1 h1l _ h1
   have hx:aggX l = .error (1,2):=by rw [hx0,h1]
   rw [hp,hx]
   have hpl':=hpl 1
   have hwn':=fun s=>hwn (zAf l[0].t) [] 1 2 1 (by decide) s
   simp only [m3,rC,zA,zAf,c0,c1] at hwn' hpl' hw1
   refine CallD.e Tryz.func10 rfl Tryz.ntmps10 (by rfl) ?_
   repeat' (first|refine Go.a rfl ?_|refine Go.rg ?_|refine GoR.nil ?_|refine Go.ret ?_|refine Go.b rfl ?_|refine Go.rgS dmx (by decide) ?_|refine Go.rgD [11] (fun H=>objAt H (S.length+1)=some [.sl none 4 l.length (toksC l),.int .i64 1,.int .i64 0,.int .i64 2,.int .i64 1]) dmx (by decide) 15 (by decide) (by (simp only [objAt_app,objAt_app0,objAt_succ,objAt_zero])) ?_|refine GoW.nil rfl ?_|((first|refine GoR.o (by rfl) (by rfl) ?_|refine GoW.o (by rfl) (by rfl) ?_|refine GoW.rd (by rfl) (by rfl) ?_);(conv=>arg 1;simp only [G,Z,Y,Gx,vV,simprocAttr,fb2,fb3,fb9,fb34,fb35,fb37,fb82,fb87,fb88,fb93,hl0,ta,tb,tc,td,te,Int.toNat_zero,Nat.zero_mul,Nat.zero_add,List.drop_zero,Int.le_refl,true_and,Tok.c,hk2]);first|show GoR ..|(show _∧GoW ..;refine ⟨by (first|exact fun h=>absurd h (by decide)|(intro _;(simp only [objAt_app,objAt_app0,objAt_succ,objAt_zero]))),?_⟩)|(show _∧_∧_∧GoW ..;refine ⟨rfl,by (simp only [objAt_app,objAt_app0,objAt_succ,objAt_zero]),(fun H hI=>by (try dsimp only at hI);simp only [G,Z,Y,Gx,vV,simprocAttr,fb2,fb3,fb9,fb34,fb35,fb37,fb82,fb87,fb88,fb93,hl0,ta,tb,tc,td,te,Int.toNat_zero,Nat.zero_mul,Nat.zero_add,List.drop_zero,Int.le_refl,true_and,Tok.c,hk2,hI]),?_⟩))|(refine GoW.c c31 (by rfl) (by rfl) rfl ?_;(refine CallD.ret2 (htok _) ?_);refine ⟨by (first|exact fun h=>absurd h (by decide)|(intro _;(simp only [objAt_app,objAt_app0,objAt_succ,objAt_zero]))),?_⟩)|(refine GoR.c c31 (by rfl) (by rfl) rfl ?_;(refine CallD.ret2 (htok _) ?_))|(refine GoW.c c33 (by rfl) (by rfl) rfl ?_;(refine CallD.ret2 (hfu _) ?_);refine ⟨by (first|exact fun h=>absurd h (by decide)|(intro _;(simp only [objAt_app,objAt_app0,objAt_succ,objAt_zero]))),?_⟩)|(refine GoR.c c33 (by rfl) (by rfl) rfl ?_;(refine CallD.ret2 (hfu _) ?_))|(refine GoW.c c34 (by rfl) (by rfl) rfl ?_;(first | refine CallD.ret2 hw1 ?_ | refine CallD.ret2 (hwn' _) ?_);refine ⟨by (first|exact fun h=>absurd h (by decide)|(intro _;(simp only [objAt_app,objAt_app0,objAt_succ,objAt_zero]))),?_⟩)|(refine GoR.c c34 (by rfl) (by rfl) rfl ?_;(first | refine CallD.ret2 hw1 ?_ | refine CallD.ret2 (hwn' _) ?_))|(refine GoW.c c38 (by rfl) (by rfl) rfl ?_;(refine CallD.ret2 (hpl' _) ?_);refine ⟨by (first|exact fun h=>absurd h (by decide)|(intro _;(simp only [objAt_app,objAt_app0,objAt_succ,objAt_zero]))),?_⟩)|(refine GoR.c c38 (by rfl) (by rfl) rfl ?_;(refine CallD.ret2 (hpl' _) ?_))|refine GoR.s (by rfl) rfl rfl ?_|refine GoW.s (by rfl) rfl rfl (by (first|exact fun h=>absurd h (by decide)|(intro _;(simp only [objAt_app,objAt_app0,objAt_succ,objAt_zero])))) ?_|(refine GoR.splitG rfl (fun hc => ?_) (fun hc => ?_)<;>simp only [hc])|refine Go.condB rfl (fun hc => ?_) (fun hc => ?_))
   refine ⟨(by first | exact .inl rfl | exact .inr rfl),fin ?_⟩
   rw [resD_three (fn:=Tryz.f10) rfl]
   simp only [optThen_some,resultD_tmp,resultD_cell,G,Z,Y,Gx,vV,simprocAttr,fb2,fb3,fb9,fb34,fb35,fb37,fb82,fb87,fb88,fb93]
   exact ⟨_,_,rfl,Wf.to_Wk fin_err (resA_low (.error (placeF l 1 s,2))),rfl⟩
  | ok i1=>
  obtain ⟨rfl,h2l⟩:=wX_ok h1
  rw [h1] at hx0
  dsimp only at hx0
  have hi1:1+1≤l.length:=h2l
  have hw1:=r3WantOk hl S (zAf l[0].t) [] 1 h1l _ h1
  have hra:=rArgs hl hw (Fam.three S (.obj zA) (.obj (zAf l[0].t)) []) (1+1) hi1 l[0].t hfn
  generalize hfg:l[0].t=fn at *
  cases hA:argsX l fn (needsF fn) (1+1) with
  | error x=>
   obtain ⟨j,e⟩:=x
   have he:=argsX_err hw hi1 hA
   have hx:aggX l = .error (j,e):=by rw [hx0,hA]
   rw [hp,hx]
   rw [hA] at hra
   obtain ⟨i',⟨afn,ak,⟨op1,nm1,n1,ks1⟩,⟨op2,nm2,n2,ks2⟩,aw⟩,hra⟩:=hra.2 j e rfl
   have hpl':=hpl j
   have hwn':=fun A s=>hwn A [] i' e j he s
   have he1:(e==0)=false:=by simpa using he
   have he2:(e != 0)=true:=by simpa using he
   simp only [m3,rC,zA,zAf,c0,c1,agN,Nd.c_mk,List.cons_append,List.nil_append] at hwn' hpl' hw1 hra
   refine CallD.e Tryz.func10 rfl Tryz.ntmps10 (by rfl) ?_
   repeat' (first|refine Go.a rfl ?_|refine Go.rg ?_|refine GoR.nil ?_|refine Go.ret ?_|refine Go.b rfl ?_|refine Go.rgS dmx (by decide) ?_|refine Go.rgD [11] (fun H=>objAt H (S.length+1)=some [.sl none 4 l.length (toksC l),.int .i64 (i':Int),.int .i64 0,.int .i64 e,.int .i64 (j:Int)]) dmx (by decide) 15 (by decide) (by (simp only [objAt_app,objAt_app0,objAt_succ,objAt_zero])) ?_|refine GoW.nil rfl ?_|((first|refine GoR.o (by rfl) (by rfl) ?_|refine GoW.o (by rfl) (by rfl) ?_|refine GoW.rd (by rfl) (by rfl) ?_);(conv=>arg 1;simp only [G,Z,Y,Gx,vV,simprocAttr,fb2,fb3,fb9,fb34,fb35,fb37,fb82,fb87,fb88,fb93,hl0,ta,tb,tc,td,te,Int.toNat_zero,Nat.zero_mul,Nat.zero_add,List.drop_zero,Int.le_refl,true_and,Tok.c,hk2,hfg,he1,he2]);first|show GoR ..|(show _∧GoW ..;refine ⟨by (first|exact fun h=>absurd h (by decide)|(intro _;(simp only [objAt_app,objAt_app0,objAt_succ,objAt_zero]))),?_⟩)|(show _∧_∧_∧GoW ..;refine ⟨rfl,by (simp only [objAt_app,objAt_app0,objAt_succ,objAt_zero]),(fun H hI=>by (try dsimp only at hI);simp only [G,Z,Y,Gx,vV,simprocAttr,fb2,fb3,fb9,fb34,fb35,fb37,fb82,fb87,fb88,fb93,hl0,ta,tb,tc,td,te,Int.toNat_zero,Nat.zero_mul,Nat.zero_add,List.drop_zero,Int.le_refl,true_and,Tok.c,hk2,hfg,he1,he2,hI]),?_⟩))|(refine GoW.c c31 (by rfl) (by rfl) rfl ?_;(refine CallD.ret2 (htok _) ?_);refine ⟨by (first|exact fun h=>absurd h (by decide)|(intro _;(simp only [objAt_app,objAt_app0,objAt_succ,objAt_zero]))),?_⟩)|(refine GoR.c c31 (by rfl) (by rfl) rfl ?_;(refine CallD.ret2 (htok _) ?_))|(refine GoW.c c33 (by rfl) (by rfl) rfl ?_;(refine CallD.ret2 (hfu _) ?_);refine ⟨by (first|exact fun h=>absurd h (by decide)|(intro _;(simp only [objAt_app,objAt_app0,objAt_succ,objAt_zero]))),?_⟩)|(refine GoR.c c33 (by rfl) (by rfl) rfl ?_;(refine CallD.ret2 (hfu _) ?_))|(refine GoW.c c34 (by rfl) (by rfl) rfl ?_;(first | refine CallD.ret2 hw1 ?_ | refine CallD.ret2 (hwn' _ _) ?_);refine ⟨by (first|exact fun h=>absurd h (by decide)|(intro _;(simp only [objAt_app,objAt_app0,objAt_succ,objAt_zero]))),?_⟩)|(refine GoR.c c34 (by rfl) (by rfl) rfl ?_;(first | refine CallD.ret2 hw1 ?_ | refine CallD.ret2 (hwn' _ _) ?_))|(refine GoW.c c35 (by rfl) (by rfl) rfl ?_;(refine CallD.ret2 hra ?_);refine ⟨by (first|exact fun h=>absurd h (by decide)|(intro _;(simp only [objAt_app,objAt_app0,objAt_succ,objAt_zero]))),?_⟩)|(refine GoR.c c35 (by rfl) (by rfl) rfl ?_;(refine CallD.ret2 hra ?_))|(refine GoW.c c38 (by rfl) (by rfl) rfl ?_;(refine CallD.ret2 (hpl' _) ?_);refine ⟨by (first|exact fun h=>absurd h (by decide)|(intro _;(simp only [objAt_app,objAt_app0,objAt_succ,objAt_zero]))),?_⟩)|(refine GoR.c c38 (by rfl) (by rfl) rfl ?_;(refine CallD.ret2 (hpl' _) ?_))|refine GoR.s (by rfl) rfl rfl ?_|refine GoW.s (by rfl) rfl rfl (by (first|exact fun h=>absurd h (by decide)|(intro _;(simp only [objAt_app,objAt_app0,objAt_succ,objAt_zero])))) ?_|(refine GoR.splitG rfl (fun hc => ?_) (fun hc => ?_)<;>simp only [hc])|refine Go.condB rfl (fun hc => ?_) (fun hc => ?_))
   refine ⟨(by first | exact .inl rfl | exact .inr rfl),fin ?_⟩
   rw [resD_three (fn:=Tryz.f10) rfl]
   simp only [optThen_some,resultD_tmp,resultD_cell,G,Z,Y,Gx,vV,simprocAttr,fb2,fb3,fb9,fb34,fb35,fb37,fb82,fb87,fb88,fb93]
   exact ⟨_,_,rfl,Wf.to_Wk fin_err (resA_low (.error (placeF l j s,e))),rfl⟩
  | ok x=>
  obtain ⟨⟨afn,ak,⟨op1,nm1,n1,ks1⟩,⟨op2,nm2,n2,ks2⟩,aw⟩,j⟩:=x
  rw [hA] at hx0
  dsimp only at hx0
  obtain ⟨hjl,haw⟩:=argsX_le hw hi1 hA
  dsimp only at haw
  subst haw
  rw [hA] at hra
  have hra:=hra.1 _ _ rfl
  have c2:((1+1:Nat):Int)=2:=rfl
  generalize hAA:agN ⟨afn,ak,.mk op1 nm1 n1 ks1,.mk op2 nm2 n2 ks2,[]⟩=AA at hra
  have hAL:AA=agL afn ak (.str op1) (.str nm1) (.int .i64 n1) (.sl none 4 ks1.length (ndsC ks1)) (.str op2) (.str nm2) (.int .i64 n2) (.sl none 4 ks2.length (ndsC ks2)) .nils:=by
   rw [← hAA]
   simp only [agN,Nd.c_mk,List.cons_append,List.nil_append,agL]
  subst hAL
  clear hAA
  cases h3:wX l j (⟨#[41]⟩:ByteArray) with
  | error x=>
   obtain ⟨j',e⟩:=x
   obtain ⟨rfl,rfl⟩:=wX_err h3
   have hx:aggX l = .error (j',2):=by rw [hx0];simp only [tailX,h3]
   rw [hp,hx]
   have hw3:=fun A=>r3WantBad hl S A [] j' hjl _ h3
   have hpl':=hpl j'
   simp only [m3,rC,zA,zAf,c0,c1,c2] at hpl' hw1 hra hw3
   refine CallD.e Tryz.func10 rfl Tryz.ntmps10 (by rfl) ?_
   repeat' (first|refine Go.a rfl ?_|refine Go.rg ?_|refine GoR.nil ?_|refine Go.ret ?_|refine Go.b rfl ?_|refine Go.rgS dmx (by decide) ?_|refine Go.rgD [11] (fun H=>objAt H (S.length+1)=some [.sl none 4 l.length (toksC l),.int .i64 (j':Int),.int .i64 0,.int .i64 2,.int .i64 (j':Int)]) dmx (by decide) 15 (by decide) (by (simp only [objAt_app,objAt_app0,objAt_succ,objAt_zero])) ?_|refine GoW.nil rfl ?_|((first|refine GoR.o (by rfl) (by rfl) ?_|refine GoW.o (by rfl) (by rfl) ?_|refine GoW.rd (by rfl) (by rfl) ?_);(conv=>arg 1;simp only [G,Z,Y,Gx,vV,simprocAttr,fb2,fb3,fb9,fb34,fb35,fb37,fb82,fb87,fb88,fb93,hl0,ta,tb,tc,td,te,Int.toNat_zero,Nat.zero_mul,Nat.zero_add,List.drop_zero,Int.le_refl,true_and,Tok.c,hk2,hfg,agL]);first|show GoR ..|(show _∧GoW ..;refine ⟨by (first|exact fun h=>absurd h (by decide)|(intro _;(simp only [objAt_app,objAt_app0,objAt_succ,objAt_zero]))),?_⟩)|(show _∧_∧_∧GoW ..;refine ⟨rfl,by (simp only [objAt_app,objAt_app0,objAt_succ,objAt_zero]),(fun H hI=>by (try dsimp only at hI);simp only [G,Z,Y,Gx,vV,simprocAttr,fb2,fb3,fb9,fb34,fb35,fb37,fb82,fb87,fb88,fb93,hl0,ta,tb,tc,td,te,Int.toNat_zero,Nat.zero_mul,Nat.zero_add,List.drop_zero,Int.le_refl,true_and,Tok.c,hk2,hfg,agL,hI]),?_⟩))|(refine GoW.c c31 (by rfl) (by rfl) rfl ?_;(refine CallD.ret2 (htok _) ?_);refine ⟨by (first|exact fun h=>absurd h (by decide)|(intro _;(simp only [objAt_app,objAt_app0,objAt_succ,objAt_zero]))),?_⟩)|(refine GoR.c c31 (by rfl) (by rfl) rfl ?_;(refine CallD.ret2 (htok _) ?_))|(refine GoW.c c33 (by rfl) (by rfl) rfl ?_;(refine CallD.ret2 (hfu _) ?_);refine ⟨by (first|exact fun h=>absurd h (by decide)|(intro _;(simp only [objAt_app,objAt_app0,objAt_succ,objAt_zero]))),?_⟩)|(refine GoR.c c33 (by rfl) (by rfl) rfl ?_;(refine CallD.ret2 (hfu _) ?_))|(refine GoW.c c34 (by rfl) (by rfl) rfl ?_;(first | refine CallD.ret2 hw1 ?_ | refine CallD.ret2 (hw3 _) ?_);refine ⟨by (first|exact fun h=>absurd h (by decide)|(intro _;(simp only [objAt_app,objAt_app0,objAt_succ,objAt_zero]))),?_⟩)|(refine GoR.c c34 (by rfl) (by rfl) rfl ?_;(first | refine CallD.ret2 hw1 ?_ | refine CallD.ret2 (hw3 _) ?_))|(refine GoW.c c35 (by rfl) (by rfl) rfl ?_;(refine CallD.ret2 hra ?_);refine ⟨by (first|exact fun h=>absurd h (by decide)|(intro _;(simp only [objAt_app,objAt_app0,objAt_succ,objAt_zero]))),?_⟩)|(refine GoR.c c35 (by rfl) (by rfl) rfl ?_;(refine CallD.ret2 hra ?_))|(refine GoW.c c38 (by rfl) (by rfl) rfl ?_;(refine CallD.ret2 (hpl' _) ?_);refine ⟨by (first|exact fun h=>absurd h (by decide)|(intro _;(simp only [objAt_app,objAt_app0,objAt_succ,objAt_zero]))),?_⟩)|(refine GoR.c c38 (by rfl) (by rfl) rfl ?_;(refine CallD.ret2 (hpl' _) ?_))|refine GoR.s (by rfl) rfl rfl ?_|refine GoW.s (by rfl) rfl rfl (by (first|exact fun h=>absurd h (by decide)|(intro _;(simp only [objAt_app,objAt_app0,objAt_succ,objAt_zero])))) ?_|(refine GoR.splitG rfl (fun hc => ?_) (fun hc => ?_)<;>simp only [hc])|refine Go.condB rfl (fun hc => ?_) (fun hc => ?_))
   refine ⟨(by first | exact .inl rfl | exact .inr rfl),fin ?_⟩
   rw [resD_three (fn:=Tryz.f10) rfl]
   simp only [optThen_some,resultD_tmp,resultD_cell,G,Z,Y,Gx,vV,simprocAttr,fb2,fb3,fb9,fb34,fb35,fb37,fb82,fb87,fb88,fb93]
   exact ⟨_,_,rfl,Wf.to_Wk fin_err (resA_low (.error (placeF l j' s,2))),rfl⟩
  | ok j3=>
  obtain ⟨hj3,hj3l⟩:=wX_le h3
  have hw3:=fun A=>r3WantOk hl S A [] j hjl _ h3
  clear hj3
  by_cases hend:j3=l.length
  ·subst hend
   have hwN:isW l l.length 1 (sepX [])=false:=by simp [isW]
   have hx:aggX l = .ok ⟨afn,ak,.mk op1 nm1 n1 ks1,.mk op2 nm2 n2 ks2,[]⟩:=by
    rw [hx0]
    simp only [tailX,h3]
    simp [condsX,hwN]
   rw [hp,hx]
   simp only [m3,rC,zA,zAf,c0,c1,c2] at hw1 hra hw3
   refine CallD.e Tryz.func10 rfl Tryz.ntmps10 (by rfl) ?_
   repeat' (first|refine Go.a rfl ?_|refine Go.rg ?_|refine GoR.nil ?_|refine Go.ret ?_|refine Go.b rfl ?_|refine Go.rgS dmx (by decide) ?_|refine Go.rgD [11] (fun _=>True) dmx (by decide) 15 (by decide) (by trivial) ?_|refine GoW.nil rfl ?_|((first|refine GoR.o (by rfl) (by rfl) ?_|refine GoW.o (by rfl) (by rfl) ?_|refine GoW.rd (by rfl) (by rfl) ?_);(conv=>arg 1;simp only [G,Z,Y,Gx,vV,simprocAttr,fb2,fb3,fb9,fb34,fb35,fb37,fb82,fb87,fb88,fb93,hl0,ta,tb,tc,td,te,Int.toNat_zero,Nat.zero_mul,Nat.zero_add,List.drop_zero,Int.le_refl,true_and,Tok.c,hk2,hfg,agL,show decide ((l.length:Int)<(l.length:Int))=false by simp]);first|show GoR ..|(show _∧GoW ..;refine ⟨by exact fun _=>trivial,?_⟩)|(show _∧_∧_∧GoW ..;refine ⟨rfl,by trivial,(fun H _=>by simp only [G,Z,Y,Gx,vV,simprocAttr,fb2,fb3,fb9,fb34,fb35,fb37,fb82,fb87,fb88,fb93,hl0,ta,tb,tc,td,te,Int.toNat_zero,Nat.zero_mul,Nat.zero_add,List.drop_zero,Int.le_refl,true_and,Tok.c,hk2,hfg,agL,show decide ((l.length:Int)<(l.length:Int))=false by simp]),?_⟩))|(refine GoW.c c31 (by rfl) (by rfl) rfl ?_;(refine CallD.ret2 (htok _) ?_);refine ⟨by exact fun _=>trivial,?_⟩)|(refine GoR.c c31 (by rfl) (by rfl) rfl ?_;(refine CallD.ret2 (htok _) ?_))|(refine GoW.c c33 (by rfl) (by rfl) rfl ?_;(refine CallD.ret2 (hfu _) ?_);refine ⟨by exact fun _=>trivial,?_⟩)|(refine GoR.c c33 (by rfl) (by rfl) rfl ?_;(refine CallD.ret2 (hfu _) ?_))|(refine GoW.c c34 (by rfl) (by rfl) rfl ?_;(first | refine CallD.ret2 hw1 ?_ | refine CallD.ret2 (hw3 _) ?_);refine ⟨by exact fun _=>trivial,?_⟩)|(refine GoR.c c34 (by rfl) (by rfl) rfl ?_;(first | refine CallD.ret2 hw1 ?_ | refine CallD.ret2 (hw3 _) ?_))|(refine GoW.c c35 (by rfl) (by rfl) rfl ?_;(refine CallD.ret2 hra ?_);refine ⟨by exact fun _=>trivial,?_⟩)|(refine GoR.c c35 (by rfl) (by rfl) rfl ?_;(refine CallD.ret2 hra ?_))|refine GoR.s (by rfl) rfl rfl ?_|refine GoW.s (by rfl) rfl rfl (by exact fun _=>trivial) ?_|(refine GoR.splitG rfl (fun hc => ?_) (fun hc => ?_)<;>simp only [hc])|refine Go.condB rfl (fun hc => ?_) (fun hc => ?_))
   refine ⟨(by first | exact .inl rfl | exact .inr rfl),fin ?_⟩
   rw [resD_three (fn:=Tryz.f10) rfl]
   simp only [optThen_some,resultD_tmp,resultD_cell,G,Z,Y,Gx,vV,simprocAttr,fb2,fb3,fb9,fb34,fb35,fb37,fb82,fb87,fb88,fb93]
   exact ⟨_,_,rfl,Wf.to_Wk (.tup' (.cons (.agg' (by simp only [Ag.c,Nd.c_mk,List.cons_append,List.nil_append];exact .cons .refl (.cons .refl (.cons .refl (.cons .refl (.cons .refl (.cons .refl (.cons .refl (.cons .refl (.cons .refl (.cons .refl (.cons .nilE .nil)))))))))))) .refl)) (resA_low (.ok ⟨afn,ak,.mk op1 nm1 n1 ks1,.mk op2 nm2 n2 ks2,[]⟩)),rfl⟩
  have dj3:decide ((j3:Int)<(l.length:Int))=true:=by simp;omega
  cases hwh:isW l j3 1 (sepX []) with
  | false=>
   have hx:aggX l = .error (j3,2):=by
    rw [hx0]
    simp only [tailX,h3]
    simp [condsX,hwh,hend]
   rw [hp,hx]
   have hpl':=hpl j3
   have hwd:=fun A=>r3Word (l:=l) S A [] j3 0 0 (⟨#[119,104,101,114,101]⟩:ByteArray)
   rw [show (⟨#[119,104,101,114,101]⟩:ByteArray)=sepX [] from rfl,hwh] at hwd
   have hfl':=fun A=>hfl A [] j3 0 2
   simp only [m3,rC,zA,zAf,c0,c1,c2,sepX] at hpl' hw1 hra hw3 hwd hfl'
   refine CallD.e Tryz.func10 rfl Tryz.ntmps10 (by rfl) ?_
   repeat' (first|refine Go.a rfl ?_|refine Go.rg ?_|refine GoR.nil ?_|refine Go.ret ?_|refine Go.b rfl ?_|refine Go.rgS dmx (by decide) ?_|refine Go.rgD [11] (fun _=>True) dmx (by decide) 15 (by decide) (by trivial) ?_|refine GoW.nil rfl ?_|((first|refine GoR.o (by rfl) (by rfl) ?_|refine GoW.o (by rfl) (by rfl) ?_|refine GoW.rd (by rfl) (by rfl) ?_);(conv=>arg 1;simp only [G,Z,Y,Gx,vV,simprocAttr,fb2,fb3,fb9,fb34,fb35,fb37,fb82,fb87,fb88,fb93,hl0,ta,tb,tc,td,te,Int.toNat_zero,Nat.zero_mul,Nat.zero_add,List.drop_zero,Int.le_refl,true_and,Tok.c,hk2,hfg,agL,dj3]);first|show GoR ..|(show _∧GoW ..;refine ⟨by exact fun _=>trivial,?_⟩)|(show _∧_∧_∧GoW ..;refine ⟨rfl,by trivial,(fun H _=>by simp only [G,Z,Y,Gx,vV,simprocAttr,fb2,fb3,fb9,fb34,fb35,fb37,fb82,fb87,fb88,fb93,hl0,ta,tb,tc,td,te,Int.toNat_zero,Nat.zero_mul,Nat.zero_add,List.drop_zero,Int.le_refl,true_and,Tok.c,hk2,hfg,agL,dj3]),?_⟩))|(refine GoW.c c31 (by rfl) (by rfl) rfl ?_;(refine CallD.ret2 (htok _) ?_);refine ⟨by exact fun _=>trivial,?_⟩)|(refine GoR.c c31 (by rfl) (by rfl) rfl ?_;(refine CallD.ret2 (htok _) ?_))|(refine GoW.c c33 (by rfl) (by rfl) rfl ?_;(refine CallD.ret2 (hfu _) ?_);refine ⟨by exact fun _=>trivial,?_⟩)|(refine GoR.c c33 (by rfl) (by rfl) rfl ?_;(refine CallD.ret2 (hfu _) ?_))|(refine GoW.c c34 (by rfl) (by rfl) rfl ?_;(first | refine CallD.ret2 hw1 ?_ | refine CallD.ret2 (hw3 _) ?_);refine ⟨by exact fun _=>trivial,?_⟩)|(refine GoR.c c34 (by rfl) (by rfl) rfl ?_;(first | refine CallD.ret2 hw1 ?_ | refine CallD.ret2 (hw3 _) ?_))|(refine GoW.c c35 (by rfl) (by rfl) rfl ?_;(refine CallD.ret2 hra ?_);refine ⟨by exact fun _=>trivial,?_⟩)|(refine GoR.c c35 (by rfl) (by rfl) rfl ?_;(refine CallD.ret2 hra ?_))|(refine GoW.c c36 (by rfl) (by rfl) rfl ?_;(refine CallD.ret2 (hwd _) ?_);refine ⟨by exact fun _=>trivial,?_⟩)|(refine GoR.c c36 (by rfl) (by rfl) rfl ?_;(refine CallD.ret2 (hwd _) ?_))|(refine GoW.c c32 (by rfl) (by rfl) rfl ?_;(refine CallD.ret2 (hfl' _) ?_);refine ⟨by exact fun _=>trivial,?_⟩)|(refine GoR.c c32 (by rfl) (by rfl) rfl ?_;(refine CallD.ret2 (hfl' _) ?_))|refine GoR.s (by rfl) rfl rfl ?_|refine GoW.s (by rfl) rfl rfl (by exact fun _=>trivial) ?_|(refine GoR.splitG rfl (fun hc => ?_) (fun hc => ?_)<;>simp only [hc])|refine Go.condB rfl (fun hc => ?_) (fun hc => ?_))
   refine Go.loop ?_
   repeat' (first|refine Go.a rfl ?_|refine Go.rg ?_|refine GoR.nil ?_|refine Go.ret ?_|refine Go.b rfl ?_|refine Go.rgS dmx (by decide) ?_|refine Go.rgD [11] (fun H=>objAt H (S.length+1)=some [.sl none 4 l.length (toksC l),.int .i64 (j3:Int),.int .i64 0,.int .i64 2,.int .i64 (j3:Int)]) dmx (by decide) 15 (by decide) (by (simp only [objAt_app,objAt_app0,objAt_succ,objAt_zero])) ?_|refine GoW.nil rfl ?_|((first|refine GoR.o (by rfl) (by rfl) ?_|refine GoW.o (by rfl) (by rfl) ?_|refine GoW.rd (by rfl) (by rfl) ?_);(conv=>arg 1;simp only [G,Z,Y,Gx,vV,simprocAttr,fb2,fb3,fb9,fb34,fb35,fb37,fb82,fb87,fb88,fb93,hl0,ta,tb,tc,td,te,Int.toNat_zero,Nat.zero_mul,Nat.zero_add,List.drop_zero,Int.le_refl,true_and,Tok.c,hk2,hfg,agL,dj3]);first|show GoR ..|(show _∧GoW ..;refine ⟨by (first|exact fun h=>absurd h (by decide)|(intro _;(simp only [objAt_app,objAt_app0,objAt_succ,objAt_zero]))),?_⟩)|(show _∧_∧_∧GoW ..;refine ⟨rfl,by (simp only [objAt_app,objAt_app0,objAt_succ,objAt_zero]),(fun H hI=>by (try dsimp only at hI);simp only [G,Z,Y,Gx,vV,simprocAttr,fb2,fb3,fb9,fb34,fb35,fb37,fb82,fb87,fb88,fb93,hl0,ta,tb,tc,td,te,Int.toNat_zero,Nat.zero_mul,Nat.zero_add,List.drop_zero,Int.le_refl,true_and,Tok.c,hk2,hfg,agL,dj3,hI]),?_⟩))|(refine GoW.c c38 (by rfl) (by rfl) rfl ?_;(refine CallD.ret2 (hpl' _) ?_);refine ⟨by (first|exact fun h=>absurd h (by decide)|(intro _;(simp only [objAt_app,objAt_app0,objAt_succ,objAt_zero]))),?_⟩)|(refine GoR.c c38 (by rfl) (by rfl) rfl ?_;(refine CallD.ret2 (hpl' _) ?_))|refine GoR.s (by rfl) rfl rfl ?_|refine GoW.s (by rfl) rfl rfl (by (first|exact fun h=>absurd h (by decide)|(intro _;(simp only [objAt_app,objAt_app0,objAt_succ,objAt_zero])))) ?_|(refine GoR.splitG rfl (fun hc => ?_) (fun hc => ?_)<;>simp only [hc])|refine Go.condB rfl (fun hc => ?_) (fun hc => ?_))
   refine ⟨(by first | exact .inl rfl | exact .inr rfl),fin ?_⟩
   rw [resD_three (fn:=Tryz.f10) rfl]
   simp only [optThen_some,resultD_tmp,resultD_cell,G,Z,Y,Gx,vV,simprocAttr,fb2,fb3,fb9,fb34,fb35,fb37,fb82,fb87,fb88,fb93]
   exact ⟨_,_,rfl,Wf.to_Wk fin_err (resA_low (.error (placeF l j3 s,2))),rfl⟩
  | true=>
  have hx1:aggX l=match condsX l (l.length+1) [] j3 with | .error x=>.error x | .ok (ws,j2)=>if j2=l.length then .ok ⟨afn,ak,.mk op1 nm1 n1 ks1,.mk op2 nm2 n2 ks2,ws⟩ else .error (j2,2):=by
   rw [hx0]
   simp only [tailX,h3]
   cases condsX l (l.length+1) [] j3 with
   | error x=>rfl
   | ok x=>rfl
  have hwd:=fun A=>r3Word (l:=l) S A [] j3 0 0 (⟨#[119,104,101,114,101]⟩:ByteArray)
  rw [show (⟨#[119,104,101,114,101]⟩:ByteArray)=sepX [] from rfl,hwh] at hwd
  simp only [m3,rC,zA,zAf,c0,c1,c2,sepX] at hw1 hra hw3 hwd
  clear hx0 hwn hfl
  refine CallD.e Tryz.func10 rfl Tryz.ntmps10 (by rfl) ?_
  repeat' (first|refine Go.a rfl ?_|refine Go.rg ?_|refine GoR.nil ?_|refine Go.ret ?_|refine Go.b rfl ?_|refine Go.rgS dmx (by decide) ?_|refine Go.rgD [11] (fun _=>True) dmx (by decide) 15 (by decide) (by trivial) ?_|refine GoW.nil rfl ?_|((first|refine GoR.o (by rfl) (by rfl) ?_|refine GoW.o (by rfl) (by rfl) ?_|refine GoW.rd (by rfl) (by rfl) ?_);(conv=>arg 1;simp only [G,Z,Y,Gx,vV,simprocAttr,fb2,fb3,fb9,fb34,fb35,fb37,fb82,fb87,fb88,fb93,hl0,ta,tb,tc,td,te,Int.toNat_zero,Nat.zero_mul,Nat.zero_add,List.drop_zero,Int.le_refl,true_and,Tok.c,hk2,hfg,agL,dj3]);first|show GoR ..|(show _∧GoW ..;refine ⟨by exact fun _=>trivial,?_⟩)|(show _∧_∧_∧GoW ..;refine ⟨rfl,by trivial,(fun H _=>by simp only [G,Z,Y,Gx,vV,simprocAttr,fb2,fb3,fb9,fb34,fb35,fb37,fb82,fb87,fb88,fb93,hl0,ta,tb,tc,td,te,Int.toNat_zero,Nat.zero_mul,Nat.zero_add,List.drop_zero,Int.le_refl,true_and,Tok.c,hk2,hfg,agL,dj3]),?_⟩))|(refine GoW.c c31 (by rfl) (by rfl) rfl ?_;(refine CallD.ret2 (htok _) ?_);refine ⟨by exact fun _=>trivial,?_⟩)|(refine GoR.c c31 (by rfl) (by rfl) rfl ?_;(refine CallD.ret2 (htok _) ?_))|(refine GoW.c c33 (by rfl) (by rfl) rfl ?_;(refine CallD.ret2 (hfu _) ?_);refine ⟨by exact fun _=>trivial,?_⟩)|(refine GoR.c c33 (by rfl) (by rfl) rfl ?_;(refine CallD.ret2 (hfu _) ?_))|(refine GoW.c c34 (by rfl) (by rfl) rfl ?_;(first | refine CallD.ret2 hw1 ?_ | refine CallD.ret2 (hw3 _) ?_);refine ⟨by exact fun _=>trivial,?_⟩)|(refine GoR.c c34 (by rfl) (by rfl) rfl ?_;(first | refine CallD.ret2 hw1 ?_ | refine CallD.ret2 (hw3 _) ?_))|(refine GoW.c c35 (by rfl) (by rfl) rfl ?_;(refine CallD.ret2 hra ?_);refine ⟨by exact fun _=>trivial,?_⟩)|(refine GoR.c c35 (by rfl) (by rfl) rfl ?_;(refine CallD.ret2 hra ?_))|(refine GoW.c c36 (by rfl) (by rfl) rfl ?_;(refine CallD.ret2 (hwd _) ?_);refine ⟨by exact fun _=>trivial,?_⟩)|(refine GoR.c c36 (by rfl) (by rfl) rfl ?_;(refine CallD.ret2 (hwd _) ?_))|refine GoR.s (by rfl) rfl rfl ?_|refine GoW.s (by rfl) rfl rfl (by exact fun _=>trivial) ?_|(refine GoR.splitG rfl (fun hc => ?_) (fun hc => ?_)<;>simp only [hc])|refine Go.condB rfl (fun hc => ?_) (fun hc => ?_))
  refine Go.keep [(0,.str s),(2,.ptr S.length 0),(5,.sl none 4 l.length (toksC l)),(8,.ptr (S.length+1) 0),(9,.ptr (S.length+2) 0),(10,.bool true)] (.cons .refl (.cons .refl (.cons .refl (.cons .refl (.cons .refl (.cons .refl (.nil))))))) ?_
  refine Go.while (α:=Nat×List Cd×D×Mem) (fun x=>l.length - x.1) (fun x=>[(0,.str s),(2,.ptr S.length 0),(5,.sl none 4 l.length (toksC l)),(8,.ptr (S.length+1) 0),(9,.ptr (S.length+2) 0),(10,.bool true)])
   (fun x=>S++(.obj zA :: .obj (rC l x.1 0 0 0) :: .obj (agL afn ak (.str op1) (.str nm1) (.int .i64 n1) (.sl none 4 ks1.length (ndsC ks1)) (.str op2) (.str nm2) (.int .i64 n2) (.sl none 4 ks2.length (ndsC ks2)) x.2.2.1)::x.2.2.2))
   (fun x=>isW l x.1 1 (sepX x.2.1)=true∧x.2.1.length≤4∧AccE (S.length+1) x.2.2.1 x.2.1 x.2.2.2 ∧ ∃ f,l.length - x.1<f∧condsX l (l.length+1) [] j3=condsX l f x.2.1 x.1) ?_
   (j3,[],.nils,[]) ⟨hwh,by simp,.inl ⟨rfl,rfl⟩,l.length+1,by omega,rfl⟩
  clear hra hw3 hwd hw1 hfu
  rintro ⟨i,ws,wD,E⟩ ⟨hwt,hws,hacc,f,hf,hcx⟩ next
  dsimp only at hwt hws hacc hf hcx next
  obtain ⟨f,rfl⟩ : ∃ g,f=g+1:=⟨f - 1,by omega⟩
  have hil:i<l.length:=isW_lt hwt
  have hwd:=hacc.one
  have hlen : ∀ S:Mem,builtinD Tryz.prog .len #[35] [wD] S=some (.int .i64 (ws.length:Int),S):=by
   intro S
   rcases hacc with ⟨rfl,rfl⟩ | ⟨_,q,rfl,_⟩<;>simp [builtinD,Tryz.underlying35]
  have hfl:=fun a e=>r3Fail (l:=l) S (agL afn ak (.str op1) (.str nm1) (.int .i64 n1) (.sl none 4 ks1.length (ndsC ks1)) (.str op2) (.str nm2) (.int .i64 n2) (.sl none 4 ks2.length (ndsC ks2)) wD) E a 0 e
  have hcond:=rCond hl hw hops (Fam.three S (.obj zA) (.obj (agL afn ak (.str op1) (.str nm1) (.int .i64 n1) (.sl none 4 ks1.length (ndsC ks1)) (.str op2) (.str nm2) (.int .i64 n2) (.sl none 4 ks2.length (ndsC ks2)) wD)) E) (i+1) hil
  simp only [m3,rC,zA,agL] at hfl next ⊢
  by_cases h4:ws.length<4
  rotate_left
  ·clear next hcond
   have hx:aggX l = .error (i,4):=by
    rw [hx1,hcx]
    simp [condsX,hwt,h4]
   rw [hp,hx]
   have hpl':=hpl i
   repeat' (first|refine Go.a rfl ?_|refine Go.rg ?_|refine GoR.nil ?_|refine Go.ret ?_|refine Go.b rfl ?_|refine Go.rgS dmx (by decide) ?_|refine Go.rgD [11] (fun H=>objAt H (S.length+1)=some [.sl none 4 l.length (toksC l),.int .i64 (i:Int),.int .i64 0,.int .i64 4,.int .i64 (i:Int)]) dmx (by decide) 15 (by decide) (by (simp only [objAt_app,objAt_app0,objAt_succ,objAt_zero])) ?_|refine GoW.nil rfl ?_|((first|refine GoR.o (by rfl) (by rfl) ?_|refine GoW.o (by rfl) (by rfl) ?_|refine GoW.rd (by rfl) (by rfl) ?_);(conv=>arg 1;simp only [G,Z,Y,Gx,vV,simprocAttr,fb2,fb3,fb9,fb34,fb35,fb37,fb82,fb87,fb88,fb93,hlen,show ((ws.length:Int)==4)=true by simp;omega]);first|show GoR ..|(show _∧GoW ..;refine ⟨by (first|exact fun h=>absurd h (by decide)|(intro _;(simp only [objAt_app,objAt_app0,objAt_succ,objAt_zero]))),?_⟩)|(show _∧_∧_∧GoW ..;refine ⟨rfl,by (simp only [objAt_app,objAt_app0,objAt_succ,objAt_zero]),(fun H hI=>by (try dsimp only at hI);simp only [G,Z,Y,Gx,vV,simprocAttr,fb2,fb3,fb9,fb34,fb35,fb37,fb82,fb87,fb88,fb93,hlen,show ((ws.length:Int)==4)=true by simp;omega,hI]),?_⟩))|(refine GoW.c c32 (by rfl) (by rfl) rfl ?_;(refine CallD.ret2 (hfl _ _) ?_);refine ⟨by (first|exact fun h=>absurd h (by decide)|(intro _;(simp only [objAt_app,objAt_app0,objAt_succ,objAt_zero]))),?_⟩)|(refine GoR.c c32 (by rfl) (by rfl) rfl ?_;(refine CallD.ret2 (hfl _ _) ?_))|(refine GoW.c c38 (by rfl) (by rfl) rfl ?_;(refine CallD.ret2 (hpl' _) ?_);refine ⟨by (first|exact fun h=>absurd h (by decide)|(intro _;(simp only [objAt_app,objAt_app0,objAt_succ,objAt_zero]))),?_⟩)|(refine GoR.c c38 (by rfl) (by rfl) rfl ?_;(refine CallD.ret2 (hpl' _) ?_))|refine GoR.s (by rfl) rfl rfl ?_|refine GoW.s (by rfl) rfl rfl (by (first|exact fun h=>absurd h (by decide)|(intro _;(simp only [objAt_app,objAt_app0,objAt_succ,objAt_zero])))) ?_|(refine GoR.splitG rfl (fun hc => ?_) (fun hc => ?_)<;>simp only [hc])|refine Go.condB rfl (fun hc => ?_) (fun hc => ?_))
   refine ⟨(by first | exact .inl rfl | exact .inr rfl),fin ?_⟩
   rw [resD_three (fn:=Tryz.f10) rfl]
   simp only [optThen_some,resultD_tmp,resultD_cell,G,Z,Y,Gx,vV,simprocAttr,fb2,fb3,fb9,fb34,fb35,fb37,fb82,fb87,fb88,fb93]
   exact ⟨_,_,rfl,Wf.to_Wk fin_err (resA_low (.error (placeF l i s,4))),rfl⟩
  have d4:((ws.length:Int)==4)=false:=beq_eq_false_iff_ne.2 (by omega)
  have ws1:=wrap_succ (show i<4611686018427387904 by omega)
  have happ:=fun (c:Cd) (r:List D)=>(hacc.ext [.obj (Cd.c c)]).moreR (by omega) c (S0:=S++[.obj zA,.obj r,.obj (agL afn ak (.str op1) (.str nm1) (.int .i64 n1) (.sl none 4 ks1.length (ndsC ks1)) (.str op2) (.str nm2) (.int .i64 n2) (.sl none 4 ks2.length (ndsC ks2)) wD)]) (by simp)
  cases hc:condX l (i+1) with
  | error x=>
   clear next
   obtain ⟨j4,e⟩:=x
   have he:=condX_err hw hil hc
   have hx:aggX l = .error (j4,e):=by
    rw [hx1,hcx]
    simp [condsX,hwt,h4,hc]
   rw [hp,hx]
   have hpl':=hpl j4
   obtain ⟨cd,hcond⟩:=hcond.2 j4 e hc
   obtain ⟨wD',E',hap,hacc2⟩:=happ cd (rC l j4 0 e j4)
   have hwd2:=hacc2.one
   clear hacc2 happ
   obtain ⟨cop,⟨op3,nm3,n3,ks3⟩,⟨op4,nm4,n4,ks4⟩⟩:=cd
   have he1:(e==0)=false:=by simpa using he
   have he2:(e != 0)=true:=by simpa using he
   simp only [Cd.c,Nd.c_mk,List.cons_append,List.nil_append,List.append_assoc,rC,agL,zA] at hap hcond
   repeat' (first|refine Go.a rfl ?_|refine Go.rg ?_|refine GoR.nil ?_|refine Go.ret ?_|refine Go.b rfl ?_|refine Go.rgS dmx (by decide) ?_|refine Go.rgD [11] (fun _=>True) dmx (by decide) 15 (by decide) (by trivial) ?_|refine GoW.nil rfl ?_|((first|refine GoR.o (by rfl) (by rfl) ?_|refine GoW.o (by rfl) (by rfl) ?_|refine GoW.rd (by rfl) (by rfl) ?_);(conv=>arg 1;simp only [G,Z,Y,Gx,vV,simprocAttr,fb2,fb3,fb9,fb34,fb35,fb37,fb82,fb87,fb88,fb93,hlen,d4,ws1,hwd,hwd2,hap,he1,he2,builtin_append,List.append_assoc,List.cons_append,List.nil_append]);first|show GoR ..|(show _∧GoW ..;refine ⟨by exact fun _=>trivial,?_⟩)|(show _∧_∧_∧GoW ..;refine ⟨rfl,by trivial,(fun H _=>by simp only [G,Z,Y,Gx,vV,simprocAttr,fb2,fb3,fb9,fb34,fb35,fb37,fb82,fb87,fb88,fb93,hlen,d4,ws1,hwd,hwd2,hap,he1,he2,builtin_append,List.append_assoc,List.cons_append,List.nil_append]),?_⟩))|(refine GoW.c c37 (by rfl) (by rfl) rfl ?_;(refine CallD.ret2 hcond ?_);refine ⟨by exact fun _=>trivial,?_⟩)|(refine GoR.c c37 (by rfl) (by rfl) rfl ?_;(refine CallD.ret2 hcond ?_))|refine GoR.s (by rfl) rfl rfl ?_|refine GoW.s (by rfl) rfl rfl (by exact fun _=>trivial) ?_|(refine GoR.splitG rfl (fun hc => ?_) (fun hc => ?_)<;>simp only [hc])|refine Go.condB rfl (fun hc => ?_) (fun hc => ?_))
   refine Go.lpN ?_
   refine Go.loop ?_
   repeat' (first|refine Go.a rfl ?_|refine Go.rg ?_|refine GoR.nil ?_|refine Go.ret ?_|refine Go.b rfl ?_|refine Go.rgS dmx (by decide) ?_|refine Go.rgD [11] (fun H=>objAt H (S.length+1)=some [.sl none 4 l.length (toksC l),.int .i64 (j4:Int),.int .i64 0,.int .i64 e,.int .i64 (j4:Int)]) dmx (by decide) 15 (by decide) (by (simp only [objAt_app,objAt_app0,objAt_succ,objAt_zero])) ?_|refine GoW.nil rfl ?_|((first|refine GoR.o (by rfl) (by rfl) ?_|refine GoW.o (by rfl) (by rfl) ?_|refine GoW.rd (by rfl) (by rfl) ?_);(conv=>arg 1;simp only [G,Z,Y,Gx,vV,simprocAttr,fb2,fb3,fb9,fb34,fb35,fb37,fb82,fb87,fb88,fb93,he1,he2]);first|show GoR ..|(show _∧GoW ..;refine ⟨by (first|exact fun h=>absurd h (by decide)|(intro _;(simp only [objAt_app,objAt_app0,objAt_succ,objAt_zero]))),?_⟩)|(show _∧_∧_∧GoW ..;refine ⟨rfl,by (simp only [objAt_app,objAt_app0,objAt_succ,objAt_zero]),(fun H hI=>by (try dsimp only at hI);simp only [G,Z,Y,Gx,vV,simprocAttr,fb2,fb3,fb9,fb34,fb35,fb37,fb82,fb87,fb88,fb93,he1,he2,hI]),?_⟩))|(refine GoW.c c38 (by rfl) (by rfl) rfl ?_;(refine CallD.ret2 (hpl' _) ?_);refine ⟨by (first|exact fun h=>absurd h (by decide)|(intro _;(simp only [objAt_app,objAt_app0,objAt_succ,objAt_zero]))),?_⟩)|(refine GoR.c c38 (by rfl) (by rfl) rfl ?_;(refine CallD.ret2 (hpl' _) ?_))|refine GoR.s (by rfl) rfl rfl ?_|refine GoW.s (by rfl) rfl rfl (by (first|exact fun h=>absurd h (by decide)|(intro _;(simp only [objAt_app,objAt_app0,objAt_succ,objAt_zero])))) ?_|(refine GoR.splitG rfl (fun hc => ?_) (fun hc => ?_)<;>simp only [hc])|refine Go.condB rfl (fun hc => ?_) (fun hc => ?_))
   refine ⟨(by first | exact .inl rfl | exact .inr rfl),fin ?_⟩
   rw [resD_three (fn:=Tryz.f10) rfl]
   simp only [optThen_some,resultD_tmp,resultD_cell,G,Z,Y,Gx,vV,simprocAttr,fb2,fb3,fb9,fb34,fb35,fb37,fb82,fb87,fb88,fb93]
   exact ⟨_,_,rfl,Wf.to_Wk fin_err (resA_low (.error (placeF l j4 s,e))),rfl⟩
  | ok x=>
  obtain ⟨cd,j4⟩:=x
  obtain ⟨hj4,hj4l⟩:=condX_le hw (show i+1≤l.length from hil) hc
  have hcond:=hcond.1 cd j4 hc
  obtain ⟨wD',E',hap,hacc2⟩:=happ cd (rC l j4 0 0 0)
  clear happ
  have hwd2:=hacc2.one
  have hsep:sepX (ws++[cd])=(⟨#[97,110,100]⟩:ByteArray):=by cases ws<;>rfl
  have hcx2:condsX l (l.length+1) [] j3=condsX l f (ws++[cd]) j4:=by
   rw [hcx]
   simp [condsX,hwt,h4,hc]
  have hwa:=fun A E=>r3Word (l:=l) S A E j4 0 0 (⟨#[97,110,100]⟩:ByteArray)
  cases hand:isW l j4 1 (⟨#[97,110,100]⟩:ByteArray) with
  | true=>
   have hn:=next (j4,ws++[cd],wD',E') (by dsimp only;omega) ⟨by rw [hsep];exact hand,by simp;omega,hacc2,f,by dsimp only;omega,hcx2⟩
   clear next
   rw [hand] at hwa
   obtain ⟨cop,⟨op3,nm3,n3,ks3⟩,⟨op4,nm4,n4,ks4⟩⟩:=cd
   simp only [m3,Cd.c,Nd.c_mk,List.cons_append,List.nil_append,List.append_assoc,rC,agL,zA] at hap hcond hwa hn
   repeat' (first|refine Go.a rfl ?_|refine Go.rg ?_|refine GoR.nil ?_|refine Go.ret ?_|refine Go.b rfl ?_|refine Go.rgS dmx (by decide) ?_|refine Go.rgD [11] (fun _=>True) dmx (by decide) 15 (by decide) (by trivial) ?_|refine GoW.nil rfl ?_|((first|refine GoR.o (by rfl) (by rfl) ?_|refine GoW.o (by rfl) (by rfl) ?_|refine GoW.rd (by rfl) (by rfl) ?_);(conv=>arg 1;simp only [G,Z,Y,Gx,vV,simprocAttr,fb2,fb3,fb9,fb34,fb35,fb37,fb82,fb87,fb88,fb93,hlen,d4,ws1,hwd,hwd2,hap,builtin_append,List.append_assoc,List.cons_append,List.nil_append]);first|show GoR ..|(show _∧GoW ..;refine ⟨by exact fun _=>trivial,?_⟩)|(show _∧_∧_∧GoW ..;refine ⟨rfl,by trivial,(fun H _=>by simp only [G,Z,Y,Gx,vV,simprocAttr,fb2,fb3,fb9,fb34,fb35,fb37,fb82,fb87,fb88,fb93,hlen,d4,ws1,hwd,hwd2,hap,builtin_append,List.append_assoc,List.cons_append,List.nil_append]),?_⟩))|(refine GoW.c c37 (by rfl) (by rfl) rfl ?_;(refine CallD.ret2 hcond ?_);refine ⟨by exact fun _=>trivial,?_⟩)|(refine GoR.c c37 (by rfl) (by rfl) rfl ?_;(refine CallD.ret2 hcond ?_))|(refine GoW.c c36 (by rfl) (by rfl) rfl ?_;(refine CallD.ret2 (hwa _ _) ?_);refine ⟨by exact fun _=>trivial,?_⟩)|(refine GoR.c c36 (by rfl) (by rfl) rfl ?_;(refine CallD.ret2 (hwa _ _) ?_))|refine GoR.s (by rfl) rfl rfl ?_|refine GoW.s (by rfl) rfl rfl (by exact fun _=>trivial) ?_|(refine GoR.splitG rfl (fun hc => ?_) (fun hc => ?_)<;>simp only [hc])|refine Go.condB rfl (fun hc => ?_) (fun hc => ?_))
   refine Go.lpN ?_
   refine Go.keep [(0,.str s),(2,.ptr S.length 0),(5,.sl none 4 l.length (toksC l)),(8,.ptr (S.length+1) 0),(9,.ptr (S.length+2) 0),(10,.bool true)] (.cons .refl (.cons .refl (.cons .refl (.cons .refl (.cons .refl (.cons .refl (.nil))))))) ?_
   exact hn
  | false=>
   clear next
   rw [hand] at hwa
   obtain ⟨f,rfl⟩ : ∃ g,f=g+1:=⟨f - 1,by omega⟩
   have hcx3:condsX l (l.length+1) [] j3 = .ok (ws++[cd],j4):=by
    rw [hcx2]
    simp [condsX,hsep,hand]
   by_cases hend:j4=l.length
   ·subst hend
    have hx:aggX l = .ok ⟨afn,ak,.mk op1 nm1 n1 ks1,.mk op2 nm2 n2 ks2,ws++[cd]⟩:=by
     rw [hx1,hcx3]
     simp
    rw [hp,hx]
    have hwW:Wf wD' (.sl none 9 (ws++[cd]).length (cdsC (ws++[cd]))):=by
     rcases hacc2 with ⟨_,h⟩ | ⟨_,q,rfl,_⟩
     ·simp at h
     ·exact .disown
    have hwA:Wf (.agg (agL afn ak (.str op1) (.str nm1) (.int .i64 n1) (.sl none 4 ks1.length (ndsC ks1)) (.str op2) (.str nm2) (.int .i64 n2) (.sl none 4 ks2.length (ndsC ks2)) wD')) (.agg (Ag.c ⟨afn,ak,.mk op1 nm1 n1 ks1,.mk op2 nm2 n2 ks2,ws++[cd]⟩)):=.agg' (by
     simp only [Ag.c,agL,Nd.c_mk,List.cons_append,List.nil_append]
     exact .cons .refl (.cons .refl (.cons .refl (.cons .refl (.cons .refl (.cons .refl (.cons .refl (.cons .refl (.cons .refl (.cons .refl (.cons hwW .nil)))))))))))
    have hlow:=resA_low (m:=S.length) (.ok ⟨afn,ak,.mk op1 nm1 n1 ks1,.mk op2 nm2 n2 ks2,ws++[cd]⟩)
    clear hwW hx1 hcx hcx2 hcx3 hx
    have djl:decide ((l.length:Int)<(l.length:Int))=false:=by simp
    obtain ⟨cop,⟨op3,nm3,n3,ks3⟩,⟨op4,nm4,n4,ks4⟩⟩:=cd
    simp only [m3,Cd.c,Nd.c_mk,List.cons_append,List.nil_append,List.append_assoc,rC,agL,zA] at hap hcond hwa hwA
    repeat' (first|refine Go.a rfl ?_|refine Go.rg ?_|refine GoR.nil ?_|refine Go.ret ?_|refine Go.b rfl ?_|refine Go.rgS dmx (by decide) ?_|refine Go.rgD [11] (fun _=>True) dmx (by decide) 15 (by decide) (by trivial) ?_|refine GoW.nil rfl ?_|((first|refine GoR.o (by rfl) (by rfl) ?_|refine GoW.o (by rfl) (by rfl) ?_|refine GoW.rd (by rfl) (by rfl) ?_);(conv=>arg 1;simp only [G,Z,Y,Gx,vV,simprocAttr,fb2,fb3,fb9,fb34,fb35,fb37,fb82,fb87,fb88,fb93,hlen,d4,ws1,hwd,hwd2,hap,builtin_append,List.append_assoc,List.cons_append,List.nil_append]);first|show GoR ..|(show _∧GoW ..;refine ⟨by exact fun _=>trivial,?_⟩)|(show _∧_∧_∧GoW ..;refine ⟨rfl,by trivial,(fun H _=>by simp only [G,Z,Y,Gx,vV,simprocAttr,fb2,fb3,fb9,fb34,fb35,fb37,fb82,fb87,fb88,fb93,hlen,d4,ws1,hwd,hwd2,hap,builtin_append,List.append_assoc,List.cons_append,List.nil_append]),?_⟩))|(refine GoW.c c37 (by rfl) (by rfl) rfl ?_;(refine CallD.ret2 hcond ?_);refine ⟨by exact fun _=>trivial,?_⟩)|(refine GoR.c c37 (by rfl) (by rfl) rfl ?_;(refine CallD.ret2 hcond ?_))|(refine GoW.c c36 (by rfl) (by rfl) rfl ?_;(refine CallD.ret2 (hwa _ _) ?_);refine ⟨by exact fun _=>trivial,?_⟩)|(refine GoR.c c36 (by rfl) (by rfl) rfl ?_;(refine CallD.ret2 (hwa _ _) ?_))|refine GoR.s (by rfl) rfl rfl ?_|refine GoW.s (by rfl) rfl rfl (by exact fun _=>trivial) ?_|(refine GoR.splitG rfl (fun hc => ?_) (fun hc => ?_)<;>simp only [hc])|refine Go.condB rfl (fun hc => ?_) (fun hc => ?_))
    refine Go.lpN ?_
    refine Go.loop ?_
    repeat' (first|refine Go.a rfl ?_|refine Go.rg ?_|refine GoR.nil ?_|refine Go.ret ?_|refine Go.b rfl ?_|refine Go.rgS dmx (by decide) ?_|refine Go.rgD [11] (fun _=>True) dmx (by decide) 15 (by decide) (by trivial) ?_|refine GoW.nil rfl ?_|((first|refine GoR.o (by rfl) (by rfl) ?_|refine GoW.o (by rfl) (by rfl) ?_|refine GoW.rd (by rfl) (by rfl) ?_);(conv=>arg 1;simp only [G,Z,Y,Gx,vV,simprocAttr,fb2,fb3,fb9,fb34,fb35,fb37,fb82,fb87,fb88,fb93,djl,hwd2]);first|show GoR ..|(show _∧GoW ..;refine ⟨by exact fun _=>trivial,?_⟩)|(show _∧_∧_∧GoW ..;refine ⟨rfl,by trivial,(fun H _=>by simp only [G,Z,Y,Gx,vV,simprocAttr,fb2,fb3,fb9,fb34,fb35,fb37,fb82,fb87,fb88,fb93,djl,hwd2]),?_⟩))|refine GoR.s (by rfl) rfl rfl ?_|refine GoW.s (by rfl) rfl rfl (by exact fun _=>trivial) ?_|(refine GoR.splitG rfl (fun hc => ?_) (fun hc => ?_)<;>simp only [hc])|refine Go.condB rfl (fun hc => ?_) (fun hc => ?_))
    refine ⟨(by first | exact .inl rfl | exact .inr rfl),fin ?_⟩
    rw [resD_three (fn:=Tryz.f10) rfl]
    simp only [optThen_some,resultD_tmp,resultD_cell,G,Z,Y,Gx,vV,simprocAttr,fb2,fb3,fb9,fb34,fb35,fb37,fb82,fb87,fb88,fb93,hwd2]
    exact ⟨_,_,rfl,Wf.to_Wk (.tup' (.cons hwA .refl)) hlow,rfl⟩
   ·have hx:aggX l = .error (j4,2):=by
     rw [hx1,hcx3]
     simp [hend]
    rw [hp,hx]
    have hpl':=hpl j4
    have hfl2:=fun E=>r3Fail (l:=l) S (agL afn ak (.str op1) (.str nm1) (.int .i64 n1) (.sl none 4 ks1.length (ndsC ks1)) (.str op2) (.str nm2) (.int .i64 n2) (.sl none 4 ks2.length (ndsC ks2)) wD') E j4 0 2
    have dj4:decide ((j4:Int)<(l.length:Int))=true:=by simp;omega
    clear hx1 hcx hcx2 hcx3 hx
    obtain ⟨cop,⟨op3,nm3,n3,ks3⟩,⟨op4,nm4,n4,ks4⟩⟩:=cd
    simp only [m3,Cd.c,Nd.c_mk,List.cons_append,List.nil_append,List.append_assoc,rC,agL,zA] at hap hcond hwa hfl2
    repeat' (first|refine Go.a rfl ?_|refine Go.rg ?_|refine GoR.nil ?_|refine Go.ret ?_|refine Go.b rfl ?_|refine Go.rgS dmx (by decide) ?_|refine Go.rgD [11] (fun _=>True) dmx (by decide) 15 (by decide) (by trivial) ?_|refine GoW.nil rfl ?_|((first|refine GoR.o (by rfl) (by rfl) ?_|refine GoW.o (by rfl) (by rfl) ?_|refine GoW.rd (by rfl) (by rfl) ?_);(conv=>arg 1;simp only [G,Z,Y,Gx,vV,simprocAttr,fb2,fb3,fb9,fb34,fb35,fb37,fb82,fb87,fb88,fb93,hlen,d4,ws1,hwd,hwd2,hap,builtin_append,List.append_assoc,List.cons_append,List.nil_append]);first|show GoR ..|(show _∧GoW ..;refine ⟨by exact fun _=>trivial,?_⟩)|(show _∧_∧_∧GoW ..;refine ⟨rfl,by trivial,(fun H _=>by simp only [G,Z,Y,Gx,vV,simprocAttr,fb2,fb3,fb9,fb34,fb35,fb37,fb82,fb87,fb88,fb93,hlen,d4,ws1,hwd,hwd2,hap,builtin_append,List.append_assoc,List.cons_append,List.nil_append]),?_⟩))|(refine GoW.c c37 (by rfl) (by rfl) rfl ?_;(refine CallD.ret2 hcond ?_);refine ⟨by exact fun _=>trivial,?_⟩)|(refine GoR.c c37 (by rfl) (by rfl) rfl ?_;(refine CallD.ret2 hcond ?_))|(refine GoW.c c36 (by rfl) (by rfl) rfl ?_;(refine CallD.ret2 (hwa _ _) ?_);refine ⟨by exact fun _=>trivial,?_⟩)|(refine GoR.c c36 (by rfl) (by rfl) rfl ?_;(refine CallD.ret2 (hwa _ _) ?_))|refine GoR.s (by rfl) rfl rfl ?_|refine GoW.s (by rfl) rfl rfl (by exact fun _=>trivial) ?_|(refine GoR.splitG rfl (fun hc => ?_) (fun hc => ?_)<;>simp only [hc])|refine Go.condB rfl (fun hc => ?_) (fun hc => ?_))
    refine Go.lpN ?_
    refine Go.loop ?_
    repeat' (first|refine Go.a rfl ?_|refine Go.rg ?_|refine GoR.nil ?_|refine Go.ret ?_|refine Go.b rfl ?_|refine Go.rgS dmx (by decide) ?_|refine Go.rgD [11] (fun H=>objAt H (S.length+1)=some [.sl none 4 l.length (toksC l),.int .i64 (j4:Int),.int .i64 0,.int .i64 2,.int .i64 (j4:Int)]) dmx (by decide) 15 (by decide) (by (simp only [objAt_app,objAt_app0,objAt_succ,objAt_zero])) ?_|refine GoW.nil rfl ?_|((first|refine GoR.o (by rfl) (by rfl) ?_|refine GoW.o (by rfl) (by rfl) ?_|refine GoW.rd (by rfl) (by rfl) ?_);(conv=>arg 1;simp only [G,Z,Y,Gx,vV,simprocAttr,fb2,fb3,fb9,fb34,fb35,fb37,fb82,fb87,fb88,fb93,dj4]);first|show GoR ..|(show _∧GoW ..;refine ⟨by (first|exact fun h=>absurd h (by decide)|(intro _;(simp only [objAt_app,objAt_app0,objAt_succ,objAt_zero]))),?_⟩)|(show _∧_∧_∧GoW ..;refine ⟨rfl,by (simp only [objAt_app,objAt_app0,objAt_succ,objAt_zero]),(fun H hI=>by (try dsimp only at hI);simp only [G,Z,Y,Gx,vV,simprocAttr,fb2,fb3,fb9,fb34,fb35,fb37,fb82,fb87,fb88,fb93,dj4,hI]),?_⟩))|(refine GoW.c c32 (by rfl) (by rfl) rfl ?_;(refine CallD.ret2 (hfl2 _) ?_);refine ⟨by (first|exact fun h=>absurd h (by decide)|(intro _;(simp only [objAt_app,objAt_app0,objAt_succ,objAt_zero]))),?_⟩)|(refine GoR.c c32 (by rfl) (by rfl) rfl ?_;(refine CallD.ret2 (hfl2 _) ?_))|(refine GoW.c c38 (by rfl) (by rfl) rfl ?_;(refine CallD.ret2 (hpl' _) ?_);refine ⟨by (first|exact fun h=>absurd h (by decide)|(intro _;(simp only [objAt_app,objAt_app0,objAt_succ,objAt_zero]))),?_⟩)|(refine GoR.c c38 (by rfl) (by rfl) rfl ?_;(refine CallD.ret2 (hpl' _) ?_))|refine GoR.s (by rfl) rfl rfl ?_|refine GoW.s (by rfl) rfl rfl (by (first|exact fun h=>absurd h (by decide)|(intro _;(simp only [objAt_app,objAt_app0,objAt_succ,objAt_zero])))) ?_|(refine GoR.splitG rfl (fun hc => ?_) (fun hc => ?_)<;>simp only [hc])|refine Go.condB rfl (fun hc => ?_) (fun hc => ?_))
    refine ⟨(by first | exact .inl rfl | exact .inr rfl),fin ?_⟩
    rw [resD_three (fn:=Tryz.f10) rfl]
    simp only [optThen_some,resultD_tmp,resultD_cell,G,Z,Y,Gx,vV,simprocAttr,fb2,fb3,fb9,fb34,fb35,fb37,fb82,fb87,fb88,fb93]
    exact ⟨_,_,rfl,Wf.to_Wk fin_err (resA_low (.error (placeF l j4 s,2))),rfl⟩
end Go.Proofs.DgT
