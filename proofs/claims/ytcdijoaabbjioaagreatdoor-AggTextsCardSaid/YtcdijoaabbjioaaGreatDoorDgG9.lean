/- A fold out of a text, by the program. -/
import Derived.Test.YtcdijoaabbjioaaGreatDoorDgG8
import Derived.Test.YtcdijoaabbjioaaGreatDoorDgP9x
set_option linter.unusedSimpArgs false
set_option linter.unusedVariables false
namespace Go.Proofs.DgT
open Go Go.DM
set_option maxRecDepth 100000
theorem aggYes {l:List Tok} (hl:l.length<100000) (hw : ∀ t∈l,WordOk t) {M:List D→Mem} {o n:Nat} (hF:Fam M o n) {a:Ag} (h:aggX l = .ok a) :
  CallD Tryz.prog O 30 [.ptr o 0] (M (gC l 0)) fun d S'=>S'=M (gC l l.length)∧d = .agg (Ag.c a):=by
 have hb:=aggBoth hl hw hF (b:=_) rfl
 rw [h] at hb
 refine CallD.updE hF (CallD.eb Tryz.func30 rfl Tryz.ntmps30 (by rfl) ?_)
 obtain ⟨e,ρ,H',hbig,he,v,hv,E,hE,hwf⟩:=hb
 exact ⟨e,ρ,H',hbig,he,v,hv,E,hE,gC_low,hwf,.agg' (ag_low a)⟩
theorem aggNo {l:List Tok} (hl:l.length<100000) (hw : ∀ t∈l,WordOk t) {M:List D→Mem} {o n:Nat} (hF:Fam M o n) {j:Nat} {e:Int} (h:aggX l = .error (j,e)) :
  CallP Tryz.prog O 30 [.ptr o 0] (M (gC l 0)) fun d S'=>d=badD j e ∧ ∃ c E,S'=M c++E:=by
 have hb:=aggBoth hl hw hF (b:=_) rfl
 rw [h] at hb
 refine CallP.body Tryz.func30 rfl Tryz.ntmps30 (by rfl) ?_
 exact hb
theorem Fam.six (S:Mem) (x1 x2 x3 x4 x5:Ob):Fam (fun c=>S++[x1,x2,x3,x4,x5,.obj c]) (S.length+5) (S.length+6):=
 ⟨by omega,fun c=>by simp,fun c=>by simp [objAt,List.getElem?_append_right],fun c c'=>by
  show (S++[x1,x2,x3,x4,x5,.obj c]).set (S.length+5) _=_
  rw [set_app]
  rfl⟩
def zeroAg:Ag:=⟨⟨#[]⟩,0,nilN,nilN,[]⟩
def parseA (s:ByteArray):ER Ag:=
 match lexF s with
 | .error x=>.error x
 | .ok l=>match aggX l with | .ok a=>.ok a | .error (j,e)=>.error (placeF l j s,e)
def resA:ER Ag→D
 | .ok a=>.tup [.agg (Ag.c a),.int .i64 0,.int .i64 0]
 | .error (p,e)=>.tup [.agg (Ag.c zeroAg),.int .i64 (p:Int),.int .i64 e]
theorem resA_low {m:Nat} (x:ER Ag):DLow m (resA x):=by
 cases x with
 | ok a=>exact .tup' (.cons (.agg' (ag_low a)) (.cons (.int _ _) (.cons (.int _ _) .nil)))
 | error x=>exact .tup' (.cons (.agg' (ag_low _)) (.cons (.int _ _) (.cons (.int _ _) .nil)))
theorem zero_wfa:Wf (.agg zA) (.agg (Ag.c zeroAg)):=by
 have h:=zero_wfl
 exact .agg' (.cons .refl (.cons .refl (WfL.append h (WfL.append h (.cons .nilE .nil)))))
theorem isNil:binD Tryz.prog .eql 20 (.tmp 8) (.const .nilIface) .nili .nili=some (.bool true):=by kernel_rfl
theorem notNil {u:TypeId} {d:D} : binD Tryz.prog .eql 20 (.tmp 8) (.const .nilIface) (.iface u d) .nili=some (.bool false):=by
 simp [binD,toV,toS,nilEqD,Tryz.underlying20]
set_option maxHeartbeats 1000000 in
theorem aggParse (s:ByteArray) (hs:s.size<1000000) (S:Mem):CallD Tryz.prog O 9 [.str s] S fun d S'=>S'=S∧d=resA (parseA s):=by
 have htok:=fun S=>lexTokens s hs S
 cases hlex:lexF s with
 | error x=>
  obtain ⟨p,e⟩:=x
  have he0:=lexF_err hlex
  have hp:parseA s = .error (p,e):=by simp [parseA,hlex]
  rw [hp]
  simp only [hlex,toksD] at htok
  refine CallD.e Tryz.func9 rfl Tryz.ntmps9 (by rfl) ?_
  repeat' (first|refine Go.a rfl ?_|refine Go.rg ?_|refine GoR.nil ?_|refine Go.ret ?_|refine Go.b rfl ?_|refine Go.rgS dmx (by decide) ?_|refine Go.rgD [1,2] (fun H=>objAt H (S.length+2)=some [.int .i64 (p:Int)]∧objAt H (S.length+3)=some [.int .i64 e]) dmx (by decide) 5 (by decide) (by (constructor<;>simp only [objAt_app,objAt_succ,objAt_zero])) ?_|refine GoW.nil rfl ?_|((first|refine GoR.o (by rfl) (by rfl) ?_|refine GoW.o (by rfl) (by rfl) ?_|refine GoW.rd (by rfl) (by rfl) ?_);(conv=>arg 1;simp only [G,Z,Y,Gx,vV,simprocAttr,fb2,fb3,fb9,fb25,fb26,fb28,fb29,fb71,fb80,show (e != 0)=true by simpa using he0]);first|show GoR ..|(show _∧GoW ..;refine ⟨by (first|exact fun h=>absurd h (by decide)|(intro _;(constructor<;>simp only [objAt_app,objAt_succ,objAt_zero]))),?_⟩)|(show _∧_∧_∧GoW ..;refine ⟨rfl,by (constructor<;>simp only [objAt_app,objAt_succ,objAt_zero]),(fun H hI=>by (try dsimp only at hI);simp only [G,Z,Y,Gx,vV,simprocAttr,fb2,fb3,fb9,fb25,fb26,fb28,fb29,fb71,fb80,show (e != 0)=true by simpa using he0,hI]),?_⟩))|(refine GoW.c c28 (by rfl) (by rfl) rfl ?_;(refine CallD.ret2 (htok _) ?_);refine ⟨by (first|exact fun h=>absurd h (by decide)|(intro _;(constructor<;>simp only [objAt_app,objAt_succ,objAt_zero]))),?_⟩)|(refine GoR.c c28 (by rfl) (by rfl) rfl ?_;(refine CallD.ret2 (htok _) ?_))|refine Go.condB rfl (fun hc => ?_) (fun hc => ?_))
  refine ⟨(by first | exact .inl rfl | exact .inr rfl),fin ?_⟩
  rw [resD_three (fn:=Tryz.f9) rfl]
  simp only [optThen_some,resultD_tmp,resultD_cell,G,Z,Y,Gx,vV,simprocAttr,fb2,fb3,fb9,fb25,fb26,fb28,fb29,fb71,fb80]
  exact ⟨_,_,rfl,Wf.to_Wk (.tup' (.cons zero_wfa .refl)) (resA_low (.error (p,e))),rfl⟩
 | ok l=>
  have hll:=lexF_len hs hlex
  have hw:=lex_word hlex
  simp only [hlex,toksD] at htok
  refine CallD.drop (CallD.recv Tryz.func9 rfl Tryz.ntmps9 (by rfl) ?_)
  refine WPdD.seqR ?_
  repeat' (first|refine Go.a rfl ?_|refine Go.rg ?_|refine GoR.nil ?_|refine Go.ret ?_|refine Go.b rfl ?_|refine Go.rgS dmx (by decide) ?_|refine Go.rgD [1,2] (fun _=>True) dmx (by decide) 5 (by decide) (by trivial) ?_|refine GoW.nil rfl ?_|((first|refine GoR.o (by rfl) (by rfl) ?_|refine GoW.o (by rfl) (by rfl) ?_|refine GoW.rd (by rfl) (by rfl) ?_);(conv=>arg 1;simp only [G,Z,Y,Gx,vV,simprocAttr,fb2,fb3,fb9,fb25,fb26,fb28,fb29,fb71,fb80]);first|show GoR ..|(show _∧GoW ..;refine ⟨by exact fun _=>trivial,?_⟩)|(show _∧_∧_∧GoW ..;refine ⟨rfl,by trivial,(fun H _=>by simp only [G,Z,Y,Gx,vV,simprocAttr,fb2,fb3,fb9,fb25,fb26,fb28,fb29,fb71,fb80]),?_⟩)))
  refine ⟨rfl,?_⟩
  refine WPdD.seqR ?_
  repeat' (first|refine Go.a rfl ?_|refine Go.rg ?_|refine GoR.nil ?_|refine Go.ret ?_|refine Go.b rfl ?_|refine Go.rgS dmx (by decide) ?_|refine Go.rgD [1,2] (fun _=>True) dmx (by decide) 5 (by decide) (by trivial) ?_|refine GoW.nil rfl ?_|((first|refine GoR.o (by rfl) (by rfl) ?_|refine GoW.o (by rfl) (by rfl) ?_|refine GoW.rd (by rfl) (by rfl) ?_);(conv=>arg 1;simp only [G,Z,Y,Gx,vV,simprocAttr,fb2,fb3,fb9,fb25,fb26,fb28,fb29,fb71,fb80]);first|show GoR ..|(show _∧GoW ..;refine ⟨by exact fun _=>trivial,?_⟩)|(show _∧_∧_∧GoW ..;refine ⟨rfl,by trivial,(fun H _=>by simp only [G,Z,Y,Gx,vV,simprocAttr,fb2,fb3,fb9,fb25,fb26,fb28,fb29,fb71,fb80]),?_⟩))|(refine GoW.c c28 (by rfl) (by rfl) rfl ?_;(refine CallD.ret2 (htok _) ?_);refine ⟨by exact fun _=>trivial,?_⟩)|(refine GoR.c c28 (by rfl) (by rfl) rfl ?_;(refine CallD.ret2 (htok _) ?_)))
  refine ⟨rfl,?_⟩
  refine WPdD.seqR ?_
  repeat' (first|refine Go.a rfl ?_|refine Go.rg ?_|refine GoR.nil ?_|refine Go.ret ?_|refine Go.b rfl ?_|refine Go.rgS dmx (by decide) ?_|refine Go.rgD [1,2] (fun _=>True) dmx (by decide) 5 (by decide) (by trivial) ?_|refine GoW.nil rfl ?_|((first|refine GoR.o (by rfl) (by rfl) ?_|refine GoW.o (by rfl) (by rfl) ?_|refine GoW.rd (by rfl) (by rfl) ?_);(conv=>arg 1;simp only [G,Z,Y,Gx,vV,simprocAttr,fb2,fb3,fb9,fb25,fb26,fb28,fb29,fb71,fb80]);first|show GoR ..|(show _∧GoW ..;refine ⟨by exact fun _=>trivial,?_⟩)|(show _∧_∧_∧GoW ..;refine ⟨rfl,by trivial,(fun H _=>by simp only [G,Z,Y,Gx,vV,simprocAttr,fb2,fb3,fb9,fb25,fb26,fb28,fb29,fb71,fb80]),?_⟩)))
  refine ⟨rfl,?_⟩
  refine WPdD.seqL (WPdD.at (g:=29) (first:=[]) (captured:=[.ptr S.length 0,.ptr (S.length+1) 0,.ptr (S.length+2) 0,.ptr (S.length+3) 0,.ptr (S.length+4) 0]) rfl (by rfl) rfl rfl rfl rfl rfl rfl ?_)
  conv=>arg 1;simp only [G,Z,Y,Gx,vV,simprocAttr,fb2,fb3,fb9,fb25,fb26,fb28,fb29,fb71,fb80]
  refine ⟨rfl,rfl,?_⟩
  cases hA:aggX l with
  | ok a=>
   have hp:parseA s = .ok a:=by simp [parseA,hlex,hA]
   rw [hp]
   have hyes:=aggYes (by omega) hw (Fam.six S (.obj [.str s]) (.obj zA) (.obj [.int .i64 0]) (.obj [.int .i64 0]) (.obj [.sl none 4 l.length (toksC l)])) hA
   have hone:((Ag.c a).all D.one=true)∧(Ag.c a).length=11:=by simp [Ag.c,Nd.one,Nd.len,D.one]
   obtain ⟨fn,k,⟨op1,nm1,n1,ks1⟩,⟨op2,nm2,n2,ks2⟩,w⟩:=a
   simp only [gC,zA,Ag.c,Nd.c_mk,List.cons_append,List.nil_append] at hyes
   repeat' (first|refine Go.a rfl ?_|refine Go.rg ?_|refine GoR.nil ?_|refine Go.ret ?_|refine Go.b rfl ?_|refine Go.rgS dmx (by decide) ?_|refine Go.rgD [1,2] (fun _=>True) dmx (by decide) 5 (by decide) (by trivial) ?_|refine GoW.nil rfl ?_|((first|refine GoR.o (by rfl) (by rfl) ?_|refine GoW.o (by rfl) (by rfl) ?_|refine GoW.rd (by rfl) (by rfl) ?_);(conv=>arg 1;simp only [G,Z,Y,Gx,vV,simprocAttr,fb2,fb3,fb9,fb25,fb26,fb28,fb29,fb71,fb80]);first|show GoR ..|(show _∧GoW ..;refine ⟨by exact fun _=>trivial,?_⟩)|(show _∧_∧_∧GoW ..;refine ⟨rfl,by trivial,(fun H _=>by simp only [G,Z,Y,Gx,vV,simprocAttr,fb2,fb3,fb9,fb25,fb26,fb28,fb29,fb71,fb80]),?_⟩))|(refine GoW.c c30 (by rfl) (by rfl) rfl ?_;(refine CallD.ret2 hyes ?_);refine ⟨by exact fun _=>trivial,?_⟩)|(refine GoR.c c30 (by rfl) (by rfl) rfl ?_;(refine CallD.ret2 hyes ?_)))
   refine ⟨.inr (.inl rfl),30,8,_,⟨_,_,_,_,_,Tryz.func29,rfl,by decide,rfl,rfl⟩,by simp,by decide,?_⟩
   show Go _ _ _ _ _ _ (putD (initD _) (some 8) .nili) _ _
   repeat' (first|refine Go.a rfl ?_|refine Go.rg ?_|refine GoR.nil ?_|refine Go.ret ?_|refine Go.b rfl ?_|refine Go.rgS dmx (by decide) ?_|refine Go.rgD [4] (fun _=>True) dmx (by decide) 7 (by decide) (by trivial) ?_|refine GoW.nil rfl ?_|((first|refine GoR.o (by rfl) (by rfl) ?_|refine GoW.o (by rfl) (by rfl) ?_|refine GoW.rd (by rfl) (by rfl) ?_);(conv=>arg 1;simp only [G,Z,Y,Gx,vV,simprocAttr,fb2,fb3,fb9,fb20,fb25,fb26,fb28,fb29,fb71,fb75,fb77,isNil]);first|show GoR ..|(show _∧GoW ..;refine ⟨by exact fun _=>trivial,?_⟩)|(show _∧_∧_∧GoW ..;refine ⟨rfl,by trivial,(fun H _=>by simp only [G,Z,Y,Gx,vV,simprocAttr,fb2,fb3,fb9,fb20,fb25,fb26,fb28,fb29,fb71,fb75,fb77,isNil]),?_⟩)))
   refine ⟨.inl rfl,fin ?_⟩
   rw [resD_three (fn:=Tryz.f9) rfl]
   simp only [optThen_some,resultD_tmp,resultD_cell,updD,PANT,G,Z,Y,Gx,vV,simprocAttr,fb2,fb3,fb9,fb25,fb26,fb28,fb29,fb71,fb80]
   exact ⟨resA (.ok ⟨fn,k,.mk op1 nm1 n1 ks1,.mk op2 nm2 n2 ks2,w⟩),_,rfl,Wf.to_Wk (by simp only [resA,Ag.c,Nd.c_mk,List.cons_append,List.nil_append];exact .refl) (resA_low _),rfl⟩
  | error x=>
   obtain ⟨j,e⟩:=x
   have hp:parseA s = .error (placeF l j s,e):=by simp [parseA,hlex,hA]
   rw [hp]
   have hno:=aggNo (by omega) hw (Fam.six S (.obj [.str s]) (.obj zA) (.obj [.int .i64 0]) (.obj [.int .i64 0]) (.obj [.sl none 4 l.length (toksC l)])) hA
   dsimp only [gC] at hno
   repeat' (first|refine Go.a rfl ?_|refine Go.rgP (id:=6) ?_|refine Go.rg ?_|refine GoR.nil ?_|refine Go.ret ?_|refine Go.b rfl ?_|refine Go.rgS dmx (by decide) ?_|refine Go.rgD [1,2] (fun _=>True) dmx (by decide) 5 (by decide) (by trivial) ?_|refine GoP.nil ?_|refine GoP.p rfl (by rfl) ⟨_,_,rfl⟩ ?_|refine GoW.nil rfl ?_|((first|refine GoR.o (by rfl) (by rfl) ?_|refine GoW.o (by rfl) (by rfl) ?_|refine GoW.rd (by rfl) (by rfl) ?_);(conv=>arg 1;simp only [G,Z,Y,Gx,vV,simprocAttr,fb2,fb3,fb9,fb25,fb26,fb28,fb29,fb71,fb80]);first|show GoR ..|(show _∧GoW ..;refine ⟨by exact fun _=>trivial,?_⟩)|(show _∧_∧_∧GoW ..;refine ⟨rfl,by trivial,(fun H _=>by simp only [G,Z,Y,Gx,vV,simprocAttr,fb2,fb3,fb9,fb25,fb26,fb28,fb29,fb71,fb80]),?_⟩))|(refine GoP.o (by rfl) (by rfl) ?_;(conv=>arg 1;simp only [G,Z,Y,Gx,vV,simprocAttr,fb2,fb3,fb9,fb25,fb26,fb28,fb29,fb71,fb80]);show GoP ..))
   obtain ⟨d0,ρ0,H0,hbig,rfl,c,E,rfl⟩:=hno
   refine GoP.cP c30 (by rfl) (by rfl) rfl ⟨_,_,_,hbig,?_⟩
   refine Go.pan rfl ?_
   refine ⟨.inr (.inr rfl),30,8,_,⟨_,_,_,_,_,Tryz.func29,rfl,by decide,rfl,rfl⟩,by simp,by decide,?_⟩
   show Go _ _ _ _ _ _ (putD (initD _) (some 8) (badD j e)) _ _
   simp only [badD,zA,List.append_assoc,List.cons_append,List.nil_append]
   by_cases hj:j<l.length
   ·have hpl:placeF l j s=l[j].a:=by simp [placeF,hj]
    have at1:=toksAt hj
    repeat' (first|refine Go.a rfl ?_|refine Go.rg ?_|refine GoR.nil ?_|refine Go.ret ?_|refine Go.b rfl ?_|refine Go.rgS dmx (by decide) ?_|refine Go.rgD [4] (fun H=>objAt H (S.length+(E.length+1+1+1+1+1+1))=some [.int .i64 (j:Int),.int .i64 e]) dmx (by decide) 7 (by decide) (by (simp only [objAt_app,objAt_app0,objAt_succ,objAt_zero])) ?_|refine GoW.nil rfl ?_|((first|refine GoR.o (by rfl) (by rfl) ?_|refine GoW.o (by rfl) (by rfl) ?_|refine GoW.rd (by rfl) (by rfl) ?_);(conv=>arg 1;simp only [G,Z,Y,Gx,vV,simprocAttr,fb2,fb3,fb9,fb20,fb25,fb26,fb28,fb29,fb71,fb75,fb77,notNil,at1,Tok.c,show decide ((j:Int)<(l.length:Int))=true by simp;omega]);first|show GoR ..|(show _∧GoW ..;refine ⟨by (first|exact fun h=>absurd h (by decide)|(intro _;(simp only [objAt_app,objAt_app0,objAt_succ,objAt_zero]))),?_⟩)|(show _∧_∧_∧GoW ..;refine ⟨rfl,by (simp only [objAt_app,objAt_app0,objAt_succ,objAt_zero]),(fun H hI=>by (try dsimp only at hI);simp only [G,Z,Y,Gx,vV,simprocAttr,fb2,fb3,fb9,fb20,fb25,fb26,fb28,fb29,fb71,fb75,fb77,notNil,at1,Tok.c,show decide ((j:Int)<(l.length:Int))=true by simp;omega,hI]),?_⟩)))
    refine ⟨.inl rfl,fin ?_⟩
    rw [resD_three (fn:=Tryz.f9) rfl]
    simp only [optThen_some,resultD_tmp,resultD_cell,updD,PANT,G,Z,Y,Gx,vV,simprocAttr,fb2,fb3,fb9,fb25,fb26,fb28,fb29,fb71,fb80]
    exact ⟨resA (.error (placeF l j s,e)),_,rfl,Wf.to_Wk (.tup' (.cons zero_wfa (.cons (by rw [hpl];exact .refl) (.cons .refl .nil)))) (resA_low _),rfl⟩
   ·have hpl:placeF l j s=s.size:=by simp [placeF,show l[j]?=none by simp;omega]
    repeat' (first|refine Go.a rfl ?_|refine Go.rg ?_|refine GoR.nil ?_|refine Go.ret ?_|refine Go.b rfl ?_|refine Go.rgS dmx (by decide) ?_|refine Go.rgD [4] (fun H=>objAt H (S.length+(E.length+1+1+1+1+1+1))=some [.int .i64 (j:Int),.int .i64 e]) dmx (by decide) 7 (by decide) (by (simp only [objAt_app,objAt_app0,objAt_succ,objAt_zero])) ?_|refine GoW.nil rfl ?_|((first|refine GoR.o (by rfl) (by rfl) ?_|refine GoW.o (by rfl) (by rfl) ?_|refine GoW.rd (by rfl) (by rfl) ?_);(conv=>arg 1;simp only [G,Z,Y,Gx,vV,simprocAttr,fb2,fb3,fb9,fb20,fb25,fb26,fb28,fb29,fb71,fb75,fb77,notNil,show decide ((j:Int)<(l.length:Int))=false by simp;omega]);first|show GoR ..|(show _∧GoW ..;refine ⟨by (first|exact fun h=>absurd h (by decide)|(intro _;(simp only [objAt_app,objAt_app0,objAt_succ,objAt_zero]))),?_⟩)|(show _∧_∧_∧GoW ..;refine ⟨rfl,by (simp only [objAt_app,objAt_app0,objAt_succ,objAt_zero]),(fun H hI=>by (try dsimp only at hI);simp only [G,Z,Y,Gx,vV,simprocAttr,fb2,fb3,fb9,fb20,fb25,fb26,fb28,fb29,fb71,fb75,fb77,notNil,show decide ((j:Int)<(l.length:Int))=false by simp;omega,hI]),?_⟩)))
    refine ⟨.inl rfl,fin ?_⟩
    rw [resD_three (fn:=Tryz.f9) rfl]
    simp only [optThen_some,resultD_tmp,resultD_cell,updD,PANT,G,Z,Y,Gx,vV,simprocAttr,fb2,fb3,fb9,fb25,fb26,fb28,fb29,fb71,fb80]
    exact ⟨resA (.error (placeF l j s,e)),_,rfl,Wf.to_Wk (.tup' (.cons zero_wfa (.cons (by rw [hpl];exact .refl) (.cons .refl .nil)))) (resA_low _),rfl⟩
end Go.Proofs.DgT
