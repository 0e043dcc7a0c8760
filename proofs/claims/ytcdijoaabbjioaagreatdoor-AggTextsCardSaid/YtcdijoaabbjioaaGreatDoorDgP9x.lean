/- An expression out of words, and out of a text, by the document. -/
import Derived.Test.YtcdijoaabbjioaaGreatDoorDgP6x
set_option linter.unusedSimpArgs false
set_option linter.unusedVariables false
namespace Go.Proofs.DgT
open Go Go.DM
set_option maxRecDepth 100000
theorem refOf {l:List Tok} (hl:l.length<100000) (hw : ∀ t∈l,WordOk t) {k:Nat} (hk:k≤l.length) {r:Nd×St} (hr:ofF l k=some r) (S:Mem) :
  CallD Tryz.prog O 128 [.sl none 4 l.length (toksC l),.int .i64 (k:Int)] S fun d S'=>S'=S∧d = .tup [.agg (okN r).c,.int .i64 (r.2.i:Int),.int .i64 r.2.e]:=by
 have hp:PartR l (S.length+1) 158 (sumF l (l.length+1)):=sumR hl (prdR hl (facR hl hw (l.length+1)))
 have hs:CallD Tryz.prog O 158 [.ptr (S.length+1) 0] (S++[.obj [.str ⟨#[]⟩,.str ⟨#[]⟩,.int .i64 0,.nils],.obj (rC l (k:Int) ((0:Nat):Int) 0 0)]) fun d S' => ∃ c,S'=S++[.obj [.str ⟨#[]⟩,.str ⟨#[]⟩,.int .i64 0,.nils],.obj c]∧RR l r 0 c d:=
  hp.ok _ _ (Fam.new S _) k 0 r 0 ⟨hk,Nat.zero_le _,fun _=>Nat.zero_le _⟩ hr
 simp only [rC,Int.natCast_zero,Int.ofNat_zero,Int.cast_ofNat_Int] at hs
 refine CallD.e Tryz.func128 rfl Tryz.ntmps128 (by rfl) ?_
 by_cases he:r.2.e=0
 ·repeat' (first|refine Go.a rfl ?_|refine Go.rg ?_|refine GoR.nil ?_|refine Go.ret ?_|refine Go.b rfl ?_|refine Go.rgS dmx (by decide) ?_|refine Go.rgD (id:=4) [4,8] (fun H=>objAt H (S.length+1)=some (rC l (r.2.i:Int) (r.2.n:Int) 0 0)) dmx (by decide) 12 (by decide) (by (simp only [objAt_app,objAt_succ,objAt_zero])) ?_|refine Go.rgD (id:=5) [4] (fun H=>objAt H (S.length+1)=some (rC l (r.2.i:Int) (r.2.n:Int) 0 0)) dmx (by decide) 8 (by decide) (by (simp only [objAt_app,objAt_succ,objAt_zero])) ?_|refine GoW.nil rfl ?_|((first|refine GoR.o (by rfl) (by rfl) ?_|refine GoW.o (by rfl) (by rfl) ?_|refine GoW.rd (by rfl) (by rfl) ?_);(conv=>arg 1;simp only [G,Z,Y,Gx,vV,simprocAttr,fb2,fb3,fb9,fb32,fb34,fb82,fb87]);first|show GoR ..|(show _∧GoW ..;refine ⟨by (first|exact fun h=>absurd h (by decide)|(intro _;(simp only [objAt_app,objAt_succ,objAt_zero]))),?_⟩)|(show _∧_∧_∧GoW ..;refine ⟨rfl,by (simp only [objAt_app,objAt_succ,objAt_zero]),(fun H hI=>by (try dsimp only at hI);simp only [G,Z,Y,Gx,vV,simprocAttr,fb2,fb3,fb9,fb32,fb34,fb82,fb87,hI]),?_⟩))|(refine GoW.c c158 (by rfl) (by rfl) rfl ?_;(refine CallD.mono hs ?_;rintro _ _ ⟨c1,rfl,hrr⟩;obtain ⟨nd1,y1,rfl,hy1,hrr⟩:=hrr.form;have ho1:=hy1.one;have hc1:=hy1.cells;obtain ⟨_,rfl,rfl⟩:=hrr.resolve_right (fun h=>h.1 he));refine ⟨by (first|exact fun h=>absurd h (by decide)|(intro _;(simp only [objAt_app,objAt_succ,objAt_zero]))),?_⟩)|(refine GoR.c c158 (by rfl) (by rfl) rfl ?_;(refine CallD.mono hs ?_;rintro _ _ ⟨c1,rfl,hrr⟩;obtain ⟨nd1,y1,rfl,hy1,hrr⟩:=hrr.form;have ho1:=hy1.one;have hc1:=hy1.cells;obtain ⟨_,rfl,rfl⟩:=hrr.resolve_right (fun h=>h.1 he)))|refine Go.condB rfl (fun hc => ?_) (fun hc => ?_))
  repeat' (first|refine Go.a rfl ?_|refine Go.rg ?_|refine GoR.nil ?_|refine Go.ret ?_|refine Go.b rfl ?_|refine Go.rgS dmx (by decide) ?_|refine Go.rgD (id:=4) [4,8] (fun H=>objAt H (S.length+1)=some (rC l (r.2.i:Int) (r.2.n:Int) 0 0)) dmx (by decide) 12 (by decide) (by (simp only [objAt_app,objAt_succ,objAt_zero])) ?_|refine Go.rgD (id:=5) [4] (fun H=>objAt H (S.length+1)=some (rC l (r.2.i:Int) (r.2.n:Int) 0 0)) dmx (by decide) 8 (by decide) (by (simp only [objAt_app,objAt_succ,objAt_zero])) ?_|refine GoW.nil rfl ?_|((first|refine GoR.o (by rfl) (by rfl) ?_|refine GoW.o (by rfl) (by rfl) ?_|refine GoW.rd (by rfl) (by rfl) ?_);(conv=>arg 1;simp only [G,Z,Y,Gx,vV,simprocAttr,fb2,fb3,fb9,fb32,fb34,fb82,fb87,ho1,hc1,rC_at]);first|show GoR ..|(show _∧GoW ..;refine ⟨by (first|exact fun h=>absurd h (by decide)|(intro _;(simp only [objAt_app,objAt_succ,objAt_zero]))),?_⟩)|(show _∧_∧_∧GoW ..;refine ⟨rfl,by (simp only [objAt_app,objAt_succ,objAt_zero]),(fun H hI=>by (try dsimp only at hI);simp only [G,Z,Y,Gx,vV,simprocAttr,fb2,fb3,fb9,fb32,fb34,fb82,fb87,ho1,hc1,rC_at,hI]),?_⟩))|refine Go.condB rfl (fun hc => ?_) (fun hc => ?_))
  refine ⟨(by first | exact .inl rfl | exact .inr rfl),fin ?_⟩
  rw [resD_three (fn:=Tryz.f128) rfl]
  simp only [optThen_some,resultD_tmp,resultD_cell,G,Z,Y,Gx,vV,simprocAttr,fb2,fb3,fb9,fb32,fb34,fb82,fb87,ho1,hc1]
  have:okN r=r.1:=if_pos he
  rw [this,he]
  exact ⟨_,_,rfl,Wf.to_Wk (.tup' (.cons (.agg' (ndX_wf hy1)) .refl)) triple_low,rfl⟩
 ·repeat' (first|refine Go.a rfl ?_|refine Go.rg ?_|refine GoR.nil ?_|refine Go.ret ?_|refine Go.b rfl ?_|refine Go.rgS dmx (by decide) ?_|refine Go.rgD (id:=4) [4,8] (fun _=>True) dmx (by decide) 12 (by decide) (by trivial) ?_|refine Go.rgD (id:=5) [4] (fun _=>True) dmx (by decide) 8 (by decide) (by trivial) ?_|refine GoW.nil rfl ?_|((first|refine GoR.o (by rfl) (by rfl) ?_|refine GoW.o (by rfl) (by rfl) ?_|refine GoW.rd (by rfl) (by rfl) ?_);(conv=>arg 1;simp only [G,Z,Y,Gx,vV,simprocAttr,fb2,fb3,fb9,fb32,fb34,fb82,fb87]);first|show GoR ..|(show _∧GoW ..;refine ⟨by exact fun _=>trivial,?_⟩)|(show _∧_∧_∧GoW ..;refine ⟨rfl,by trivial,(fun H _=>by simp only [G,Z,Y,Gx,vV,simprocAttr,fb2,fb3,fb9,fb32,fb34,fb82,fb87]),?_⟩))|(refine GoW.c c158 (by rfl) (by rfl) rfl ?_;(refine CallD.mono hs ?_;rintro _ _ ⟨c1,rfl,hrr⟩;obtain ⟨nd1,y1,rfl,hy1,hrr⟩:=hrr.form;have ho1:=hy1.one;have hc1:=hy1.cells;obtain ⟨_,p,q,rfl⟩:=hrr.resolve_left (fun h=>he h.1));refine ⟨by exact fun _=>trivial,?_⟩)|(refine GoR.c c158 (by rfl) (by rfl) rfl ?_;(refine CallD.mono hs ?_;rintro _ _ ⟨c1,rfl,hrr⟩;obtain ⟨nd1,y1,rfl,hy1,hrr⟩:=hrr.form;have ho1:=hy1.one;have hc1:=hy1.cells;obtain ⟨_,p,q,rfl⟩:=hrr.resolve_left (fun h=>he h.1)))|refine Go.condB rfl (fun hc => ?_) (fun hc => ?_))
  repeat' (first|refine Go.a rfl ?_|refine Go.rg ?_|refine GoR.nil ?_|refine Go.ret ?_|refine Go.b rfl ?_|refine Go.rgS dmx (by decide) ?_|refine Go.rgD (id:=4) [4,8] (fun H=>objAt H (S.length+1)=some (rC l p q r.2.e (r.2.i:Int))) dmx (by decide) 12 (by decide) (by (simp only [objAt_app,objAt_succ,objAt_zero])) ?_|refine Go.rgD (id:=5) [4] (fun H=>objAt H (S.length+1)=some (rC l p q r.2.e (r.2.i:Int))) dmx (by decide) 8 (by decide) (by (simp only [objAt_app,objAt_succ,objAt_zero])) ?_|refine GoW.nil rfl ?_|((first|refine GoR.o (by rfl) (by rfl) ?_|refine GoW.o (by rfl) (by rfl) ?_|refine GoW.rd (by rfl) (by rfl) ?_);(conv=>arg 1;simp only [G,Z,Y,Gx,vV,simprocAttr,fb2,fb3,fb9,fb32,fb34,fb82,fb87,ho1,hc1,rC_at,show (r.2.e==0)=false by simpa using he,show (r.2.e != 0)=true by simpa using he]);first|show GoR ..|(show _∧GoW ..;refine ⟨by (first|exact fun h=>absurd h (by decide)|(intro _;(simp only [objAt_app,objAt_succ,objAt_zero]))),?_⟩)|(show _∧_∧_∧GoW ..;refine ⟨rfl,by (simp only [objAt_app,objAt_succ,objAt_zero]),(fun H hI=>by (try dsimp only at hI);simp only [G,Z,Y,Gx,vV,simprocAttr,fb2,fb3,fb9,fb32,fb34,fb82,fb87,ho1,hc1,rC_at,show (r.2.e==0)=false by simpa using he,show (r.2.e != 0)=true by simpa using he,hI]),?_⟩))|refine Go.condB rfl (fun hc => ?_) (fun hc => ?_))
  refine ⟨(by first | exact .inl rfl | exact .inr rfl),fin ?_⟩
  rw [resD_three (fn:=Tryz.f128) rfl]
  simp only [optThen_some,resultD_tmp,resultD_cell,G,Z,Y,Gx,vV,simprocAttr,fb2,fb3,fb9,fb32,fb34,fb82,fb87,ho1,hc1]
  have:okN r=nilN:=if_neg he
  rw [this]
  exact ⟨_,_,rfl,Wf.to_Wk (.tup' (.cons nil_wf .refl)) triple_low,rfl⟩
theorem refPlace (l:List Tok) (i:Nat) (s:ByteArray) (S:Mem):CallD Tryz.prog O 38 [.str s,.sl none 4 l.length (toksC l),.int .i64 (i:Int)] S fun d S'=>S'=S∧d = .int .i64 (placeF l i s:Int):=by
 refine CallD.e Tryz.func38 rfl Tryz.ntmps38 (by rfl) ?_
 by_cases hi:i<l.length
 ·have e:placeF l i s=l[i].a:=by simp [placeF,hi]
  rw [e]
  repeat' (first|refine Go.a rfl ?_|refine Go.rg ?_|refine GoR.nil ?_|refine Go.ret ?_|refine Go.b rfl ?_|(refine GoR.o (by rfl) (by rfl) ?_;(conv=>arg 1;simp only [G,Z,Y,Gx,vV,simprocAttr,fb2,fb3,fb9,fb82,fb88,toksAt hi,Tok.c,show decide ((i:Int)≥0)=true by simp,show decide ((0:Int)≤(i:Int))=true by simp,show decide ((i:Int)<(l.length:Int))=true by simp;omega]);show GoR ..)|refine GoR.s (by rfl) rfl rfl ?_|(refine GoR.splitG rfl (fun hc => ?_) (fun hc => ?_)<;>simp only [hc])|refine Go.condB rfl (fun hc => ?_) (fun hc => ?_))
  refine ⟨(by first | exact .inl rfl | exact .inr rfl),fin ?_⟩
  rw [resD_tmp (fn:=Tryz.f38) rfl]
  simp only [optThen_some,resultD_tmp,resultD_cell,G,Z,Y,Gx,vV,simprocAttr,fb2,fb3,fb9,fb82,fb88]
  exact ⟨_,[],by simp,.int,rfl⟩
 ·have e:placeF l i s=s.size:=by simp [placeF,show l[i]?=none by simp;omega]
  rw [e]
  repeat' (first|refine Go.a rfl ?_|refine Go.rg ?_|refine GoR.nil ?_|refine Go.ret ?_|refine Go.b rfl ?_|(refine GoR.o (by rfl) (by rfl) ?_;(conv=>arg 1;simp only [G,Z,Y,Gx,vV,simprocAttr,fb2,fb3,fb9,fb82,fb88,show decide ((i:Int)≥0)=true by simp,show decide ((0:Int)≤(i:Int))=true by simp,show decide ((i:Int)<(l.length:Int))=false by simp;omega]);show GoR ..)|refine GoR.s (by rfl) rfl rfl ?_|(refine GoR.splitG rfl (fun hc => ?_) (fun hc => ?_)<;>simp only [hc])|refine Go.condB rfl (fun hc => ?_) (fun hc => ?_))
  refine ⟨(by first | exact .inl rfl | exact .inr rfl),fin ?_⟩
  rw [resD_tmp (fn:=Tryz.f38) rfl]
  simp only [optThen_some,resultD_tmp,resultD_cell,G,Z,Y,Gx,vV,simprocAttr,fb2,fb3,fb9,fb82,fb88]
  exact ⟨_,[],by simp,.int,rfl⟩
end Go.Proofs.DgT
namespace Go.Proofs.DgT
open Go Go.DM
set_option maxRecDepth 100000
theorem toArr_size {l:List UInt8} : (⟨l.toArray⟩:ByteArray).size=l.length:=List.size_toArray
theorem lexOne_word {b:UInt8} {r:List UInt8} {k:Int} {n v:Nat} (h:lexOne (b::r) = .ok (k,n,v)):(k=1→nameOk ⟨((b::r).take n).toArray⟩=true)∧(k=2→v<9223372036854775808):=by
 unfold lexOne at h
 dsimp only at h
 by_cases h1:letB b=true
 ·rw [if_pos h1] at h
  by_cases h8:8<((b::r).takeWhile lodB).length
  ·rw [if_pos h8] at h;cases h
  ·rw [if_neg h8] at h
   cases h
   refine ⟨fun _ => ?_,fun e=>absurd e (by decide)⟩
   rw [takeWhile_take]
   have hlod:lodB b=true:=by unfold lodB;rw [h1];rfl
   have hpos:=takeWhile_pos (r:=r) hlod
   unfold nameOk
   rw [toArr_size,decide_eq_true (show 1≤_ from hpos),decide_eq_true (show _≤8 by omega),Bool.true_and,Bool.true_and]
   have e:(b::r).takeWhile lodB=b::r.takeWhile lodB:=by rw [List.takeWhile_cons,if_pos hlod]
   have h3:((⟨((b::r).takeWhile lodB).toArray⟩:ByteArray).data)[0]?.any lowB=true:=by
    rw [e]
    show (some b).any lowB=true
    exact h1
   rw [h3,Bool.true_and]
   show (((b::r).takeWhile lodB).toArray.toList).all _=true
   rw [List.toList_toArray,List.all_eq_true]
   intro x hx
   exact takeWhile_all _ x hx
 ·rw [if_neg h1] at h
  by_cases h2:dgtB b=true
  ·rw [if_pos h2] at h
   split at h
   ·cases h
   ·split at h
    ·rename_i hv
     cases h
     exact ⟨fun e=>absurd e (by decide),fun _=>hv⟩
    ·cases h
  ·rw [if_neg h2] at h
   split at h
   ·cases h;exact ⟨fun e=>absurd e (by decide),fun e=>absurd e (by decide)⟩
   ·split at h
    ·cases h;exact ⟨fun e=>absurd e (by decide),fun e=>absurd e (by decide)⟩
    ·cases h
theorem lexAll_word : ∀ (f:Nat) (l:List UInt8) (a:Nat) (ts:List Tok),lexAll f l a = .ok ts → ∀ t∈ts,WordOk t
 | 0,_,_,_,h=>by cases h;simp
 | _+1,[],_,_,h=>by cases h;simp
 | f+1,b::r,a,ts,h=>by
  unfold lexAll at h
  split at h
  ·exact lexAll_word f r (a+1) ts h
  ·cases ho:lexOne (b::r) with
   | error e=>rw [ho] at h;cases h
   | ok x=>
    obtain ⟨k,n,v⟩:=x
    rw [ho] at h
    dsimp only at h
    cases hq:lexAll f ((b::r).drop n) (a+n) with
    | error y=>rw [hq] at h;cases h
    | ok us=>
     rw [hq] at h
     cases h
     intro t ht
     rcases List.mem_cons.1 ht with rfl | ht
     ·obtain ⟨w1,w2⟩:=lexOne_word ho
      refine ⟨lexOne_kind ho,w1,fun hk => ?_⟩
      have:=w2 hk
      exact ⟨⟨by dsimp only;omega,by dsimp only;omega⟩,by dsimp only;omega⟩
     ·exact lexAll_word f _ _ us hq t ht
theorem lex_word {s:ByteArray} {l:List Tok} (h:lexF s = .ok l) : ∀ t∈l,WordOk t:=by
 unfold lexF at h
 split at h
 ·cases h
 ·exact lexAll_word _ _ _ _ h
end Go.Proofs.DgT
