/- What is parsed as a fold is a good one. -/
import Derived.Test.YtcdijoaabbjioaaGreatDoorDgG16x
import Derived.Test.YtcdijoaabbjioaaGreatDoorDgKn
set_option linter.unusedSimpArgs false
set_option linter.unusedVariables false
namespace Go.Proofs.DgT
open Go Go.DM
set_option maxRecDepth 100000
theorem Fine.slim {n:Nd} (h:Fine n):Slim 100 n:=whole_slim n h.1
theorem nil_slim:Slim 100 nilN:=.mk (by decide) (by decide) (by simp)
theorem exprX_fine {l:List Tok} (hw : ∀ t∈l,WordOk t) {i:Nat} (hi:i≤l.length) {a:Nd} {j:Nat} (h:exprX l i = .ok (a,j)):Fine a:=by
 obtain ⟨r,hr,hg⟩:=ofF_good hw hi
 simp only [exprX,hr] at h
 split at h
 ·rename_i he
  cases h
  obtain ⟨w,c1,c2⟩:=hg.ok he
  dsimp only at c1
  exact ⟨w,by omega⟩
 ·cases h
def FineC (c:Cd):Prop:=opOk c.op=true∧Fine c.a∧Fine c.b
theorem condX_fine {l:List Tok} (hw : ∀ t∈l,WordOk t) {i:Nat} (hi:i≤l.length) {c:Cd} {j:Nat} (h:condX l i = .ok (c,j)):FineC c:=by
 unfold condX at h
 cases h1:exprX l i with
 | error x=>rw [h1] at h;cases h
 | ok x=>
  obtain ⟨a,j1⟩:=x
  rw [h1] at h
  dsimp only at h
  cases h2:l[j1]? with
  | none=>rw [h2] at h;cases h
  | some t=>
   rw [h2] at h
   dsimp only at h
   split at h
   ·rename_i hk
    cases h3:exprX l (j1+1) with
    | error x=>rw [h3] at h;cases h
    | ok x=>
     rw [h3] at h
     cases h
     exact ⟨hk.2,exprX_fine hw hi h1,exprX_fine hw (show j1+1≤l.length from (List.getElem?_eq_some_iff.1 h2).1) h3⟩
   ·cases h
theorem condsX_fine {l:List Tok} (hw : ∀ t∈l,WordOk t) : ∀ (f:Nat) (ws:List Cd) (i:Nat),i≤l.length→(∀ c∈ws,FineC c)→ws.length≤4 → ∀ ws' j,condsX l f ws i = .ok (ws',j)→(∀ c∈ws',FineC c)∧ws'.length≤4
 | 0,ws,i,hi,h1,h2,ws',j,h=>by cases h;exact ⟨h1,h2⟩
 | f+1,ws,i,hi,h1,h2,ws',j,h=>by
  unfold condsX at h
  split at h
  ·rename_i hwd
   split at h
   ·rename_i h4
    cases hc:condX l (i+1) with
    | error x=>rw [hc] at h;cases h
    | ok x=>
     obtain ⟨c,j2⟩:=x
     rw [hc] at h
     have hil:i+1≤l.length:=isW_lt hwd
     refine condsX_fine hw f (ws++[c]) j2 (condX_le hw hil hc).2 ?_ (by simp;omega) ws' j h
     intro d hd
     rcases List.mem_append.1 hd with hd | hd
     ·exact h1 d hd
     ·rw [List.mem_singleton.1 hd]
      exact condX_fine hw hil hc
   ·cases h
  ·cases h;exact ⟨h1,h2⟩
theorem kX_in {l:List Tok} {b:Bool} {i:Nat} {k:Int} {j:Nat} (hi:i≤l.length) (h:kX l b i = .ok (k,j)):j≤l.length∧(b=true→1≤k∧k≤16):=by
 unfold kX at h
 split at h
 ·rename_i hb
  cases h
  exact ⟨hi,fun e=>by rw [hb] at e;cases e⟩
 ·split at h
  ·cases h
  ·split at h
   ·split at h
    ·cases h
    ·rename_i hn
     cases hw2:wX l (i+1) (⟨#[44]⟩:ByteArray) with
     | error x=>rw [hw2] at h;cases h
     | ok j=>rw [hw2] at h;cases h;exact ⟨(wX_le hw2).2,fun _=>by omega⟩
   ·cases h
theorem eX_in {l:List Tok} (hw : ∀ t∈l,WordOk t) {b:Bool} {i:Nat} {e:Nd} {j:Nat} (hi:i≤l.length) (h:eX l b i = .ok (e,j)):j≤l.length∧(b=true→Fine e)∧Slim 100 e:=by
 unfold eX at h
 split at h
 ·have hf:=exprX_fine hw hi h
  exact ⟨(exprX_le hw hi h).2,fun _=>hf,hf.slim⟩
 ·rename_i hb
  cases h
  exact ⟨hi,fun e=>absurd e hb,nil_slim⟩
theorem byX_in {l:List Tok} (hw : ∀ t∈l,WordOk t) {b:Bool} {i:Nat} {e:Nd} {j:Nat} (hi:i≤l.length) (h:byX l b i = .ok (e,j)):j≤l.length∧(b=true→Fine e)∧Slim 100 e:=by
 unfold byX at h
 split at h
 ·rename_i hb
  cases h
  exact ⟨hi,fun e=>(by rw [hb] at e;cases e),nil_slim⟩
 ·cases hw2:wX l i (⟨#[44]⟩:ByteArray) with
  | error x=>rw [hw2] at h;cases h
  | ok j2=>
   rw [hw2] at h
   have hj:=(wX_le hw2).2
   have hf:=exprX_fine hw hj h
   exact ⟨(exprX_le hw hj h).2,fun _=>hf,hf.slim⟩
theorem needs_e {fn:ByteArray} (h:(needsF fn).2.2.2=true):(fn=(⟨#[116,111,112]⟩:ByteArray)→(needsF fn).1=true)∧(fn≠(⟨#[99,111,117,110,116]⟩:ByteArray)→(needsF fn).2.1=true)∧(fn=(⟨#[102,105,114,115,116]⟩:ByteArray)→(needsF fn).2.2.1=true):=by
 rcases needs_cases h with rfl | rfl | rfl | ⟨h1,h2,h3,hn⟩
 ·exact ⟨fun _=>by contradiction,fun h=>absurd rfl h,fun _=>by contradiction⟩
 ·exact ⟨fun _=>by contradiction,fun _=>rfl,fun _=>rfl⟩
 ·exact ⟨fun _=>rfl,fun _=>rfl,fun _=>by contradiction⟩
 ·rw [hn]
  exact ⟨fun h=>absurd h h2,fun _=>rfl,fun h=>absurd h h3⟩
theorem aggX_good {l:List Tok} (hw : ∀ t∈l,WordOk t) {a:Ag} (h:aggX l = .ok a):GoodA a∧SlimA a:=by
 unfold aggX at h
 cases h0:l[0]? with
 | none=>rw [h0] at h;cases h
 | some t=>
  rw [h0] at h
  dsimp only at h
  split at h
  ·split at h
   ·rename_i hk hfn
    obtain ⟨n1,n2,n3⟩:=needs_e hfn
    unfold midX at h
    cases h1:wX l 1 (⟨#[40]⟩:ByteArray) with
    | error x=>rw [h1] at h;cases h
    | ok i1=>
     rw [h1] at h
     dsimp only at h
     have l1:=(wX_le h1).2
     cases h2:kX l (needsF t.t).1 i1 with
     | error x=>rw [h2] at h;cases h
     | ok x=>
      obtain ⟨k,i2⟩:=x
      rw [h2] at h
      dsimp only at h
      obtain ⟨l2,p2⟩:=kX_in l1 h2
      cases h3:eX l (needsF t.t).2.1 i2 with
      | error x=>rw [h3] at h;cases h
      | ok x=>
       obtain ⟨e,i3⟩:=x
       rw [h3] at h
       dsimp only at h
       obtain ⟨l3,p3,s3⟩:=eX_in hw l2 h3
       cases h4:byX l (needsF t.t).2.2.1 i3 with
       | error x=>rw [h4] at h;cases h
       | ok x=>
        obtain ⟨b,i4⟩:=x
        rw [h4] at h
        dsimp only at h
        obtain ⟨l4,p4,s4⟩:=byX_in hw l3 h4
        unfold tailX at h
        cases h5:wX l i4 (⟨#[41]⟩:ByteArray) with
        | error x=>rw [h5] at h;cases h
        | ok i5=>
         rw [h5] at h
         dsimp only at h
         cases h6:condsX l (l.length+1) [] i5 with
         | error x=>rw [h6] at h;cases h
         | ok x=>
          obtain ⟨ws,i6⟩:=x
          rw [h6] at h
          dsimp only at h
          split at h
          ·cases h
           obtain ⟨q1,q2⟩:=condsX_fine hw _ [] i5 (wX_le h5).2 (by simp) (by simp) ws i6 h6
           exact ⟨⟨hfn,fun q=>p2 (n1 q),fun q=>p3 (n2 q),fun q=>p4 (n3 q),q2,q1⟩,s3,s4,fun c hc=>⟨(q1 c hc).2.1.slim,(q1 c hc).2.2.slim⟩⟩
          ·cases h
   ·cases h
  ·cases h
theorem parseA_good {s:ByteArray} {a:Ag} (h:parseA s = .ok a):GoodA a∧SlimA a:=by
 unfold parseA at h
 cases hl:lexF s with
 | error x=>rw [hl] at h;cases h
 | ok l=>
  rw [hl] at h
  dsimp only at h
  cases hA:aggX l with
  | error x=>rw [hA] at h;cases h
  | ok a'=>rw [hA] at h;cases h;exact aggX_good (lex_word hl) hA
theorem condsX_err {l:List Tok} (hw : ∀ t∈l,WordOk t) : ∀ (f:Nat) (ws:List Cd) (i:Nat),∀ j e,condsX l f ws i = .error (j,e)→e≠0
 | 0,ws,i,j,e,h=>by cases h
 | f+1,ws,i,j,e,h=>by
  unfold condsX at h
  split at h
  ·rename_i hwd
   split at h
   ·cases hc:condX l (i+1) with
    | error x=>rw [hc] at h;cases h;exact condX_err hw (isW_lt hwd) hc
    | ok x=>
     obtain ⟨c,j2⟩:=x
     rw [hc] at h
     exact condsX_err hw f _ _ j e h
   ·cases h;decide
  ·cases h
theorem aggX_err {l:List Tok} (hw : ∀ t∈l,WordOk t) {j:Nat} {e:Int} (h:aggX l = .error (j,e)):e≠0:=by
 have hwe : ∀ {i j:Nat} {e:Int} {s:ByteArray},wX l i s = .error (j,e)→e≠0:=fun h=>by have:=(wX_err h).2;subst this;decide
 unfold aggX at h
 cases h0:l[0]? with
 | none=>rw [h0] at h;cases h;decide
 | some t=>
  rw [h0] at h
  dsimp only at h
  split at h
  ·split at h
   ·rw [midX_args] at h
    cases h1:wX l 1 (⟨#[40]⟩:ByteArray) with
    | error x=>rw [h1] at h;cases h;exact hwe h1
    | ok i1=>
     rw [h1] at h
     dsimp only at h
     cases h2:argsX l t.t (needsF t.t) i1 with
     | error x=>rw [h2] at h;cases h;exact argsX_err hw (wX_le h1).2 h2
     | ok x=>
      obtain ⟨a,i4⟩:=x
      rw [h2] at h
      dsimp only at h
      unfold tailX at h
      cases h5:wX l i4 (⟨#[41]⟩:ByteArray) with
      | error x=>rw [h5] at h;cases h;exact hwe h5
      | ok i5=>
       rw [h5] at h
       dsimp only at h
       cases h6:condsX l (l.length+1) [] i5 with
       | error x=>rw [h6] at h;cases h;exact condsX_err hw _ _ _ _ _ h6
       | ok x=>
        obtain ⟨ws,i6⟩:=x
        rw [h6] at h
        dsimp only at h
        split at h
        ·cases h
        ·cases h;decide
   ·cases h;decide
  ·cases h;decide
theorem parseA_err {s:ByteArray} {p:Nat} {e:Int} (h:parseA s = .error (p,e)):e≠0:=by
 unfold parseA at h
 cases hl:lexF s with
 | error x=>rw [hl] at h;cases h;exact lexF_err hl
 | ok l=>
  rw [hl] at h
  dsimp only at h
  cases hA:aggX l with
  | error x=>rw [hA] at h;cases h;exact aggX_err (lex_word hl) hA
  | ok a'=>rw [hA] at h;cases h
end Go.Proofs.DgT
namespace Go.Proofs.DgT
open Go Go.DM
set_option maxRecDepth 100000
theorem lawAggTexts (s:ByteArray):CallD Tryz.prog O 3 [.str s] [] fun d S'=>S'=[]∧d = .bool true:=by
 by_cases hs:1100<s.size
 ·refine CallD.e Tryz.func3 rfl Tryz.ntmps3 (by rfl) ?_
  repeat' (first|refine Go.a rfl ?_|refine Go.rg ?_|refine GoR.nil ?_|refine Go.ret ?_|refine Go.b rfl ?_|refine Go.rgS dmx (by decide) ?_|refine Go.rgD [10] (fun _=>True) dmx (by decide) 11 (by decide) (by trivial) ?_|refine GoW.nil rfl ?_|((first|refine GoR.o (by rfl) (by rfl) ?_|refine GoW.o (by rfl) (by rfl) ?_|refine GoW.rd (by rfl) (by rfl) ?_);(conv=>arg 1;simp only [G,Z,Y,Gx,vV,simprocAttr,fb2,fb3,fb9,fb25,fb26,fb28,fb34,fb35,fb37,show decide ((s.size:Int)>1100)=true by simp;omega,show decide (1100<(s.size:Int))=true by simp;omega]);first|show GoR ..|(show _∧GoW ..;refine ⟨by exact fun _=>trivial,?_⟩)|(show _∧_∧_∧GoW ..;refine ⟨rfl,by trivial,(fun H _=>by simp only [G,Z,Y,Gx,vV,simprocAttr,fb2,fb3,fb9,fb25,fb26,fb28,fb34,fb35,fb37,show decide ((s.size:Int)>1100)=true by simp;omega,show decide (1100<(s.size:Int))=true by simp;omega]),?_⟩))|(refine GoW.c c8 (by rfl) (by rfl) rfl ?_;(refine CallD.ret2 known11 ?_);refine ⟨by exact fun _=>trivial,?_⟩)|(refine GoR.c c8 (by rfl) (by rfl) rfl ?_;(refine CallD.ret2 known11 ?_))|refine GoR.s (by rfl) rfl rfl ?_|refine GoW.s (by rfl) rfl rfl (by exact fun _=>trivial) ?_|(refine GoR.splitG rfl (fun hc => ?_) (fun hc => ?_)<;>simp only [hc])|refine Go.condB rfl (fun hc => ?_) (fun hc => ?_))
  refine ⟨(by first | exact .inl rfl | exact .inr rfl),fin ?_⟩
  rw [resD_tmp (fn:=Tryz.f3) rfl]
  simp only [optThen_some,resultD_tmp,resultD_cell,G,Z,Y,Gx,vV,simprocAttr,fb2,fb3,fb9,fb25,fb26,fb28,fb34,fb35,fb37]
  exact ⟨_,_,rfl,.of_low (.bool _),rfl⟩
 have d0:decide ((s.size:Int)>1100)=false:=by simp;omega
 have d1:decide (1100<(s.size:Int))=false:=by simp;omega
 have hp:=aggParse s (by omega)
 have hr:=refParse s (by omega)
 cases h:parseA s with
 | error x=>
  obtain ⟨p,e⟩:=x
  have he:=parseA_err h
  rw [h] at hp hr
  simp only [resA,Ag.c,zeroAg,nilN,Nd.c_mk,List.cons_append,List.nil_append] at hp hr
  refine CallD.e Tryz.func3 rfl Tryz.ntmps3 (by rfl) ?_
  repeat' (first|refine Go.a rfl ?_|refine Go.rg ?_|refine GoR.nil ?_|refine Go.ret ?_|refine Go.b rfl ?_|refine Go.rgS dmx (by decide) ?_|refine Go.rgD [10] (fun _=>True) dmx (by decide) 11 (by decide) (by trivial) ?_|refine GoW.nil rfl ?_|((first|refine GoR.o (by rfl) (by rfl) ?_|refine GoW.o (by rfl) (by rfl) ?_|refine GoW.rd (by rfl) (by rfl) ?_);(conv=>arg 1;simp only [G,Z,Y,Gx,vV,simprocAttr,fb2,fb3,fb9,fb25,fb26,fb28,fb34,fb35,fb37,d0,d1,bne_self_eq_false,show (e != 0)=true by simpa using he]);first|show GoR ..|(show _∧GoW ..;refine ⟨by exact fun _=>trivial,?_⟩)|(show _∧_∧_∧GoW ..;refine ⟨rfl,by trivial,(fun H _=>by simp only [G,Z,Y,Gx,vV,simprocAttr,fb2,fb3,fb9,fb25,fb26,fb28,fb34,fb35,fb37,d0,d1,bne_self_eq_false,show (e != 0)=true by simpa using he]),?_⟩))|(refine GoW.c c8 (by rfl) (by rfl) rfl ?_;(refine CallD.ret2 known11 ?_);refine ⟨by exact fun _=>trivial,?_⟩)|(refine GoR.c c8 (by rfl) (by rfl) rfl ?_;(refine CallD.ret2 known11 ?_))|(refine GoW.c c9 (by rfl) (by rfl) rfl ?_;(refine CallD.ret2 (hp _) ?_);refine ⟨by exact fun _=>trivial,?_⟩)|(refine GoR.c c9 (by rfl) (by rfl) rfl ?_;(refine CallD.ret2 (hp _) ?_))|(refine GoW.c c10 (by rfl) (by rfl) rfl ?_;(refine CallD.ret2 (hr _) ?_);refine ⟨by exact fun _=>trivial,?_⟩)|(refine GoR.c c10 (by rfl) (by rfl) rfl ?_;(refine CallD.ret2 (hr _) ?_))|refine GoR.s (by rfl) rfl rfl ?_|refine GoW.s (by rfl) rfl rfl (by exact fun _=>trivial) ?_|(refine GoR.splitG rfl (fun hc => ?_) (fun hc => ?_)<;>simp only [hc])|refine Go.condB rfl (fun hc => ?_) (fun hc => ?_))
  refine ⟨(by first | exact .inl rfl | exact .inr rfl),fin ?_⟩
  rw [resD_tmp (fn:=Tryz.f3) rfl]
  simp only [optThen_some,resultD_tmp,resultD_cell,G,Z,Y,Gx,vV,simprocAttr,fb2,fb3,fb9,fb25,fb26,fb28,fb34,fb35,fb37]
  exact ⟨_,_,rfl,.of_low (.bool _),rfl⟩
 | ok a=>
  obtain ⟨hg,hsl⟩:=parseA_good h
  have ho:=aggOf a hsl (by have:=hg.w;omega)
  have hc:=refCheckA a hsl hg
  have hsm:=refSameA a hsl hg
  rw [h] at hp hr
  clear hg hsl h
  obtain ⟨fn,k,⟨op1,nm1,n1,ks1⟩,⟨op2,nm2,n2,ks2⟩,w⟩:=a
  simp only [resA,Ag.c,Nd.c_mk,List.cons_append,List.nil_append] at hp hr ho hc hsm
  refine CallD.e Tryz.func3 rfl Tryz.ntmps3 (by rfl) ?_
  repeat' (first|refine Go.a rfl ?_|refine Go.rg ?_|refine GoR.nil ?_|refine Go.ret ?_|refine Go.b rfl ?_|refine Go.rgS dmx (by decide) ?_|refine Go.rgD [10] (fun H=>objAt H 0=some [.str fn,.int .i64 k,.str op1,.str nm1,.int .i64 n1,.sl none 4 ks1.length (ndsC ks1),.str op2,.str nm2,.int .i64 n2,.sl none 4 ks2.length (ndsC ks2),.sl none 9 w.length (cdsC w)]∧objAt H 1=some [.str fn,.int .i64 k,.str op1,.str nm1,.int .i64 n1,.sl none 4 ks1.length (ndsC ks1),.str op2,.str nm2,.int .i64 n2,.sl none 4 ks2.length (ndsC ks2),.sl none 9 w.length (cdsC w)]) dmx (by decide) 11 (by decide) (by (constructor<;>rfl)) ?_|refine GoW.nil rfl ?_|((first|refine GoR.o (by rfl) (by rfl) ?_|refine GoW.o (by rfl) (by rfl) ?_|refine GoW.rd (by rfl) (by rfl) ?_);(conv=>arg 1;simp only [G,Z,Y,Gx,vV,simprocAttr,fb2,fb3,fb9,fb25,fb26,fb28,fb34,fb35,fb37,d0,d1,bne_self_eq_false,beq_self_eq_true]);first|show GoR ..|(show _∧GoW ..;refine ⟨by (first|exact fun h=>absurd h (by decide)|(intro _;(constructor<;>rfl))),?_⟩)|(show _∧_∧_∧GoW ..;refine ⟨rfl,by (constructor<;>rfl),(fun H hI=>by (try dsimp only at hI);simp only [G,Z,Y,Gx,vV,simprocAttr,fb2,fb3,fb9,fb25,fb26,fb28,fb34,fb35,fb37,d0,d1,bne_self_eq_false,beq_self_eq_true,hI]),?_⟩))|(refine GoW.c c8 (by rfl) (by rfl) rfl ?_;(refine CallD.ret2 known11 ?_);refine ⟨by (first|exact fun h=>absurd h (by decide)|(intro _;(constructor<;>rfl))),?_⟩)|(refine GoR.c c8 (by rfl) (by rfl) rfl ?_;(refine CallD.ret2 known11 ?_))|(refine GoW.c c9 (by rfl) (by rfl) rfl ?_;(refine CallD.ret2 (hp _) ?_);refine ⟨by (first|exact fun h=>absurd h (by decide)|(intro _;(constructor<;>rfl))),?_⟩)|(refine GoR.c c9 (by rfl) (by rfl) rfl ?_;(refine CallD.ret2 (hp _) ?_))|(refine GoW.c c10 (by rfl) (by rfl) rfl ?_;(refine CallD.ret2 (hr _) ?_);refine ⟨by (first|exact fun h=>absurd h (by decide)|(intro _;(constructor<;>rfl))),?_⟩)|(refine GoR.c c10 (by rfl) (by rfl) rfl ?_;(refine CallD.ret2 (hr _) ?_))|(refine GoW.c c12 (by rfl) (by rfl) rfl ?_;(refine CallD.ret2 (ho _) ?_);refine ⟨by (first|exact fun h=>absurd h (by decide)|(intro _;(constructor<;>rfl))),?_⟩)|(refine GoR.c c12 (by rfl) (by rfl) rfl ?_;(refine CallD.ret2 (ho _) ?_))|(refine GoW.c c11 (by rfl) (by rfl) rfl ?_;(refine CallD.ret2 (hc _) ?_);refine ⟨by (first|exact fun h=>absurd h (by decide)|(intro _;(constructor<;>rfl))),?_⟩)|(refine GoR.c c11 (by rfl) (by rfl) rfl ?_;(refine CallD.ret2 (hc _) ?_))|(refine GoW.c c13 (by rfl) (by rfl) rfl ?_;(refine CallD.ret2 (hsm _) ?_);refine ⟨by (first|exact fun h=>absurd h (by decide)|(intro _;(constructor<;>rfl))),?_⟩)|(refine GoR.c c13 (by rfl) (by rfl) rfl ?_;(refine CallD.ret2 (hsm _) ?_))|refine GoR.s (by rfl) rfl rfl ?_|refine GoW.s (by rfl) rfl rfl (by (first|exact fun h=>absurd h (by decide)|(intro _;(constructor<;>rfl)))) ?_|(refine GoR.splitG rfl (fun hc => ?_) (fun hc => ?_)<;>simp only [hc])|refine Go.condB rfl (fun hc => ?_) (fun hc => ?_))
  refine ⟨(by first | exact .inl rfl | exact .inr rfl),fin ?_⟩
  rw [resD_tmp (fn:=Tryz.f3) rfl]
  simp only [optThen_some,resultD_tmp,resultD_cell,G,Z,Y,Gx,vV,simprocAttr,fb2,fb3,fb9,fb25,fb26,fb28,fb34,fb35,fb37]
  exact ⟨_,_,rfl,.of_low (.bool _),rfl⟩
end Go.Proofs.DgT
