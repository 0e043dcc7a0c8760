/- A fold of no rows, by the program. -/
import Derived.Test.YtcdijoaabbjioaaGreatDoorDgG20x
import Derived.Test.YtcdijoaabbjioaaGreatDoorDgKn
set_option linter.unusedSimpArgs false
set_option linter.unusedVariables false
namespace Go.Proofs.DgT
open Go Go.DM
set_option maxRecDepth 100000
theorem aggPairs0 (a:Ag) (S:Mem):CallD Tryz.prog O 59 [.agg (Ag.c a),.nils] S fun d S'=>S'=S∧d = .nils:=by
 obtain ⟨fn,k,⟨op1,nm1,n1,ks1⟩,⟨op2,nm2,n2,ks2⟩,w⟩:=a
 have hnd:=aggNeeds (orc:=O) fn
 simp only [Ag.c,Nd.c_mk,List.cons_append,List.nil_append]
 refine CallD.e Tryz.func59 rfl Tryz.ntmps59 (by rfl) ?_
 repeat' (first|refine Go.a rfl ?_|refine Go.rg ?_|refine GoR.nil ?_|refine Go.ret ?_|refine Go.b rfl ?_|(refine GoR.o (by rfl) (by rfl) ?_;(conv=>arg 1;simp only [G,Z,Y,Gx,vV,simprocAttr,fb2,fb3,fb9,fb23,fb25,fb26,fb28,fb49,fb65,fb120,fb123]);show GoR ..)|(refine GoR.c c44 (by rfl) (by rfl) rfl ?_;(refine CallD.ret2 (hnd _) ?_))|refine GoR.s (by rfl) rfl rfl ?_|(refine GoR.splitG rfl (fun hc => ?_) (fun hc => ?_)<;>simp only [hc])|refine Go.condB rfl (fun hc => ?_) (fun hc => ?_))
 refine Go.loop ?_
 repeat' (first|refine Go.a rfl ?_|refine Go.rg ?_|refine GoR.nil ?_|refine Go.ret ?_|refine Go.b rfl ?_|(refine GoR.o (by rfl) (by rfl) ?_;(conv=>arg 1;simp only [G,Z,Y,Gx,vV,simprocAttr,fb2,fb3,fb9,fb23,fb25,fb26,fb28,fb49,fb65,fb120,fb123]);show GoR ..)|refine GoR.s (by rfl) rfl rfl ?_|(refine GoR.splitG rfl (fun hc => ?_) (fun hc => ?_)<;>simp only [hc])|refine Go.condB rfl (fun hc => ?_) (fun hc => ?_))
 refine ⟨(by first | exact .inl rfl | exact .inr rfl),fin ?_⟩
 rw [resD_tmp (fn:=Tryz.f59) rfl]
 simp only [optThen_some,resultD_tmp,resultD_cell,G,Z,Y,Gx,vV,simprocAttr,fb2,fb3,fb9,fb23,fb25,fb26,fb28,fb49,fb65,fb120,fb123]
 exact ⟨_,_,rfl,.of_low .nils,rfl⟩
theorem aggCount0 (a:Ag) (S:Mem):CallD Tryz.prog O 58 [.agg (Ag.c a),.nils] S fun d S'=>S'=S∧d = .int .i64 0:=by
 obtain ⟨fn,k,⟨op1,nm1,n1,ks1⟩,⟨op2,nm2,n2,ks2⟩,w⟩:=a
 simp only [Ag.c,Nd.c_mk,List.cons_append,List.nil_append]
 refine CallD.e Tryz.func58 rfl Tryz.ntmps58 (by rfl) ?_
 repeat' (first|refine Go.a rfl ?_|refine Go.rg ?_|refine GoR.nil ?_|refine Go.ret ?_|refine Go.b rfl ?_|(refine GoR.o (by rfl) (by rfl) ?_;(conv=>arg 1;simp only [G,Z,Y,Gx,vV,simprocAttr,fb2,fb3,fb9,fb25,fb26,fb28,fb49,fb65]);show GoR ..)|refine Go.condB rfl (fun hc => ?_) (fun hc => ?_))
 refine Go.loop ?_
 repeat' (first|refine Go.a rfl ?_|refine Go.rg ?_|refine GoR.nil ?_|refine Go.ret ?_|refine Go.b rfl ?_|(refine GoR.o (by rfl) (by rfl) ?_;(conv=>arg 1;simp only [G,Z,Y,Gx,vV,simprocAttr,fb2,fb3,fb9,fb25,fb26,fb28,fb49,fb65]);show GoR ..)|refine Go.condB rfl (fun hc => ?_) (fun hc => ?_))
 refine ⟨(by first | exact .inl rfl | exact .inr rfl),fin ?_⟩
 rw [resD_tmp (fn:=Tryz.f58) rfl]
 simp only [optThen_some,resultD_tmp,resultD_cell,G,Z,Y,Gx,vV,simprocAttr,fb2,fb3,fb9,fb25,fb26,fb28,fb49,fb65]
 exact ⟨_,_,rfl,.of_low (.int _ _),rfl⟩
theorem aggNumber (n:Int) (S:Mem):CallD Tryz.prog O 57 [.int .i64 n] S fun d S'=>S'=S∧d = .agg [.int .i64 1,.int .i64 n,.str ⟨#[]⟩,.nils]:=by
 refine CallD.e Tryz.func57 rfl Tryz.ntmps57 (by rfl) ?_
 repeat' (first|refine Go.a rfl ?_|refine Go.rg ?_|refine GoR.nil ?_|refine Go.ret ?_|refine Go.b rfl ?_|(refine GoR.o (by rfl) (by rfl) ?_;(conv=>arg 1;simp only [G,Z,Y,Gx,vV,simprocAttr,fb2,fb3,fb9,fb51,fb53]);show GoR ..)|refine Go.condB rfl (fun hc => ?_) (fun hc => ?_))
 refine ⟨(by first | exact .inl rfl | exact .inr rfl),fin ?_⟩
 rw [resD_cell (fn:=Tryz.f57) rfl]
 simp only [optThen_some,resultD_tmp,resultD_cell,G,Z,Y,Gx,vV,simprocAttr,fb2,fb3,fb9,fb51,fb53]
 exact ⟨_,_,rfl,.of_low (.agg' (.cons (.int _ _) (.cons (.int _ _) (.cons (.str _) (.cons .nils .nil))))),rfl⟩
theorem insSort0 (S:Mem):CallD Tryz.prog O 172 [.nils,.int .i64 0,.int .i64 0] S fun d S'=>S'=S∧d = .tup []:=by
 refine CallD.e Tryz.func172 rfl Tryz.ntmps172 (by rfl) ?_
 repeat' (first|refine Go.a rfl ?_|refine Go.rg ?_|refine GoR.nil ?_|refine Go.ret ?_|refine Go.b rfl ?_|refine Go.rgS dmx (by decide) ?_|(refine GoR.o (by rfl) (by rfl) ?_;(conv=>arg 1;simp only [G,Z,Y,Gx,vV,simprocAttr,fb2,fb3,fb51]);show GoR ..)|refine GoR.s (by rfl) rfl rfl ?_|(refine GoR.splitG rfl (fun hc => ?_) (fun hc => ?_)<;>simp only [hc])|refine Go.condB rfl (fun hc => ?_) (fun hc => ?_))
 refine Go.loop ?_
 repeat' (first|refine Go.a rfl ?_|refine Go.rg ?_|refine GoR.nil ?_|refine Go.ret ?_|refine Go.b rfl ?_|refine Go.rgS dmx (by decide) ?_|(refine GoR.o (by rfl) (by rfl) ?_;(conv=>arg 1;simp only [G,Z,Y,Gx,vV,simprocAttr,fb2,fb3,fb51]);show GoR ..)|refine GoR.s (by rfl) rfl rfl ?_|(refine GoR.splitG rfl (fun hc => ?_) (fun hc => ?_)<;>simp only [hc])|refine Go.condB rfl (fun hc => ?_) (fun hc => ?_))
 refine ⟨(by first | exact .inl rfl | exact .inr rfl),fin ?_⟩
 rw [resD_none (fn:=Tryz.f172) rfl]
 simp only [optThen_some,resultD_tmp,resultD_cell,G,Z,Y,Gx,vV,simprocAttr,fb2,fb3,fb51]
 exact ⟨_,[],by simp,.of_low (.tup' .nil),rfl⟩
theorem pdq0 (n:Int) (S:Mem):CallD Tryz.prog O 143 [.nils,.int .i64 0,.int .i64 0,.int .i64 n] S fun d S'=>S'=S∧d = .tup []:=by
 refine CallD.e Tryz.func143 rfl Tryz.ntmps143 (by rfl) ?_
 repeat' (first|refine Go.a rfl ?_|refine Go.rg ?_|refine GoR.nil ?_|refine Go.ret ?_|refine Go.b rfl ?_|refine Go.rgS dmx (by decide) ?_|(refine GoR.o (by rfl) (by rfl) ?_;(conv=>arg 1;simp only [G,Z,Y,Gx,vV,simprocAttr,fb2,fb3,fb51,fb232]);show GoR ..)|refine GoR.s (by rfl) rfl rfl ?_|(refine GoR.splitG rfl (fun hc => ?_) (fun hc => ?_)<;>simp only [hc])|refine Go.condB rfl (fun hc => ?_) (fun hc => ?_))
 refine Go.loop ?_
 repeat' (first|refine Go.a rfl ?_|refine Go.rg ?_|refine GoR.nil ?_|refine Go.ret ?_|refine Go.b rfl ?_|refine Go.rgS dmx (by decide) ?_|(refine GoR.o (by rfl) (by rfl) ?_;(conv=>arg 1;simp only [G,Z,Y,Gx,vV,simprocAttr,fb2,fb3,fb51,fb232]);show GoR ..)|(refine GoR.c c172 (by rfl) (by rfl) rfl ?_;(refine CallD.ret2 (insSort0 _) ?_))|refine GoR.s (by rfl) rfl rfl ?_|(refine GoR.splitG rfl (fun hc => ?_) (fun hc => ?_)<;>simp only [hc])|refine Go.condB rfl (fun hc => ?_) (fun hc => ?_))
 refine ⟨(by first | exact .inl rfl | exact .inr rfl),fin ?_⟩
 rw [resD_none (fn:=Tryz.f143) rfl]
 simp only [optThen_some,resultD_tmp,resultD_cell,G,Z,Y,Gx,vV,simprocAttr,fb2,fb3,fb51,fb232]
 exact ⟨_,[],by simp,.of_low (.tup' .nil),rfl⟩
theorem len64_0 (S:Mem):CallD Tryz.prog O 162 [.int .u64 0] S fun d S'=>S'=S∧d = .int .i64 0:=by
 refine CallD.e Tryz.func162 rfl Tryz.ntmps162 (by rfl) ?_
 repeat' (first|refine Go.a rfl ?_|refine Go.rg ?_|refine GoR.nil ?_|refine Go.ret ?_|refine Go.b rfl ?_|(refine GoR.o (by rfl) (by rfl) ?_;(conv=>arg 1;simp only [G,Z,Y,Gx,vV,simprocAttr,fb3,fb5,fb9,fb188]);show GoR ..)|refine Go.condB rfl (fun hc => ?_) (fun hc => ?_))
 refine ⟨(by first | exact .inl rfl | exact .inr rfl),fin ?_⟩
 rw [resD_tmp (fn:=Tryz.f162) rfl]
 simp only [optThen_some,resultD_tmp,resultD_cell,G,Z,Y,Gx,vV,simprocAttr,fb3,fb5,fb9,fb188]
 exact ⟨_,[],by simp,.of_low (.int _ _),rfl⟩
theorem len_0 (S:Mem):CallD Tryz.prog O 144 [.int .u64 0] S fun d S'=>S'=S∧d = .int .i64 0:=by
 refine CallD.e Tryz.func144 rfl Tryz.ntmps144 (by rfl) ?_
 repeat' (first|refine Go.a rfl ?_|refine Go.rg ?_|refine GoR.nil ?_|refine Go.ret ?_|refine Go.b rfl ?_|(refine GoR.o (by rfl) (by rfl) ?_;(conv=>arg 1;simp only [G,Z,Y,Gx,vV,simprocAttr,fb208,fb224]);show GoR ..))
 refine Go.cond rfl rfl ?_
 repeat' (first|refine Go.a rfl ?_|refine Go.rg ?_|refine GoR.nil ?_|refine Go.ret ?_|refine Go.b rfl ?_|(refine GoR.o (by rfl) (by rfl) ?_;(conv=>arg 1;simp only [G,Z,Y,Gx,vV,simprocAttr,fb208,fb224]);show GoR ..)|(refine GoR.c c162 (by rfl) (by rfl) rfl ?_;(refine CallD.ret2 (len64_0 _) ?_))|refine Go.condB rfl (fun hc => ?_) (fun hc => ?_))
 refine ⟨(by first | exact .inl rfl | exact .inr rfl),fin ?_⟩
 rw [resD_tmp (fn:=Tryz.f144) rfl]
 simp only [optThen_some,resultD_tmp,resultD_cell,G,Z,Y,Gx,vV,simprocAttr,fb208,fb224]
 exact ⟨_,[],by simp,.of_low (.int _ _),rfl⟩
theorem sort0 (S:Mem):CallD Tryz.prog O 107 [.nils] S fun d S'=>S'=S∧d = .tup []:=by
 refine CallD.e Tryz.func107 rfl Tryz.ntmps107 (by rfl) ?_
 repeat' (first|refine Go.a rfl ?_|refine Go.rg ?_|refine GoR.nil ?_|refine Go.ret ?_|refine Go.b rfl ?_|(refine GoR.o (by rfl) (by rfl) ?_;(conv=>arg 1;simp only [G,Z,Y,Gx,vV,simprocAttr,fb3,fb51,fb208,conv_int Tryz.underlying3 Tryz.underlying208,show IntKind.u64.wrap 0=0 by decide]);show GoR ..)|(refine GoR.c c144 (by rfl) (by rfl) rfl ?_;(refine CallD.ret2 (len_0 _) ?_))|(refine GoR.c c143 (by rfl) (by rfl) rfl ?_;(refine CallD.ret2 (pdq0 _ _) ?_))|refine Go.condB rfl (fun hc => ?_) (fun hc => ?_))
 refine ⟨(by first | exact .inl rfl | exact .inr rfl),fin ?_⟩
 rw [resD_none (fn:=Tryz.f107) rfl]
 simp only [optThen_some,resultD_tmp,resultD_cell,G,Z,Y,Gx,vV,simprocAttr,fb3,fb51,fb208]
 exact ⟨_,[],by simp,.of_low (.tup' .nil),rfl⟩
theorem compact0 (S:Mem):CallD Tryz.prog O 108 [.nils] S fun d S'=>S'=S∧d = .nils:=by
 refine CallD.e Tryz.func108 rfl Tryz.ntmps108 (by rfl) ?_
 repeat' (first|refine Go.a rfl ?_|refine Go.rg ?_|refine GoR.nil ?_|refine Go.ret ?_|refine Go.b rfl ?_|refine Go.rgS dmx (by decide) ?_|(refine GoR.o (by rfl) (by rfl) ?_;(conv=>arg 1;simp only [G,Z,Y,Gx,vV,simprocAttr,fb2,fb3,fb51]);show GoR ..)|refine Go.condB rfl (fun hc => ?_) (fun hc => ?_))
 refine ⟨(by first | exact .inl rfl | exact .inr rfl),fin ?_⟩
 rw [resD_tmp (fn:=Tryz.f108) rfl]
 simp only [optThen_some,resultD_tmp,resultD_cell,G,Z,Y,Gx,vV,simprocAttr,fb2,fb3,fb51]
 exact ⟨_,[],by simp,.of_low .nils,rfl⟩
theorem clipInt0 (S:Mem):CallD Tryz.prog O 109 [.nils] S fun d S'=>S'=S∧d = .nils:=by
 refine CallD.e Tryz.func109 rfl Tryz.ntmps109 (by rfl) ?_
 have c:sliceD Tryz.prog 51 .nils none (some (.int .i64 0)) (some (.int .i64 0))=some .nils:=by
  simp [sliceD,optNatD,natD,Tryz.underlying51,dsz2]
 repeat' (first|refine Go.a rfl ?_|refine Go.rg ?_|refine GoR.nil ?_|refine Go.ret ?_|refine Go.b rfl ?_|(refine GoR.o (by rfl) (by rfl) ?_;(conv=>arg 1;simp only [G,Z,Y,Gx,vV,simprocAttr,fb51,c,Option.map_some,Option.map_none]);show GoR ..)|refine Go.condB rfl (fun hc => ?_) (fun hc => ?_))
 refine ⟨(by first | exact .inl rfl | exact .inr rfl),fin ?_⟩
 rw [resD_tmp (fn:=Tryz.f109) rfl]
 simp only [optThen_some,resultD_tmp,resultD_cell,G,Z,Y,Gx,vV,simprocAttr,fb51]
 exact ⟨_,[],by simp,.of_low .nils,rfl⟩
theorem cloneInt0 (S:Mem):CallD Tryz.prog O 110 [.nils] S fun d S'=>S'=S∧d = .nils:=by
 refine CallD.e Tryz.func110 rfl Tryz.ntmps110 (by rfl) ?_
 have c:sliceD Tryz.prog 51 .nils none (some (.int .i64 0)) (some (.int .i64 0))=some .nils:=by
  simp [sliceD,optNatD,natD,Tryz.underlying51,dsz2]
 repeat' (first|refine Go.a rfl ?_|refine Go.rg ?_|refine GoR.nil ?_|refine Go.ret ?_|refine Go.b rfl ?_|(refine GoR.o (by rfl) (by rfl) ?_;(conv=>arg 1;simp only [G,Z,Y,Gx,vV,simprocAttr,fb51,c,Option.map_some,Option.map_none]);show GoR ..)|refine Go.condB rfl (fun hc => ?_) (fun hc => ?_))
 refine ⟨(by first | exact .inl rfl | exact .inr rfl),fin ?_⟩
 rw [resD_tmp (fn:=Tryz.f110) rfl]
 simp only [optThen_some,resultD_tmp,resultD_cell,G,Z,Y,Gx,vV,simprocAttr,fb51]
 exact ⟨_,[],by simp,.of_low .nils,rfl⟩
end Go.Proofs.DgT
namespace Go.Proofs.DgT
open Go Go.DM
set_option maxRecDepth 100000
theorem aggFold0 (f:D) (S:Mem):CallD Tryz.prog O 61 [.nils,f] S fun d S'=>S'=S∧d = .tup [.agg [.int .i64 0,.int .i64 0],.bool false]:=by
 refine CallD.e Tryz.func61 rfl Tryz.ntmps61 (by rfl) ?_
 repeat' (first|refine Go.a rfl ?_|refine Go.rg ?_|refine GoR.nil ?_|refine Go.ret ?_|refine Go.b rfl ?_|(refine GoR.o (by rfl) (by rfl) ?_;(conv=>arg 1;simp only [G,Z,Y,Gx,vV,simprocAttr,fb2,fb3,fb120,fb123]);show GoR ..)|refine Go.condB rfl (fun hc => ?_) (fun hc => ?_))
 refine Go.loop ?_
 repeat' (first|refine Go.a rfl ?_|refine Go.rg ?_|refine GoR.nil ?_|refine Go.ret ?_|refine Go.b rfl ?_|(refine GoR.o (by rfl) (by rfl) ?_;(conv=>arg 1;simp only [G,Z,Y,Gx,vV,simprocAttr,fb2,fb3,fb120,fb123]);show GoR ..)|refine Go.condB rfl (fun hc => ?_) (fun hc => ?_))
 refine ⟨(by first | exact .inl rfl | exact .inr rfl),fin ?_⟩
 rw [resD_two (fn:=Tryz.f61) rfl]
 simp only [optThen_some,resultD_tmp,resultD_cell,G,Z,Y,Gx,vV,simprocAttr,fb2,fb3,fb120,fb123]
 exact ⟨_,_,rfl,.of_low (.tup' (.cons (.agg' (.cons (.int _ _) (.cons (.int _ _) .nil))) (.cons (.bool _) .nil))),rfl⟩
theorem aggTop0 (a:Ag) (hk:1≤a.k∧a.k≤16) (S:Mem):CallD Tryz.prog O 60 [.agg (Ag.c a),.nils] S fun d S'=>S'=S∧d = .agg [.int .i64 3,.int .i64 0,.str ⟨#[]⟩,.nils]:=by
 obtain ⟨fn,k,⟨op1,nm1,n1,ks1⟩,⟨op2,nm2,n2,ks2⟩,w⟩:=a
 dsimp only at hk
 have m1 : ∀ S,builtinD Tryz.prog .max #[2,2] [.int .i64 k,.int .i64 0] S=some (.int .i64 k,S):=fun S=>by
  simp [builtinD]
  omega
 have w1:IntKind.i64.wrap (0 - k) = -k:=by rw [wrap64 (by omega) (by omega)];omega
 have m2 : ∀ S,builtinD Tryz.prog .max #[3,3] [.int .i64 (-k),.int .i64 0] S=some (.int .i64 0,S):=fun S=>by
  simp [builtinD]
  omega
 have c:sliceD Tryz.prog 51 .nils (some (.int .i64 0)) none none=some .nils:=by
  simp [sliceD,optNatD,natD,Tryz.underlying51,dsz2]
 simp only [Ag.c,Nd.c_mk,List.cons_append,List.nil_append]
 refine CallD.e Tryz.func60 rfl Tryz.ntmps60 (by rfl) ?_
 repeat' (first|refine Go.a rfl ?_|refine Go.rg ?_|refine GoR.nil ?_|refine Go.ret ?_|refine Go.b rfl ?_|(refine GoR.o (by rfl) (by rfl) ?_;(conv=>arg 1;simp only [G,Z,Y,Gx,vV,simprocAttr,fb2,fb3,fb9,fb25,fb26,fb28,fb51,fb53,fb120,fb123]);show GoR ..)|refine Go.condB rfl (fun hc => ?_) (fun hc => ?_))
 refine Go.loop ?_
 repeat' (first|refine Go.a rfl ?_|refine Go.rg ?_|refine GoR.nil ?_|refine Go.ret ?_|refine Go.b rfl ?_|(refine GoR.o (by rfl) (by rfl) ?_;(conv=>arg 1;simp only [G,Z,Y,Gx,vV,simprocAttr,fb2,fb3,fb9,fb25,fb26,fb28,fb51,fb53,fb120,fb123,m1,m2,w1,c,Option.map_some,Option.map_none]);show GoR ..)|(refine GoR.c c107 (by rfl) (by rfl) rfl ?_;(refine CallD.ret2 (sort0 _) ?_))|(refine GoR.c c108 (by rfl) (by rfl) rfl ?_;(refine CallD.ret2 (compact0 _) ?_))|(refine GoR.c c110 (by rfl) (by rfl) rfl ?_;(refine CallD.ret2 (cloneInt0 _) ?_))|(refine GoR.c c109 (by rfl) (by rfl) rfl ?_;(refine CallD.ret2 (clipInt0 _) ?_))|refine Go.condB rfl (fun hc => ?_) (fun hc => ?_))
 refine ⟨(by first | exact .inl rfl | exact .inr rfl),fin ?_⟩
 rw [resD_cell (fn:=Tryz.f60) rfl]
 simp only [optThen_some,resultD_tmp,resultD_cell,G,Z,Y,Gx,vV,simprocAttr,fb2,fb3,fb9,fb25,fb26,fb28,fb51,fb53,fb120,fb123]
 exact ⟨_,_,rfl,.of_low (.agg' (.cons (.int _ _) (.cons (.int _ _) (.cons (.str _) (.cons .nils .nil))))),rfl⟩
end Go.Proofs.DgT
namespace Go.Proofs.DgT
open Go Go.DM
set_option maxRecDepth 100000
theorem aggEval_count (a:Ag) (hf:a.fn=(⟨#[99,111,117,110,116]⟩:ByteArray)) (S:Mem):CallD Tryz.prog O 20 [.agg (Ag.c a),.nils] S fun d S'=>S'=S∧d = .tup [.agg [.int .i64 1,.int .i64 0,.str ⟨#[]⟩,.nils],.bool true]:=by
 have hp:=aggPairs0 a
 have hc:=aggCount0 a
 have hz:=aggNumber 0
 obtain ⟨fn,k,⟨op1,nm1,n1,ks1⟩,⟨op2,nm2,n2,ks2⟩,w⟩:=a
 dsimp only at hf
 subst hf
 simp only [Ag.c,Nd.c_mk,List.cons_append,List.nil_append] at hp hc ⊢
 refine CallD.e Tryz.func20 rfl Tryz.ntmps20 (by rfl) ?_
 repeat' (first|refine Go.a rfl ?_|refine Go.rg ?_|refine GoR.nil ?_|refine Go.ret ?_|refine Go.b rfl ?_|(refine GoR.o (by rfl) (by rfl) ?_;(conv=>arg 1;simp only [G,Z,Y,Gx,vV,simprocAttr,fb2,fb3,fb9,fb25,fb26,fb28,fb51,fb53,fb123]);show GoR ..)|(refine GoR.c c59 (by rfl) (by rfl) rfl ?_;(refine CallD.ret2 (hp _) ?_))|(refine GoR.c c58 (by rfl) (by rfl) rfl ?_;(refine CallD.ret2 (hc _) ?_))|(refine GoR.c c57 (by rfl) (by rfl) rfl ?_;(refine CallD.ret2 (hz _) ?_))|(refine GoR.c c61 (by rfl) (by rfl) rfl ?_;(refine CallD.ret2 (aggFold0 _ _) ?_))|refine Go.condB rfl (fun hc => ?_) (fun hc => ?_))
 refine ⟨(by first | exact .inl rfl | exact .inr rfl),fin ?_⟩
 rw [resD_two (fn:=Tryz.f20) rfl]
 simp only [optThen_some,resultD_tmp,resultD_cell,G,Z,Y,Gx,vV,simprocAttr,fb2,fb3,fb9,fb25,fb26,fb28,fb51,fb53,fb123]
 exact ⟨_,_,rfl,.of_low (.tup' (.cons (.agg' (.cons (.int _ _) (.cons (.int _ _) (.cons (.str _) (.cons .nils .nil))))) (.cons (.bool _) .nil))),rfl⟩
theorem aggEval_sum (a:Ag) (hf:a.fn=(⟨#[115,117,109]⟩:ByteArray)) (S:Mem):CallD Tryz.prog O 20 [.agg (Ag.c a),.nils] S fun d S'=>S'=S∧d = .tup [.agg [.int .i64 1,.int .i64 0,.str ⟨#[]⟩,.nils],.bool true]:=by
 have hp:=aggPairs0 a
 have hc:=aggCount0 a
 have hz:=aggNumber 0
 obtain ⟨fn,k,⟨op1,nm1,n1,ks1⟩,⟨op2,nm2,n2,ks2⟩,w⟩:=a
 dsimp only at hf
 subst hf
 simp only [Ag.c,Nd.c_mk,List.cons_append,List.nil_append] at hp hc ⊢
 refine CallD.e Tryz.func20 rfl Tryz.ntmps20 (by rfl) ?_
 repeat' (first|refine Go.a rfl ?_|refine Go.rg ?_|refine GoR.nil ?_|refine Go.ret ?_|refine Go.b rfl ?_|(refine GoR.o (by rfl) (by rfl) ?_;(conv=>arg 1;simp only [G,Z,Y,Gx,vV,simprocAttr,fb2,fb3,fb9,fb25,fb26,fb28,fb51,fb53,fb123]);show GoR ..)|(refine GoR.c c59 (by rfl) (by rfl) rfl ?_;(refine CallD.ret2 (hp _) ?_))|(refine GoR.c c58 (by rfl) (by rfl) rfl ?_;(refine CallD.ret2 (hc _) ?_))|(refine GoR.c c57 (by rfl) (by rfl) rfl ?_;(refine CallD.ret2 (hz _) ?_))|(refine GoR.c c61 (by rfl) (by rfl) rfl ?_;(refine CallD.ret2 (aggFold0 _ _) ?_))|refine Go.condB rfl (fun hc => ?_) (fun hc => ?_))
 refine ⟨(by first | exact .inl rfl | exact .inr rfl),fin ?_⟩
 rw [resD_two (fn:=Tryz.f20) rfl]
 simp only [optThen_some,resultD_tmp,resultD_cell,G,Z,Y,Gx,vV,simprocAttr,fb2,fb3,fb9,fb25,fb26,fb28,fb51,fb53,fb123]
 exact ⟨_,_,rfl,.of_low (.tup' (.cons (.agg' (.cons (.int _ _) (.cons (.int _ _) (.cons (.str _) (.cons .nils .nil))))) (.cons (.bool _) .nil))),rfl⟩
theorem aggEval_top (a:Ag) (hf:a.fn=(⟨#[116,111,112]⟩:ByteArray)) (hk:1≤a.k∧a.k≤16) (S:Mem):CallD Tryz.prog O 20 [.agg (Ag.c a),.nils] S fun d S'=>S'=S∧d = .tup [.agg [.int .i64 3,.int .i64 0,.str ⟨#[]⟩,.nils],.bool true]:=by
 have hp:=aggPairs0 a
 have hc:=aggCount0 a
 have ht:=aggTop0 a hk
 have hz:=aggNumber 0
 obtain ⟨fn,k,⟨op1,nm1,n1,ks1⟩,⟨op2,nm2,n2,ks2⟩,w⟩:=a
 dsimp only at hf
 subst hf
 simp only [Ag.c,Nd.c_mk,List.cons_append,List.nil_append] at hp hc ht ⊢
 refine CallD.e Tryz.func20 rfl Tryz.ntmps20 (by rfl) ?_
 repeat' (first|refine Go.a rfl ?_|refine Go.rg ?_|refine GoR.nil ?_|refine Go.ret ?_|refine Go.b rfl ?_|(refine GoR.o (by rfl) (by rfl) ?_;(conv=>arg 1;simp only [G,Z,Y,Gx,vV,simprocAttr,fb2,fb3,fb9,fb25,fb26,fb28,fb51,fb53,fb123]);show GoR ..)|(refine GoR.c c59 (by rfl) (by rfl) rfl ?_;(refine CallD.ret2 (hp _) ?_))|(refine GoR.c c58 (by rfl) (by rfl) rfl ?_;(refine CallD.ret2 (hc _) ?_))|(refine GoR.c c60 (by rfl) (by rfl) rfl ?_;(refine CallD.ret2 (ht _) ?_))|(refine GoR.c c57 (by rfl) (by rfl) rfl ?_;(refine CallD.ret2 (hz _) ?_))|(refine GoR.c c61 (by rfl) (by rfl) rfl ?_;(refine CallD.ret2 (aggFold0 _ _) ?_))|refine Go.condB rfl (fun hc => ?_) (fun hc => ?_))
 refine ⟨(by first | exact .inl rfl | exact .inr rfl),fin ?_⟩
 rw [resD_two (fn:=Tryz.f20) rfl]
 simp only [optThen_some,resultD_tmp,resultD_cell,G,Z,Y,Gx,vV,simprocAttr,fb2,fb3,fb9,fb25,fb26,fb28,fb51,fb53,fb123]
 exact ⟨_,_,rfl,.of_low (.tup' (.cons (.agg' (.cons (.int _ _) (.cons (.int _ _) (.cons (.str _) (.cons .nils .nil))))) (.cons (.bool _) .nil))),rfl⟩
theorem aggEval_min (a:Ag) (hf:a.fn=(⟨#[109,105,110]⟩:ByteArray)) (S:Mem):CallD Tryz.prog O 20 [.agg (Ag.c a),.nils] S fun d S'=>S'=S∧d = .tup [.agg [.int .i64 0,.int .i64 0,.str ⟨#[]⟩,.nils],.bool false]:=by
 have hp:=aggPairs0 a
 have hc:=aggCount0 a
 have hz:=aggNumber 0
 obtain ⟨fn,k,⟨op1,nm1,n1,ks1⟩,⟨op2,nm2,n2,ks2⟩,w⟩:=a
 dsimp only at hf
 subst hf
 simp only [Ag.c,Nd.c_mk,List.cons_append,List.nil_append] at hp hc ⊢
 refine CallD.e Tryz.func20 rfl Tryz.ntmps20 (by rfl) ?_
 repeat' (first|refine Go.a rfl ?_|refine Go.rg ?_|refine GoR.nil ?_|refine Go.ret ?_|refine Go.b rfl ?_|(refine GoR.o (by rfl) (by rfl) ?_;(conv=>arg 1;simp only [G,Z,Y,Gx,vV,simprocAttr,fb2,fb3,fb9,fb25,fb26,fb28,fb51,fb53,fb123]);show GoR ..)|(refine GoR.c c59 (by rfl) (by rfl) rfl ?_;(refine CallD.ret2 (hp _) ?_))|(refine GoR.c c58 (by rfl) (by rfl) rfl ?_;(refine CallD.ret2 (hc _) ?_))|(refine GoR.c c57 (by rfl) (by rfl) rfl ?_;(refine CallD.ret2 (hz _) ?_))|(refine GoR.c c61 (by rfl) (by rfl) rfl ?_;(refine CallD.ret2 (aggFold0 _ _) ?_))|refine Go.condB rfl (fun hc => ?_) (fun hc => ?_))
 refine ⟨(by first | exact .inl rfl | exact .inr rfl),fin ?_⟩
 rw [resD_two (fn:=Tryz.f20) rfl]
 simp only [optThen_some,resultD_tmp,resultD_cell,G,Z,Y,Gx,vV,simprocAttr,fb2,fb3,fb9,fb25,fb26,fb28,fb51,fb53,fb123]
 exact ⟨_,_,rfl,.of_low (.tup' (.cons (.agg' (.cons (.int _ _) (.cons (.int _ _) (.cons (.str _) (.cons .nils .nil))))) (.cons (.bool _) .nil))),rfl⟩
theorem aggEval_max (a:Ag) (hf:a.fn=(⟨#[109,97,120]⟩:ByteArray)) (S:Mem):CallD Tryz.prog O 20 [.agg (Ag.c a),.nils] S fun d S'=>S'=S∧d = .tup [.agg [.int .i64 0,.int .i64 0,.str ⟨#[]⟩,.nils],.bool false]:=by
 have hp:=aggPairs0 a
 have hc:=aggCount0 a
 have hz:=aggNumber 0
 obtain ⟨fn,k,⟨op1,nm1,n1,ks1⟩,⟨op2,nm2,n2,ks2⟩,w⟩:=a
 dsimp only at hf
 subst hf
 simp only [Ag.c,Nd.c_mk,List.cons_append,List.nil_append] at hp hc ⊢
 refine CallD.e Tryz.func20 rfl Tryz.ntmps20 (by rfl) ?_
 repeat' (first|refine Go.a rfl ?_|refine Go.rg ?_|refine GoR.nil ?_|refine Go.ret ?_|refine Go.b rfl ?_|(refine GoR.o (by rfl) (by rfl) ?_;(conv=>arg 1;simp only [G,Z,Y,Gx,vV,simprocAttr,fb2,fb3,fb9,fb25,fb26,fb28,fb51,fb53,fb123]);show GoR ..)|(refine GoR.c c59 (by rfl) (by rfl) rfl ?_;(refine CallD.ret2 (hp _) ?_))|(refine GoR.c c58 (by rfl) (by rfl) rfl ?_;(refine CallD.ret2 (hc _) ?_))|(refine GoR.c c57 (by rfl) (by rfl) rfl ?_;(refine CallD.ret2 (hz _) ?_))|(refine GoR.c c61 (by rfl) (by rfl) rfl ?_;(refine CallD.ret2 (aggFold0 _ _) ?_))|refine Go.condB rfl (fun hc => ?_) (fun hc => ?_))
 refine ⟨(by first | exact .inl rfl | exact .inr rfl),fin ?_⟩
 rw [resD_two (fn:=Tryz.f20) rfl]
 simp only [optThen_some,resultD_tmp,resultD_cell,G,Z,Y,Gx,vV,simprocAttr,fb2,fb3,fb9,fb25,fb26,fb28,fb51,fb53,fb123]
 exact ⟨_,_,rfl,.of_low (.tup' (.cons (.agg' (.cons (.int _ _) (.cons (.int _ _) (.cons (.str _) (.cons .nils .nil))))) (.cons (.bool _) .nil))),rfl⟩
theorem aggEval_first (a:Ag) (hf:a.fn=(⟨#[102,105,114,115,116]⟩:ByteArray)) (S:Mem):CallD Tryz.prog O 20 [.agg (Ag.c a),.nils] S fun d S'=>S'=S∧d = .tup [.agg [.int .i64 0,.int .i64 0,.str ⟨#[]⟩,.nils],.bool false]:=by
 have hp:=aggPairs0 a
 have hc:=aggCount0 a
 have hz:=aggNumber 0
 obtain ⟨fn,k,⟨op1,nm1,n1,ks1⟩,⟨op2,nm2,n2,ks2⟩,w⟩:=a
 dsimp only at hf
 subst hf
 simp only [Ag.c,Nd.c_mk,List.cons_append,List.nil_append] at hp hc ⊢
 refine CallD.e Tryz.func20 rfl Tryz.ntmps20 (by rfl) ?_
 repeat' (first|refine Go.a rfl ?_|refine Go.rg ?_|refine GoR.nil ?_|refine Go.ret ?_|refine Go.b rfl ?_|(refine GoR.o (by rfl) (by rfl) ?_;(conv=>arg 1;simp only [G,Z,Y,Gx,vV,simprocAttr,fb2,fb3,fb9,fb25,fb26,fb28,fb51,fb53,fb123]);show GoR ..)|(refine GoR.c c59 (by rfl) (by rfl) rfl ?_;(refine CallD.ret2 (hp _) ?_))|(refine GoR.c c58 (by rfl) (by rfl) rfl ?_;(refine CallD.ret2 (hc _) ?_))|(refine GoR.c c57 (by rfl) (by rfl) rfl ?_;(refine CallD.ret2 (hz _) ?_))|(refine GoR.c c61 (by rfl) (by rfl) rfl ?_;(refine CallD.ret2 (aggFold0 _ _) ?_))|refine Go.condB rfl (fun hc => ?_) (fun hc => ?_))
 refine ⟨(by first | exact .inl rfl | exact .inr rfl),fin ?_⟩
 rw [resD_two (fn:=Tryz.f20) rfl]
 simp only [optThen_some,resultD_tmp,resultD_cell,G,Z,Y,Gx,vV,simprocAttr,fb2,fb3,fb9,fb25,fb26,fb28,fb51,fb53,fb123]
 exact ⟨_,_,rfl,.of_low (.tup' (.cons (.agg' (.cons (.int _ _) (.cons (.int _ _) (.cons (.str _) (.cons .nils .nil))))) (.cons (.bool _) .nil))),rfl⟩
end Go.Proofs.DgT
namespace Go.Proofs.DgT
open Go Go.DM
set_option maxRecDepth 100000
theorem chkA_zero {a:Ag} (h:chkA a=0):(needsF a.fn).2.2.2=true∧(a.fn=(⟨#[116,111,112]⟩:ByteArray)→1≤a.k∧a.k≤16):=by
 unfold chkA at h
 cases hn:(needsF a.fn).2.2.2 with
 | false=>rw [hn,if_pos rfl] at h;exact absurd h (by decide)
 | true=>
  refine ⟨rfl,fun ht => ?_⟩
  rw [hn,if_neg (by decide)] at h
  by_cases hk:a.k<1∨16<a.k
  ·rw [if_pos ⟨ht,hk⟩] at h;exact absurd h (by decide)
  ·omega
def hintsG:Hints:=⟨[],[(222,5,0)],[],[222,207],[],[(222,12,[4],false)],[],libA⟩
theorem good0 (S:Mem):CallD Tryz.prog O 25 [.nils] S fun d S'=>S'=S∧d = .bool true:=
 CallD.frame (us:=[.slice none 0 0]) (v:=.bool true) (by intro u h;rw [List.mem_singleton] at h;subst h;exact ⟨rfl,rfl⟩) ⟨rfl,rfl⟩ ((CallD.runTrueC (C:=⟨Tryz.prog,hintsG⟩) dmx libA_ok 10000 (by kernel_rfl)).mono fun _ _ h=>h.2) S
set_option maxHeartbeats 1600000 in
theorem lawAggNone (a:Ag):CallD Tryz.prog O 6 [.agg (Ag.c a)] [] fun d S'=>S'=[]∧d = .bool true:=by
 have hfew:=few11 a
 have ho:=fun (h:FewA a) S=>aggOf a h.slim (by have:=h.w;omega) S
 have hc:=fun (h:FewA a) S=>refCheckAgg a h.slim (by have:=h.w;omega) S
 have hz:=fun h=>chkA_zero (a:=a) h
 have e1:=aggEval_count a
 have e2:=aggEval_sum a
 have e3:=aggEval_top a
 have e4:=aggEval_min a
 have e5:=aggEval_max a
 have e6:=aggEval_first a
 generalize chkA a=z at *
 generalize FewA a=FA at *
 obtain ⟨fn,k,⟨op1,nm1,n1,ks1⟩,⟨op2,nm2,n2,ks2⟩,w⟩:=a
 simp only [Ag.c,Nd.c_mk,List.cons_append,List.nil_append] at *
 by_cases h0:z=0
 rotate_left
 ·refine CallD.e Tryz.func6 rfl Tryz.ntmps6 (by rfl) ?_
  repeat' (first|refine Go.a rfl ?_|refine Go.rg ?_|refine GoR.nil ?_|refine Go.ret ?_|refine Go.b rfl ?_|(refine GoR.o (by rfl) (by rfl) ?_;(conv=>arg 1;simp only [G,Z,Y,Gx,vV,simprocAttr,fb2,fb3,fb9,fb25,fb26,fb28,fb51,fb53,show (z != 0)=true by simpa using h0]);show GoR ..)|(refine GoR.c c8 (by rfl) (by rfl) rfl ?_;(refine CallD.ret2 (known11.frame0 _) ?_))|(refine GoR.c c14 (by rfl) (by rfl) rfl ?_;(refine (hfew _).retE ?_;rintro _ ⟨b,rfl,hb⟩;cases b))|(refine GoR.c c12 (by rfl) (by rfl) rfl ?_;(refine CallD.ret2 (ho (hb rfl) _) ?_))|(refine GoR.c c11 (by rfl) (by rfl) rfl ?_;(refine CallD.ret2 (hc (hb rfl) _) ?_))|refine GoR.s (by rfl) rfl rfl ?_|(refine GoR.splitG rfl (fun hc => ?_) (fun hc => ?_)<;>simp only [hc])|refine Go.condB rfl (fun hc => ?_) (fun hc => ?_))
  ·refine ⟨(by first | exact .inl rfl | exact .inr rfl),fin ?_⟩
   rw [resD_tmp (fn:=Tryz.f6) rfl]
   simp only [optThen_some,resultD_tmp,resultD_cell,G,Z,Y,Gx,vV,simprocAttr,fb2,fb3,fb9,fb25,fb26,fb28,fb51,fb53]
   exact ⟨_,_,rfl,.of_low (.bool _),rfl⟩
  ·refine ⟨(by first | exact .inl rfl | exact .inr rfl),fin ?_⟩
   rw [resD_tmp (fn:=Tryz.f6) rfl]
   simp only [optThen_some,resultD_tmp,resultD_cell,G,Z,Y,Gx,vV,simprocAttr,fb2,fb3,fb9,fb25,fb26,fb28,fb51,fb53]
   exact ⟨_,_,rfl,.of_low (.bool _),rfl⟩
 obtain ⟨hn,hk⟩:=hz h0
 subst h0
 rcases needs_six hn with rfl | rfl | rfl | rfl | rfl | rfl
 ·refine CallD.e Tryz.func6 rfl Tryz.ntmps6 (by rfl) ?_
  repeat' (first|refine Go.a rfl ?_|refine Go.rg ?_|refine GoR.nil ?_|refine Go.ret ?_|refine Go.b rfl ?_|(refine GoR.o (by rfl) (by rfl) ?_;(conv=>arg 1;simp only [G,Z,Y,Gx,vV,simprocAttr,fb2,fb3,fb9,fb25,fb26,fb28,fb51,fb53,bne_self_eq_false,beq_self_eq_true]);show GoR ..)|(refine GoR.c c8 (by rfl) (by rfl) rfl ?_;(refine CallD.ret2 (known11.frame0 _) ?_))|(refine GoR.c c14 (by rfl) (by rfl) rfl ?_;(refine (hfew _).retE ?_;rintro _ ⟨b,rfl,hb⟩;cases b))|(refine GoR.c c12 (by rfl) (by rfl) rfl ?_;(refine CallD.ret2 (ho (hb rfl) _) ?_))|(refine GoR.c c11 (by rfl) (by rfl) rfl ?_;(refine CallD.ret2 (hc (hb rfl) _) ?_))|(refine GoR.c c20 (by rfl) (by rfl) rfl ?_;(refine CallD.ret2 (e1 rfl _) ?_))|(refine GoR.c c25 (by rfl) (by rfl) rfl ?_;(refine CallD.ret2 (good0 _) ?_))|refine GoR.s (by rfl) rfl rfl ?_|(refine GoR.splitG rfl (fun hc => ?_) (fun hc => ?_)<;>simp only [hc])|refine Go.condB rfl (fun hc => ?_) (fun hc => ?_))
  ·refine ⟨(by first | exact .inl rfl | exact .inr rfl),fin ?_⟩
   rw [resD_tmp (fn:=Tryz.f6) rfl]
   simp only [optThen_some,resultD_tmp,resultD_cell,G,Z,Y,Gx,vV,simprocAttr,fb2,fb3,fb9,fb25,fb26,fb28,fb51,fb53]
   exact ⟨_,_,rfl,.of_low (.bool _),rfl⟩
  ·refine ⟨(by first | exact .inl rfl | exact .inr rfl),fin ?_⟩
   rw [resD_tmp (fn:=Tryz.f6) rfl]
   simp only [optThen_some,resultD_tmp,resultD_cell,G,Z,Y,Gx,vV,simprocAttr,fb2,fb3,fb9,fb25,fb26,fb28,fb51,fb53]
   exact ⟨_,_,rfl,.of_low (.bool _),rfl⟩
 ·refine CallD.e Tryz.func6 rfl Tryz.ntmps6 (by rfl) ?_
  repeat' (first|refine Go.a rfl ?_|refine Go.rg ?_|refine GoR.nil ?_|refine Go.ret ?_|refine Go.b rfl ?_|(refine GoR.o (by rfl) (by rfl) ?_;(conv=>arg 1;simp only [G,Z,Y,Gx,vV,simprocAttr,fb2,fb3,fb9,fb25,fb26,fb28,fb51,fb53,bne_self_eq_false,beq_self_eq_true]);show GoR ..)|(refine GoR.c c8 (by rfl) (by rfl) rfl ?_;(refine CallD.ret2 (known11.frame0 _) ?_))|(refine GoR.c c14 (by rfl) (by rfl) rfl ?_;(refine (hfew _).retE ?_;rintro _ ⟨b,rfl,hb⟩;cases b))|(refine GoR.c c12 (by rfl) (by rfl) rfl ?_;(refine CallD.ret2 (ho (hb rfl) _) ?_))|(refine GoR.c c11 (by rfl) (by rfl) rfl ?_;(refine CallD.ret2 (hc (hb rfl) _) ?_))|(refine GoR.c c20 (by rfl) (by rfl) rfl ?_;(refine CallD.ret2 (e2 rfl _) ?_))|(refine GoR.c c25 (by rfl) (by rfl) rfl ?_;(refine CallD.ret2 (good0 _) ?_))|refine GoR.s (by rfl) rfl rfl ?_|(refine GoR.splitG rfl (fun hc => ?_) (fun hc => ?_)<;>simp only [hc])|refine Go.condB rfl (fun hc => ?_) (fun hc => ?_))
  ·refine ⟨(by first | exact .inl rfl | exact .inr rfl),fin ?_⟩
   rw [resD_tmp (fn:=Tryz.f6) rfl]
   simp only [optThen_some,resultD_tmp,resultD_cell,G,Z,Y,Gx,vV,simprocAttr,fb2,fb3,fb9,fb25,fb26,fb28,fb51,fb53]
   exact ⟨_,_,rfl,.of_low (.bool _),rfl⟩
  ·refine ⟨(by first | exact .inl rfl | exact .inr rfl),fin ?_⟩
   rw [resD_tmp (fn:=Tryz.f6) rfl]
   simp only [optThen_some,resultD_tmp,resultD_cell,G,Z,Y,Gx,vV,simprocAttr,fb2,fb3,fb9,fb25,fb26,fb28,fb51,fb53]
   exact ⟨_,_,rfl,.of_low (.bool _),rfl⟩
 ·refine CallD.e Tryz.func6 rfl Tryz.ntmps6 (by rfl) ?_
  repeat' (first|refine Go.a rfl ?_|refine Go.rg ?_|refine GoR.nil ?_|refine Go.ret ?_|refine Go.b rfl ?_|(refine GoR.o (by rfl) (by rfl) ?_;(conv=>arg 1;simp only [G,Z,Y,Gx,vV,simprocAttr,fb2,fb3,fb9,fb25,fb26,fb28,fb51,fb53,bne_self_eq_false,beq_self_eq_true]);show GoR ..)|(refine GoR.c c8 (by rfl) (by rfl) rfl ?_;(refine CallD.ret2 (known11.frame0 _) ?_))|(refine GoR.c c14 (by rfl) (by rfl) rfl ?_;(refine (hfew _).retE ?_;rintro _ ⟨b,rfl,hb⟩;cases b))|(refine GoR.c c12 (by rfl) (by rfl) rfl ?_;(refine CallD.ret2 (ho (hb rfl) _) ?_))|(refine GoR.c c11 (by rfl) (by rfl) rfl ?_;(refine CallD.ret2 (hc (hb rfl) _) ?_))|(refine GoR.c c20 (by rfl) (by rfl) rfl ?_;(refine CallD.ret2 (e3 rfl (hk rfl) _) ?_))|(refine GoR.c c25 (by rfl) (by rfl) rfl ?_;(refine CallD.ret2 (good0 _) ?_))|refine GoR.s (by rfl) rfl rfl ?_|(refine GoR.splitG rfl (fun hc => ?_) (fun hc => ?_)<;>simp only [hc])|refine Go.condB rfl (fun hc => ?_) (fun hc => ?_))
  ·refine ⟨(by first | exact .inl rfl | exact .inr rfl),fin ?_⟩
   rw [resD_tmp (fn:=Tryz.f6) rfl]
   simp only [optThen_some,resultD_tmp,resultD_cell,G,Z,Y,Gx,vV,simprocAttr,fb2,fb3,fb9,fb25,fb26,fb28,fb51,fb53]
   exact ⟨_,_,rfl,.of_low (.bool _),rfl⟩
  ·refine ⟨(by first | exact .inl rfl | exact .inr rfl),fin ?_⟩
   rw [resD_tmp (fn:=Tryz.f6) rfl]
   simp only [optThen_some,resultD_tmp,resultD_cell,G,Z,Y,Gx,vV,simprocAttr,fb2,fb3,fb9,fb25,fb26,fb28,fb51,fb53]
   exact ⟨_,_,rfl,.of_low (.bool _),rfl⟩
 ·refine CallD.e Tryz.func6 rfl Tryz.ntmps6 (by rfl) ?_
  repeat' (first|refine Go.a rfl ?_|refine Go.rg ?_|refine GoR.nil ?_|refine Go.ret ?_|refine Go.b rfl ?_|(refine GoR.o (by rfl) (by rfl) ?_;(conv=>arg 1;simp only [G,Z,Y,Gx,vV,simprocAttr,fb2,fb3,fb9,fb25,fb26,fb28,fb51,fb53,bne_self_eq_false,beq_self_eq_true]);show GoR ..)|(refine GoR.c c8 (by rfl) (by rfl) rfl ?_;(refine CallD.ret2 (known11.frame0 _) ?_))|(refine GoR.c c14 (by rfl) (by rfl) rfl ?_;(refine (hfew _).retE ?_;rintro _ ⟨b,rfl,hb⟩;cases b))|(refine GoR.c c12 (by rfl) (by rfl) rfl ?_;(refine CallD.ret2 (ho (hb rfl) _) ?_))|(refine GoR.c c11 (by rfl) (by rfl) rfl ?_;(refine CallD.ret2 (hc (hb rfl) _) ?_))|(refine GoR.c c20 (by rfl) (by rfl) rfl ?_;(refine CallD.ret2 (e4 rfl _) ?_))|(refine GoR.c c25 (by rfl) (by rfl) rfl ?_;(refine CallD.ret2 (good0 _) ?_))|refine GoR.s (by rfl) rfl rfl ?_|(refine GoR.splitG rfl (fun hc => ?_) (fun hc => ?_)<;>simp only [hc])|refine Go.condB rfl (fun hc => ?_) (fun hc => ?_))
  ·refine ⟨(by first | exact .inl rfl | exact .inr rfl),fin ?_⟩
   rw [resD_tmp (fn:=Tryz.f6) rfl]
   simp only [optThen_some,resultD_tmp,resultD_cell,G,Z,Y,Gx,vV,simprocAttr,fb2,fb3,fb9,fb25,fb26,fb28,fb51,fb53]
   exact ⟨_,_,rfl,.of_low (.bool _),rfl⟩
  ·refine ⟨(by first | exact .inl rfl | exact .inr rfl),fin ?_⟩
   rw [resD_tmp (fn:=Tryz.f6) rfl]
   simp only [optThen_some,resultD_tmp,resultD_cell,G,Z,Y,Gx,vV,simprocAttr,fb2,fb3,fb9,fb25,fb26,fb28,fb51,fb53]
   exact ⟨_,_,rfl,.of_low (.bool _),rfl⟩
 ·refine CallD.e Tryz.func6 rfl Tryz.ntmps6 (by rfl) ?_
  repeat' (first|refine Go.a rfl ?_|refine Go.rg ?_|refine GoR.nil ?_|refine Go.ret ?_|refine Go.b rfl ?_|(refine GoR.o (by rfl) (by rfl) ?_;(conv=>arg 1;simp only [G,Z,Y,Gx,vV,simprocAttr,fb2,fb3,fb9,fb25,fb26,fb28,fb51,fb53,bne_self_eq_false,beq_self_eq_true]);show GoR ..)|(refine GoR.c c8 (by rfl) (by rfl) rfl ?_;(refine CallD.ret2 (known11.frame0 _) ?_))|(refine GoR.c c14 (by rfl) (by rfl) rfl ?_;(refine (hfew _).retE ?_;rintro _ ⟨b,rfl,hb⟩;cases b))|(refine GoR.c c12 (by rfl) (by rfl) rfl ?_;(refine CallD.ret2 (ho (hb rfl) _) ?_))|(refine GoR.c c11 (by rfl) (by rfl) rfl ?_;(refine CallD.ret2 (hc (hb rfl) _) ?_))|(refine GoR.c c20 (by rfl) (by rfl) rfl ?_;(refine CallD.ret2 (e5 rfl _) ?_))|(refine GoR.c c25 (by rfl) (by rfl) rfl ?_;(refine CallD.ret2 (good0 _) ?_))|refine GoR.s (by rfl) rfl rfl ?_|(refine GoR.splitG rfl (fun hc => ?_) (fun hc => ?_)<;>simp only [hc])|refine Go.condB rfl (fun hc => ?_) (fun hc => ?_))
  ·refine ⟨(by first | exact .inl rfl | exact .inr rfl),fin ?_⟩
   rw [resD_tmp (fn:=Tryz.f6) rfl]
   simp only [optThen_some,resultD_tmp,resultD_cell,G,Z,Y,Gx,vV,simprocAttr,fb2,fb3,fb9,fb25,fb26,fb28,fb51,fb53]
   exact ⟨_,_,rfl,.of_low (.bool _),rfl⟩
  ·refine ⟨(by first | exact .inl rfl | exact .inr rfl),fin ?_⟩
   rw [resD_tmp (fn:=Tryz.f6) rfl]
   simp only [optThen_some,resultD_tmp,resultD_cell,G,Z,Y,Gx,vV,simprocAttr,fb2,fb3,fb9,fb25,fb26,fb28,fb51,fb53]
   exact ⟨_,_,rfl,.of_low (.bool _),rfl⟩
 ·refine CallD.e Tryz.func6 rfl Tryz.ntmps6 (by rfl) ?_
  repeat' (first|refine Go.a rfl ?_|refine Go.rg ?_|refine GoR.nil ?_|refine Go.ret ?_|refine Go.b rfl ?_|(refine GoR.o (by rfl) (by rfl) ?_;(conv=>arg 1;simp only [G,Z,Y,Gx,vV,simprocAttr,fb2,fb3,fb9,fb25,fb26,fb28,fb51,fb53,bne_self_eq_false,beq_self_eq_true]);show GoR ..)|(refine GoR.c c8 (by rfl) (by rfl) rfl ?_;(refine CallD.ret2 (known11.frame0 _) ?_))|(refine GoR.c c14 (by rfl) (by rfl) rfl ?_;(refine (hfew _).retE ?_;rintro _ ⟨b,rfl,hb⟩;cases b))|(refine GoR.c c12 (by rfl) (by rfl) rfl ?_;(refine CallD.ret2 (ho (hb rfl) _) ?_))|(refine GoR.c c11 (by rfl) (by rfl) rfl ?_;(refine CallD.ret2 (hc (hb rfl) _) ?_))|(refine GoR.c c20 (by rfl) (by rfl) rfl ?_;(refine CallD.ret2 (e6 rfl _) ?_))|(refine GoR.c c25 (by rfl) (by rfl) rfl ?_;(refine CallD.ret2 (good0 _) ?_))|refine GoR.s (by rfl) rfl rfl ?_|(refine GoR.splitG rfl (fun hc => ?_) (fun hc => ?_)<;>simp only [hc])|refine Go.condB rfl (fun hc => ?_) (fun hc => ?_))
  ·refine ⟨(by first | exact .inl rfl | exact .inr rfl),fin ?_⟩
   rw [resD_tmp (fn:=Tryz.f6) rfl]
   simp only [optThen_some,resultD_tmp,resultD_cell,G,Z,Y,Gx,vV,simprocAttr,fb2,fb3,fb9,fb25,fb26,fb28,fb51,fb53]
   exact ⟨_,_,rfl,.of_low (.bool _),rfl⟩
  ·refine ⟨(by first | exact .inl rfl | exact .inr rfl),fin ?_⟩
   rw [resD_tmp (fn:=Tryz.f6) rfl]
   simp only [optThen_some,resultD_tmp,resultD_cell,G,Z,Y,Gx,vV,simprocAttr,fb2,fb3,fb9,fb25,fb26,fb28,fb51,fb53]
   exact ⟨_,_,rfl,.of_low (.bool _),rfl⟩
end Go.Proofs.DgT
