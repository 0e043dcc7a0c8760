/- A fold as the document's. -/
import Derived.Test.YtcdijoaabbjioaaGreatDoorDgG15
import Derived.Test.YtcdijoaabbjioaaGreatDoorDgC5x
import Derived.Test.YtcdijoaabbjioaaGreatDoorDgK1x
import Derived.Test.YtcdijoaabbjioaaGreatDoorDgW1x
import Derived.Test.YtcdijoaabbjioaaGreatDoorDgP9x
set_option linter.unusedSimpArgs false
set_option linter.unusedVariables false
namespace Go.Proofs.DgT
open Go Go.DM
set_option maxRecDepth 100000
theorem cdsAt {l:List Cd} {i:Nat} (h:i<l.length) :
  ((0≤(i:Int)∧(i:Int)<(l.length:Int))=True)∧(cdsC l)[i*9]?=some (.str l[i].op)∧((i*9+1+4≤(cdsC l).length)=True)∧((cdsC l).drop (i*9+1)).take 4=l[i].a.c ∧
  ((i*9+5+4≤(cdsC l).length)=True)∧((cdsC l).drop (i*9+5)).take 4=l[i].b.c:=
 ⟨ix_ok h,flat_cell0 Cd.len l i h (by omega),flat_fits Cd.len l i h (by omega),(flat_part Cd.len l i h (by omega)).trans (by simp [Cd.c,Nd.len]),flat_fits Cd.len l i h (by omega),(flat_part Cd.len l i h (by omega)).trans (by
  have:(Cd.c l[i]).drop 5=l[i].b.c:=by
   show (Nd.c l[i].a++Nd.c l[i].b).drop 4=_
   rw [List.drop_append_of_le_length (by rw [Nd.len];omega),List.drop_of_length_le (by rw [Nd.len];omega),List.nil_append]
  rw [this,List.take_of_length_le (by rw [Nd.len];omega)])⟩
def SlimA (a:Ag):Prop:=Slim 100 a.e∧Slim 100 a.by_ ∧ ∀ c∈a.w,Slim 100 c.a∧Slim 100 c.b
set_option maxHeartbeats 1000000 in
theorem aggOf (a:Ag) (hs:SlimA a) (hw:a.w.length<1000) (S:Mem):CallD Tryz.prog O 12 [.agg (Ag.c a)] S fun d S'=>S'=S∧d = .agg (Ag.c a):=by
 have hlow:=DLow.agg' (ag_low (m:=S.length) a)
 obtain ⟨fn,k,⟨op1,nm1,n1,ks1⟩,⟨op2,nm2,n2,ks2⟩,w⟩:=a
 obtain ⟨h1,h2,h3⟩:=hs
 have ho1:=of9 (orc:=O) _ h1
 have ho2:=of9 (orc:=O) _ h2
 dsimp only at ho1 ho2 h3 hw
 have hwA : ∀ wD,Wf wD (.sl none 9 w.length (cdsC w))→Wf (.agg (agL fn k (.str op1) (.str nm1) (.int .i64 n1) (.sl none 4 ks1.length (ndsC ks1)) (.str op2) (.str nm2) (.int .i64 n2) (.sl none 4 ks2.length (ndsC ks2)) wD)) (.agg (Ag.c ⟨fn,k,.mk op1 nm1 n1 ks1,.mk op2 nm2 n2 ks2,w⟩)):=fun wD hwD=>.agg' (by
  simp only [Ag.c,agL,Nd.c_mk,List.cons_append,List.nil_append]
  exact .cons .refl (.cons .refl (.cons .refl (.cons .refl (.cons .refl (.cons .refl (.cons .refl (.cons .refl (.cons .refl (.cons .refl (.cons hwD .nil)))))))))))
 simp only [Ag.c,Nd.c_mk,List.cons_append,List.nil_append] at ho1 ho2 hlow hwA ⊢
 refine CallD.e Tryz.func12 rfl Tryz.ntmps12 (by rfl) ?_
 repeat' (first|refine Go.a rfl ?_|refine Go.rg ?_|refine GoR.nil ?_|refine Go.ret ?_|refine Go.b rfl ?_|refine Go.rgS dmx (by decide) ?_|refine Go.rgF (id:=1) 11 [6,9] [1,3,8] (fun H=>objAt H S.length=some [.str fn,.int .i64 k,.str op1,.str nm1,.int .i64 n1,.sl none 4 ks1.length (ndsC ks1),.str op2,.str nm2,.int .i64 n2,.sl none 4 ks2.length (ndsC ks2),.sl none 9 w.length (cdsC w)]) dmx (by decide) 12 (by decide) (by decide) rfl rfl rfl rfl dze37 (by simp [AM.scalarV,Value.cells]) (by (simp only [objAt_app,objAt_app0,objAt_succ,objAt_zero])) ?_|refine Go.rgD (id:=5) [1,3,7,16,20] (fun H=>objAt H S.length=some [.str fn,.int .i64 k,.str op1,.str nm1,.int .i64 n1,.sl none 4 ks1.length (ndsC ks1),.str op2,.str nm2,.int .i64 n2,.sl none 4 ks2.length (ndsC ks2),.sl none 9 w.length (cdsC w)]) dmx (by decide) 24 (by decide) (by (simp only [objAt_app,objAt_app0,objAt_succ,objAt_zero])) ?_|refine GoW.nil rfl ?_|((first|refine GoR.o (by rfl) (by rfl) ?_|refine GoW.o (by rfl) (by rfl) ?_|refine GoW.rd (by rfl) (by rfl) ?_);(conv=>arg 1;simp only [G,Z,Y,Gx,vV,simprocAttr,fb2,fb3,fb9,fb23,fb25,fb26,fb28,fb34,fb35,fb37,fb93,fb101]);first|show GoR ..|(show _∧GoW ..;refine ⟨by (first|exact fun h=>absurd h (by decide)|(intro _;(simp only [objAt_app,objAt_app0,objAt_succ,objAt_zero]))),?_⟩)|(show _∧_∧_∧GoW ..;refine ⟨rfl,by (simp only [objAt_app,objAt_app0,objAt_succ,objAt_zero]),(fun H hI=>by (try dsimp only at hI);simp only [G,Z,Y,Gx,vV,simprocAttr,fb2,fb3,fb9,fb23,fb25,fb26,fb28,fb34,fb35,fb37,fb93,fb101,hI]),?_⟩))|(refine GoW.c c41 (by rfl) (by rfl) rfl ?_;(first | refine CallD.ret2 (ho1 _) ?_ | refine CallD.ret2 (ho2 _) ?_);refine ⟨by (first|exact fun h=>absurd h (by decide)|(intro _;(simp only [objAt_app,objAt_app0,objAt_succ,objAt_zero]))),?_⟩)|(refine GoR.c c41 (by rfl) (by rfl) rfl ?_;(first | refine CallD.ret2 (ho1 _) ?_ | refine CallD.ret2 (ho2 _) ?_))|refine Go.condB rfl (fun hc => ?_) (fun hc => ?_))
 refine Go.keep [(1,.ptr S.length 0),(2,.ptr (S.length+1) 0),(3,.ptr (S.length+2) 0),(4,.int .i64 ((0:Nat):Int))] (.cons .refl (.cons .refl (.cons .refl (.cons .refl (.nil))))) ?_
 refine Go.while (α:=Nat×D×Mem) (fun x=>w.length - x.1) (fun x=>[(1,.ptr S.length 0),(2,.ptr (S.length+1) 0),(3,.ptr (S.length+2) 0),(4,.int .i64 (x.1:Int))])
  (fun x=>S++(.obj [.str fn,.int .i64 k,.str op1,.str nm1,.int .i64 n1,.sl none 4 ks1.length (ndsC ks1),.str op2,.str nm2,.int .i64 n2,.sl none 4 ks2.length (ndsC ks2),.sl none 9 w.length (cdsC w)] :: .obj zA :: .obj (agL fn k (.str op1) (.str nm1) (.int .i64 n1) (.sl none 4 ks1.length (ndsC ks1)) (.str op2) (.str nm2) (.int .i64 n2) (.sl none 4 ks2.length (ndsC ks2)) x.2.1)::x.2.2))
  (fun x=>x.1≤w.length∧AccE (S.length+1) x.2.1 (w.take x.1) x.2.2) ?_ (0,.nils,[]) ⟨by simp,.inl ⟨rfl,by simp⟩⟩
 rintro ⟨i,wD,E⟩ ⟨hi,hacc⟩ next
 dsimp only at hi hacc next
 have hwd:=hacc.one
 by_cases hil:i<w.length
 ·obtain ⟨t1,t2,t3,t4,t5,t6⟩:=cdsAt hil
  obtain ⟨hs1,hs2⟩:=h3 _ (List.getElem_mem hil)
  have hc1:=of9 (orc:=O) _ hs1
  have hc2:=of9 (orc:=O) _ hs2
  obtain ⟨wD',E',hap,hacc2⟩:=hacc.moreR (by simp;omega) w[i] (S0:=S++[.obj [.str fn,.int .i64 k,.str op1,.str nm1,.int .i64 n1,.sl none 4 ks1.length (ndsC ks1),.str op2,.str nm2,.int .i64 n2,.sl none 4 ks2.length (ndsC ks2),.sl none 9 w.length (cdsC w)],.obj zA,.obj (agL fn k (.str op1) (.str nm1) (.int .i64 n1) (.sl none 4 ks1.length (ndsC ks1)) (.str op2) (.str nm2) (.int .i64 n2) (.sl none 4 ks2.length (ndsC ks2)) wD)]) (by simp)
  have hwd2:=hacc2.one
  have hn:=next (i+1,wD',E') (by dsimp only;omega) ⟨hil,by rw [List.take_succ_eq_append_getElem hil];exact hacc2⟩
  clear next hacc2 hs1 hs2 h3
  dsimp only at hn
  generalize w[i]=cd at *
  obtain ⟨cop,⟨op3,nm3,n3,ks3⟩,⟨op4,nm4,n4,ks4⟩⟩:=cd
  simp only [Cd.c,Nd.c_mk,List.cons_append,List.nil_append,List.append_assoc,agL,zA] at hap hc1 hc2 hn t2 t4 t6 ⊢
  repeat' (first|refine Go.a rfl ?_|refine Go.rg ?_|refine GoR.nil ?_|refine Go.ret ?_|refine Go.b rfl ?_|refine Go.rgS dmx (by decide) ?_|refine Go.rgF (id:=1) 11 [6,9] [1,3,8] (fun H=>objAt H S.length=some [.str fn,.int .i64 k,.str op1,.str nm1,.int .i64 n1,.sl none 4 ks1.length (ndsC ks1),.str op2,.str nm2,.int .i64 n2,.sl none 4 ks2.length (ndsC ks2),.sl none 9 w.length (cdsC w)]∧objAt H (S.length+2)=some [.str fn,.int .i64 k,.str op1,.str nm1,.int .i64 n1,.sl none 4 ks1.length (ndsC ks1),.str op2,.str nm2,.int .i64 n2,.sl none 4 ks2.length (ndsC ks2),wD]) dmx (by decide) 12 (by decide) (by decide) rfl rfl rfl rfl dze37 (by simp [AM.scalarV,Value.cells]) (by (constructor<;>simp only [objAt_app,objAt_app0,objAt_succ,objAt_zero])) ?_|refine Go.rgD (id:=5) [1,3,7,16,20] (fun H=>objAt H S.length=some [.str fn,.int .i64 k,.str op1,.str nm1,.int .i64 n1,.sl none 4 ks1.length (ndsC ks1),.str op2,.str nm2,.int .i64 n2,.sl none 4 ks2.length (ndsC ks2),.sl none 9 w.length (cdsC w)]∧objAt H (S.length+2)=some [.str fn,.int .i64 k,.str op1,.str nm1,.int .i64 n1,.sl none 4 ks1.length (ndsC ks1),.str op2,.str nm2,.int .i64 n2,.sl none 4 ks2.length (ndsC ks2),wD]) dmx (by decide) 24 (by decide) (by (constructor<;>simp only [objAt_app,objAt_app0,objAt_succ,objAt_zero])) ?_|refine GoW.nil rfl ?_|((first|refine GoR.o (by rfl) (by rfl) ?_|refine GoW.o (by rfl) (by rfl) ?_|refine GoW.rd (by rfl) (by rfl) ?_);(conv=>arg 1;simp only [G,Z,Y,Gx,vV,simprocAttr,fb2,fb3,fb9,fb23,fb25,fb26,fb28,fb34,fb35,fb37,fb93,fb101,t1,t2,t3,t4,t5,t6,hwd,hwd2,hap,builtin_append,List.append_assoc,List.cons_append,List.nil_append,wrap_succ (show i<4611686018427387904 by omega),show decide ((i:Int)<(w.length:Int))=true by simp;omega]);first|show GoR ..|(show _∧GoW ..;refine ⟨by (first|exact fun h=>absurd h (by decide)|(intro _;(constructor<;>simp only [objAt_app,objAt_app0,objAt_succ,objAt_zero]))),?_⟩)|(show _∧_∧_∧GoW ..;refine ⟨rfl,by (constructor<;>simp only [objAt_app,objAt_app0,objAt_succ,objAt_zero]),(fun H hI=>by (try dsimp only at hI);simp only [G,Z,Y,Gx,vV,simprocAttr,fb2,fb3,fb9,fb23,fb25,fb26,fb28,fb34,fb35,fb37,fb93,fb101,t1,t2,t3,t4,t5,t6,hwd,hwd2,hap,builtin_append,List.append_assoc,List.cons_append,List.nil_append,wrap_succ (show i<4611686018427387904 by omega),show decide ((i:Int)<(w.length:Int))=true by simp;omega,hI]),?_⟩))|(refine GoW.c c41 (by rfl) (by rfl) rfl ?_;(first | refine CallD.ret2 (hc1 _) ?_ | refine CallD.ret2 (hc2 _) ?_);refine ⟨by (first|exact fun h=>absurd h (by decide)|(intro _;(constructor<;>simp only [objAt_app,objAt_app0,objAt_succ,objAt_zero]))),?_⟩)|(refine GoR.c c41 (by rfl) (by rfl) rfl ?_;(first | refine CallD.ret2 (hc1 _) ?_ | refine CallD.ret2 (hc2 _) ?_))|refine Go.condB rfl (fun hc => ?_) (fun hc => ?_))
  refine Go.lpN ?_
  refine Go.keep [(1,.ptr S.length 0),(2,.ptr (S.length+1) 0),(3,.ptr (S.length+2) 0),(4,.int .i64 ((i+1:Nat):Int))] (.cons .refl (.cons .refl (.cons .refl (.cons .refl (.nil))))) ?_
  exact hn
 ·clear next
  have hil2:i=w.length:=by omega
  subst hil2
  rw [List.take_length] at hacc
  have hwW:Wf wD (.sl none 9 w.length (cdsC w)):=by
   rcases hacc with ⟨rfl,rfl⟩ | ⟨_,q,rfl,_⟩
   ·exact .nilE
   ·exact .disown
  have hwA2:=hwA wD hwW
  clear hwA
  simp only [agL,zA] at hwA2 ⊢
  repeat' (first|refine Go.a rfl ?_|refine Go.rg ?_|refine GoR.nil ?_|refine Go.ret ?_|refine Go.b rfl ?_|refine Go.rgS dmx (by decide) ?_|refine Go.rgF (id:=1) 11 [6,9] [1,3,8] (fun _=>True) dmx (by decide) 12 (by decide) (by decide) rfl rfl rfl rfl dze37 (by simp [AM.scalarV,Value.cells]) (by trivial) ?_|refine Go.rgD (id:=5) [1,3,7,16,20] (fun _=>True) dmx (by decide) 24 (by decide) (by trivial) ?_|refine GoW.nil rfl ?_|((first|refine GoR.o (by rfl) (by rfl) ?_|refine GoW.o (by rfl) (by rfl) ?_|refine GoW.rd (by rfl) (by rfl) ?_);(conv=>arg 1;simp only [G,Z,Y,Gx,vV,simprocAttr,fb2,fb3,fb9,fb23,fb25,fb26,fb28,fb34,fb35,fb37,fb93,fb101,hwd,show decide ((w.length:Int)<(w.length:Int))=false by simp]);first|show GoR ..|(show _∧GoW ..;refine ⟨by exact fun _=>trivial,?_⟩)|(show _∧_∧_∧GoW ..;refine ⟨rfl,by trivial,(fun H _=>by simp only [G,Z,Y,Gx,vV,simprocAttr,fb2,fb3,fb9,fb23,fb25,fb26,fb28,fb34,fb35,fb37,fb93,fb101,hwd,show decide ((w.length:Int)<(w.length:Int))=false by simp]),?_⟩))|refine Go.condB rfl (fun hc => ?_) (fun hc => ?_))
  refine ⟨(by first | exact .inl rfl | exact .inr rfl),fin ?_⟩
  rw [resD_cell (fn:=Tryz.f12) rfl]
  simp only [optThen_some,resultD_tmp,resultD_cell,G,Z,Y,Gx,vV,simprocAttr,fb2,fb3,fb9,fb23,fb25,fb26,fb28,fb34,fb35,fb37,fb93,fb101,hwd]
  exact ⟨_,_,rfl,Wf.to_Wk hwA2 hlow,rfl⟩
end Go.Proofs.DgT
namespace Go.Proofs.DgT
open Go Go.DM
set_option maxRecDepth 100000
end Go.Proofs.DgT
