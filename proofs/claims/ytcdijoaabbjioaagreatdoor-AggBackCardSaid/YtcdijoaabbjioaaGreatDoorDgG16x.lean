/- A fold as the document's. -/
import Derived.Test.YtcdijoaabbjioaaGreatDoorDgG15
import Derived.Test.YtcdijoaabbjioaaGreatDoorDgC5x
import Derived.Test.YtcdijoaabbjioaaGreatDoorDgK1x
import Derived.Test.YtcdijoaabbjioaaGreatDoorDgW1x
import Derived.Test.YtcdijoaabbjioaaGreatDoorDgP9x
set_option linter.unusedSimpArgs false
set_option linter.unusedVariables false
namespace Go.Proofs.DgT
open Go Go.DM
set_option maxRecDepth 100000
theorem c5d {l:List Cd} {i:Nat} (h:i<l.length) :
  ((0≤(i:Int)∧(i:Int)<(l.length:Int))=True)∧(i7a l)[i*9]?=some (.str l[i].op)∧((i*9+1+4≤(i7a l).length)=True)∧((i7a l).drop (i*9+1)).take 4=l[i].a.c ∧
  ((i*9+5+4≤(i7a l).length)=True)∧((i7a l).drop (i*9+5)).take 4=l[i].b.c:=
 ⟨y0d h,b7c Cd.len l i h (by omega),u6b Cd.len l i h (by omega),(u7b Cd.len l i h (by omega)).trans (by simp [Cd.c,Nd.len]),u6b Cd.len l i h (by omega),(u7b Cd.len l i h (by omega)).trans (by
  have:(Cd.c l[i]).drop 5=l[i].b.c:=by
   show (Nd.c l[i].a++Nd.c l[i].b).drop 4=_
   rw [List.drop_append_of_le_length (by rw [Nd.len];omega),List.drop_of_length_le (by rw [Nd.len];omega),List.nil_append]
  rw [this,List.take_of_length_le (by rw [Nd.len];omega)])⟩
def z8b (a:Ag):Prop:=f3b 100 a.e∧f3b 100 a.by_ ∧ ∀ c∈a.w,f3b 100 c.a∧f3b 100 c.b
set_option maxHeartbeats 1000000 in
theorem f9e (a:Ag) (hs:z8b a) (hw:a.w.length<1000) (S:Mem):a3a Tryz.prog O 12 [.agg (Ag.c a)] S fun d S'=>S'=S∧d = .agg (Ag.c a):=by
 have hlow:=p2a.agg' (x2c (m:=S.length) a)
 obtain ⟨fn,k,⟨op1,nm1,n1,ks1⟩,⟨op2,nm2,n2,ks2⟩,w⟩:=a
 obtain ⟨h1,h2,h3⟩:=hs
 have ho1:=of9 (orc:=O) _ h1
 have ho2:=of9 (orc:=O) _ h2
 dsimp only at ho1 ho2 h3 hw
 have hwA : ∀ wD,Wf wD (.sl none 9 w.length (i7a w))→Wf (.agg (agL fn k (.str op1) (.str nm1) (.int .i64 n1) (.sl none 4 ks1.length (d3a ks1)) (.str op2) (.str nm2) (.int .i64 n2) (.sl none 4 ks2.length (d3a ks2)) wD)) (.agg (Ag.c ⟨fn,k,.mk op1 nm1 n1 ks1,.mk op2 nm2 n2 ks2,w⟩)):=fun wD hwD=>.agg' (by
  simp only [Ag.c,agL,Nd.k0a,List.cons_append,List.nil_append]
  exact .cons .refl (.cons .refl (.cons .refl (.cons .refl (.cons .refl (.cons .refl (.cons .refl (.cons .refl (.cons .refl (.cons .refl (.cons hwD .nil)))))))))))
 simp only [Ag.c,Nd.k0a,List.cons_append,List.nil_append] at ho1 ho2 hlow hwA ⊢
 refine a3a.e Tryz.func12 rfl Tryz.ntmps12 (by rfl) ?_
 repeat' (first|refine Go.a rfl ?_|refine Go.rg ?_|refine GoR.nil ?_|refine Go.ret ?_|refine Go.b rfl ?_|refine Go.rgS dmx (by decide) ?_|refine Go.rgF (id:=1) 11 [6,9] [1,3,8] (fun H=>b6a H S.length=some [.str fn,.int .i64 k,.str op1,.str nm1,.int .i64 n1,.sl none 4 ks1.length (d3a ks1),.str op2,.str nm2,.int .i64 n2,.sl none 4 ks2.length (d3a ks2),.sl none 9 w.length (i7a w)]) dmx (by decide) 12 (by decide) (by decide) rfl rfl rfl rfl j1d (by simp [AM.b3a,Value.cells]) (by (simp only [a7a,a6a,a5a,a4a])) ?_|refine Go.rgD (id:=5) [1,3,7,16,20] (fun H=>b6a H S.length=some [.str fn,.int .i64 k,.str op1,.str nm1,.int .i64 n1,.sl none 4 ks1.length (d3a ks1),.str op2,.str nm2,.int .i64 n2,.sl none 4 ks2.length (d3a ks2),.sl none 9 w.length (i7a w)]) dmx (by decide) 24 (by decide) (by (simp only [a7a,a6a,a5a,a4a])) ?_|refine GoW.nil rfl ?_|((first|refine GoR.o (by rfl) (by rfl) ?_|refine GoW.o (by rfl) (by rfl) ?_|refine GoW.rd (by rfl) (by rfl) ?_);(conv=>arg 1;simp only [G,Z,Y,Gx,vV,simprocAttr,fb2,fb3,fb9,c2a,b7a,d7a,d9a,g4a,k4a,k5a,k6a,e2a]);first|show GoR ..|(show _∧GoW ..;refine ⟨by (first|exact fun h=>absurd h (by decide)|(intro _;(simp only [a7a,a6a,a5a,a4a]))),?_⟩)|(show _∧_∧_∧GoW ..;refine ⟨rfl,by (simp only [a7a,a6a,a5a,a4a]),(fun H hI=>by (try dsimp only at hI);simp only [G,Z,Y,Gx,vV,simprocAttr,fb2,fb3,fb9,c2a,b7a,d7a,d9a,g4a,k4a,k5a,k6a,e2a,hI]),?_⟩))|(refine GoW.c c41 (by rfl) (by rfl) rfl ?_;(first | refine a3a.b2a (ho1 _) ?_ | refine a3a.b2a (ho2 _) ?_);refine ⟨by (first|exact fun h=>absurd h (by decide)|(intro _;(simp only [a7a,a6a,a5a,a4a]))),?_⟩)|(refine GoR.c c41 (by rfl) (by rfl) rfl ?_;(first | refine a3a.b2a (ho1 _) ?_ | refine a3a.b2a (ho2 _) ?_))|refine Go.b0a rfl (fun hc => ?_) (fun hc => ?_))
 refine Go.keep [(1,.ptr S.length 0),(2,.ptr (S.length+1) 0),(3,.ptr (S.length+2) 0),(4,.int .i64 ((0:Nat):Int))] (.cons .refl (.cons .refl (.cons .refl (.cons .refl (.nil))))) ?_
 refine Go.while (α:=Nat×D×Mem) (fun x=>w.length - x.1) (fun x=>[(1,.ptr S.length 0),(2,.ptr (S.length+1) 0),(3,.ptr (S.length+2) 0),(4,.int .i64 (x.1:Int))])
  (fun x=>S++(.obj [.str fn,.int .i64 k,.str op1,.str nm1,.int .i64 n1,.sl none 4 ks1.length (d3a ks1),.str op2,.str nm2,.int .i64 n2,.sl none 4 ks2.length (d3a ks2),.sl none 9 w.length (i7a w)] :: .obj zA :: .obj (agL fn k (.str op1) (.str nm1) (.int .i64 n1) (.sl none 4 ks1.length (d3a ks1)) (.str op2) (.str nm2) (.int .i64 n2) (.sl none 4 ks2.length (d3a ks2)) x.2.1)::x.2.2))
  (fun x=>x.1≤w.length∧f9d (S.length+1) x.2.1 (w.take x.1) x.2.2) ?_ (0,.c5a,[]) ⟨by simp,.inl ⟨rfl,by simp⟩⟩
 rintro ⟨i,wD,E⟩ ⟨hi,hacc⟩ next
 dsimp only at hi hacc next
 have hwd:=hacc.one
 by_cases hil:i<w.length
 ·obtain ⟨t1,t2,t3,t4,t5,t6⟩:=c5d hil
  obtain ⟨hs1,hs2⟩:=h3 _ (List.getElem_mem hil)
  have hc1:=of9 (orc:=O) _ hs1
  have hc2:=of9 (orc:=O) _ hs2
  obtain ⟨wD',E',hap,a4b⟩:=hacc.g7f (by simp;omega) w[i] (S0:=S++[.obj [.str fn,.int .i64 k,.str op1,.str nm1,.int .i64 n1,.sl none 4 ks1.length (d3a ks1),.str op2,.str nm2,.int .i64 n2,.sl none 4 ks2.length (d3a ks2),.sl none 9 w.length (i7a w)],.obj zA,.obj (agL fn k (.str op1) (.str nm1) (.int .i64 n1) (.sl none 4 ks1.length (d3a ks1)) (.str op2) (.str nm2) (.int .i64 n2) (.sl none 4 ks2.length (d3a ks2)) wD)]) (by simp)
  have hwd2:=a4b.one
  have hn:=next (i+1,wD',E') (by dsimp only;omega) ⟨hil,by rw [List.take_succ_eq_append_getElem hil];exact a4b⟩
  clear next a4b hs1 hs2 h3
  dsimp only at hn
  generalize w[i]=cd at *
  obtain ⟨cop,⟨op3,nm3,n3,ks3⟩,⟨op4,nm4,n4,ks4⟩⟩:=cd
  simp only [Cd.c,Nd.k0a,List.cons_append,List.nil_append,List.append_assoc,agL,zA] at hap hc1 hc2 hn t2 t4 t6 ⊢
  repeat' (first|refine Go.a rfl ?_|refine Go.rg ?_|refine GoR.nil ?_|refine Go.ret ?_|refine Go.b rfl ?_|refine Go.rgS dmx (by decide) ?_|refine Go.rgF (id:=1) 11 [6,9] [1,3,8] (fun H=>b6a H S.length=some [.str fn,.int .i64 k,.str op1,.str nm1,.int .i64 n1,.sl none 4 ks1.length (d3a ks1),.str op2,.str nm2,.int .i64 n2,.sl none 4 ks2.length (d3a ks2),.sl none 9 w.length (i7a w)]∧b6a H (S.length+2)=some [.str fn,.int .i64 k,.str op1,.str nm1,.int .i64 n1,.sl none 4 ks1.length (d3a ks1),.str op2,.str nm2,.int .i64 n2,.sl none 4 ks2.length (d3a ks2),wD]) dmx (by decide) 12 (by decide) (by decide) rfl rfl rfl rfl j1d (by simp [AM.b3a,Value.cells]) (by (constructor<;>simp only [a7a,a6a,a5a,a4a])) ?_|refine Go.rgD (id:=5) [1,3,7,16,20] (fun H=>b6a H S.length=some [.str fn,.int .i64 k,.str op1,.str nm1,.int .i64 n1,.sl none 4 ks1.length (d3a ks1),.str op2,.str nm2,.int .i64 n2,.sl none 4 ks2.length (d3a ks2),.sl none 9 w.length (i7a w)]∧b6a H (S.length+2)=some [.str fn,.int .i64 k,.str op1,.str nm1,.int .i64 n1,.sl none 4 ks1.length (d3a ks1),.str op2,.str nm2,.int .i64 n2,.sl none 4 ks2.length (d3a ks2),wD]) dmx (by decide) 24 (by decide) (by (constructor<;>simp only [a7a,a6a,a5a,a4a])) ?_|refine GoW.nil rfl ?_|((first|refine GoR.o (by rfl) (by rfl) ?_|refine GoW.o (by rfl) (by rfl) ?_|refine GoW.rd (by rfl) (by rfl) ?_);(conv=>arg 1;simp only [G,Z,Y,Gx,vV,simprocAttr,fb2,fb3,fb9,c2a,b7a,d7a,d9a,g4a,k4a,k5a,k6a,e2a,t1,t2,t3,t4,t5,t6,hwd,hwd2,hap,builtin_append,List.append_assoc,List.cons_append,List.nil_append,b9a (show i<4611686018427387904 by omega),show decide ((i:Int)<(w.length:Int))=true by simp;omega]);first|show GoR ..|(show _∧GoW ..;refine ⟨by (first|exact fun h=>absurd h (by decide)|(intro _;(constructor<;>simp only [a7a,a6a,a5a,a4a]))),?_⟩)|(show _∧_∧_∧GoW ..;refine ⟨rfl,by (constructor<;>simp only [a7a,a6a,a5a,a4a]),(fun H hI=>by (try dsimp only at hI);simp only [G,Z,Y,Gx,vV,simprocAttr,fb2,fb3,fb9,c2a,b7a,d7a,d9a,g4a,k4a,k5a,k6a,e2a,t1,t2,t3,t4,t5,t6,hwd,hwd2,hap,builtin_append,List.append_assoc,List.cons_append,List.nil_append,b9a (show i<4611686018427387904 by omega),show decide ((i:Int)<(w.length:Int))=true by simp;omega,hI]),?_⟩))|(refine GoW.c c41 (by rfl) (by rfl) rfl ?_;(first | refine a3a.b2a (hc1 _) ?_ | refine a3a.b2a (hc2 _) ?_);refine ⟨by (first|exact fun h=>absurd h (by decide)|(intro _;(constructor<;>simp only [a7a,a6a,a5a,a4a]))),?_⟩)|(refine GoR.c c41 (by rfl) (by rfl) rfl ?_;(first | refine a3a.b2a (hc1 _) ?_ | refine a3a.b2a (hc2 _) ?_))|refine Go.b0a rfl (fun hc => ?_) (fun hc => ?_))
  refine Go.lpN ?_
  refine Go.keep [(1,.ptr S.length 0),(2,.ptr (S.length+1) 0),(3,.ptr (S.length+2) 0),(4,.int .i64 ((i+1:Nat):Int))] (.cons .refl (.cons .refl (.cons .refl (.cons .refl (.nil))))) ?_
  exact hn
 ·clear next
  have y5e:i=w.length:=by omega
  subst y5e
  rw [List.take_length] at hacc
  have hwW:Wf wD (.sl none 9 w.length (i7a w)):=by
   rcases hacc with ⟨rfl,rfl⟩ | ⟨_,q,rfl,_⟩
   ·exact .e1d
   ·exact .disown
  have j9f:=hwA wD hwW
  clear hwA
  simp only [agL,zA] at j9f ⊢
  repeat' (first|refine Go.a rfl ?_|refine Go.rg ?_|refine GoR.nil ?_|refine Go.ret ?_|refine Go.b rfl ?_|refine Go.rgS dmx (by decide) ?_|refine Go.rgF (id:=1) 11 [6,9] [1,3,8] (fun _=>True) dmx (by decide) 12 (by decide) (by decide) rfl rfl rfl rfl j1d (by simp [AM.b3a,Value.cells]) (by trivial) ?_|refine Go.rgD (id:=5) [1,3,7,16,20] (fun _=>True) dmx (by decide) 24 (by decide) (by trivial) ?_|refine GoW.nil rfl ?_|((first|refine GoR.o (by rfl) (by rfl) ?_|refine GoW.o (by rfl) (by rfl) ?_|refine GoW.rd (by rfl) (by rfl) ?_);(conv=>arg 1;simp only [G,Z,Y,Gx,vV,simprocAttr,fb2,fb3,fb9,c2a,b7a,d7a,d9a,g4a,k4a,k5a,k6a,e2a,hwd,show decide ((w.length:Int)<(w.length:Int))=false by simp]);first|show GoR ..|(show _∧GoW ..;refine ⟨by exact fun _=>trivial,?_⟩)|(show _∧_∧_∧GoW ..;refine ⟨rfl,by trivial,(fun H _=>by simp only [G,Z,Y,Gx,vV,simprocAttr,fb2,fb3,fb9,c2a,b7a,d7a,d9a,g4a,k4a,k5a,k6a,e2a,hwd,show decide ((w.length:Int)<(w.length:Int))=false by simp]),?_⟩))|refine Go.b0a rfl (fun hc => ?_) (fun hc => ?_))
  refine ⟨(by first | exact .inl rfl | exact .inr rfl),fin ?_⟩
  rw [g3a (fn:=Tryz.f12) rfl]
  simp only [a0a,a2a,a1a,G,Z,Y,Gx,vV,simprocAttr,fb2,fb3,fb9,c2a,b7a,d7a,d9a,g4a,k4a,k5a,k6a,e2a,hwd]
  exact ⟨_,_,rfl,Wf.y9b j9f hlow,rfl⟩
end Go.Proofs.DgT
namespace Go.Proofs.DgT
open Go Go.DM
set_option maxRecDepth 100000
theorem w7c (n:Nd) (h:Whole n):m8a n=0:=by
 induction n using Nd.ind with
 | h op nm n ks ih=>
  obtain ⟨har,hn,hz,hi,hk,_⟩:=h
  rw [i2b,if_neg (fun q=>q har),if_neg,if_neg]
  ·refine c7b fun x hx => ?_
   obtain ⟨k,hkm,rfl⟩:=List.mem_map.1 hx
   exact ih k hkm (hk k hkm)
  ·rintro ⟨q1,q2⟩
   have:=hz q1
   omega
  ·rintro ⟨q1,q2⟩
   rw [hn q1] at q2
   cases q2
theorem q1c {n:Nd} (h:Whole n) (hc:cnt n≤32):checkN n=0:=by
 unfold checkN
 rw [if_neg (by omega)]
 exact w7c n h
def Fine (n:Nd):Prop:=Whole n∧cnt n≤32
theorem Fine.check {n:Nd} (h:Fine n):checkN n=0:=q1c h.1 h.2
structure f2b (a:Ag):Prop where
 fn:(f6a a.fn).2.2.2=true
 k:a.fn=(⟨#[116,111,112]⟩:ByteArray)→1≤a.k∧a.k≤16
 e:a.fn≠(⟨#[99,111,117,110,116]⟩:ByteArray)→Fine a.e
 by_:a.fn=(⟨#[102,105,114,115,116]⟩:ByteArray)→Fine a.by_
 w:a.w.length≤4
 ws : ∀ c∈a.w,k0b c.op=true∧Fine c.a∧Fine c.b
end Go.Proofs.DgT
