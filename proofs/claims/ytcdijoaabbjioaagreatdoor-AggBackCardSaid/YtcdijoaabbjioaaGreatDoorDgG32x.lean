/- A fold in words: by the program, by the document. -/
import Derived.Test.YtcdijoaabbjioaaGreatDoorDgG30x
import Derived.Test.YtcdijoaabbjioaaGreatDoorDgT1
set_option linter.unusedSimpArgs false
set_option linter.unusedVariables false
namespace Go.Proofs.DgT
open Go Go.DM
set_option maxRecDepth 100000
def b0a (c:Cd):ByteArray:=(((textS c.a++(⟨#[32]⟩:ByteArray))++c.op)++(⟨#[32]⟩:ByteArray))++textS c.b
def u3d (b:Bool):ByteArray:=if b=true then (⟨#[32,119,104,101,114,101,32]⟩:ByteArray) else (⟨#[32,97,110,100,32]⟩:ByteArray)
def m9a:Bool→List Cd→ByteArray
 | _,[]=>⟨#[]⟩
 | b,c::l=>u3d b++(b0a c++m9a false l)
def a0c (a:Ag):ByteArray:=if a.fn=(⟨#[99,111,117,110,116]⟩:ByteArray) then ⟨#[]⟩ else if a.fn=(⟨#[102,105,114,115,116]⟩:ByteArray) then (textS a.e++(⟨#[44,32]⟩:ByteArray))++textS a.by_ else if a.fn=(⟨#[116,111,112]⟩:ByteArray) then (o9a a.k++(⟨#[44,32]⟩:ByteArray))++textS a.e else textS a.e
def m1c (a:Ag):ByteArray:=((a.fn++(⟨#[40]⟩:ByteArray))++a0c a)++(⟨#[41]⟩:ByteArray)
def r5a (a:Ag):ByteArray:=m1c a++m9a true a.w
theorem s8a (a b c:ByteArray):(a++b)++c=a++(b++c):=by
 apply ByteArray.ext
 simp [ByteArray.data_append]
theorem b2c (a:ByteArray):a++(⟨#[]⟩:ByteArray)=a:=by
 apply ByteArray.ext
 simp [ByteArray.data_append]
theorem v3e (a:ByteArray):(⟨#[]⟩:ByteArray)++a=a:=by
 apply ByteArray.ext
 simp [ByteArray.data_append]
theorem t3b : ∀ (b:Bool) (l:List Cd) (c:Cd),m9a b (l++[c])=m9a b l++(u3d (b&&l.isEmpty)++b0a c)
 | b,[],c=>by simp only [List.nil_append,m9a,List.isEmpty_nil,Bool.and_true,b2c,v3e]
 | b,x::l,c=>by
  have ih:=t3b false l c
  simp only [List.cons_append,m9a,ih,s8a,List.isEmpty_cons,Bool.and_false,Bool.false_and]
theorem t4b {w:List Cd} {i:Nat} (h:i<w.length):m9a true (w.take (i+1))=m9a true (w.take i)++(u3d (decide (i=0))++b0a w[i]):=by
 rw [← List.take_append_getElem h,t3b]
 congr 3
 cases i with
 | zero=>rfl
 | succ i=>
  cases w with
  | nil=>simp at h
  | cons x w=>rfl
theorem m1a {n:Nd} (h:Fine n):(textS n).size≤960:=by
 have:=text_size n h.1
 have:=h.2
 omega
theorem u9c {s:ByteArray} (h:k0b s=true):s.size≤2:=by
 unfold k0b b4b at h
 by_cases h1:s=(⟨#[61]⟩:ByteArray)
 ·subst h1;decide
 rw [if_neg h1] at h
 by_cases h2:s=(⟨#[33,61]⟩:ByteArray)
 ·subst h2;decide
 rw [if_neg h2] at h
 by_cases h3:s=(⟨#[60]⟩:ByteArray)
 ·subst h3;decide
 rw [if_neg h3] at h
 by_cases h4:s=(⟨#[60,61]⟩:ByteArray)
 ·subst h4;decide
 rw [if_neg h4] at h
 by_cases h5:s=(⟨#[62]⟩:ByteArray)
 ·subst h5;decide
 rw [if_neg h5] at h
 by_cases h6:s=(⟨#[62,61]⟩:ByteArray)
 ·subst h6;decide
 rw [if_neg h6] at h
 cases h
theorem h8c (b:Bool):(u3d b).size≤7:=by cases b<;>decide
theorem i3d {c:Cd} (h:k0b c.op=true∧Fine c.a∧Fine c.b):(b0a c).size≤1924:=by
 have h1:=u9c h.1
 have h2:=m1a h.2.1
 have h3:=m1a h.2.2
 unfold b0a
 simp only [d2a]
 show _+1+_+1+_≤_
 omega
theorem c4b : ∀ {b:Bool} {l:List Cd},(∀ c∈l,k0b c.op=true∧Fine c.a∧Fine c.b)→(m9a b l).size≤1931*l.length
 | _,[],_=>by simp [m9a,ByteArray.size]
 | b,c::l,h=>by
  have h1:=i3d (h c (by simp))
  have h2:=c4b (b:=false) fun x hx=>h x (List.mem_cons_of_mem _ hx)
  have h3:=h8c b
  unfold m9a
  simp only [d2a,List.length_cons]
  omega
theorem t3c {fn:ByteArray} (h:(f6a fn).2.2.2=true):fn.size≤5:=by
 rcases w1b h with rfl | rfl | rfl | rfl | rfl | rfl<;>decide
theorem h5d {a:Ag} (g:f2b a):(a0c a).size≤1922:=by
 unfold a0c
 by_cases h1:a.fn=(⟨#[99,111,117,110,116]⟩:ByteArray)
 ·rw [if_pos h1];decide
 rw [if_neg h1]
 have h2:=m1a (g.e h1)
 by_cases h3:a.fn=(⟨#[102,105,114,115,116]⟩:ByteArray)
 ·rw [if_pos h3]
  have h4:=m1a (g.by_ h3)
  simp only [d2a]
  show _+2+_≤_
  omega
 rw [if_neg h3]
 by_cases h4:a.fn=(⟨#[116,111,112]⟩:ByteArray)
 ·rw [if_pos h4]
  have h5:=g.k h4
  have:=d0b (n:=a.k) ⟨by omega,by omega⟩
  simp only [d2a]
  show _+2+_≤_
  omega
 rw [if_neg h4]
 omega
theorem head_size {a:Ag} (g:f2b a):(m1c a).size≤1929:=by
 have h1:=t3c g.fn
 have h2:=h5d g
 unfold m1c
 simp only [d2a]
 show _+1+_+1≤_
 omega
theorem i0c {P:Program} {x t1 op t2:ByteArray} (hx:x.size≤20000) (h1:t1.size≤960) (h2:op.size≤2) (h3:t2.size≤960) :
  (∀ {t u v},i6a P .add t u v (.str x) (.str t1)=some (.str (x++t1)))∧(∀ {t u v},i6a P .add t u v (.str (x++t1)) (.str (⟨#[32]⟩:ByteArray))=some (.str ((x++t1)++(⟨#[32]⟩:ByteArray)))) ∧
  (∀ {t u v},i6a P .add t u v (.str ((x++t1)++(⟨#[32]⟩:ByteArray))) (.str op)=some (.str (((x++t1)++(⟨#[32]⟩:ByteArray))++op)))∧(∀ {t u v},i6a P .add t u v (.str (((x++t1)++(⟨#[32]⟩:ByteArray))++op)) (.str (⟨#[32]⟩:ByteArray))=some (.str ((((x++t1)++(⟨#[32]⟩:ByteArray))++op)++(⟨#[32]⟩:ByteArray)))) ∧
  (∀ {t u v},i6a P .add t u v (.str ((((x++t1)++(⟨#[32]⟩:ByteArray))++op)++(⟨#[32]⟩:ByteArray))) (.str t2)=some (.str (((((x++t1)++(⟨#[32]⟩:ByteArray))++op)++(⟨#[32]⟩:ByteArray))++t2))):=by
 have s1:((⟨#[32]⟩:ByteArray):ByteArray).size=1:=rfl
 refine ⟨?_,?_,?_,?_,?_⟩
 all_goals
  intro t u v
  refine e4a ?_
  try simp only [d2a,s1]
  omega
theorem g1f:d8b [] (⟨#[44,32]⟩:ByteArray)=(⟨#[]⟩:ByteArray):=rfl
theorem u3e (a:ByteArray):d8b [a] (⟨#[44,32]⟩:ByteArray)=a:=by
 apply ByteArray.ext
 simp [d8b,Lib.join]
theorem y1d (a b:ByteArray):d8b [a,b] (⟨#[44,32]⟩:ByteArray)=(a++(⟨#[44,32]⟩:ByteArray))++b:=by
 apply ByteArray.ext
 simp [d8b,Lib.join,ByteArray.data_append]
set_option maxHeartbeats 3200000 in
theorem e7d (a:Ag) (hg:f2b a) (S:Mem):a3a Tryz.prog O 16 [.agg (Ag.c a)] S fun d S'=>S'=S∧d = .str (r5a a):=by
 have hhs:=head_size hg
 have hcs:=fun i=>c4b (b:=true) (l:=a.w.take i) (fun c hc=>hg.ws c (List.mem_of_mem_take hc))
 have hh:m1c a=((a.fn++(⟨#[40]⟩:ByteArray))++a0c a)++(⟨#[41]⟩:ByteArray):=rfl
 obtain ⟨g1,g2,g3,g4,g5,g6⟩:=hg
 have te1:=fun h=>z3a (orc:=O) a.e (g3 h).1 (by have:=(g3 h).2;omega)
 have te2:=fun h=>z3a (orc:=O) a.by_ (g4 h).1 (by have:=(g4 h).2;omega)
 have se1:=fun h=>m1a (g3 h)
 have se2:=fun h=>m1a (g4 h)
 have hfs:=t3c g1
 unfold r5a
 unfold a0c at hh
 generalize m1c a=hd at *
 generalize textS a.e=x1 at *
 generalize textS a.by_=x2 at *
 obtain ⟨fn,k,⟨op1,nm1,n1,ks1⟩,⟨op2,nm2,n2,ks2⟩,w⟩:=a
 dsimp only at *
 simp only [Ag.c,Nd.k0a,List.cons_append,List.nil_append] at te1 te2 ⊢
 have c1:((⟨#[40]⟩:ByteArray):ByteArray).size=1:=rfl
 have c2:((⟨#[41]⟩:ByteArray):ByteArray).size=1:=rfl
 have c3:((⟨#[44,32]⟩:ByteArray):ByteArray).size=2:=rfl
 have a1:=fun {t x y} => e4a (P:=Tryz.prog) (t:=t) (x:=x) (y:=y) (a:=fn) (b:=(⟨#[40]⟩:ByteArray)) (by rw [c1];omega)
 have hs1:(fn++(⟨#[40]⟩:ByteArray)).size≤6:=by rw [d2a,c1];omega
 generalize fn++(⟨#[40]⟩:ByteArray)=f1 at *
 refine a3a.e Tryz.func16 rfl Tryz.ntmps16 (by rfl) ?_
 apply t4c True
 ·intro hl
  rcases l9a g1 with hf | hf | hf | ⟨f1',f2,f3,hN⟩
  ·have fc:(fn=(⟨#[99,111,117,110,116]⟩:ByteArray))=True:=eq_true hf
   have ff:(fn=(⟨#[102,105,114,115,116]⟩:ByteArray))=False:=eq_false (by rw [hf];decide)
   have ft:(fn=(⟨#[116,111,112]⟩:ByteArray))=False:=eq_false (by rw [hf];decide)
   have e1:(fn=(⟨#[109,105,110]⟩:ByteArray))=False:=eq_false (by rw [hf];decide)
   have e2:(fn=(⟨#[109,97,120]⟩:ByteArray))=False:=eq_false (by rw [hf];decide)
   have e3:(fn=(⟨#[115,117,109]⟩:ByteArray))=False:=eq_false (by rw [hf];decide)
   simp only [fc,ff,ft,if_true,if_false] at hh
   rw [b2c] at hh
   have a3:=fun {t x y} => e4a (P:=Tryz.prog) (t:=t) (x:=x) (y:=y) (a:=f1) (b:=(⟨#[41]⟩:ByteArray)) (by rw [c2];omega)
   rw [← hh] at a3
   repeat' (first|refine Go.a rfl ?_|refine Go.rg ?_|refine GoR.nil ?_|refine Go.ret ?_|refine Go.b rfl ?_|refine Go.rgS dmx (by decide) ?_|refine Go.rgD (id:=8) [7] (fun H=>b6a H S.length=some [.str fn,.int .i64 k,.str op1,.str nm1,.int .i64 n1,.sl none 4 ks1.length (d3a ks1),.str op2,.str nm2,.int .i64 n2,.sl none 4 ks2.length (d3a ks2),.sl none 9 w.length (i7a w)]) dmx (by decide) 8 (by decide) (by (simp only [List.append_assoc,List.cons_append,List.nil_append,a7a,a6a,a5a,a4a])) ?_|refine Go.rgD (id:=10) [7] (fun H=>b6a H S.length=some [.str fn,.int .i64 k,.str op1,.str nm1,.int .i64 n1,.sl none 4 ks1.length (d3a ks1),.str op2,.str nm2,.int .i64 n2,.sl none 4 ks2.length (d3a ks2),.sl none 9 w.length (i7a w)]) dmx (by decide) 8 (by decide) (by (simp only [List.append_assoc,List.cons_append,List.nil_append,a7a,a6a,a5a,a4a])) ?_|refine Go.rgD (id:=18) [11,15,19,23] (fun H=>b6a H S.length=some [.str fn,.int .i64 k,.str op1,.str nm1,.int .i64 n1,.sl none 4 ks1.length (d3a ks1),.str op2,.str nm2,.int .i64 n2,.sl none 4 ks2.length (d3a ks2),.sl none 9 w.length (i7a w)]) dmx (by decide) 27 (by decide) (by (simp only [List.append_assoc,List.cons_append,List.nil_append,a7a,a6a,a5a,a4a])) ?_|refine GoW.nil rfl ?_|((first|refine GoR.o (by rfl) (by rfl) ?_|refine GoW.o (by rfl) (by rfl) ?_|refine GoW.rd (by rfl) (by rfl) ?_);(conv=>arg 1;simp only [G,Z,Y,Gx,vV,simprocAttr,fb2,fb3,fb9,h4a,g4a,k4a,k5a,k6a,e1,e2,e3,ff,ft,decide_true,decide_false,a1,a3]);first|show GoR ..|(show _∧GoW ..;refine ⟨by (first|exact fun h=>absurd h (by decide)|(intro _;(simp only [List.append_assoc,List.cons_append,List.nil_append,a7a,a6a,a5a,a4a]))),?_⟩)|(show _∧_∧_∧GoW ..;refine ⟨rfl,by (simp only [List.append_assoc,List.cons_append,List.nil_append,a7a,a6a,a5a,a4a]),(fun H hI=>by (try dsimp only at hI);simp only [G,Z,Y,Gx,vV,simprocAttr,fb2,fb3,fb9,h4a,g4a,k4a,k5a,k6a,e1,e2,e3,ff,ft,decide_true,decide_false,a1,a3,hI]),?_⟩))|refine Go.b0a rfl (fun hc => ?_) (fun hc => ?_))
   refine Go.keep [(1,.ptr S.length 0),(3,.str hd),(4,.int .i64 (((0:Nat):Int):Int))] (.cons .refl (.cons .refl (.cons .refl (.nil)))) ?_
   exact hl trivial
  ·have fc:(fn=(⟨#[99,111,117,110,116]⟩:ByteArray))=False:=eq_false (by rw [hf];decide)
   have ff:(fn=(⟨#[102,105,114,115,116]⟩:ByteArray))=True:=eq_true hf
   have ft:(fn=(⟨#[116,111,112]⟩:ByteArray))=False:=eq_false (by rw [hf];decide)
   have e1:(fn=(⟨#[109,105,110]⟩:ByteArray))=False:=eq_false (by rw [hf];decide)
   have e2:(fn=(⟨#[109,97,120]⟩:ByteArray))=False:=eq_false (by rw [hf];decide)
   have e3:(fn=(⟨#[115,117,109]⟩:ByteArray))=False:=eq_false (by rw [hf];decide)
   simp only [fc,ff,ft,if_true,if_false] at hh
   have ne : ¬ fn=(⟨#[99,111,117,110,116]⟩:ByteArray):=by rw [hf];decide
   have te:=te1 ne
   have sz:=se1 ne
   have te':=te2 hf
   have sz':=se2 hf
   have a2:=fun {t x y} => e4a (P:=Tryz.prog) (t:=t) (x:=x) (y:=y) (a:=f1) (b:=x1) (by omega)
   have a4:=fun {t x y} => e4a (P:=Tryz.prog) (t:=t) (x:=x) (y:=y) (a:=f1++x1) (b:=(⟨#[44,32]⟩:ByteArray)) (by rw [d2a,c3];omega)
   have a5:=fun {t x y} => e4a (P:=Tryz.prog) (t:=t) (x:=x) (y:=y) (a:=(f1++x1)++(⟨#[44,32]⟩:ByteArray)) (b:=x2) (by rw [d2a,d2a,c3];omega)
   have a3:=fun {t x y} => e4a (P:=Tryz.prog) (t:=t) (x:=x) (y:=y) (a:=((f1++x1)++(⟨#[44,32]⟩:ByteArray))++x2) (b:=(⟨#[41]⟩:ByteArray)) (by rw [d2a,d2a,d2a,c2,c3];omega)
   rw [← s8a,← s8a] at hh
   rw [← hh] at a3
   repeat' (first|refine Go.a rfl ?_|refine Go.rg ?_|refine GoR.nil ?_|refine Go.ret ?_|refine Go.b rfl ?_|refine Go.rgS dmx (by decide) ?_|refine Go.rgD (id:=8) [7] (fun H=>b6a H S.length=some [.str fn,.int .i64 k,.str op1,.str nm1,.int .i64 n1,.sl none 4 ks1.length (d3a ks1),.str op2,.str nm2,.int .i64 n2,.sl none 4 ks2.length (d3a ks2),.sl none 9 w.length (i7a w)]) dmx (by decide) 8 (by decide) (by (simp only [List.append_assoc,List.cons_append,List.nil_append,a7a,a6a,a5a,a4a])) ?_|refine Go.rgD (id:=10) [7] (fun H=>b6a H S.length=some [.str fn,.int .i64 k,.str op1,.str nm1,.int .i64 n1,.sl none 4 ks1.length (d3a ks1),.str op2,.str nm2,.int .i64 n2,.sl none 4 ks2.length (d3a ks2),.sl none 9 w.length (i7a w)]) dmx (by decide) 8 (by decide) (by (simp only [List.append_assoc,List.cons_append,List.nil_append,a7a,a6a,a5a,a4a])) ?_|refine Go.rgD (id:=18) [11,15,19,23] (fun H=>b6a H S.length=some [.str fn,.int .i64 k,.str op1,.str nm1,.int .i64 n1,.sl none 4 ks1.length (d3a ks1),.str op2,.str nm2,.int .i64 n2,.sl none 4 ks2.length (d3a ks2),.sl none 9 w.length (i7a w)]) dmx (by decide) 27 (by decide) (by (simp only [List.append_assoc,List.cons_append,List.nil_append,a7a,a6a,a5a,a4a])) ?_|refine GoW.nil rfl ?_|((first|refine GoR.o (by rfl) (by rfl) ?_|refine GoW.o (by rfl) (by rfl) ?_|refine GoW.rd (by rfl) (by rfl) ?_);(conv=>arg 1;simp only [G,Z,Y,Gx,vV,simprocAttr,fb2,fb3,fb9,h4a,g4a,k4a,k5a,k6a,e1,e2,e3,ff,ft,decide_true,decide_false,a1,a2,a3,a4,a5]);first|show GoR ..|(show _∧GoW ..;refine ⟨by (first|exact fun h=>absurd h (by decide)|(intro _;(simp only [List.append_assoc,List.cons_append,List.nil_append,a7a,a6a,a5a,a4a]))),?_⟩)|(show _∧_∧_∧GoW ..;refine ⟨rfl,by (simp only [List.append_assoc,List.cons_append,List.nil_append,a7a,a6a,a5a,a4a]),(fun H hI=>by (try dsimp only at hI);simp only [G,Z,Y,Gx,vV,simprocAttr,fb2,fb3,fb9,h4a,g4a,k4a,k5a,k6a,e1,e2,e3,ff,ft,decide_true,decide_false,a1,a2,a3,a4,a5,hI]),?_⟩))|(refine GoW.c c48 (by rfl) (by rfl) rfl ?_;(first | refine a3a.b2a (te _) ?_ | refine a3a.b2a (te' _) ?_);refine ⟨by (first|exact fun h=>absurd h (by decide)|(intro _;(simp only [List.append_assoc,List.cons_append,List.nil_append,a7a,a6a,a5a,a4a]))),?_⟩)|(refine GoR.c c48 (by rfl) (by rfl) rfl ?_;(first | refine a3a.b2a (te _) ?_ | refine a3a.b2a (te' _) ?_))|refine Go.b0a rfl (fun hc => ?_) (fun hc => ?_))
   refine Go.keep [(1,.ptr S.length 0),(3,.str hd),(4,.int .i64 (((0:Nat):Int):Int))] (.cons .refl (.cons .refl (.cons .refl (.nil)))) ?_
   exact hl trivial
  ·have fc:(fn=(⟨#[99,111,117,110,116]⟩:ByteArray))=False:=eq_false (by rw [hf];decide)
   have ff:(fn=(⟨#[102,105,114,115,116]⟩:ByteArray))=False:=eq_false (by rw [hf];decide)
   have ft:(fn=(⟨#[116,111,112]⟩:ByteArray))=True:=eq_true hf
   have e1:(fn=(⟨#[109,105,110]⟩:ByteArray))=False:=eq_false (by rw [hf];decide)
   have e2:(fn=(⟨#[109,97,120]⟩:ByteArray))=False:=eq_false (by rw [hf];decide)
   have e3:(fn=(⟨#[115,117,109]⟩:ByteArray))=False:=eq_false (by rw [hf];decide)
   simp only [fc,ff,ft,if_true,if_false] at hh
   have ne : ¬ fn=(⟨#[99,111,117,110,116]⟩:ByteArray):=by rw [hf];decide
   have te:=te1 ne
   have sz:=se1 ne
   have hk:=g2 hf
   have sz':=d0b (n:=k) ⟨by omega,by omega⟩
   have te':=fun S=>y1c (orc:=O) k.toNat (by omega) S
   rw [show ((k.toNat:Nat):Int)=k by omega] at te'
   generalize o9a k=x3 at *
   have a2:=fun {t x y} => e4a (P:=Tryz.prog) (t:=t) (x:=x) (y:=y) (a:=f1) (b:=x3) (by omega)
   have a4:=fun {t x y} => e4a (P:=Tryz.prog) (t:=t) (x:=x) (y:=y) (a:=f1++x3) (b:=(⟨#[44,32]⟩:ByteArray)) (by rw [d2a,c3];omega)
   have a5:=fun {t x y} => e4a (P:=Tryz.prog) (t:=t) (x:=x) (y:=y) (a:=(f1++x3)++(⟨#[44,32]⟩:ByteArray)) (b:=x1) (by rw [d2a,d2a,c3];omega)
   have a3:=fun {t x y} => e4a (P:=Tryz.prog) (t:=t) (x:=x) (y:=y) (a:=((f1++x3)++(⟨#[44,32]⟩:ByteArray))++x1) (b:=(⟨#[41]⟩:ByteArray)) (by rw [d2a,d2a,d2a,c2,c3];omega)
   rw [← s8a,← s8a] at hh
   rw [← hh] at a3
   repeat' (first|refine Go.a rfl ?_|refine Go.rg ?_|refine GoR.nil ?_|refine Go.ret ?_|refine Go.b rfl ?_|refine Go.rgS dmx (by decide) ?_|refine Go.rgD (id:=8) [7] (fun H=>b6a H S.length=some [.str fn,.int .i64 k,.str op1,.str nm1,.int .i64 n1,.sl none 4 ks1.length (d3a ks1),.str op2,.str nm2,.int .i64 n2,.sl none 4 ks2.length (d3a ks2),.sl none 9 w.length (i7a w)]) dmx (by decide) 8 (by decide) (by (simp only [List.append_assoc,List.cons_append,List.nil_append,a7a,a6a,a5a,a4a])) ?_|refine Go.rgD (id:=10) [7] (fun H=>b6a H S.length=some [.str fn,.int .i64 k,.str op1,.str nm1,.int .i64 n1,.sl none 4 ks1.length (d3a ks1),.str op2,.str nm2,.int .i64 n2,.sl none 4 ks2.length (d3a ks2),.sl none 9 w.length (i7a w)]) dmx (by decide) 8 (by decide) (by (simp only [List.append_assoc,List.cons_append,List.nil_append,a7a,a6a,a5a,a4a])) ?_|refine Go.rgD (id:=18) [11,15,19,23] (fun H=>b6a H S.length=some [.str fn,.int .i64 k,.str op1,.str nm1,.int .i64 n1,.sl none 4 ks1.length (d3a ks1),.str op2,.str nm2,.int .i64 n2,.sl none 4 ks2.length (d3a ks2),.sl none 9 w.length (i7a w)]) dmx (by decide) 27 (by decide) (by (simp only [List.append_assoc,List.cons_append,List.nil_append,a7a,a6a,a5a,a4a])) ?_|refine GoW.nil rfl ?_|((first|refine GoR.o (by rfl) (by rfl) ?_|refine GoW.o (by rfl) (by rfl) ?_|refine GoW.rd (by rfl) (by rfl) ?_);(conv=>arg 1;simp only [G,Z,Y,Gx,vV,simprocAttr,fb2,fb3,fb9,h4a,g4a,k4a,k5a,k6a,e1,e2,e3,ff,ft,decide_true,decide_false,a1,a2,a3,a4,a5]);first|show GoR ..|(show _∧GoW ..;refine ⟨by (first|exact fun h=>absurd h (by decide)|(intro _;(simp only [List.append_assoc,List.cons_append,List.nil_append,a7a,a6a,a5a,a4a]))),?_⟩)|(show _∧_∧_∧GoW ..;refine ⟨rfl,by (simp only [List.append_assoc,List.cons_append,List.nil_append,a7a,a6a,a5a,a4a]),(fun H hI=>by (try dsimp only at hI);simp only [G,Z,Y,Gx,vV,simprocAttr,fb2,fb3,fb9,h4a,g4a,k4a,k5a,k6a,e1,e2,e3,ff,ft,decide_true,decide_false,a1,a2,a3,a4,a5,hI]),?_⟩))|(refine GoW.c c48 (by rfl) (by rfl) rfl ?_;(refine a3a.b2a (te _) ?_);refine ⟨by (first|exact fun h=>absurd h (by decide)|(intro _;(simp only [List.append_assoc,List.cons_append,List.nil_append,a7a,a6a,a5a,a4a]))),?_⟩)|(refine GoR.c c48 (by rfl) (by rfl) rfl ?_;(refine a3a.b2a (te _) ?_))|(refine GoW.c c49 (by rfl) (by rfl) rfl ?_;(refine a3a.b2a (te' _) ?_);refine ⟨by (first|exact fun h=>absurd h (by decide)|(intro _;(simp only [List.append_assoc,List.cons_append,List.nil_append,a7a,a6a,a5a,a4a]))),?_⟩)|(refine GoR.c c49 (by rfl) (by rfl) rfl ?_;(refine a3a.b2a (te' _) ?_))|refine Go.b0a rfl (fun hc => ?_) (fun hc => ?_))
   refine Go.keep [(1,.ptr S.length 0),(3,.str hd),(4,.int .i64 (((0:Nat):Int):Int))] (.cons .refl (.cons .refl (.cons .refl (.nil)))) ?_
   exact hl trivial
  ·have fc:(fn=(⟨#[99,111,117,110,116]⟩:ByteArray))=False:=eq_false f1'
   have ff:(fn=(⟨#[102,105,114,115,116]⟩:ByteArray))=False:=eq_false f3
   have ft:(fn=(⟨#[116,111,112]⟩:ByteArray))=False:=eq_false f2
   simp only [fc,ff,ft,if_true,if_false] at hh
   have hmm:(fn=(⟨#[109,105,110]⟩:ByteArray)∨fn=(⟨#[109,97,120]⟩:ByteArray)∨fn=(⟨#[115,117,109]⟩:ByteArray)):=by
    rcases w1b g1 with h | h | h | h | h | h<;>first | exact absurd h f1' | exact absurd h f2 | exact absurd h f3 | exact .inl h | exact .inr (.inl h) | exact .inr (.inr h)
   have te:=te1 f1'
   have sz:=se1 f1'
   have a2:=fun {t x y} => e4a (P:=Tryz.prog) (t:=t) (x:=x) (y:=y) (a:=f1) (b:=x1) (by omega)
   have a3:=fun {t x y} => e4a (P:=Tryz.prog) (t:=t) (x:=x) (y:=y) (a:=f1++x1) (b:=(⟨#[41]⟩:ByteArray)) (by rw [d2a,c2];omega)
   rw [← hh] at a3
   have hq : ∃ p1 p2 p3:Bool,decide (fn=(⟨#[109,105,110]⟩:ByteArray))=p1∧decide (fn=(⟨#[109,97,120]⟩:ByteArray))=p2∧decide (fn=(⟨#[115,117,109]⟩:ByteArray))=p3∧(p1=true∨(p1=false∧p2=true)∨(p1=false∧p2=false∧p3=true)):=by
    refine ⟨_,_,_,rfl,rfl,rfl,?_⟩
    rcases hmm with h | h | h<;>rw [h]<;>decide
   clear hmm
   obtain ⟨p1,p2,p3,e1,e2,e3,hp⟩:=hq
   rcases hp with rfl | ⟨rfl,rfl⟩ | ⟨rfl,rfl,rfl⟩
   all_goals
    repeat' (first|refine Go.a rfl ?_|refine Go.rg ?_|refine GoR.nil ?_|refine Go.ret ?_|refine Go.b rfl ?_|refine Go.rgS dmx (by decide) ?_|refine Go.rgD (id:=8) [7] (fun H=>b6a H S.length=some [.str fn,.int .i64 k,.str op1,.str nm1,.int .i64 n1,.sl none 4 ks1.length (d3a ks1),.str op2,.str nm2,.int .i64 n2,.sl none 4 ks2.length (d3a ks2),.sl none 9 w.length (i7a w)]) dmx (by decide) 8 (by decide) (by (simp only [List.append_assoc,List.cons_append,List.nil_append,a7a,a6a,a5a,a4a])) ?_|refine Go.rgD (id:=10) [7] (fun H=>b6a H S.length=some [.str fn,.int .i64 k,.str op1,.str nm1,.int .i64 n1,.sl none 4 ks1.length (d3a ks1),.str op2,.str nm2,.int .i64 n2,.sl none 4 ks2.length (d3a ks2),.sl none 9 w.length (i7a w)]) dmx (by decide) 8 (by decide) (by (simp only [List.append_assoc,List.cons_append,List.nil_append,a7a,a6a,a5a,a4a])) ?_|refine Go.rgD (id:=18) [11,15,19,23] (fun H=>b6a H S.length=some [.str fn,.int .i64 k,.str op1,.str nm1,.int .i64 n1,.sl none 4 ks1.length (d3a ks1),.str op2,.str nm2,.int .i64 n2,.sl none 4 ks2.length (d3a ks2),.sl none 9 w.length (i7a w)]) dmx (by decide) 27 (by decide) (by (simp only [List.append_assoc,List.cons_append,List.nil_append,a7a,a6a,a5a,a4a])) ?_|refine GoW.nil rfl ?_|((first|refine GoR.o (by rfl) (by rfl) ?_|refine GoW.o (by rfl) (by rfl) ?_|refine GoW.rd (by rfl) (by rfl) ?_);(conv=>arg 1;simp only [G,Z,Y,Gx,vV,simprocAttr,fb2,fb3,fb9,h4a,g4a,k4a,k5a,k6a,e1,e2,e3,a1,a2,a3]);first|show GoR ..|(show _∧GoW ..;refine ⟨by (first|exact fun h=>absurd h (by decide)|(intro _;(simp only [List.append_assoc,List.cons_append,List.nil_append,a7a,a6a,a5a,a4a]))),?_⟩)|(show _∧_∧_∧GoW ..;refine ⟨rfl,by (simp only [List.append_assoc,List.cons_append,List.nil_append,a7a,a6a,a5a,a4a]),(fun H hI=>by (try dsimp only at hI);simp only [G,Z,Y,Gx,vV,simprocAttr,fb2,fb3,fb9,h4a,g4a,k4a,k5a,k6a,e1,e2,e3,a1,a2,a3,hI]),?_⟩))|(refine GoW.c c48 (by rfl) (by rfl) rfl ?_;(refine a3a.b2a (te _) ?_);refine ⟨by (first|exact fun h=>absurd h (by decide)|(intro _;(simp only [List.append_assoc,List.cons_append,List.nil_append,a7a,a6a,a5a,a4a]))),?_⟩)|(refine GoR.c c48 (by rfl) (by rfl) rfl ?_;(refine a3a.b2a (te _) ?_))|refine Go.b0a rfl (fun hc => ?_) (fun hc => ?_))
    refine Go.keep [(1,.ptr S.length 0),(3,.str hd),(4,.int .i64 (((0:Nat):Int):Int))] (.cons .refl (.cons .refl (.cons .refl (.nil)))) ?_
    exact hl trivial
 ·intro _
  refine Go.while (α:=Nat×ByteArray) (fun x=>w.length - x.1) (fun x=>[(1,.ptr S.length 0),(3,.str x.2),(4,.int .i64 ((x.1:Int):Int))]) (fun _=>S++[.obj [.str fn,.int .i64 k,.str op1,.str nm1,.int .i64 n1,.sl none 4 ks1.length (d3a ks1),.str op2,.str nm2,.int .i64 n2,.sl none 4 ks2.length (d3a ks2),.sl none 9 w.length (i7a w)]]) (fun x=>x.1≤w.length∧x.2=hd++m9a true (w.take x.1)) ?_ (0,hd) ⟨Nat.zero_le _,(b2c _).symm⟩
  rintro ⟨i,so⟩ ⟨hi,hso⟩ next
  dsimp only at hi hso next
  by_cases hil:i<w.length
  ·obtain ⟨t1,t2,t3,t4,t5,t6⟩:=c5d hil
   obtain ⟨ho,hx1,hx2⟩:=g6 _ (List.getElem_mem hil)
   have hte:=t4b hil
   have q1:=z3a (orc:=O) w[i].a hx1.1 (by have:=hx1.2;omega)
   have q2:=z3a (orc:=O) w[i].b hx2.1 (by have:=hx2.2;omega)
   have hsz:=hcs i
   have hti:(w.take i).length≤4:=by rw [List.length_take];omega
   have o1:=u9c ho
   have o2:=m1a hx1
   have o3:=m1a hx2
   have hn:=fun s' h=>next (i+1,s') (by dsimp only;omega) ⟨hil,h⟩
   clear next hx1 hx2 ho g6 hcs
   unfold b0a at hte
   dsimp only at hn
   rw [hte] at hn
   generalize m9a true (w.take i)=sofar at *
   generalize w[i]=cd at *
   obtain ⟨cop,⟨op3,nm3,n3,ks3⟩,⟨op4,nm4,n4,ks4⟩⟩:=cd
   simp only [Nd.k0a] at q1 q2 t2 t4 t6 hn o1 o2 o3
   generalize textS (.mk op3 nm3 n3 ks3)=y1 at *
   generalize textS (.mk op4 nm4 n4 ks4)=y2 at *
   have hzz:so.size≤9653:=by rw [hso,d2a];omega
   by_cases hz:i=0
   ·rw [decide_eq_true hz] at hn
    have hz2:((i:Int)==0)=true:=by rw [hz];rfl
    have b0:=fun {t x y} => e4a (P:=Tryz.prog) (t:=t) (x:=x) (y:=y) (a:=so) (b:=(⟨#[32,119,104,101,114,101,32]⟩:ByteArray)) (by show _+7<_;omega)
    obtain ⟨b1,b2,b3,b4,b5⟩:=i0c (P:=Tryz.prog) (x:=so++(⟨#[32,119,104,101,114,101,32]⟩:ByteArray)) (by rw [d2a];show _+7≤_;omega) o2 o1 o3
    repeat' (first|refine Go.a rfl ?_|refine Go.rg ?_|refine GoR.nil ?_|refine Go.ret ?_|refine Go.b rfl ?_|refine Go.rgS dmx (by decide) ?_|refine Go.rgD (id:=8) [7] (fun H=>b6a H S.length=some [.str fn,.int .i64 k,.str op1,.str nm1,.int .i64 n1,.sl none 4 ks1.length (d3a ks1),.str op2,.str nm2,.int .i64 n2,.sl none 4 ks2.length (d3a ks2),.sl none 9 w.length (i7a w)]) dmx (by decide) 8 (by decide) (by (simp only [List.append_assoc,List.cons_append,List.nil_append,a7a,a6a,a5a,a4a])) ?_|refine Go.rgD (id:=10) [7] (fun H=>b6a H S.length=some [.str fn,.int .i64 k,.str op1,.str nm1,.int .i64 n1,.sl none 4 ks1.length (d3a ks1),.str op2,.str nm2,.int .i64 n2,.sl none 4 ks2.length (d3a ks2),.sl none 9 w.length (i7a w)]) dmx (by decide) 8 (by decide) (by (simp only [List.append_assoc,List.cons_append,List.nil_append,a7a,a6a,a5a,a4a])) ?_|refine Go.rgD (id:=18) [11,15,19,23] (fun H=>b6a H S.length=some [.str fn,.int .i64 k,.str op1,.str nm1,.int .i64 n1,.sl none 4 ks1.length (d3a ks1),.str op2,.str nm2,.int .i64 n2,.sl none 4 ks2.length (d3a ks2),.sl none 9 w.length (i7a w)]) dmx (by decide) 27 (by decide) (by (simp only [List.append_assoc,List.cons_append,List.nil_append,a7a,a6a,a5a,a4a])) ?_|refine GoW.nil rfl ?_|((first|refine GoR.o (by rfl) (by rfl) ?_|refine GoW.o (by rfl) (by rfl) ?_|refine GoW.rd (by rfl) (by rfl) ?_);(conv=>arg 1;simp only [G,Z,Y,Gx,vV,simprocAttr,fb2,fb3,fb9,h4a,g4a,k4a,k5a,k6a,t1,t2,t3,t4,t5,t6,b0,b1,b2,b3,b4,b5,hz2,b9a (show i<4611686018427387904 by omega),show decide (((i:Nat):Int)<(w.length:Int))=true by simp;omega]);first|show GoR ..|(show _∧GoW ..;refine ⟨by (first|exact fun h=>absurd h (by decide)|(intro _;(simp only [List.append_assoc,List.cons_append,List.nil_append,a7a,a6a,a5a,a4a]))),?_⟩)|(show _∧_∧_∧GoW ..;refine ⟨rfl,by (simp only [List.append_assoc,List.cons_append,List.nil_append,a7a,a6a,a5a,a4a]),(fun H hI=>by (try dsimp only at hI);simp only [G,Z,Y,Gx,vV,simprocAttr,fb2,fb3,fb9,h4a,g4a,k4a,k5a,k6a,t1,t2,t3,t4,t5,t6,b0,b1,b2,b3,b4,b5,hz2,b9a (show i<4611686018427387904 by omega),show decide (((i:Nat):Int)<(w.length:Int))=true by simp;omega,hI]),?_⟩))|(refine GoW.c c48 (by rfl) (by rfl) rfl ?_;(first | refine a3a.b2a (q1 _) ?_ | refine a3a.b2a (q2 _) ?_);refine ⟨by (first|exact fun h=>absurd h (by decide)|(intro _;(simp only [List.append_assoc,List.cons_append,List.nil_append,a7a,a6a,a5a,a4a]))),?_⟩)|(refine GoR.c c48 (by rfl) (by rfl) rfl ?_;(first | refine a3a.b2a (q1 _) ?_ | refine a3a.b2a (q2 _) ?_))|refine Go.b0a rfl (fun hc => ?_) (fun hc => ?_))
    refine Go.lpN ?_
    refine Go.keep [(1,.ptr S.length 0),(3,.str ((((((so++(⟨#[32,119,104,101,114,101,32]⟩:ByteArray))++y1)++(⟨#[32]⟩:ByteArray))++cop)++(⟨#[32]⟩:ByteArray))++y2)),(4,.int .i64 (((i+1:Nat):Int):Int))] (.cons .refl (.cons .refl (.cons .refl (.nil)))) ?_
    exact hn _ (by rw [hso];simp only [s8a];rfl)
   ·rw [decide_eq_false hz] at hn
    have hz2:((i:Int)==0)=false:=by rw [beq_eq_false_iff_ne];omega
    have b0:=fun {t x y} => e4a (P:=Tryz.prog) (t:=t) (x:=x) (y:=y) (a:=so) (b:=(⟨#[32,97,110,100,32]⟩:ByteArray)) (by show _+5<_;omega)
    obtain ⟨b1,b2,b3,b4,b5⟩:=i0c (P:=Tryz.prog) (x:=so++(⟨#[32,97,110,100,32]⟩:ByteArray)) (by rw [d2a];show _+5≤_;omega) o2 o1 o3
    repeat' (first|refine Go.a rfl ?_|refine Go.rg ?_|refine GoR.nil ?_|refine Go.ret ?_|refine Go.b rfl ?_|refine Go.rgS dmx (by decide) ?_|refine Go.rgD (id:=8) [7] (fun H=>b6a H S.length=some [.str fn,.int .i64 k,.str op1,.str nm1,.int .i64 n1,.sl none 4 ks1.length (d3a ks1),.str op2,.str nm2,.int .i64 n2,.sl none 4 ks2.length (d3a ks2),.sl none 9 w.length (i7a w)]) dmx (by decide) 8 (by decide) (by (simp only [List.append_assoc,List.cons_append,List.nil_append,a7a,a6a,a5a,a4a])) ?_|refine Go.rgD (id:=10) [7] (fun H=>b6a H S.length=some [.str fn,.int .i64 k,.str op1,.str nm1,.int .i64 n1,.sl none 4 ks1.length (d3a ks1),.str op2,.str nm2,.int .i64 n2,.sl none 4 ks2.length (d3a ks2),.sl none 9 w.length (i7a w)]) dmx (by decide) 8 (by decide) (by (simp only [List.append_assoc,List.cons_append,List.nil_append,a7a,a6a,a5a,a4a])) ?_|refine Go.rgD (id:=18) [11,15,19,23] (fun H=>b6a H S.length=some [.str fn,.int .i64 k,.str op1,.str nm1,.int .i64 n1,.sl none 4 ks1.length (d3a ks1),.str op2,.str nm2,.int .i64 n2,.sl none 4 ks2.length (d3a ks2),.sl none 9 w.length (i7a w)]) dmx (by decide) 27 (by decide) (by (simp only [List.append_assoc,List.cons_append,List.nil_append,a7a,a6a,a5a,a4a])) ?_|refine GoW.nil rfl ?_|((first|refine GoR.o (by rfl) (by rfl) ?_|refine GoW.o (by rfl) (by rfl) ?_|refine GoW.rd (by rfl) (by rfl) ?_);(conv=>arg 1;simp only [G,Z,Y,Gx,vV,simprocAttr,fb2,fb3,fb9,h4a,g4a,k4a,k5a,k6a,t1,t2,t3,t4,t5,t6,b0,b1,b2,b3,b4,b5,hz2,b9a (show i<4611686018427387904 by omega),show decide (((i:Nat):Int)<(w.length:Int))=true by simp;omega]);first|show GoR ..|(show _∧GoW ..;refine ⟨by (first|exact fun h=>absurd h (by decide)|(intro _;(simp only [List.append_assoc,List.cons_append,List.nil_append,a7a,a6a,a5a,a4a]))),?_⟩)|(show _∧_∧_∧GoW ..;refine ⟨rfl,by (simp only [List.append_assoc,List.cons_append,List.nil_append,a7a,a6a,a5a,a4a]),(fun H hI=>by (try dsimp only at hI);simp only [G,Z,Y,Gx,vV,simprocAttr,fb2,fb3,fb9,h4a,g4a,k4a,k5a,k6a,t1,t2,t3,t4,t5,t6,b0,b1,b2,b3,b4,b5,hz2,b9a (show i<4611686018427387904 by omega),show decide (((i:Nat):Int)<(w.length:Int))=true by simp;omega,hI]),?_⟩))|(refine GoW.c c48 (by rfl) (by rfl) rfl ?_;(first | refine a3a.b2a (q1 _) ?_ | refine a3a.b2a (q2 _) ?_);refine ⟨by (first|exact fun h=>absurd h (by decide)|(intro _;(simp only [List.append_assoc,List.cons_append,List.nil_append,a7a,a6a,a5a,a4a]))),?_⟩)|(refine GoR.c c48 (by rfl) (by rfl) rfl ?_;(first | refine a3a.b2a (q1 _) ?_ | refine a3a.b2a (q2 _) ?_))|refine Go.b0a rfl (fun hc => ?_) (fun hc => ?_))
    refine Go.lpN ?_
    refine Go.keep [(1,.ptr S.length 0),(3,.str ((((((so++(⟨#[32,97,110,100,32]⟩:ByteArray))++y1)++(⟨#[32]⟩:ByteArray))++cop)++(⟨#[32]⟩:ByteArray))++y2)),(4,.int .i64 (((i+1:Nat):Int):Int))] (.cons .refl (.cons .refl (.cons .refl (.nil)))) ?_
    exact hn _ (by rw [hso];simp only [s8a];rfl)
  ·clear next
   rw [List.take_of_length_le (by omega)] at hso
   subst hso
   repeat' (first|refine Go.a rfl ?_|refine Go.rg ?_|refine GoR.nil ?_|refine Go.ret ?_|refine Go.b rfl ?_|refine Go.rgS dmx (by decide) ?_|refine Go.rgD (id:=8) [7] (fun _=>True) dmx (by decide) 8 (by decide) (by trivial) ?_|refine Go.rgD (id:=10) [7] (fun _=>True) dmx (by decide) 8 (by decide) (by trivial) ?_|refine Go.rgD (id:=18) [11,15,19,23] (fun _=>True) dmx (by decide) 27 (by decide) (by trivial) ?_|refine GoW.nil rfl ?_|((first|refine GoR.o (by rfl) (by rfl) ?_|refine GoW.o (by rfl) (by rfl) ?_|refine GoW.rd (by rfl) (by rfl) ?_);(conv=>arg 1;simp only [G,Z,Y,Gx,vV,simprocAttr,fb2,fb3,fb9,h4a,g4a,k4a,k5a,k6a,show decide ((i:Int)<(w.length:Int))=false by simp;omega]);first|show GoR ..|(show _∧GoW ..;refine ⟨by exact fun _=>trivial,?_⟩)|(show _∧_∧_∧GoW ..;refine ⟨rfl,by trivial,(fun H _=>by simp only [G,Z,Y,Gx,vV,simprocAttr,fb2,fb3,fb9,h4a,g4a,k4a,k5a,k6a,show decide ((i:Int)<(w.length:Int))=false by simp;omega]),?_⟩))|refine Go.b0a rfl (fun hc => ?_) (fun hc => ?_))
   refine ⟨(by first | exact .inl rfl | exact .inr rfl),fin ?_⟩
   rw [a8a (fn:=Tryz.f16) rfl]
   simp only [a0a,a2a,a1a,G,Z,Y,Gx,vV,simprocAttr,fb2,fb3,fb9,h4a,g4a,k4a,k5a,k6a]
   exact ⟨_,_,rfl,.of_low (.str _),rfl⟩
end Go.Proofs.DgT
namespace Go.Proofs.DgT
open Go Go.DM
set_option maxRecDepth 100000
set_option maxHeartbeats 3200000 in
theorem g1e (a:Ag) (hg:f2b a) (S:Mem):a3a Tryz.prog O 17 [.agg (Ag.c a)] S fun d S'=>S'=S∧d = .str (r5a a):=by
 have hhs:=head_size hg
 have hcs:=fun i=>c4b (b:=true) (l:=a.w.take i) (fun c hc=>hg.ws c (List.mem_of_mem_take hc))
 have hh:m1c a=((a.fn++(⟨#[40]⟩:ByteArray))++a0c a)++(⟨#[41]⟩:ByteArray):=rfl
 obtain ⟨g1,g2,g3,g4,g5,g6⟩:=hg
 have te1:=fun h=>q9b a.e (g3 h).1 (by have:=(g3 h).2;omega)
 have te2:=fun h=>q9b a.by_ (g4 h).1 (by have:=(g4 h).2;omega)
 have se1:=fun h=>m1a (g3 h)
 have se2:=fun h=>m1a (g4 h)
 have hfs:=t3c g1
 have hnd:=i0b (orc:=O) a.fn
 unfold r5a
 unfold a0c at hh
 generalize m1c a=hd at *
 generalize textS a.e=x1 at *
 generalize textS a.by_=x2 at *
 obtain ⟨fn,k,⟨op1,nm1,n1,ks1⟩,⟨op2,nm2,n2,ks2⟩,w⟩:=a
 dsimp only at *
 simp only [Ag.c,Nd.k0a,List.cons_append,List.nil_append] at te1 te2 ⊢
 have c1:((⟨#[40]⟩:ByteArray):ByteArray).size=1:=rfl
 have c2:((⟨#[41]⟩:ByteArray):ByteArray).size=1:=rfl
 have c3:((⟨#[44,32]⟩:ByteArray):ByteArray).size=2:=rfl
 have a1:=fun {t x y} => e4a (P:=Tryz.prog) (t:=t) (x:=x) (y:=y) (a:=fn) (b:=(⟨#[40]⟩:ByteArray)) (by rw [c1];omega)
 have hs1:(fn++(⟨#[40]⟩:ByteArray)).size≤6:=by rw [d2a,c1];omega
 generalize fn++(⟨#[40]⟩:ByteArray)=f1 at *
 refine a3a.e Tryz.func17 rfl Tryz.ntmps17 (by rfl) ?_
 apply x3d S
 ·intro hl
  rcases l9a g1 with hf | hf | hf | ⟨f1',f2,f3,hN⟩
  ·have fc:(fn=(⟨#[99,111,117,110,116]⟩:ByteArray))=True:=eq_true hf
   simp only [fc,if_true,b2c] at hh
   have hN:f6a fn=(false,false,false,true):=by rw [hf];rfl
   rw [hN] at hnd
   dsimp only at hnd
   have hj:=fun S=>join none [] (⟨#[44,32]⟩:ByteArray) (by decide) (by decide) S
   rw [g1f] at hj
   simp only [List.length_nil,List.map_nil] at hj
   have a2:=fun {t x y} => e4a (P:=Tryz.prog) (t:=t) (x:=x) (y:=y) (a:=f1) (b:=(⟨#[]⟩:ByteArray)) (by show _+0<_;omega)
   rw [b2c] at a2
   have a3:=fun {t x y} => e4a (P:=Tryz.prog) (t:=t) (x:=x) (y:=y) (a:=f1) (b:=(⟨#[41]⟩:ByteArray)) (by rw [c2];omega)
   rw [← hh] at a3
   repeat' (first|refine Go.a rfl ?_|refine Go.rg ?_|refine GoR.nil ?_|refine Go.ret ?_|refine Go.b rfl ?_|refine Go.rgS dmx (by decide) ?_|refine Go.rgD (id:=9) [1] (fun H=>b6a H S.length=some [.str fn,.int .i64 k,.str op1,.str nm1,.int .i64 n1,.sl none 4 ks1.length (d3a ks1),.str op2,.str nm2,.int .i64 n2,.sl none 4 ks2.length (d3a ks2),.sl none 9 w.length (i7a w)]) dmx (by decide) 8 (by decide) (by (simp only [List.append_assoc,List.cons_append,List.nil_append,a7a,a6a,a5a,a4a])) ?_|refine Go.rgD (id:=16) [10,14] (fun H=>b6a H S.length=some [.str fn,.int .i64 k,.str op1,.str nm1,.int .i64 n1,.sl none 4 ks1.length (d3a ks1),.str op2,.str nm2,.int .i64 n2,.sl none 4 ks2.length (d3a ks2),.sl none 9 w.length (i7a w)]) dmx (by decide) 19 (by decide) (by (simp only [List.append_assoc,List.cons_append,List.nil_append,a7a,a6a,a5a,a4a])) ?_|refine GoW.nil rfl ?_|((first|refine GoR.o (by rfl) (by rfl) ?_|refine GoW.o (by rfl) (by rfl) ?_|refine GoW.rd (by rfl) (by rfl) ?_);(conv=>arg 1;simp only [G,Z,Y,Gx,vV,simprocAttr,fb2,fb3,fb9,c2a,b7a,d7a,d9a,e2a,g2a,a1,a2,a3]);first|show GoR ..|(show _∧GoW ..;refine ⟨by (first|exact fun h=>absurd h (by decide)|(intro _;(simp only [List.append_assoc,List.cons_append,List.nil_append,a7a,a6a,a5a,a4a]))),?_⟩)|(show _∧_∧_∧GoW ..;refine ⟨rfl,by (simp only [List.append_assoc,List.cons_append,List.nil_append,a7a,a6a,a5a,a4a]),(fun H hI=>by (try dsimp only at hI);simp only [G,Z,Y,Gx,vV,simprocAttr,fb2,fb3,fb9,c2a,b7a,d7a,d9a,e2a,g2a,a1,a2,a3,hI]),?_⟩))|(refine GoW.c c44 (by rfl) (by rfl) rfl ?_;(refine a3a.b2a (hnd _) ?_);refine ⟨by (first|exact fun h=>absurd h (by decide)|(intro _;(simp only [List.append_assoc,List.cons_append,List.nil_append,a7a,a6a,a5a,a4a]))),?_⟩)|(refine GoR.c c44 (by rfl) (by rfl) rfl ?_;(refine a3a.b2a (hnd _) ?_))|(refine GoW.c c52 (by rfl) (by rfl) rfl ?_;(refine a3a.weak (args':=[.sl none 1 0 [],.str (⟨#[44,32]⟩:ByteArray)]) (.cons .e1d (.cons .refl .nil)) (a3a.b2a (hj _) ?_));refine ⟨by (first|exact fun h=>absurd h (by decide)|(intro _;(simp only [List.append_assoc,List.cons_append,List.nil_append,a7a,a6a,a5a,a4a]))),?_⟩)|(refine GoR.c c52 (by rfl) (by rfl) rfl ?_;(refine a3a.weak (args':=[.sl none 1 0 [],.str (⟨#[44,32]⟩:ByteArray)]) (.cons .e1d (.cons .refl .nil)) (a3a.b2a (hj _) ?_)))|refine Go.b0a rfl (fun hc => ?_) (fun hc => ?_))
   refine Go.keep [(8,.str hd),(49,.sl none 9 w.length (i7a w)),(50,.int .i64 (w.length:Int)),(51,.int .i64 (((0:Nat):Int):Int))] (.cons .refl (.cons .refl (.cons .refl (.cons .refl (.nil))))) ?_
   exact hl _
  ·have ne : ¬ fn=(⟨#[99,111,117,110,116]⟩:ByteArray):=by rw [hf];decide
   have fc:(fn=(⟨#[99,111,117,110,116]⟩:ByteArray))=False:=eq_false ne
   have ff:(fn=(⟨#[102,105,114,115,116]⟩:ByteArray))=True:=eq_true hf
   simp only [fc,ff,if_true,if_false] at hh
   have te:=te1 ne
   have sz:=se1 ne
   have te':=te2 hf
   have sz':=se2 hf
   have hN:f6a fn=(false,true,true,true):=by rw [hf];rfl
   rw [hN] at hnd
   dsimp only at hnd
   have hjs:((x1++(⟨#[44,32]⟩:ByteArray))++x2).size≤1922:=by rw [d2a,d2a,c3];omega
   have hj:=fun S=>join none [x1,x2] (⟨#[44,32]⟩:ByteArray) (by simp) (by rw [y1d];omega) S
   rw [y1d] at hj
   simp only [List.length_cons,List.length_nil,List.map_cons,List.map_nil,Nat.zero_add,Nat.reduceAdd] at hj
   generalize (x1++(⟨#[44,32]⟩:ByteArray))++x2=jn at *
   have a2:=fun {t x y} => e4a (P:=Tryz.prog) (t:=t) (x:=x) (y:=y) (a:=f1) (b:=jn) (by omega)
   have a3:=fun {t x y} => e4a (P:=Tryz.prog) (t:=t) (x:=x) (y:=y) (a:=f1++jn) (b:=(⟨#[41]⟩:ByteArray)) (by rw [d2a,c2];omega)
   rw [← hh] at a3
   have a0:z7b (S.length+1) .c5a 1 0 [] (S++[.obj [.str fn,.int .i64 k,.str op1,.str nm1,.int .i64 n1,.sl none 4 ks1.length (d3a ks1),.str op2,.str nm2,.int .i64 n2,.sl none 4 ks2.length (d3a ks2),.sl none 9 w.length (i7a w)]]):=.inl ⟨rfl,rfl,rfl⟩
   obtain ⟨o1,S1,hap,ha1,hg⟩:=(a0.app [.own]).append (P:=Tryz.prog) q2a (own:=none) (m:=1) (new:=[.str x1]) (by simp) (by decide) ⟨by omega,by omega,by simp,rfl⟩
   obtain ⟨X1,hX⟩:=hg.pre [.own] (S++[.obj [.str fn,.int .i64 k,.str op1,.str nm1,.int .i64 n1,.sl none 4 ks1.length (d3a ks1),.str op2,.str nm2,.int .i64 n2,.sl none 4 ks2.length (d3a ks2),.sl none 9 w.length (i7a w)]]) (by simp) rfl
   subst hX
   have hp1:=fun own=>n4a (o:=own).trans hap
   obtain ⟨o2,S2,t0e,ha2,hg2⟩:=(ha1.app [.own]).append (P:=Tryz.prog) q2a (own:=none) (m:=1) (new:=[.str x2]) (by simp) (by decide) ⟨by omega,by omega,by simp,rfl⟩
   obtain ⟨X2,hX2⟩:=hg2.pre (X1++[.own]) (S++[.obj [.str fn,.int .i64 k,.str op1,.str nm1,.int .i64 n1,.sl none 4 ks1.length (d3a ks1),.str op2,.str nm2,.int .i64 n2,.sl none 4 ks2.length (d3a ks2),.sl none 9 w.length (i7a w)]]) (by simp) (by first | rfl | simp)
   subst hX2
   have hp2:=fun own=>n4a (o:=own).trans t0e
   have hwf:Wf o2 (.sl none 1 2 ([.str x1]++[.str x2])):=by
    rcases ha2 with ⟨_,h,_⟩ | ⟨_,h,_⟩ | ⟨id,_,rfl,_⟩
    ·omega
    ·omega
    ·exact .disown
   simp only [List.append_assoc,List.cons_append,List.nil_append] at hp1 hp2 hwf
   repeat' (first|refine Go.a rfl ?_|refine Go.rg ?_|refine GoR.nil ?_|refine Go.ret ?_|refine Go.b rfl ?_|refine Go.rgS dmx (by decide) ?_|refine Go.rgD (id:=9) [1] (fun H=>b6a H S.length=some [.str fn,.int .i64 k,.str op1,.str nm1,.int .i64 n1,.sl none 4 ks1.length (d3a ks1),.str op2,.str nm2,.int .i64 n2,.sl none 4 ks2.length (d3a ks2),.sl none 9 w.length (i7a w)]) dmx (by decide) 8 (by decide) (by (simp only [List.append_assoc,List.cons_append,List.nil_append,a7a,a6a,a5a,a4a])) ?_|refine Go.rgD (id:=16) [10,14] (fun H=>b6a H S.length=some [.str fn,.int .i64 k,.str op1,.str nm1,.int .i64 n1,.sl none 4 ks1.length (d3a ks1),.str op2,.str nm2,.int .i64 n2,.sl none 4 ks2.length (d3a ks2),.sl none 9 w.length (i7a w)]) dmx (by decide) 19 (by decide) (by (simp only [List.append_assoc,List.cons_append,List.nil_append,a7a,a6a,a5a,a4a])) ?_|refine GoW.nil rfl ?_|((first|refine GoR.o (by rfl) (by rfl) ?_|refine GoW.o (by rfl) (by rfl) ?_|refine GoW.rd (by rfl) (by rfl) ?_);(conv=>arg 1;simp only [G,Z,Y,Gx,vV,simprocAttr,fb2,fb3,fb9,c2a,b7a,d7a,d9a,e2a,g2a,a1,a2,a3,hp1,hp2,builtin_append,List.append_assoc,List.cons_append,List.nil_append]);first|show GoR ..|(show _∧GoW ..;refine ⟨by (first|exact fun h=>absurd h (by decide)|(intro _;(simp only [List.append_assoc,List.cons_append,List.nil_append,a7a,a6a,a5a,a4a]))),?_⟩)|(show _∧_∧_∧GoW ..;refine ⟨rfl,by (simp only [List.append_assoc,List.cons_append,List.nil_append,a7a,a6a,a5a,a4a]),(fun H hI=>by (try dsimp only at hI);simp only [G,Z,Y,Gx,vV,simprocAttr,fb2,fb3,fb9,c2a,b7a,d7a,d9a,e2a,g2a,a1,a2,a3,hp1,hp2,builtin_append,List.append_assoc,List.cons_append,List.nil_append,hI]),?_⟩))|(refine GoW.c c44 (by rfl) (by rfl) rfl ?_;(refine a3a.b2a (hnd _) ?_);refine ⟨by (first|exact fun h=>absurd h (by decide)|(intro _;(simp only [List.append_assoc,List.cons_append,List.nil_append,a7a,a6a,a5a,a4a]))),?_⟩)|(refine GoR.c c44 (by rfl) (by rfl) rfl ?_;(refine a3a.b2a (hnd _) ?_))|(refine GoW.c c51 (by rfl) (by rfl) rfl ?_;(first | refine a3a.b2a (te _) ?_ | refine a3a.b2a (te' _) ?_);refine ⟨by (first|exact fun h=>absurd h (by decide)|(intro _;(simp only [List.append_assoc,List.cons_append,List.nil_append,a7a,a6a,a5a,a4a]))),?_⟩)|(refine GoR.c c51 (by rfl) (by rfl) rfl ?_;(first | refine a3a.b2a (te _) ?_ | refine a3a.b2a (te' _) ?_))|(refine GoW.c c52 (by rfl) (by rfl) rfl ?_;(refine a3a.weak (args':=[.sl none 1 2 [.str x1,.str x2],.str (⟨#[44,32]⟩:ByteArray)]) (.cons hwf (.cons .refl .nil)) (a3a.b2a (hj _) ?_));refine ⟨by (first|exact fun h=>absurd h (by decide)|(intro _;(simp only [List.append_assoc,List.cons_append,List.nil_append,a7a,a6a,a5a,a4a]))),?_⟩)|(refine GoR.c c52 (by rfl) (by rfl) rfl ?_;(refine a3a.weak (args':=[.sl none 1 2 [.str x1,.str x2],.str (⟨#[44,32]⟩:ByteArray)]) (.cons hwf (.cons .refl .nil)) (a3a.b2a (hj _) ?_)))|refine Go.b0a rfl (fun hc => ?_) (fun hc => ?_))
   refine Go.keep [(8,.str hd),(49,.sl none 9 w.length (i7a w)),(50,.int .i64 (w.length:Int)),(51,.int .i64 (((0:Nat):Int):Int))] (.cons .refl (.cons .refl (.cons .refl (.cons .refl (.nil))))) ?_
   exact hl _
  ·have ne : ¬ fn=(⟨#[99,111,117,110,116]⟩:ByteArray):=by rw [hf];decide
   have fc:(fn=(⟨#[99,111,117,110,116]⟩:ByteArray))=False:=eq_false ne
   have ff:(fn=(⟨#[102,105,114,115,116]⟩:ByteArray))=False:=eq_false (by rw [hf];decide)
   have ft:(fn=(⟨#[116,111,112]⟩:ByteArray))=True:=eq_true hf
   simp only [fc,ff,ft,if_true,if_false] at hh
   have te:=te1 ne
   have sz:=se1 ne
   have hk:=g2 hf
   have sz':=d0b (n:=k) ⟨by omega,by omega⟩
   have te':=u9b k (by omega) (by omega)
   generalize o9a k=x3 at *
   have hN:f6a fn=(true,true,false,true):=by rw [hf];rfl
   rw [hN] at hnd
   dsimp only at hnd
   have hjs:((x3++(⟨#[44,32]⟩:ByteArray))++x1).size≤1922:=by rw [d2a,d2a,c3];omega
   have hj:=fun S=>join none [x3,x1] (⟨#[44,32]⟩:ByteArray) (by simp) (by rw [y1d];omega) S
   rw [y1d] at hj
   simp only [List.length_cons,List.length_nil,List.map_cons,List.map_nil,Nat.zero_add,Nat.reduceAdd] at hj
   generalize (x3++(⟨#[44,32]⟩:ByteArray))++x1=jn at *
   have a2:=fun {t x y} => e4a (P:=Tryz.prog) (t:=t) (x:=x) (y:=y) (a:=f1) (b:=jn) (by omega)
   have a3:=fun {t x y} => e4a (P:=Tryz.prog) (t:=t) (x:=x) (y:=y) (a:=f1++jn) (b:=(⟨#[41]⟩:ByteArray)) (by rw [d2a,c2];omega)
   rw [← hh] at a3
   have a0:z7b (S.length+1) .c5a 1 0 [] (S++[.obj [.str fn,.int .i64 k,.str op1,.str nm1,.int .i64 n1,.sl none 4 ks1.length (d3a ks1),.str op2,.str nm2,.int .i64 n2,.sl none 4 ks2.length (d3a ks2),.sl none 9 w.length (i7a w)]]):=.inl ⟨rfl,rfl,rfl⟩
   obtain ⟨o1,S1,hap,ha1,hg⟩:=(a0.app [.own]).append (P:=Tryz.prog) q2a (own:=none) (m:=1) (new:=[.str x3]) (by simp) (by decide) ⟨by omega,by omega,by simp,rfl⟩
   obtain ⟨X1,hX⟩:=hg.pre [.own] (S++[.obj [.str fn,.int .i64 k,.str op1,.str nm1,.int .i64 n1,.sl none 4 ks1.length (d3a ks1),.str op2,.str nm2,.int .i64 n2,.sl none 4 ks2.length (d3a ks2),.sl none 9 w.length (i7a w)]]) (by simp) rfl
   subst hX
   have hp1:=fun own=>n4a (o:=own).trans hap
   obtain ⟨o2,S2,t0e,ha2,hg2⟩:=(ha1.app [.own]).append (P:=Tryz.prog) q2a (own:=none) (m:=1) (new:=[.str x1]) (by simp) (by decide) ⟨by omega,by omega,by simp,rfl⟩
   obtain ⟨X2,hX2⟩:=hg2.pre (X1++[.own]) (S++[.obj [.str fn,.int .i64 k,.str op1,.str nm1,.int .i64 n1,.sl none 4 ks1.length (d3a ks1),.str op2,.str nm2,.int .i64 n2,.sl none 4 ks2.length (d3a ks2),.sl none 9 w.length (i7a w)]]) (by simp) (by first | rfl | simp)
   subst hX2
   have hp2:=fun own=>n4a (o:=own).trans t0e
   have hwf:Wf o2 (.sl none 1 2 ([.str x3]++[.str x1])):=by
    rcases ha2 with ⟨_,h,_⟩ | ⟨_,h,_⟩ | ⟨id,_,rfl,_⟩
    ·omega
    ·omega
    ·exact .disown
   simp only [List.append_assoc,List.cons_append,List.nil_append] at hp1 hp2 hwf
   repeat' (first|refine Go.a rfl ?_|refine Go.rg ?_|refine GoR.nil ?_|refine Go.ret ?_|refine Go.b rfl ?_|refine Go.rgS dmx (by decide) ?_|refine Go.rgD (id:=9) [1] (fun H=>b6a H S.length=some [.str fn,.int .i64 k,.str op1,.str nm1,.int .i64 n1,.sl none 4 ks1.length (d3a ks1),.str op2,.str nm2,.int .i64 n2,.sl none 4 ks2.length (d3a ks2),.sl none 9 w.length (i7a w)]) dmx (by decide) 8 (by decide) (by (simp only [List.append_assoc,List.cons_append,List.nil_append,a7a,a6a,a5a,a4a])) ?_|refine Go.rgD (id:=16) [10,14] (fun H=>b6a H S.length=some [.str fn,.int .i64 k,.str op1,.str nm1,.int .i64 n1,.sl none 4 ks1.length (d3a ks1),.str op2,.str nm2,.int .i64 n2,.sl none 4 ks2.length (d3a ks2),.sl none 9 w.length (i7a w)]) dmx (by decide) 19 (by decide) (by (simp only [List.append_assoc,List.cons_append,List.nil_append,a7a,a6a,a5a,a4a])) ?_|refine GoW.nil rfl ?_|((first|refine GoR.o (by rfl) (by rfl) ?_|refine GoW.o (by rfl) (by rfl) ?_|refine GoW.rd (by rfl) (by rfl) ?_);(conv=>arg 1;simp only [G,Z,Y,Gx,vV,simprocAttr,fb2,fb3,fb9,c2a,b7a,d7a,d9a,e2a,g2a,a1,a2,a3,hp1,hp2,builtin_append,List.append_assoc,List.cons_append,List.nil_append]);first|show GoR ..|(show _∧GoW ..;refine ⟨by (first|exact fun h=>absurd h (by decide)|(intro _;(simp only [List.append_assoc,List.cons_append,List.nil_append,a7a,a6a,a5a,a4a]))),?_⟩)|(show _∧_∧_∧GoW ..;refine ⟨rfl,by (simp only [List.append_assoc,List.cons_append,List.nil_append,a7a,a6a,a5a,a4a]),(fun H hI=>by (try dsimp only at hI);simp only [G,Z,Y,Gx,vV,simprocAttr,fb2,fb3,fb9,c2a,b7a,d7a,d9a,e2a,g2a,a1,a2,a3,hp1,hp2,builtin_append,List.append_assoc,List.cons_append,List.nil_append,hI]),?_⟩))|(refine GoW.c c44 (by rfl) (by rfl) rfl ?_;(refine a3a.b2a (hnd _) ?_);refine ⟨by (first|exact fun h=>absurd h (by decide)|(intro _;(simp only [List.append_assoc,List.cons_append,List.nil_append,a7a,a6a,a5a,a4a]))),?_⟩)|(refine GoR.c c44 (by rfl) (by rfl) rfl ?_;(refine a3a.b2a (hnd _) ?_))|(refine GoW.c c51 (by rfl) (by rfl) rfl ?_;(refine a3a.b2a (te _) ?_);refine ⟨by (first|exact fun h=>absurd h (by decide)|(intro _;(simp only [List.append_assoc,List.cons_append,List.nil_append,a7a,a6a,a5a,a4a]))),?_⟩)|(refine GoR.c c51 (by rfl) (by rfl) rfl ?_;(refine a3a.b2a (te _) ?_))|(refine GoW.c c50 (by rfl) (by rfl) rfl ?_;(refine a3a.b2a (te' _) ?_);refine ⟨by (first|exact fun h=>absurd h (by decide)|(intro _;(simp only [List.append_assoc,List.cons_append,List.nil_append,a7a,a6a,a5a,a4a]))),?_⟩)|(refine GoR.c c50 (by rfl) (by rfl) rfl ?_;(refine a3a.b2a (te' _) ?_))|(refine GoW.c c52 (by rfl) (by rfl) rfl ?_;(refine a3a.weak (args':=[.sl none 1 2 [.str x3,.str x1],.str (⟨#[44,32]⟩:ByteArray)]) (.cons hwf (.cons .refl .nil)) (a3a.b2a (hj _) ?_));refine ⟨by (first|exact fun h=>absurd h (by decide)|(intro _;(simp only [List.append_assoc,List.cons_append,List.nil_append,a7a,a6a,a5a,a4a]))),?_⟩)|(refine GoR.c c52 (by rfl) (by rfl) rfl ?_;(refine a3a.weak (args':=[.sl none 1 2 [.str x3,.str x1],.str (⟨#[44,32]⟩:ByteArray)]) (.cons hwf (.cons .refl .nil)) (a3a.b2a (hj _) ?_)))|refine Go.b0a rfl (fun hc => ?_) (fun hc => ?_))
   refine Go.keep [(8,.str hd),(49,.sl none 9 w.length (i7a w)),(50,.int .i64 (w.length:Int)),(51,.int .i64 (((0:Nat):Int):Int))] (.cons .refl (.cons .refl (.cons .refl (.cons .refl (.nil))))) ?_
   exact hl _
  ·have fc:(fn=(⟨#[99,111,117,110,116]⟩:ByteArray))=False:=eq_false f1'
   have ff:(fn=(⟨#[102,105,114,115,116]⟩:ByteArray))=False:=eq_false f3
   have ft:(fn=(⟨#[116,111,112]⟩:ByteArray))=False:=eq_false f2
   simp only [fc,ff,ft,if_true,if_false] at hh
   have ne:=f1'
   have te:=te1 ne
   have sz:=se1 ne
   rw [hN] at hnd
   dsimp only at hnd
   have hj:=fun S=>join none [x1] (⟨#[44,32]⟩:ByteArray) (by simp) (by rw [u3e];omega) S
   rw [u3e] at hj
   simp only [List.length_cons,List.length_nil,List.map_cons,List.map_nil,Nat.zero_add] at hj
   have a2:=fun {t x y} => e4a (P:=Tryz.prog) (t:=t) (x:=x) (y:=y) (a:=f1) (b:=x1) (by omega)
   have a3:=fun {t x y} => e4a (P:=Tryz.prog) (t:=t) (x:=x) (y:=y) (a:=f1++x1) (b:=(⟨#[41]⟩:ByteArray)) (by rw [d2a,c2];omega)
   rw [← hh] at a3
   have a0:z7b (S.length+1) .c5a 1 0 [] (S++[.obj [.str fn,.int .i64 k,.str op1,.str nm1,.int .i64 n1,.sl none 4 ks1.length (d3a ks1),.str op2,.str nm2,.int .i64 n2,.sl none 4 ks2.length (d3a ks2),.sl none 9 w.length (i7a w)]]):=.inl ⟨rfl,rfl,rfl⟩
   obtain ⟨o1,S1,hap,ha1,hg⟩:=(a0.app [.own]).append (P:=Tryz.prog) q2a (own:=none) (m:=1) (new:=[.str x1]) (by simp) (by decide) ⟨by omega,by omega,by simp,rfl⟩
   obtain ⟨X1,hX⟩:=hg.pre [.own] (S++[.obj [.str fn,.int .i64 k,.str op1,.str nm1,.int .i64 n1,.sl none 4 ks1.length (d3a ks1),.str op2,.str nm2,.int .i64 n2,.sl none 4 ks2.length (d3a ks2),.sl none 9 w.length (i7a w)]]) (by simp) rfl
   subst hX
   have hp1:=fun own=>n4a (o:=own).trans hap
   have hwf:Wf o1 (.sl none 1 1 [.str x1]):=by
    rcases ha1 with ⟨_,h,_⟩ | ⟨_,h,_⟩ | ⟨id,_,rfl,_⟩
    ·omega
    ·omega
    ·exact .disown
   simp only [List.append_assoc,List.cons_append,List.nil_append] at hp1 hwf
   repeat' (first|refine Go.a rfl ?_|refine Go.rg ?_|refine GoR.nil ?_|refine Go.ret ?_|refine Go.b rfl ?_|refine Go.rgS dmx (by decide) ?_|refine Go.rgD (id:=9) [1] (fun H=>b6a H S.length=some [.str fn,.int .i64 k,.str op1,.str nm1,.int .i64 n1,.sl none 4 ks1.length (d3a ks1),.str op2,.str nm2,.int .i64 n2,.sl none 4 ks2.length (d3a ks2),.sl none 9 w.length (i7a w)]) dmx (by decide) 8 (by decide) (by (simp only [List.append_assoc,List.cons_append,List.nil_append,a7a,a6a,a5a,a4a])) ?_|refine Go.rgD (id:=16) [10,14] (fun H=>b6a H S.length=some [.str fn,.int .i64 k,.str op1,.str nm1,.int .i64 n1,.sl none 4 ks1.length (d3a ks1),.str op2,.str nm2,.int .i64 n2,.sl none 4 ks2.length (d3a ks2),.sl none 9 w.length (i7a w)]) dmx (by decide) 19 (by decide) (by (simp only [List.append_assoc,List.cons_append,List.nil_append,a7a,a6a,a5a,a4a])) ?_|refine GoW.nil rfl ?_|((first|refine GoR.o (by rfl) (by rfl) ?_|refine GoW.o (by rfl) (by rfl) ?_|refine GoW.rd (by rfl) (by rfl) ?_);(conv=>arg 1;simp only [G,Z,Y,Gx,vV,simprocAttr,fb2,fb3,fb9,c2a,b7a,d7a,d9a,e2a,g2a,a1,a2,a3,hp1,builtin_append,List.append_assoc,List.cons_append,List.nil_append]);first|show GoR ..|(show _∧GoW ..;refine ⟨by (first|exact fun h=>absurd h (by decide)|(intro _;(simp only [List.append_assoc,List.cons_append,List.nil_append,a7a,a6a,a5a,a4a]))),?_⟩)|(show _∧_∧_∧GoW ..;refine ⟨rfl,by (simp only [List.append_assoc,List.cons_append,List.nil_append,a7a,a6a,a5a,a4a]),(fun H hI=>by (try dsimp only at hI);simp only [G,Z,Y,Gx,vV,simprocAttr,fb2,fb3,fb9,c2a,b7a,d7a,d9a,e2a,g2a,a1,a2,a3,hp1,builtin_append,List.append_assoc,List.cons_append,List.nil_append,hI]),?_⟩))|(refine GoW.c c44 (by rfl) (by rfl) rfl ?_;(refine a3a.b2a (hnd _) ?_);refine ⟨by (first|exact fun h=>absurd h (by decide)|(intro _;(simp only [List.append_assoc,List.cons_append,List.nil_append,a7a,a6a,a5a,a4a]))),?_⟩)|(refine GoR.c c44 (by rfl) (by rfl) rfl ?_;(refine a3a.b2a (hnd _) ?_))|(refine GoW.c c51 (by rfl) (by rfl) rfl ?_;(refine a3a.b2a (te _) ?_);refine ⟨by (first|exact fun h=>absurd h (by decide)|(intro _;(simp only [List.append_assoc,List.cons_append,List.nil_append,a7a,a6a,a5a,a4a]))),?_⟩)|(refine GoR.c c51 (by rfl) (by rfl) rfl ?_;(refine a3a.b2a (te _) ?_))|(refine GoW.c c52 (by rfl) (by rfl) rfl ?_;(refine a3a.weak (args':=[.sl none 1 1 [.str x1],.str (⟨#[44,32]⟩:ByteArray)]) (.cons hwf (.cons .refl .nil)) (a3a.b2a (hj _) ?_));refine ⟨by (first|exact fun h=>absurd h (by decide)|(intro _;(simp only [List.append_assoc,List.cons_append,List.nil_append,a7a,a6a,a5a,a4a]))),?_⟩)|(refine GoR.c c52 (by rfl) (by rfl) rfl ?_;(refine a3a.weak (args':=[.sl none 1 1 [.str x1],.str (⟨#[44,32]⟩:ByteArray)]) (.cons hwf (.cons .refl .nil)) (a3a.b2a (hj _) ?_)))|refine Go.b0a rfl (fun hc => ?_) (fun hc => ?_))
   refine Go.keep [(8,.str hd),(49,.sl none 9 w.length (i7a w)),(50,.int .i64 (w.length:Int)),(51,.int .i64 (((0:Nat):Int):Int))] (.cons .refl (.cons .refl (.cons .refl (.cons .refl (.nil))))) ?_
   exact hl _
 ·intro E0
  refine Go.while (α:=Nat×ByteArray×Mem) (fun x=>w.length - x.1) (fun x=>[(8,.str x.2.1),(49,.sl none 9 w.length (i7a w)),(50,.int .i64 (w.length:Int)),(51,.int .i64 ((x.1:Int):Int))]) (fun x=>x.2.2) (fun x=>x.1≤w.length∧x.2.1=hd++m9a true (w.take x.1) ∧ ∃ E,x.2.2=S++E) ?_ (0,hd,S++E0) ⟨Nat.zero_le _,(b2c _).symm,_,rfl⟩
  rintro ⟨i,so,H⟩ ⟨hi,hso,hE⟩ next
  dsimp only at hi hso hE next
  by_cases hil:i<w.length
  ·obtain ⟨t1,t2,t3⟩:=k3c hil
   obtain ⟨ho,hx1,hx2⟩:=g6 _ (List.getElem_mem hil)
   have hte:=t4b hil
   have q1:=q9b w[i].a hx1.1 (by have:=hx1.2;omega)
   have q2:=q9b w[i].b hx2.1 (by have:=hx2.2;omega)
   have hsz:=hcs i
   have hti:(w.take i).length≤4:=by rw [List.length_take];omega
   have o1:=u9c ho
   have o2:=m1a hx1
   have o3:=m1a hx2
   have hn:=fun s' H' h=>next (i+1,s',H++H') (by dsimp only;omega) ⟨hil,h,by obtain ⟨E,rfl⟩:=hE;exact ⟨E++H',by rw [List.append_assoc]⟩⟩
   clear next hx1 hx2 ho g6 hcs hE
   unfold b0a at hte
   dsimp only at hn
   rw [hte] at hn
   generalize m9a true (w.take i)=sofar at *
   generalize w[i]=cd at *
   obtain ⟨cop,⟨op3,nm3,n3,ks3⟩,⟨op4,nm4,n4,ks4⟩⟩:=cd
   simp only [Cd.c,Nd.k0a,List.cons_append,List.nil_append] at q1 q2 t3 hn o1 o2 o3
   generalize textS (.mk op3 nm3 n3 ks3)=y1 at *
   generalize textS (.mk op4 nm4 n4 ks4)=y2 at *
   have hzz:so.size≤9653:=by rw [hso,d2a];omega
   by_cases hz:i=0
   ·rw [decide_eq_true hz] at hn
    have hz2:((i:Int)==0)=true:=by rw [hz];rfl
    have d0:=fun {t x y} => e4a (P:=Tryz.prog) (t:=t) (x:=x) (y:=y) (a:=(⟨#[32]⟩:ByteArray)) (b:=(⟨#[119,104,101,114,101]⟩:ByteArray)) (by show 1+5<_;omega)
    have d1:=fun {t x y} => e4a (P:=Tryz.prog) (t:=t) (x:=x) (y:=y) (a:=(⟨#[32]⟩:ByteArray)++(⟨#[119,104,101,114,101]⟩:ByteArray)) (b:=(⟨#[32]⟩:ByteArray)) (by show 6+1<_;omega)
    have e0:((⟨#[32]⟩:ByteArray)++(⟨#[119,104,101,114,101]⟩:ByteArray))++(⟨#[32]⟩:ByteArray)=u3d true:=rfl
    rw [e0] at d1
    have e1:=h8c true
    generalize u3d true=sp at *
    obtain ⟨b1,b2,b3,b4,b5⟩:=i0c (P:=Tryz.prog) (x:=sp) (by omega) o2 o1 o3
    have b6:=fun {t x y} => e4a (P:=Tryz.prog) (t:=t) (x:=x) (y:=y) (a:=so) (b:=((((sp++y1)++(⟨#[32]⟩:ByteArray))++cop)++(⟨#[32]⟩:ByteArray))++y2) (by have s1:((⟨#[32]⟩:ByteArray):ByteArray).size=1:=rfl;simp only [d2a,s1];omega)
    repeat' (first|refine Go.a rfl ?_|refine Go.rg ?_|refine GoR.nil ?_|refine Go.ret ?_|refine Go.b rfl ?_|refine Go.rgS dmx (by decide) ?_|refine Go.rgD (id:=9) [1] (fun H'=>b6a H' H.length=some [.str cop,.str op3,.str nm3,.int .i64 n3,.sl none 4 ks3.length (d3a ks3),.str op4,.str nm4,.int .i64 n4,.sl none 4 ks4.length (d3a ks4)]) dmx (by decide) 8 (by decide) (by (simp only [List.append_assoc,List.cons_append,List.nil_append,a7a,a6a,a5a,a4a])) ?_|refine Go.rgD (id:=16) [10,14] (fun H'=>b6a H' H.length=some [.str cop,.str op3,.str nm3,.int .i64 n3,.sl none 4 ks3.length (d3a ks3),.str op4,.str nm4,.int .i64 n4,.sl none 4 ks4.length (d3a ks4)]) dmx (by decide) 19 (by decide) (by (simp only [List.append_assoc,List.cons_append,List.nil_append,a7a,a6a,a5a,a4a])) ?_|refine GoW.nil rfl ?_|((first|refine GoR.o (by rfl) (by rfl) ?_|refine GoW.o (by rfl) (by rfl) ?_|refine GoW.rd (by rfl) (by rfl) ?_);(conv=>arg 1;simp only [G,Z,Y,Gx,vV,simprocAttr,fb2,fb3,fb9,c2a,b7a,d7a,d9a,e2a,g2a,t1,t2,t3,d0,d1,b1,b2,b3,b4,b5,b6,hz2,b9a (show i<4611686018427387904 by omega),show decide ((i:Int)<(w.length:Int))=true by simp;omega]);first|show GoR ..|(show _∧GoW ..;refine ⟨by (first|exact fun h=>absurd h (by decide)|(intro _;(simp only [List.append_assoc,List.cons_append,List.nil_append,a7a,a6a,a5a,a4a]))),?_⟩)|(show _∧_∧_∧GoW ..;refine ⟨rfl,by (simp only [List.append_assoc,List.cons_append,List.nil_append,a7a,a6a,a5a,a4a]),(fun H hI=>by (try dsimp only at hI);simp only [G,Z,Y,Gx,vV,simprocAttr,fb2,fb3,fb9,c2a,b7a,d7a,d9a,e2a,g2a,t1,t2,t3,d0,d1,b1,b2,b3,b4,b5,b6,hz2,b9a (show i<4611686018427387904 by omega),show decide ((i:Int)<(w.length:Int))=true by simp;omega,hI]),?_⟩))|(refine GoW.c c51 (by rfl) (by rfl) rfl ?_;(first | refine a3a.b2a (q1 _) ?_ | refine a3a.b2a (q2 _) ?_);refine ⟨by (first|exact fun h=>absurd h (by decide)|(intro _;(simp only [List.append_assoc,List.cons_append,List.nil_append,a7a,a6a,a5a,a4a]))),?_⟩)|(refine GoR.c c51 (by rfl) (by rfl) rfl ?_;(first | refine a3a.b2a (q1 _) ?_ | refine a3a.b2a (q2 _) ?_))|refine Go.b0a rfl (fun hc => ?_) (fun hc => ?_))
    refine Go.lpN ?_
    refine Go.keep [(8,.str (so++(((((sp++y1)++(⟨#[32]⟩:ByteArray))++cop)++(⟨#[32]⟩:ByteArray))++y2))),(49,.sl none 9 w.length (i7a w)),(50,.int .i64 (w.length:Int)),(51,.int .i64 (((i+1:Nat):Int):Int))] (.cons .refl (.cons .refl (.cons .refl (.cons .refl (.nil))))) ?_
    exact hn _ _ (by rw [hso];simp only [s8a])
   ·rw [decide_eq_false hz] at hn
    have hz2:((i:Int)==0)=false:=by rw [beq_eq_false_iff_ne];omega
    have d0:=fun {t x y} => e4a (P:=Tryz.prog) (t:=t) (x:=x) (y:=y) (a:=(⟨#[32]⟩:ByteArray)) (b:=(⟨#[97,110,100]⟩:ByteArray)) (by show 1+3<_;omega)
    have d1:=fun {t x y} => e4a (P:=Tryz.prog) (t:=t) (x:=x) (y:=y) (a:=(⟨#[32]⟩:ByteArray)++(⟨#[97,110,100]⟩:ByteArray)) (b:=(⟨#[32]⟩:ByteArray)) (by show 4+1<_;omega)
    have e0:((⟨#[32]⟩:ByteArray)++(⟨#[97,110,100]⟩:ByteArray))++(⟨#[32]⟩:ByteArray)=u3d false:=rfl
    rw [e0] at d1
    have e1:=h8c false
    generalize u3d false=sp at *
    obtain ⟨b1,b2,b3,b4,b5⟩:=i0c (P:=Tryz.prog) (x:=sp) (by omega) o2 o1 o3
    have b6:=fun {t x y} => e4a (P:=Tryz.prog) (t:=t) (x:=x) (y:=y) (a:=so) (b:=((((sp++y1)++(⟨#[32]⟩:ByteArray))++cop)++(⟨#[32]⟩:ByteArray))++y2) (by have s1:((⟨#[32]⟩:ByteArray):ByteArray).size=1:=rfl;simp only [d2a,s1];omega)
    repeat' (first|refine Go.a rfl ?_|refine Go.rg ?_|refine GoR.nil ?_|refine Go.ret ?_|refine Go.b rfl ?_|refine Go.rgS dmx (by decide) ?_|refine Go.rgD (id:=9) [1] (fun H'=>b6a H' H.length=some [.str cop,.str op3,.str nm3,.int .i64 n3,.sl none 4 ks3.length (d3a ks3),.str op4,.str nm4,.int .i64 n4,.sl none 4 ks4.length (d3a ks4)]) dmx (by decide) 8 (by decide) (by (simp only [List.append_assoc,List.cons_append,List.nil_append,a7a,a6a,a5a,a4a])) ?_|refine Go.rgD (id:=16) [10,14] (fun H'=>b6a H' H.length=some [.str cop,.str op3,.str nm3,.int .i64 n3,.sl none 4 ks3.length (d3a ks3),.str op4,.str nm4,.int .i64 n4,.sl none 4 ks4.length (d3a ks4)]) dmx (by decide) 19 (by decide) (by (simp only [List.append_assoc,List.cons_append,List.nil_append,a7a,a6a,a5a,a4a])) ?_|refine GoW.nil rfl ?_|((first|refine GoR.o (by rfl) (by rfl) ?_|refine GoW.o (by rfl) (by rfl) ?_|refine GoW.rd (by rfl) (by rfl) ?_);(conv=>arg 1;simp only [G,Z,Y,Gx,vV,simprocAttr,fb2,fb3,fb9,c2a,b7a,d7a,d9a,e2a,g2a,t1,t2,t3,d0,d1,b1,b2,b3,b4,b5,b6,hz2,b9a (show i<4611686018427387904 by omega),show decide ((i:Int)<(w.length:Int))=true by simp;omega]);first|show GoR ..|(show _∧GoW ..;refine ⟨by (first|exact fun h=>absurd h (by decide)|(intro _;(simp only [List.append_assoc,List.cons_append,List.nil_append,a7a,a6a,a5a,a4a]))),?_⟩)|(show _∧_∧_∧GoW ..;refine ⟨rfl,by (simp only [List.append_assoc,List.cons_append,List.nil_append,a7a,a6a,a5a,a4a]),(fun H hI=>by (try dsimp only at hI);simp only [G,Z,Y,Gx,vV,simprocAttr,fb2,fb3,fb9,c2a,b7a,d7a,d9a,e2a,g2a,t1,t2,t3,d0,d1,b1,b2,b3,b4,b5,b6,hz2,b9a (show i<4611686018427387904 by omega),show decide ((i:Int)<(w.length:Int))=true by simp;omega,hI]),?_⟩))|(refine GoW.c c51 (by rfl) (by rfl) rfl ?_;(first | refine a3a.b2a (q1 _) ?_ | refine a3a.b2a (q2 _) ?_);refine ⟨by (first|exact fun h=>absurd h (by decide)|(intro _;(simp only [List.append_assoc,List.cons_append,List.nil_append,a7a,a6a,a5a,a4a]))),?_⟩)|(refine GoR.c c51 (by rfl) (by rfl) rfl ?_;(first | refine a3a.b2a (q1 _) ?_ | refine a3a.b2a (q2 _) ?_))|refine Go.b0a rfl (fun hc => ?_) (fun hc => ?_))
    refine Go.lpN ?_
    refine Go.keep [(8,.str (so++(((((sp++y1)++(⟨#[32]⟩:ByteArray))++cop)++(⟨#[32]⟩:ByteArray))++y2))),(49,.sl none 9 w.length (i7a w)),(50,.int .i64 (w.length:Int)),(51,.int .i64 (((i+1:Nat):Int):Int))] (.cons .refl (.cons .refl (.cons .refl (.cons .refl (.nil))))) ?_
    exact hn _ _ (by rw [hso];simp only [s8a])
  ·clear next
   obtain ⟨E,rfl⟩:=hE
   rw [List.take_of_length_le (by omega)] at hso
   subst hso
   repeat' (first|refine Go.a rfl ?_|refine Go.rg ?_|refine GoR.nil ?_|refine Go.ret ?_|refine Go.b rfl ?_|refine Go.rgS dmx (by decide) ?_|refine Go.rgD (id:=9) [1] (fun _=>True) dmx (by decide) 8 (by decide) (by trivial) ?_|refine Go.rgD (id:=16) [10,14] (fun _=>True) dmx (by decide) 19 (by decide) (by trivial) ?_|refine GoW.nil rfl ?_|((first|refine GoR.o (by rfl) (by rfl) ?_|refine GoW.o (by rfl) (by rfl) ?_|refine GoW.rd (by rfl) (by rfl) ?_);(conv=>arg 1;simp only [G,Z,Y,Gx,vV,simprocAttr,fb2,fb3,fb9,c2a,b7a,d7a,d9a,e2a,g2a,show decide ((i:Int)<(w.length:Int))=false by simp;omega]);first|show GoR ..|(show _∧GoW ..;refine ⟨by exact fun _=>trivial,?_⟩)|(show _∧_∧_∧GoW ..;refine ⟨rfl,by trivial,(fun H _=>by simp only [G,Z,Y,Gx,vV,simprocAttr,fb2,fb3,fb9,c2a,b7a,d7a,d9a,e2a,g2a,show decide ((i:Int)<(w.length:Int))=false by simp;omega]),?_⟩))|refine Go.b0a rfl (fun hc => ?_) (fun hc => ?_))
   refine ⟨(by first | exact .inl rfl | exact .inr rfl),fin ?_⟩
   rw [a8a (fn:=Tryz.f17) rfl]
   simp only [a0a,a2a,a1a,G,Z,Y,Gx,vV,simprocAttr,fb2,fb3,fb9,c2a,b7a,d7a,d9a,e2a,g2a]
   exact ⟨_,_,rfl,.of_low (.str _),rfl⟩
end Go.Proofs.DgT
