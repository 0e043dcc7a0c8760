/- Whether two folds are one: by the program, by the document. -/
import Derived.Test.YtcdijoaabbjioaaGreatDoorDgG20x
set_option linter.unusedSimpArgs false
set_option linter.unusedVariables false
namespace Go.Proofs.DgT
open Go Go.DM
set_option maxRecDepth 100000
def n3b (x y:Cd):Bool:=decide (x.op=y.op)&&o7a x.a y.a&&o7a x.b y.b
def b8b:List Cd→List Cd→Bool
 | [],[]=>true
 | x::xs,y::ys=>n3b x y&&b8b xs ys
 | _,_=>false
theorem x3a : ∀ {xs ys:List Cd},xs.length≠ys.length→b8b xs ys=false
 | [],[],h=>absurd rfl h
 | [],_::_,_=>rfl
 | _::_,[],_=>rfl
 | x::xs,y::ys,h=>by rw [b8b,x3a (by simpa using h),Bool.and_false]
theorem h7c : ∀ {xs ys:List Cd} {i:Nat} (h1:i<xs.length) (h2:i<ys.length),n3b xs[i] ys[i]=false→b8b xs ys=false
 | x::xs,y::ys,0,_,_,h=>by
  have h:n3b x y=false:=h
  rw [b8b,h,Bool.false_and]
 | x::xs,y::ys,i+1,h1,h2,h=>by rw [b8b,h7c (i:=i) (by simpa using h1) (by simpa using h2) h,Bool.and_false]
theorem k5b : ∀ {xs ys:List Cd},xs.length=ys.length→(∀ i (h1:i<xs.length) (h2:i<ys.length),n3b xs[i] ys[i]=true)→b8b xs ys=true
 | [],[],_,_=>rfl
 | x::xs,y::ys,hl,h=>by
  have h0:n3b x y=true:=h 0 (by simp) (by simp)
  rw [b8b,h0,Bool.true_and]
  exact k5b (by simpa using hl) fun i h1 h2=>h (i+1) (by simpa using h1) (by simpa using h2)
 | [],_::_,hl,_=>by simp at hl
 | _::_,[],hl,_=>by simp at hl
def e0b (a b:Ag):Bool:=decide (a.fn=b.fn)&&(!(f6a a.fn).1 || decide (a.k=b.k))&&n8b (l3a a) (l3a b)&&b8b a.w b.w
theorem v0d (x y:Cd) (hx:f3b 100 x.a∧f3b 100 x.b) (S:Mem):a3a Tryz.prog O 56 [.agg (Cd.c x),.agg (Cd.c y)] S fun d S'=>S'=S∧d = .bool (n3b x y):=by
 obtain ⟨op,a,b⟩:=x
 obtain ⟨op2,a2,b2⟩:=y
 have h1:=f0c (orc:=O) a hx.1 a2
 have h2:=f0c (orc:=O) b hx.2 b2
 unfold n3b
 dsimp only
 obtain ⟨o1,m1,n1,k1⟩:=a
 obtain ⟨o2,m2,n2,k2⟩:=b
 obtain ⟨o3,m3,n3,k3⟩:=a2
 obtain ⟨o4,m4,n4,k4⟩:=b2
 simp only [Cd.c,Nd.k0a,List.cons_append,List.nil_append] at h1 h2 ⊢
 generalize o7a (.mk o1 m1 n1 k1) (.mk o3 m3 n3 k3)=s1 at *
 generalize o7a (.mk o2 m2 n2 k2) (.mk o4 m4 n4 k4)=s2 at *
 generalize hop:decide (op=op2)=d
 cases d<;>cases s1<;>cases s2
 all_goals
  refine a3a.e Tryz.func56 rfl Tryz.ntmps56 (by rfl) ?_
  repeat' (first|refine Go.a rfl ?_|refine Go.rg ?_|refine GoR.nil ?_|refine Go.ret ?_|refine Go.b rfl ?_|(refine GoR.o (by rfl) (by rfl) ?_;(conv=>arg 1;simp only [G,Z,Y,Gx,vV,simprocAttr,fb2,fb9,c2a,b7a,e2a,hop]);show GoR ..)|(refine GoR.c c54 (by rfl) (by rfl) rfl ?_;(first | refine a3a.b2a (h1 _) ?_ | refine a3a.b2a (h2 _) ?_))|refine GoR.s (by rfl) rfl rfl ?_|(refine GoR.b1a rfl (fun hc => ?_) (fun hc => ?_)<;>simp only [hc])|refine Go.b0a rfl (fun hc => ?_) (fun hc => ?_))
  refine ⟨(by first | exact .inl rfl | exact .inr rfl),fin ?_⟩
  rw [a8a (fn:=Tryz.f56) rfl]
  simp only [a0a,a2a,a1a,G,Z,Y,Gx,vV,simprocAttr,fb2,fb9,c2a,b7a,e2a]
  exact ⟨_,_,rfl,.of_low (.bool _),rfl⟩
theorem i7e (ks ks2:List Cd) (hl:ks.length≤100000) (hs : ∀ x∈ks,f3b 100 x.a∧f3b 100 x.b) (S:Mem) :
  a3a Tryz.prog O 55 [.sl none 9 ks.length (i7a ks),.sl none 9 ks2.length (i7a ks2),.fn (.func 56) [] []] S fun d S'=>S'=S∧d = .bool (b8b ks ks2):=by
 refine a3a.e Tryz.func55 rfl Tryz.ntmps55 (by rfl) ?_
 by_cases hlen:ks.length=ks2.length
 rotate_left
 ·rw [x3a hlen]
  repeat' (first|refine Go.a rfl ?_|refine Go.rg ?_|refine GoR.nil ?_|refine Go.ret ?_|refine Go.b rfl ?_|(refine GoR.o (by rfl) (by rfl) ?_;(conv=>arg 1;simp only [G,Z,Y,Gx,vV,simprocAttr,fb3,fb9,b7a,d7a,e2a,show ((ks.length:Int) != (ks2.length:Int))=true by simp;omega]);show GoR ..)|refine Go.b0a rfl (fun hc => ?_) (fun hc => ?_))
  refine ⟨(by first | exact .inl rfl | exact .inr rfl),fin ?_⟩
  rw [a8a (fn:=Tryz.f55) rfl]
  simp only [a0a,a2a,a1a,G,Z,Y,Gx,vV,simprocAttr,fb3,fb9,b7a,d7a,e2a]
  exact ⟨_,[],by simp,.of_low (.bool _),rfl⟩
 repeat' (first|refine Go.a rfl ?_|refine Go.rg ?_|refine GoR.nil ?_|refine Go.ret ?_|refine Go.b rfl ?_|(refine GoR.o (by rfl) (by rfl) ?_;(conv=>arg 1;simp only [G,Z,Y,Gx,vV,simprocAttr,fb3,fb9,b7a,d7a,e2a,show ((ks.length:Int) != (ks2.length:Int))=false by simp [hlen]]);show GoR ..)|refine Go.b0a rfl (fun hc => ?_) (fun hc => ?_))
 refine Go.keep [(1,.sl none 9 ks2.length (i7a ks2)),(2,.fn (.func 56) [] []),(15,.sl none 9 ks.length (i7a ks)),(16,.int .i64 (ks.length:Int)),(17,.int .i64 ((0:Nat):Int))] (.cons .refl (.cons .refl (.cons .refl (.cons .refl (.cons .refl (.nil)))))) ?_
 refine Go.while (α:=Nat×Mem) (fun a=>ks.length - a.1) (fun a=>[(1,.sl none 9 ks2.length (i7a ks2)),(2,.fn (.func 56) [] []),(15,.sl none 9 ks.length (i7a ks)),(16,.int .i64 (ks.length:Int)),(17,.int .i64 (a.1:Int))]) (fun a=>a.2)
  (fun a=>a.1≤ks.length∧(∃ E,a.2=S++E) ∧ ∀ j (h1:j<ks.length) (h2:j<ks2.length),j<a.1→n3b ks[j] ks2[j]=true) ?_ (0,S) ⟨Nat.zero_le _,⟨[],by simp⟩,by simp⟩
 rintro ⟨i,S1⟩ ⟨hi,⟨E,rfl⟩,hk⟩ next
 dsimp only at hi hk next
 by_cases h1:i<ks.length
 ·have h2:i<ks2.length:=by omega
  have ihk:=v0d ks[i] ks2[i] (hs _ (List.getElem_mem h1))
  have ha:=k3c h1
  have hb:=k3c h2
  cases hq:n3b ks[i] ks2[i] with
  | true=>
   rw [hq] at ihk
   have hn:=fun E'=>next (i+1,S++(E++E')) (by dsimp only;omega) ⟨h1,⟨_,rfl⟩,fun j hj hj2 hlt=>by
    dsimp only at hlt
    rcases Nat.lt_or_ge j i with h | h
    ·exact hk j hj hj2 h
    ·obtain rfl:j=i:=by omega
     exact hq⟩
   clear next hk hq
   generalize ks[i]=x at *
   generalize ks2[i]=y at *
   obtain ⟨op,⟨o1,m1,n1,k1⟩,⟨o2,m2,n2,k2⟩⟩:=x
   obtain ⟨op2,⟨o3,m3,n3,k3⟩,⟨o4,m4,n4,k4⟩⟩:=y
   simp only [Cd.c,Nd.k0a,List.cons_append,List.nil_append] at ha hb ihk
   repeat' (first|refine Go.a rfl ?_|refine Go.rg ?_|refine GoR.nil ?_|refine Go.ret ?_|refine Go.b rfl ?_|(refine GoR.o (by rfl) (by rfl) ?_;(conv=>arg 1;simp only [G,Z,Y,Gx,vV,simprocAttr,fb3,fb9,b7a,d7a,e2a,show decide ((i:Int)<(ks.length:Int))=true by simp;omega,ha,hb,b9a (show i<4611686018427387904 by omega),Bool.not_true]);show GoR ..)|(refine GoR.c c56 (by rfl) (by rfl) rfl ?_;(refine a3a.b2a (ihk _) ?_))|refine Go.b0a rfl (fun hc => ?_) (fun hc => ?_))
   refine Go.lpN ?_
   refine Go.keep [(1,.sl none 9 ks2.length (i7a ks2)),(2,.fn (.func 56) [] []),(15,.sl none 9 ks.length (i7a ks)),(16,.int .i64 (ks.length:Int)),(17,.int .i64 ((i+1:Nat):Int))] (.cons .refl (.cons .refl (.cons .refl (.cons .refl (.cons .refl (.nil)))))) ?_
   simpa only [List.append_assoc,List.cons_append,List.nil_append] using hn _
  | false=>
   rw [hq] at ihk
   rw [h7c h1 h2 hq]
   clear next hk hq
   generalize ks[i]=x at *
   generalize ks2[i]=y at *
   obtain ⟨op,⟨o1,m1,n1,k1⟩,⟨o2,m2,n2,k2⟩⟩:=x
   obtain ⟨op2,⟨o3,m3,n3,k3⟩,⟨o4,m4,n4,k4⟩⟩:=y
   simp only [Cd.c,Nd.k0a,List.cons_append,List.nil_append] at ha hb ihk
   repeat' (first|refine Go.a rfl ?_|refine Go.rg ?_|refine GoR.nil ?_|refine Go.ret ?_|refine Go.b rfl ?_|(refine GoR.o (by rfl) (by rfl) ?_;(conv=>arg 1;simp only [G,Z,Y,Gx,vV,simprocAttr,fb3,fb9,b7a,d7a,e2a,show decide ((i:Int)<(ks.length:Int))=true by simp;omega,ha,hb,Bool.not_false]);show GoR ..)|(refine GoR.c c56 (by rfl) (by rfl) rfl ?_;(refine a3a.b2a (ihk _) ?_))|refine Go.b0a rfl (fun hc => ?_) (fun hc => ?_))
   refine ⟨(by first | exact .inl rfl | exact .inr rfl),fin ?_⟩
   rw [a8a (fn:=Tryz.f55) rfl]
   simp only [a0a,a2a,a1a,G,Z,Y,Gx,vV,simprocAttr,fb3,fb9,b7a,d7a,e2a]
   exact ⟨_,_,rfl,.of_low (.bool _),rfl⟩
 ·clear next
  rw [k5b hlen fun j hj hj2=>hk j hj hj2 (by omega)]
  repeat' (first|refine Go.a rfl ?_|refine Go.rg ?_|refine GoR.nil ?_|refine Go.ret ?_|refine Go.b rfl ?_|(refine GoR.o (by rfl) (by rfl) ?_;(conv=>arg 1;simp only [G,Z,Y,Gx,vV,simprocAttr,fb3,fb9,b7a,d7a,e2a,show decide ((i:Int)<(ks.length:Int))=false by simp;omega]);show GoR ..)|refine Go.b0a rfl (fun hc => ?_) (fun hc => ?_))
  refine ⟨(by first | exact .inl rfl | exact .inr rfl),fin ?_⟩
  rw [a8a (fn:=Tryz.f55) rfl]
  simp only [a0a,a2a,a1a,G,Z,Y,Gx,vV,simprocAttr,fb3,fb9,b7a,d7a,e2a]
  exact ⟨_,_,rfl,.of_low (.bool _),rfl⟩
theorem e6d {a:Ag} (h:z8b a) : ∀ n∈l3a a,f3b 100 n:=by
 intro n hn
 unfold l3a at hn
 rcases List.mem_append.1 hn with h' | h'<;>split at h'<;>simp at h'
 ·subst h';exact h.1
 ·subst h';exact h.2.1
theorem q0d (a:Ag):(l3a a).length≤2:=by
 unfold l3a
 rw [List.length_append]
 split<;>split<;>simp
set_option maxHeartbeats 1600000 in
theorem g0e (a b:Ag) (ha:z8b a) (hl:a.w.length≤1000) (S:Mem):a3a Tryz.prog O 18 [.agg (Ag.c a),.agg (Ag.c b)] S fun d S'=>S'=S∧d = .bool (e0b a b):=by
 have hn:=i0b (orc:=O) a.fn
 have p1:=e0c a
 have p2:=e0c b
 have e1:=d0e (orc:=O) (l3a a) (l3a b) (by have:=q0d a;omega) (fun k hk=>f0c k (e6d ha k hk))
 have e2:=i7e a.w b.w (by omega) ha.2.2
 unfold e0b
 generalize l3a a=pa at *
 generalize l3a b=pb at *
 obtain ⟨fn,k,⟨op1,nm1,n1,ks1⟩,⟨op2,nm2,n2,ks2⟩,w⟩:=a
 obtain ⟨fn',k',⟨op3,nm3,n3,ks3⟩,⟨op4,nm4,n4,ks4⟩,w'⟩:=b
 simp only [Ag.c,Nd.k0a,List.cons_append,List.nil_append] at hn p1 p2 e2 ⊢
 generalize n8b pa pb=s1 at *
 generalize b8b w w'=s2 at *
 generalize hop:decide (fn=fn')=d
 generalize (f6a fn).1=kb at *
 have hkk:(k==k')=decide (k=k'):=by rw [Bool.eq_iff_iff];simp
 generalize hk:decide (k=k')=dk at *
 cases d
 ·refine a3a.e Tryz.func18 rfl Tryz.ntmps18 (by rfl) ?_
  repeat' (first|refine Go.a rfl ?_|refine Go.rg ?_|refine GoR.nil ?_|refine Go.ret ?_|refine Go.b rfl ?_|refine Go.rgS dmx (by decide) ?_|refine Go.rgD [19] (fun H=>b6a H S.length=some [.str fn,.int .i64 k,.str op1,.str nm1,.int .i64 n1,.sl none 4 ks1.length (d3a ks1),.str op2,.str nm2,.int .i64 n2,.sl none 4 ks2.length (d3a ks2),.sl none 9 w.length (i7a w)]∧b6a H (S.length+1)=some [.str fn',.int .i64 k',.str op3,.str nm3,.int .i64 n3,.sl none 4 ks3.length (d3a ks3),.str op4,.str nm4,.int .i64 n4,.sl none 4 ks4.length (d3a ks4),.sl none 9 w'.length (i7a w')]) dmx (by decide) 20 (by decide) (by (simp only [List.append_assoc,List.cons_append,List.nil_append,a7a,a6a,a5a,a4a,and_self])) ?_|refine GoW.nil rfl ?_|((first|refine GoR.o (by rfl) (by rfl) ?_|refine GoW.o (by rfl) (by rfl) ?_|refine GoW.rd (by rfl) (by rfl) ?_);(conv=>arg 1;simp only [G,Z,Y,Gx,vV,simprocAttr,fb2,fb9,b7a,d7a,d9a,hop]);first|show GoR ..|(show _∧GoW ..;refine ⟨by (first|exact fun h=>absurd h (by decide)|(intro _;(simp only [List.append_assoc,List.cons_append,List.nil_append,a7a,a6a,a5a,a4a,and_self]))),?_⟩)|(show _∧_∧_∧GoW ..;refine ⟨rfl,by (simp only [List.append_assoc,List.cons_append,List.nil_append,a7a,a6a,a5a,a4a,and_self]),(fun H hI=>by (try dsimp only at hI);simp only [G,Z,Y,Gx,vV,simprocAttr,fb2,fb9,b7a,d7a,d9a,hop,hI]),?_⟩))|(refine GoW.c c44 (by rfl) (by rfl) rfl ?_;(refine a3a.b2a (hn _) ?_);refine ⟨by (first|exact fun h=>absurd h (by decide)|(intro _;(simp only [List.append_assoc,List.cons_append,List.nil_append,a7a,a6a,a5a,a4a,and_self]))),?_⟩)|(refine GoR.c c44 (by rfl) (by rfl) rfl ?_;(refine a3a.b2a (hn _) ?_))|refine GoR.s (by rfl) rfl rfl ?_|refine GoW.s (by rfl) rfl rfl (by (first|exact fun h=>absurd h (by decide)|(intro _;(simp only [List.append_assoc,List.cons_append,List.nil_append,a7a,a6a,a5a,a4a,and_self])))) ?_|(refine GoR.b1a rfl (fun hc => ?_) (fun hc => ?_)<;>simp only [hc])|refine Go.b0a rfl (fun hc => ?_) (fun hc => ?_))
  refine ⟨(by first | exact .inl rfl | exact .inr rfl),fin ?_⟩
  rw [a8a (fn:=Tryz.f18) rfl]
  simp only [a0a,a2a,a1a,G,Z,Y,Gx,vV,simprocAttr,fb2,fb9,b7a,d7a,d9a]
  exact ⟨_,_,rfl,.of_low (.bool _),rfl⟩
 cases kb<;>cases dk
 rotate_left 2
 ·refine a3a.e Tryz.func18 rfl Tryz.ntmps18 (by rfl) ?_
  repeat' (first|refine Go.a rfl ?_|refine Go.rg ?_|refine GoR.nil ?_|refine Go.ret ?_|refine Go.b rfl ?_|refine Go.rgS dmx (by decide) ?_|refine Go.rgD [19] (fun H=>b6a H S.length=some [.str fn,.int .i64 k,.str op1,.str nm1,.int .i64 n1,.sl none 4 ks1.length (d3a ks1),.str op2,.str nm2,.int .i64 n2,.sl none 4 ks2.length (d3a ks2),.sl none 9 w.length (i7a w)]∧b6a H (S.length+1)=some [.str fn',.int .i64 k',.str op3,.str nm3,.int .i64 n3,.sl none 4 ks3.length (d3a ks3),.str op4,.str nm4,.int .i64 n4,.sl none 4 ks4.length (d3a ks4),.sl none 9 w'.length (i7a w')]) dmx (by decide) 20 (by decide) (by (simp only [List.append_assoc,List.cons_append,List.nil_append,a7a,a6a,a5a,a4a,and_self])) ?_|refine GoW.nil rfl ?_|((first|refine GoR.o (by rfl) (by rfl) ?_|refine GoW.o (by rfl) (by rfl) ?_|refine GoW.rd (by rfl) (by rfl) ?_);(conv=>arg 1;simp only [G,Z,Y,Gx,vV,simprocAttr,fb2,fb9,b7a,d7a,d9a,hop,hkk,Bool.not_true]);first|show GoR ..|(show _∧GoW ..;refine ⟨by (first|exact fun h=>absurd h (by decide)|(intro _;(simp only [List.append_assoc,List.cons_append,List.nil_append,a7a,a6a,a5a,a4a,and_self]))),?_⟩)|(show _∧_∧_∧GoW ..;refine ⟨rfl,by (simp only [List.append_assoc,List.cons_append,List.nil_append,a7a,a6a,a5a,a4a,and_self]),(fun H hI=>by (try dsimp only at hI);simp only [G,Z,Y,Gx,vV,simprocAttr,fb2,fb9,b7a,d7a,d9a,hop,hkk,Bool.not_true,hI]),?_⟩))|(refine GoW.c c44 (by rfl) (by rfl) rfl ?_;(refine a3a.b2a (hn _) ?_);refine ⟨by (first|exact fun h=>absurd h (by decide)|(intro _;(simp only [List.append_assoc,List.cons_append,List.nil_append,a7a,a6a,a5a,a4a,and_self]))),?_⟩)|(refine GoR.c c44 (by rfl) (by rfl) rfl ?_;(refine a3a.b2a (hn _) ?_))|refine GoR.s (by rfl) rfl rfl ?_|refine GoW.s (by rfl) rfl rfl (by (first|exact fun h=>absurd h (by decide)|(intro _;(simp only [List.append_assoc,List.cons_append,List.nil_append,a7a,a6a,a5a,a4a,and_self])))) ?_|(refine GoR.b1a rfl (fun hc => ?_) (fun hc => ?_)<;>simp only [hc])|refine Go.b0a rfl (fun hc => ?_) (fun hc => ?_))
  refine ⟨(by first | exact .inl rfl | exact .inr rfl),fin ?_⟩
  rw [a8a (fn:=Tryz.f18) rfl]
  simp only [a0a,a2a,a1a,G,Z,Y,Gx,vV,simprocAttr,fb2,fb9,b7a,d7a,d9a]
  exact ⟨_,_,rfl,.of_low (.bool _),rfl⟩
 all_goals
  cases s1
  ·refine a3a.e Tryz.func18 rfl Tryz.ntmps18 (by rfl) ?_
   repeat' (first|refine Go.a rfl ?_|refine Go.rg ?_|refine GoR.nil ?_|refine Go.ret ?_|refine Go.b rfl ?_|refine Go.rgS dmx (by decide) ?_|refine Go.rgD [19] (fun H=>b6a H S.length=some [.str fn,.int .i64 k,.str op1,.str nm1,.int .i64 n1,.sl none 4 ks1.length (d3a ks1),.str op2,.str nm2,.int .i64 n2,.sl none 4 ks2.length (d3a ks2),.sl none 9 w.length (i7a w)]∧b6a H (S.length+1)=some [.str fn',.int .i64 k',.str op3,.str nm3,.int .i64 n3,.sl none 4 ks3.length (d3a ks3),.str op4,.str nm4,.int .i64 n4,.sl none 4 ks4.length (d3a ks4),.sl none 9 w'.length (i7a w')]) dmx (by decide) 20 (by decide) (by (simp only [List.append_assoc,List.cons_append,List.nil_append,a7a,a6a,a5a,a4a,and_self])) ?_|refine GoW.nil rfl ?_|((first|refine GoR.o (by rfl) (by rfl) ?_|refine GoW.o (by rfl) (by rfl) ?_|refine GoW.rd (by rfl) (by rfl) ?_);(conv=>arg 1;simp only [G,Z,Y,Gx,vV,simprocAttr,fb2,fb9,b7a,d7a,d9a,hop,hkk,Bool.not_true,Bool.not_false]);first|show GoR ..|(show _∧GoW ..;refine ⟨by (first|exact fun h=>absurd h (by decide)|(intro _;(simp only [List.append_assoc,List.cons_append,List.nil_append,a7a,a6a,a5a,a4a,and_self]))),?_⟩)|(show _∧_∧_∧GoW ..;refine ⟨rfl,by (simp only [List.append_assoc,List.cons_append,List.nil_append,a7a,a6a,a5a,a4a,and_self]),(fun H hI=>by (try dsimp only at hI);simp only [G,Z,Y,Gx,vV,simprocAttr,fb2,fb9,b7a,d7a,d9a,hop,hkk,Bool.not_true,Bool.not_false,hI]),?_⟩))|(refine GoW.c c44 (by rfl) (by rfl) rfl ?_;(refine a3a.b2a (hn _) ?_);refine ⟨by (first|exact fun h=>absurd h (by decide)|(intro _;(simp only [List.append_assoc,List.cons_append,List.nil_append,a7a,a6a,a5a,a4a,and_self]))),?_⟩)|(refine GoR.c c44 (by rfl) (by rfl) rfl ?_;(refine a3a.b2a (hn _) ?_))|(refine GoW.c c46 (by rfl) (by rfl) rfl ?_;(first | refine a3a.b2a (p1 _) ?_ | refine a3a.b2a (p2 _) ?_);refine ⟨by (first|exact fun h=>absurd h (by decide)|(intro _;(simp only [List.append_assoc,List.cons_append,List.nil_append,a7a,a6a,a5a,a4a,and_self]))),?_⟩)|(refine GoR.c c46 (by rfl) (by rfl) rfl ?_;(first | refine a3a.b2a (p1 _) ?_ | refine a3a.b2a (p2 _) ?_))|(refine GoW.c c53 (by rfl) (by rfl) rfl ?_;(refine a3a.b2a (e1 _) ?_);refine ⟨by (first|exact fun h=>absurd h (by decide)|(intro _;(simp only [List.append_assoc,List.cons_append,List.nil_append,a7a,a6a,a5a,a4a,and_self]))),?_⟩)|(refine GoR.c c53 (by rfl) (by rfl) rfl ?_;(refine a3a.b2a (e1 _) ?_))|refine GoR.s (by rfl) rfl rfl ?_|refine GoW.s (by rfl) rfl rfl (by (first|exact fun h=>absurd h (by decide)|(intro _;(simp only [List.append_assoc,List.cons_append,List.nil_append,a7a,a6a,a5a,a4a,and_self])))) ?_|(refine GoR.b1a rfl (fun hc => ?_) (fun hc => ?_)<;>simp only [hc])|refine Go.b0a rfl (fun hc => ?_) (fun hc => ?_))
   refine ⟨(by first | exact .inl rfl | exact .inr rfl),fin ?_⟩
   rw [a8a (fn:=Tryz.f18) rfl]
   simp only [a0a,a2a,a1a,G,Z,Y,Gx,vV,simprocAttr,fb2,fb9,b7a,d7a,d9a]
   exact ⟨_,_,rfl,.of_low (.bool _),rfl⟩
  ·refine a3a.e Tryz.func18 rfl Tryz.ntmps18 (by rfl) ?_
   repeat' (first|refine Go.a rfl ?_|refine Go.rg ?_|refine GoR.nil ?_|refine Go.ret ?_|refine Go.b rfl ?_|refine Go.rgS dmx (by decide) ?_|refine Go.rgD [19] (fun H=>b6a H S.length=some [.str fn,.int .i64 k,.str op1,.str nm1,.int .i64 n1,.sl none 4 ks1.length (d3a ks1),.str op2,.str nm2,.int .i64 n2,.sl none 4 ks2.length (d3a ks2),.sl none 9 w.length (i7a w)]∧b6a H (S.length+1)=some [.str fn',.int .i64 k',.str op3,.str nm3,.int .i64 n3,.sl none 4 ks3.length (d3a ks3),.str op4,.str nm4,.int .i64 n4,.sl none 4 ks4.length (d3a ks4),.sl none 9 w'.length (i7a w')]) dmx (by decide) 20 (by decide) (by (simp only [List.append_assoc,List.cons_append,List.nil_append,a7a,a6a,a5a,a4a,and_self])) ?_|refine GoW.nil rfl ?_|((first|refine GoR.o (by rfl) (by rfl) ?_|refine GoW.o (by rfl) (by rfl) ?_|refine GoW.rd (by rfl) (by rfl) ?_);(conv=>arg 1;simp only [G,Z,Y,Gx,vV,simprocAttr,fb2,fb9,b7a,d7a,d9a,hop,hkk,Bool.not_true,Bool.not_false]);first|show GoR ..|(show _∧GoW ..;refine ⟨by (first|exact fun h=>absurd h (by decide)|(intro _;(simp only [List.append_assoc,List.cons_append,List.nil_append,a7a,a6a,a5a,a4a,and_self]))),?_⟩)|(show _∧_∧_∧GoW ..;refine ⟨rfl,by (simp only [List.append_assoc,List.cons_append,List.nil_append,a7a,a6a,a5a,a4a,and_self]),(fun H hI=>by (try dsimp only at hI);simp only [G,Z,Y,Gx,vV,simprocAttr,fb2,fb9,b7a,d7a,d9a,hop,hkk,Bool.not_true,Bool.not_false,hI]),?_⟩))|(refine GoW.c c44 (by rfl) (by rfl) rfl ?_;(refine a3a.b2a (hn _) ?_);refine ⟨by (first|exact fun h=>absurd h (by decide)|(intro _;(simp only [List.append_assoc,List.cons_append,List.nil_append,a7a,a6a,a5a,a4a,and_self]))),?_⟩)|(refine GoR.c c44 (by rfl) (by rfl) rfl ?_;(refine a3a.b2a (hn _) ?_))|(refine GoW.c c46 (by rfl) (by rfl) rfl ?_;(first | refine a3a.b2a (p1 _) ?_ | refine a3a.b2a (p2 _) ?_);refine ⟨by (first|exact fun h=>absurd h (by decide)|(intro _;(simp only [List.append_assoc,List.cons_append,List.nil_append,a7a,a6a,a5a,a4a,and_self]))),?_⟩)|(refine GoR.c c46 (by rfl) (by rfl) rfl ?_;(first | refine a3a.b2a (p1 _) ?_ | refine a3a.b2a (p2 _) ?_))|(refine GoW.c c53 (by rfl) (by rfl) rfl ?_;(refine a3a.b2a (e1 _) ?_);refine ⟨by (first|exact fun h=>absurd h (by decide)|(intro _;(simp only [List.append_assoc,List.cons_append,List.nil_append,a7a,a6a,a5a,a4a,and_self]))),?_⟩)|(refine GoR.c c53 (by rfl) (by rfl) rfl ?_;(refine a3a.b2a (e1 _) ?_))|(refine GoW.c c55 (by rfl) (by rfl) rfl ?_;(refine a3a.b2a (e2 _) ?_);refine ⟨by (first|exact fun h=>absurd h (by decide)|(intro _;(simp only [List.append_assoc,List.cons_append,List.nil_append,a7a,a6a,a5a,a4a,and_self]))),?_⟩)|(refine GoR.c c55 (by rfl) (by rfl) rfl ?_;(refine a3a.b2a (e2 _) ?_))|refine GoR.s (by rfl) rfl rfl ?_|refine GoW.s (by rfl) rfl rfl (by (first|exact fun h=>absurd h (by decide)|(intro _;(simp only [List.append_assoc,List.cons_append,List.nil_append,a7a,a6a,a5a,a4a,and_self])))) ?_|(refine GoR.b1a rfl (fun hc => ?_) (fun hc => ?_)<;>simp only [hc])|refine Go.b0a rfl (fun hc => ?_) (fun hc => ?_))
   refine ⟨(by first | exact .inl rfl | exact .inr rfl),fin ?_⟩
   rw [a8a (fn:=Tryz.f18) rfl]
   simp only [a0a,a2a,a1a,G,Z,Y,Gx,vV,simprocAttr,fb2,fb9,b7a,d7a,d9a]
   exact ⟨_,_,rfl,.of_low (.bool _),by simp⟩
end Go.Proofs.DgT
namespace Go.Proofs.DgT
open Go Go.DM
set_option maxRecDepth 100000
theorem p0c {a b:Nd} : n8b [a] [b]=o7a a b:=by
 rw [Bool.eq_iff_iff,o9c]
 constructor
 ·rintro ⟨_,h⟩
  exact h 0 (by simp) (by simp)
 ·intro h
  refine ⟨rfl,fun i h1 h2 => ?_⟩
  obtain rfl:i=0:=Nat.lt_one_iff.1 h1
  exact h
theorem r7d {a b c d:Nd} : n8b [a,b] [c,d]=(o7a a c&&o7a b d):=by
 rw [Bool.eq_iff_iff,o9c,Bool.and_eq_true]
 constructor
 ·rintro ⟨_,h⟩
  exact ⟨h 0 (by simp) (by simp),h 1 (by simp) (by simp)⟩
 ·rintro ⟨h,h'⟩
  refine ⟨rfl,fun i h1 h2 => ?_⟩
  have h1':i<2:=h1
  have:i=0∨i=1:=by omega
  rcases this with rfl | rfl
  ·exact h
  ·exact h'
theorem a5e {a b:Ag} (h:a.fn≠b.fn):e0b a b=false:=by unfold e0b;rw [decide_eq_false h];rfl
theorem y2b {a b:Ag} (h:a.fn=(⟨#[99,111,117,110,116]⟩:ByteArray)) (h2:a.fn=b.fn):e0b a b=b8b a.w b.w:=by
 unfold e0b l3a
 rw [decide_eq_true h2,← h2,h]
 rfl
theorem y3b {a b:Ag} (h:a.fn=(⟨#[102,105,114,115,116]⟩:ByteArray)) (h2:a.fn=b.fn):e0b a b=(o7a a.e b.e&&o7a a.by_ b.by_&&b8b a.w b.w):=by
 unfold e0b l3a
 rw [decide_eq_true h2,← h2,h,← r7d]
 rfl
theorem o8c {a b:Ag} (h:a.fn=(⟨#[116,111,112]⟩:ByteArray)) (h2:a.fn=b.fn):e0b a b=(decide (a.k=b.k)&&o7a a.e b.e&&b8b a.w b.w):=by
 unfold e0b l3a
 rw [decide_eq_true h2,← h2,h,← p0c]
 rfl
theorem d0c {a b:Ag} (h:f6a a.fn=(false,true,false,true)) (h2:a.fn=b.fn):e0b a b=(o7a a.e b.e&&b8b a.w b.w):=by
 unfold e0b l3a
 rw [decide_eq_true h2,← h2,h,← p0c]
 rfl
set_option maxHeartbeats 3200000 in
theorem c6c (a b:Ag) (hs:z8b a) (g1:(f6a a.fn).2.2.2=true) (hl:a.w.length≤1000) (S:Mem):a3a Tryz.prog O 13 [.agg (Ag.c a),.agg (Ag.c b)] S fun d S'=>S'=S∧d = .bool (e0b a b):=by
 have br:=l9a g1
 have q1 := @a5e a b
 have q2 := @y2b a b
 have q3 := @y3b a b
 have q4 := @o8c a b
 have q5 := @d0c a b
 have hc1:=h4c (orc:=O) _ hs.1 b.e
 have hc2:=h4c (orc:=O) _ hs.2.1 b.by_
 have h3:=hs.2.2
 generalize e0b a b=z at *
 generalize o7a a.e b.e=s1 at *
 generalize o7a a.by_ b.by_=s2 at *
 obtain ⟨fn,k,⟨op1,nm1,n1,ks1⟩,⟨op2,nm2,n2,ks2⟩,w⟩:=a
 obtain ⟨fn',k',⟨op3,nm3,n3,ks3⟩,⟨op4,nm4,n4,ks4⟩,w'⟩:=b
 dsimp only at *
 clear hs
 have hkk:(k != k') = !decide (k=k'):=by rw [Bool.eq_iff_iff];simp
 simp only [Ag.c,Nd.k0a,List.cons_append,List.nil_append] at hc1 hc2 ⊢
 by_cases hfn:fn=fn'
 rotate_left
 ·rw [q1 hfn]
  refine a3a.e Tryz.func13 rfl Tryz.ntmps13 (by rfl) ?_
  repeat' (first|refine Go.a rfl ?_|refine Go.rg ?_|refine GoR.nil ?_|refine Go.ret ?_|refine Go.b rfl ?_|refine Go.rgS dmx (by decide) ?_|(refine GoR.o (by rfl) (by rfl) ?_;(conv=>arg 1;simp only [G,Z,Y,Gx,vV,simprocAttr,fb2,fb3,fb9,h4a,g4a,k4a,k5a,k6a,hfn,not_false_eq_true,not_true_eq_false,ne_eq,Bool.not_true,Bool.not_false,decide_true,decide_false]);show GoR ..)|refine GoR.s (by rfl) rfl rfl ?_|(refine GoR.b1a rfl (fun hc => ?_) (fun hc => ?_)<;>simp only [hc])|refine Go.b0a rfl (fun hc => ?_) (fun hc => ?_))
  refine ⟨(by first | exact .inl rfl | exact .inr rfl),fin ?_⟩
  rw [a8a (fn:=Tryz.f13) rfl]
  simp only [a0a,a2a,a1a,G,Z,Y,Gx,vV,simprocAttr,fb2,fb3,fb9,h4a,g4a,k4a,k5a,k6a]
  exact ⟨_,_,rfl,.of_low (.bool _),rfl⟩
 subst hfn
 clear q1
 refine a3a.e Tryz.func13 rfl Tryz.ntmps13 (by rfl) ?_
 have hdl:(((w.length:Int)) != (w'.length:Int)) = !decide (w.length=w'.length):=by rw [Bool.eq_iff_iff];simp;omega
 apply t4c (z=b8b w w'∧w.length=w'.length)
 ·intro hl
  rcases br with hf | hf | hf | ⟨f1,f2,f3,hN⟩
  ·have fc:(fn=(⟨#[99,111,117,110,116]⟩:ByteArray))=True:=eq_true hf
   have ff:(fn=(⟨#[102,105,114,115,116]⟩:ByteArray))=False:=eq_false (by rw [hf];decide)
   have ft:(fn=(⟨#[116,111,112]⟩:ByteArray))=False:=eq_false (by rw [hf];decide)
   have hz:=q2 hf rfl
   by_cases hlen:w.length=w'.length
   rotate_left
   ·rw [x3a hlen] at hz
    rw [decide_eq_false hlen] at hdl
    repeat' (first|refine Go.a rfl ?_|refine Go.rg ?_|refine GoR.nil ?_|refine Go.ret ?_|refine Go.b rfl ?_|refine Go.rgS dmx (by decide) ?_|(refine GoR.o (by rfl) (by rfl) ?_;(conv=>arg 1;simp only [G,Z,Y,Gx,vV,simprocAttr,fb2,fb3,fb9,h4a,g4a,k4a,k5a,k6a,fc,ff,ft,hkk,decide_true,decide_false,Bool.not_true,Bool.not_false,not_false_eq_true,not_true_eq_false,eq_self_iff_true,ne_eq,bne_self_eq_false,beq_self_eq_true,hdl]);show GoR ..)|(refine GoR.c c42 (by rfl) (by rfl) rfl ?_;(first | refine a3a.b2a (hc1 _) ?_ | refine a3a.b2a (hc2 _) ?_))|refine GoR.s (by rfl) rfl rfl ?_|(refine GoR.b1a rfl (fun hc => ?_) (fun hc => ?_)<;>simp only [hc])|refine Go.b0a rfl (fun hc => ?_) (fun hc => ?_))
    refine ⟨(by first | exact .inl rfl | exact .inr rfl),fin ?_⟩
    rw [a8a (fn:=Tryz.f13) rfl]
    simp only [a0a,a2a,a1a,G,Z,Y,Gx,vV,simprocAttr,fb2,fb3,fb9,h4a,g4a,k4a,k5a,k6a]
    exact ⟨_,_,rfl,.of_low (.bool _),by simp [hz]⟩
   rw [decide_eq_true hlen] at hdl
   repeat' (first|refine Go.a rfl ?_|refine Go.rg ?_|refine GoR.nil ?_|refine Go.ret ?_|refine Go.b rfl ?_|refine Go.rgS dmx (by decide) ?_|(refine GoR.o (by rfl) (by rfl) ?_;(conv=>arg 1;simp only [G,Z,Y,Gx,vV,simprocAttr,fb2,fb3,fb9,h4a,g4a,k4a,k5a,k6a,fc,ff,ft,hkk,decide_true,decide_false,Bool.not_true,Bool.not_false,not_false_eq_true,not_true_eq_false,eq_self_iff_true,ne_eq,bne_self_eq_false,beq_self_eq_true,hdl]);show GoR ..)|(refine GoR.c c42 (by rfl) (by rfl) rfl ?_;(first | refine a3a.b2a (hc1 _) ?_ | refine a3a.b2a (hc2 _) ?_))|refine GoR.s (by rfl) rfl rfl ?_|(refine GoR.b1a rfl (fun hc => ?_) (fun hc => ?_)<;>simp only [hc])|refine Go.b0a rfl (fun hc => ?_) (fun hc => ?_))
   refine Go.keep [(2,.ptr S.length 0),(3,.ptr (S.length+1) 0),(5,.int .i64 (((0:Nat):Int):Int))] (.cons .refl (.cons .refl (.cons .refl (.nil)))) ?_
   exact hl ⟨by simp [hz],hlen⟩
  ·have fc:(fn=(⟨#[99,111,117,110,116]⟩:ByteArray))=False:=eq_false (by rw [hf];decide)
   have ff:(fn=(⟨#[102,105,114,115,116]⟩:ByteArray))=True:=eq_true hf
   have ft:(fn=(⟨#[116,111,112]⟩:ByteArray))=False:=eq_false (by rw [hf];decide)
   have hz:=q3 hf rfl
   cases s1
   ·repeat' (first|refine Go.a rfl ?_|refine Go.rg ?_|refine GoR.nil ?_|refine Go.ret ?_|refine Go.b rfl ?_|refine Go.rgS dmx (by decide) ?_|(refine GoR.o (by rfl) (by rfl) ?_;(conv=>arg 1;simp only [G,Z,Y,Gx,vV,simprocAttr,fb2,fb3,fb9,h4a,g4a,k4a,k5a,k6a,fc,ff,ft,hkk,decide_true,decide_false,Bool.not_true,Bool.not_false,not_false_eq_true,not_true_eq_false,eq_self_iff_true,ne_eq,bne_self_eq_false,beq_self_eq_true,hdl]);show GoR ..)|(refine GoR.c c42 (by rfl) (by rfl) rfl ?_;(first | refine a3a.b2a (hc1 _) ?_ | refine a3a.b2a (hc2 _) ?_))|refine GoR.s (by rfl) rfl rfl ?_|(refine GoR.b1a rfl (fun hc => ?_) (fun hc => ?_)<;>simp only [hc])|refine Go.b0a rfl (fun hc => ?_) (fun hc => ?_))
    refine ⟨(by first | exact .inl rfl | exact .inr rfl),fin ?_⟩
    rw [a8a (fn:=Tryz.f13) rfl]
    simp only [a0a,a2a,a1a,G,Z,Y,Gx,vV,simprocAttr,fb2,fb3,fb9,h4a,g4a,k4a,k5a,k6a]
    exact ⟨_,_,rfl,.of_low (.bool _),by simp [hz]⟩
   cases s2
   ·repeat' (first|refine Go.a rfl ?_|refine Go.rg ?_|refine GoR.nil ?_|refine Go.ret ?_|refine Go.b rfl ?_|refine Go.rgS dmx (by decide) ?_|(refine GoR.o (by rfl) (by rfl) ?_;(conv=>arg 1;simp only [G,Z,Y,Gx,vV,simprocAttr,fb2,fb3,fb9,h4a,g4a,k4a,k5a,k6a,fc,ff,ft,hkk,decide_true,decide_false,Bool.not_true,Bool.not_false,not_false_eq_true,not_true_eq_false,eq_self_iff_true,ne_eq,bne_self_eq_false,beq_self_eq_true,hdl]);show GoR ..)|(refine GoR.c c42 (by rfl) (by rfl) rfl ?_;(first | refine a3a.b2a (hc1 _) ?_ | refine a3a.b2a (hc2 _) ?_))|refine GoR.s (by rfl) rfl rfl ?_|(refine GoR.b1a rfl (fun hc => ?_) (fun hc => ?_)<;>simp only [hc])|refine Go.b0a rfl (fun hc => ?_) (fun hc => ?_))
    refine ⟨(by first | exact .inl rfl | exact .inr rfl),fin ?_⟩
    rw [a8a (fn:=Tryz.f13) rfl]
    simp only [a0a,a2a,a1a,G,Z,Y,Gx,vV,simprocAttr,fb2,fb3,fb9,h4a,g4a,k4a,k5a,k6a]
    exact ⟨_,_,rfl,.of_low (.bool _),by simp [hz]⟩
   by_cases hlen:w.length=w'.length
   rotate_left
   ·rw [x3a hlen] at hz
    rw [decide_eq_false hlen] at hdl
    repeat' (first|refine Go.a rfl ?_|refine Go.rg ?_|refine GoR.nil ?_|refine Go.ret ?_|refine Go.b rfl ?_|refine Go.rgS dmx (by decide) ?_|(refine GoR.o (by rfl) (by rfl) ?_;(conv=>arg 1;simp only [G,Z,Y,Gx,vV,simprocAttr,fb2,fb3,fb9,h4a,g4a,k4a,k5a,k6a,fc,ff,ft,hkk,decide_true,decide_false,Bool.not_true,Bool.not_false,not_false_eq_true,not_true_eq_false,eq_self_iff_true,ne_eq,bne_self_eq_false,beq_self_eq_true,hdl]);show GoR ..)|(refine GoR.c c42 (by rfl) (by rfl) rfl ?_;(first | refine a3a.b2a (hc1 _) ?_ | refine a3a.b2a (hc2 _) ?_))|refine GoR.s (by rfl) rfl rfl ?_|(refine GoR.b1a rfl (fun hc => ?_) (fun hc => ?_)<;>simp only [hc])|refine Go.b0a rfl (fun hc => ?_) (fun hc => ?_))
    refine ⟨(by first | exact .inl rfl | exact .inr rfl),fin ?_⟩
    rw [a8a (fn:=Tryz.f13) rfl]
    simp only [a0a,a2a,a1a,G,Z,Y,Gx,vV,simprocAttr,fb2,fb3,fb9,h4a,g4a,k4a,k5a,k6a]
    exact ⟨_,_,rfl,.of_low (.bool _),by simp [hz]⟩
   rw [decide_eq_true hlen] at hdl
   repeat' (first|refine Go.a rfl ?_|refine Go.rg ?_|refine GoR.nil ?_|refine Go.ret ?_|refine Go.b rfl ?_|refine Go.rgS dmx (by decide) ?_|(refine GoR.o (by rfl) (by rfl) ?_;(conv=>arg 1;simp only [G,Z,Y,Gx,vV,simprocAttr,fb2,fb3,fb9,h4a,g4a,k4a,k5a,k6a,fc,ff,ft,hkk,decide_true,decide_false,Bool.not_true,Bool.not_false,not_false_eq_true,not_true_eq_false,eq_self_iff_true,ne_eq,bne_self_eq_false,beq_self_eq_true,hdl]);show GoR ..)|(refine GoR.c c42 (by rfl) (by rfl) rfl ?_;(first | refine a3a.b2a (hc1 _) ?_ | refine a3a.b2a (hc2 _) ?_))|refine GoR.s (by rfl) rfl rfl ?_|(refine GoR.b1a rfl (fun hc => ?_) (fun hc => ?_)<;>simp only [hc])|refine Go.b0a rfl (fun hc => ?_) (fun hc => ?_))
   refine Go.keep [(2,.ptr S.length 0),(3,.ptr (S.length+1) 0),(5,.int .i64 (((0:Nat):Int):Int))] (.cons .refl (.cons .refl (.cons .refl (.nil)))) ?_
   exact hl ⟨by simp [hz],hlen⟩
  ·have fc:(fn=(⟨#[99,111,117,110,116]⟩:ByteArray))=False:=eq_false (by rw [hf];decide)
   have ff:(fn=(⟨#[102,105,114,115,116]⟩:ByteArray))=False:=eq_false (by rw [hf];decide)
   have ft:(fn=(⟨#[116,111,112]⟩:ByteArray))=True:=eq_true hf
   have hz:=q4 hf rfl
   by_cases hk:k=k'
   rotate_left
   ·rw [decide_eq_false hk] at hkk hz
    repeat' (first|refine Go.a rfl ?_|refine Go.rg ?_|refine GoR.nil ?_|refine Go.ret ?_|refine Go.b rfl ?_|refine Go.rgS dmx (by decide) ?_|(refine GoR.o (by rfl) (by rfl) ?_;(conv=>arg 1;simp only [G,Z,Y,Gx,vV,simprocAttr,fb2,fb3,fb9,h4a,g4a,k4a,k5a,k6a,fc,ff,ft,hkk,decide_true,decide_false,Bool.not_true,Bool.not_false,not_false_eq_true,not_true_eq_false,eq_self_iff_true,ne_eq,bne_self_eq_false,beq_self_eq_true,hdl]);show GoR ..)|(refine GoR.c c42 (by rfl) (by rfl) rfl ?_;(first | refine a3a.b2a (hc1 _) ?_ | refine a3a.b2a (hc2 _) ?_))|refine GoR.s (by rfl) rfl rfl ?_|(refine GoR.b1a rfl (fun hc => ?_) (fun hc => ?_)<;>simp only [hc])|refine Go.b0a rfl (fun hc => ?_) (fun hc => ?_))
    refine ⟨(by first | exact .inl rfl | exact .inr rfl),fin ?_⟩
    rw [a8a (fn:=Tryz.f13) rfl]
    simp only [a0a,a2a,a1a,G,Z,Y,Gx,vV,simprocAttr,fb2,fb3,fb9,h4a,g4a,k4a,k5a,k6a]
    exact ⟨_,_,rfl,.of_low (.bool _),by simp [hz]⟩
   rw [decide_eq_true hk] at hkk hz
   cases s1
   ·repeat' (first|refine Go.a rfl ?_|refine Go.rg ?_|refine GoR.nil ?_|refine Go.ret ?_|refine Go.b rfl ?_|refine Go.rgS dmx (by decide) ?_|(refine GoR.o (by rfl) (by rfl) ?_;(conv=>arg 1;simp only [G,Z,Y,Gx,vV,simprocAttr,fb2,fb3,fb9,h4a,g4a,k4a,k5a,k6a,fc,ff,ft,hkk,decide_true,decide_false,Bool.not_true,Bool.not_false,not_false_eq_true,not_true_eq_false,eq_self_iff_true,ne_eq,bne_self_eq_false,beq_self_eq_true,hdl]);show GoR ..)|(refine GoR.c c42 (by rfl) (by rfl) rfl ?_;(first | refine a3a.b2a (hc1 _) ?_ | refine a3a.b2a (hc2 _) ?_))|refine GoR.s (by rfl) rfl rfl ?_|(refine GoR.b1a rfl (fun hc => ?_) (fun hc => ?_)<;>simp only [hc])|refine Go.b0a rfl (fun hc => ?_) (fun hc => ?_))
    refine ⟨(by first | exact .inl rfl | exact .inr rfl),fin ?_⟩
    rw [a8a (fn:=Tryz.f13) rfl]
    simp only [a0a,a2a,a1a,G,Z,Y,Gx,vV,simprocAttr,fb2,fb3,fb9,h4a,g4a,k4a,k5a,k6a]
    exact ⟨_,_,rfl,.of_low (.bool _),by simp [hz]⟩
   by_cases hlen:w.length=w'.length
   rotate_left
   ·rw [x3a hlen] at hz
    rw [decide_eq_false hlen] at hdl
    repeat' (first|refine Go.a rfl ?_|refine Go.rg ?_|refine GoR.nil ?_|refine Go.ret ?_|refine Go.b rfl ?_|refine Go.rgS dmx (by decide) ?_|(refine GoR.o (by rfl) (by rfl) ?_;(conv=>arg 1;simp only [G,Z,Y,Gx,vV,simprocAttr,fb2,fb3,fb9,h4a,g4a,k4a,k5a,k6a,fc,ff,ft,hkk,decide_true,decide_false,Bool.not_true,Bool.not_false,not_false_eq_true,not_true_eq_false,eq_self_iff_true,ne_eq,bne_self_eq_false,beq_self_eq_true,hdl]);show GoR ..)|(refine GoR.c c42 (by rfl) (by rfl) rfl ?_;(first | refine a3a.b2a (hc1 _) ?_ | refine a3a.b2a (hc2 _) ?_))|refine GoR.s (by rfl) rfl rfl ?_|(refine GoR.b1a rfl (fun hc => ?_) (fun hc => ?_)<;>simp only [hc])|refine Go.b0a rfl (fun hc => ?_) (fun hc => ?_))
    refine ⟨(by first | exact .inl rfl | exact .inr rfl),fin ?_⟩
    rw [a8a (fn:=Tryz.f13) rfl]
    simp only [a0a,a2a,a1a,G,Z,Y,Gx,vV,simprocAttr,fb2,fb3,fb9,h4a,g4a,k4a,k5a,k6a]
    exact ⟨_,_,rfl,.of_low (.bool _),by simp [hz]⟩
   rw [decide_eq_true hlen] at hdl
   repeat' (first|refine Go.a rfl ?_|refine Go.rg ?_|refine GoR.nil ?_|refine Go.ret ?_|refine Go.b rfl ?_|refine Go.rgS dmx (by decide) ?_|(refine GoR.o (by rfl) (by rfl) ?_;(conv=>arg 1;simp only [G,Z,Y,Gx,vV,simprocAttr,fb2,fb3,fb9,h4a,g4a,k4a,k5a,k6a,fc,ff,ft,hkk,decide_true,decide_false,Bool.not_true,Bool.not_false,not_false_eq_true,not_true_eq_false,eq_self_iff_true,ne_eq,bne_self_eq_false,beq_self_eq_true,hdl]);show GoR ..)|(refine GoR.c c42 (by rfl) (by rfl) rfl ?_;(first | refine a3a.b2a (hc1 _) ?_ | refine a3a.b2a (hc2 _) ?_))|refine GoR.s (by rfl) rfl rfl ?_|(refine GoR.b1a rfl (fun hc => ?_) (fun hc => ?_)<;>simp only [hc])|refine Go.b0a rfl (fun hc => ?_) (fun hc => ?_))
   refine Go.keep [(2,.ptr S.length 0),(3,.ptr (S.length+1) 0),(5,.int .i64 (((0:Nat):Int):Int))] (.cons .refl (.cons .refl (.cons .refl (.nil)))) ?_
   exact hl ⟨by simp [hz],hlen⟩
  ·have fc:(fn=(⟨#[99,111,117,110,116]⟩:ByteArray))=False:=eq_false f1
   have ff:(fn=(⟨#[102,105,114,115,116]⟩:ByteArray))=False:=eq_false f3
   have ft:(fn=(⟨#[116,111,112]⟩:ByteArray))=False:=eq_false f2
   have hz:=q5 hN rfl
   cases s1
   ·repeat' (first|refine Go.a rfl ?_|refine Go.rg ?_|refine GoR.nil ?_|refine Go.ret ?_|refine Go.b rfl ?_|refine Go.rgS dmx (by decide) ?_|(refine GoR.o (by rfl) (by rfl) ?_;(conv=>arg 1;simp only [G,Z,Y,Gx,vV,simprocAttr,fb2,fb3,fb9,h4a,g4a,k4a,k5a,k6a,fc,ff,ft,hkk,decide_true,decide_false,Bool.not_true,Bool.not_false,not_false_eq_true,not_true_eq_false,eq_self_iff_true,ne_eq,bne_self_eq_false,beq_self_eq_true,hdl]);show GoR ..)|(refine GoR.c c42 (by rfl) (by rfl) rfl ?_;(first | refine a3a.b2a (hc1 _) ?_ | refine a3a.b2a (hc2 _) ?_))|refine GoR.s (by rfl) rfl rfl ?_|(refine GoR.b1a rfl (fun hc => ?_) (fun hc => ?_)<;>simp only [hc])|refine Go.b0a rfl (fun hc => ?_) (fun hc => ?_))
    refine ⟨(by first | exact .inl rfl | exact .inr rfl),fin ?_⟩
    rw [a8a (fn:=Tryz.f13) rfl]
    simp only [a0a,a2a,a1a,G,Z,Y,Gx,vV,simprocAttr,fb2,fb3,fb9,h4a,g4a,k4a,k5a,k6a]
    exact ⟨_,_,rfl,.of_low (.bool _),by simp [hz]⟩
   by_cases hlen:w.length=w'.length
   rotate_left
   ·rw [x3a hlen] at hz
    rw [decide_eq_false hlen] at hdl
    repeat' (first|refine Go.a rfl ?_|refine Go.rg ?_|refine GoR.nil ?_|refine Go.ret ?_|refine Go.b rfl ?_|refine Go.rgS dmx (by decide) ?_|(refine GoR.o (by rfl) (by rfl) ?_;(conv=>arg 1;simp only [G,Z,Y,Gx,vV,simprocAttr,fb2,fb3,fb9,h4a,g4a,k4a,k5a,k6a,fc,ff,ft,hkk,decide_true,decide_false,Bool.not_true,Bool.not_false,not_false_eq_true,not_true_eq_false,eq_self_iff_true,ne_eq,bne_self_eq_false,beq_self_eq_true,hdl]);show GoR ..)|(refine GoR.c c42 (by rfl) (by rfl) rfl ?_;(first | refine a3a.b2a (hc1 _) ?_ | refine a3a.b2a (hc2 _) ?_))|refine GoR.s (by rfl) rfl rfl ?_|(refine GoR.b1a rfl (fun hc => ?_) (fun hc => ?_)<;>simp only [hc])|refine Go.b0a rfl (fun hc => ?_) (fun hc => ?_))
    refine ⟨(by first | exact .inl rfl | exact .inr rfl),fin ?_⟩
    rw [a8a (fn:=Tryz.f13) rfl]
    simp only [a0a,a2a,a1a,G,Z,Y,Gx,vV,simprocAttr,fb2,fb3,fb9,h4a,g4a,k4a,k5a,k6a]
    exact ⟨_,_,rfl,.of_low (.bool _),by simp [hz]⟩
   rw [decide_eq_true hlen] at hdl
   repeat' (first|refine Go.a rfl ?_|refine Go.rg ?_|refine GoR.nil ?_|refine Go.ret ?_|refine Go.b rfl ?_|refine Go.rgS dmx (by decide) ?_|(refine GoR.o (by rfl) (by rfl) ?_;(conv=>arg 1;simp only [G,Z,Y,Gx,vV,simprocAttr,fb2,fb3,fb9,h4a,g4a,k4a,k5a,k6a,fc,ff,ft,hkk,decide_true,decide_false,Bool.not_true,Bool.not_false,not_false_eq_true,not_true_eq_false,eq_self_iff_true,ne_eq,bne_self_eq_false,beq_self_eq_true,hdl]);show GoR ..)|(refine GoR.c c42 (by rfl) (by rfl) rfl ?_;(first | refine a3a.b2a (hc1 _) ?_ | refine a3a.b2a (hc2 _) ?_))|refine GoR.s (by rfl) rfl rfl ?_|(refine GoR.b1a rfl (fun hc => ?_) (fun hc => ?_)<;>simp only [hc])|refine Go.b0a rfl (fun hc => ?_) (fun hc => ?_))
   refine Go.keep [(2,.ptr S.length 0),(3,.ptr (S.length+1) 0),(5,.int .i64 (((0:Nat):Int):Int))] (.cons .refl (.cons .refl (.cons .refl (.nil)))) ?_
   exact hl ⟨by simp [hz],hlen⟩
 ·rintro ⟨hz,hlen⟩
  subst hz
  refine Go.while (α:=Nat) (fun i=>w.length - i) (fun i=>[(2,.ptr S.length 0),(3,.ptr (S.length+1) 0),(5,.int .i64 ((i:Int):Int))]) (fun _=>S++[.obj [.str fn,.int .i64 k,.str op1,.str nm1,.int .i64 n1,.sl none 4 ks1.length (d3a ks1),.str op2,.str nm2,.int .i64 n2,.sl none 4 ks2.length (d3a ks2),.sl none 9 w.length (i7a w)],.obj [.str fn,.int .i64 k',.str op3,.str nm3,.int .i64 n3,.sl none 4 ks3.length (d3a ks3),.str op4,.str nm4,.int .i64 n4,.sl none 4 ks4.length (d3a ks4),.sl none 9 w'.length (i7a w')]]) (fun i=>i≤w.length ∧ ∀ j (h1:j<w.length) (h2:j<w'.length),j<i→n3b w[j] w'[j]=true) ?_ 0 ⟨Nat.zero_le _,by simp⟩
  rintro i ⟨hi,hk⟩ next
  by_cases hil:i<w.length
  ·have y5e:i<w'.length:=by omega
   obtain ⟨t1,t2,t3,t4,t5,t6⟩:=c5d hil
   obtain ⟨r1,r2,r3,r4,r5,r6⟩:=c5d y5e
   obtain ⟨hs1,hs2⟩:=h3 _ (List.getElem_mem hil)
   have n1:=h4c (orc:=O) _ hs1 w'[i].a
   have n2:=h4c (orc:=O) _ hs2 w'[i].b
   have hno := @h7c w w' i hil y5e
   have hn:=fun (hq:n3b w[i] w'[i]=true)=>next (i+1) (by omega) ⟨hil,fun j hj hj2 hlt=>by
    rcases Nat.lt_or_ge j i with h | h
    ·exact hk j hj hj2 h
    ·obtain rfl:j=i:=by omega
     exact hq⟩
   clear next hs1 hs2 h3 hk
   unfold n3b at hno hn
   generalize w[i]=cd at *
   generalize w'[i]=cd' at *
   obtain ⟨cop,⟨op5,nm5,n5,ks5⟩,⟨op6,nm6,n6,ks6⟩⟩:=cd
   obtain ⟨l1f,⟨op7,nm7,n7,ks7⟩,⟨op8,nm8,n8,ks8⟩⟩:=cd'
   simp only [Nd.k0a] at n1 n2 t2 t4 t6 r2 r4 r6 hno hn
   generalize o7a (.mk op5 nm5 n5 ks5) (.mk op7 nm7 n7 ks7)=y1 at *
   generalize o7a (.mk op6 nm6 n6 ks6) (.mk op8 nm8 n8 ks8)=y2 at *
   by_cases e9f:cop=l1f
   rotate_left
   ·rw [hno (by simp [e9f])]
    repeat' (first|refine Go.a rfl ?_|refine Go.rg ?_|refine GoR.nil ?_|refine Go.ret ?_|refine Go.b rfl ?_|refine Go.rgS dmx (by decide) ?_|(refine GoR.o (by rfl) (by rfl) ?_;(conv=>arg 1;simp only [G,Z,Y,Gx,vV,simprocAttr,fb2,fb3,fb9,h4a,g4a,k4a,k5a,k6a,e9f,t1,t2,t3,t4,t5,t6,r1,r2,r3,r4,r5,r6,beq_self_eq_true,bne_self_eq_false,decide_true,decide_false,eq_self_iff_true,ne_eq,not_true_eq_false,not_false_eq_true,Bool.not_true,Bool.not_false,b9a (show i<4611686018427387904 by omega),show decide ((i:Int)<(w.length:Int))=true by simp;omega]);show GoR ..)|(refine GoR.c c42 (by rfl) (by rfl) rfl ?_;(first | refine a3a.b2a (n1 _) ?_ | refine a3a.b2a (n2 _) ?_))|refine GoR.s (by rfl) rfl rfl ?_|(refine GoR.b1a rfl (fun hc => ?_) (fun hc => ?_)<;>simp only [hc])|refine Go.b0a rfl (fun hc => ?_) (fun hc => ?_))
    refine ⟨(by first | exact .inl rfl | exact .inr rfl),fin ?_⟩
    rw [a8a (fn:=Tryz.f13) rfl]
    simp only [a0a,a2a,a1a,G,Z,Y,Gx,vV,simprocAttr,fb2,fb3,fb9,h4a,g4a,k4a,k5a,k6a]
    exact ⟨_,_,rfl,.of_low (.bool _),rfl⟩
   subst e9f
   cases y1
   ·rw [hno (by simp)]
    repeat' (first|refine Go.a rfl ?_|refine Go.rg ?_|refine GoR.nil ?_|refine Go.ret ?_|refine Go.b rfl ?_|refine Go.rgS dmx (by decide) ?_|(refine GoR.o (by rfl) (by rfl) ?_;(conv=>arg 1;simp only [G,Z,Y,Gx,vV,simprocAttr,fb2,fb3,fb9,h4a,g4a,k4a,k5a,k6a,t1,t2,t3,t4,t5,t6,r1,r2,r3,r4,r5,r6,beq_self_eq_true,bne_self_eq_false,decide_true,decide_false,eq_self_iff_true,ne_eq,not_true_eq_false,not_false_eq_true,Bool.not_true,Bool.not_false,b9a (show i<4611686018427387904 by omega),show decide ((i:Int)<(w.length:Int))=true by simp;omega]);show GoR ..)|(refine GoR.c c42 (by rfl) (by rfl) rfl ?_;(first | refine a3a.b2a (n1 _) ?_ | refine a3a.b2a (n2 _) ?_))|refine GoR.s (by rfl) rfl rfl ?_|(refine GoR.b1a rfl (fun hc => ?_) (fun hc => ?_)<;>simp only [hc])|refine Go.b0a rfl (fun hc => ?_) (fun hc => ?_))
    refine ⟨(by first | exact .inl rfl | exact .inr rfl),fin ?_⟩
    rw [a8a (fn:=Tryz.f13) rfl]
    simp only [a0a,a2a,a1a,G,Z,Y,Gx,vV,simprocAttr,fb2,fb3,fb9,h4a,g4a,k4a,k5a,k6a]
    exact ⟨_,_,rfl,.of_low (.bool _),rfl⟩
   cases y2
   ·rw [hno (by simp)]
    repeat' (first|refine Go.a rfl ?_|refine Go.rg ?_|refine GoR.nil ?_|refine Go.ret ?_|refine Go.b rfl ?_|refine Go.rgS dmx (by decide) ?_|(refine GoR.o (by rfl) (by rfl) ?_;(conv=>arg 1;simp only [G,Z,Y,Gx,vV,simprocAttr,fb2,fb3,fb9,h4a,g4a,k4a,k5a,k6a,t1,t2,t3,t4,t5,t6,r1,r2,r3,r4,r5,r6,beq_self_eq_true,bne_self_eq_false,decide_true,decide_false,eq_self_iff_true,ne_eq,not_true_eq_false,not_false_eq_true,Bool.not_true,Bool.not_false,b9a (show i<4611686018427387904 by omega),show decide ((i:Int)<(w.length:Int))=true by simp;omega]);show GoR ..)|(refine GoR.c c42 (by rfl) (by rfl) rfl ?_;(first | refine a3a.b2a (n1 _) ?_ | refine a3a.b2a (n2 _) ?_))|refine GoR.s (by rfl) rfl rfl ?_|(refine GoR.b1a rfl (fun hc => ?_) (fun hc => ?_)<;>simp only [hc])|refine Go.b0a rfl (fun hc => ?_) (fun hc => ?_))
    refine ⟨(by first | exact .inl rfl | exact .inr rfl),fin ?_⟩
    rw [a8a (fn:=Tryz.f13) rfl]
    simp only [a0a,a2a,a1a,G,Z,Y,Gx,vV,simprocAttr,fb2,fb3,fb9,h4a,g4a,k4a,k5a,k6a]
    exact ⟨_,_,rfl,.of_low (.bool _),rfl⟩
   repeat' (first|refine Go.a rfl ?_|refine Go.rg ?_|refine GoR.nil ?_|refine Go.ret ?_|refine Go.b rfl ?_|refine Go.rgS dmx (by decide) ?_|(refine GoR.o (by rfl) (by rfl) ?_;(conv=>arg 1;simp only [G,Z,Y,Gx,vV,simprocAttr,fb2,fb3,fb9,h4a,g4a,k4a,k5a,k6a,t1,t2,t3,t4,t5,t6,r1,r2,r3,r4,r5,r6,beq_self_eq_true,bne_self_eq_false,decide_true,decide_false,eq_self_iff_true,ne_eq,not_true_eq_false,not_false_eq_true,Bool.not_true,Bool.not_false,b9a (show i<4611686018427387904 by omega),show decide ((i:Int)<(w.length:Int))=true by simp;omega]);show GoR ..)|(refine GoR.c c42 (by rfl) (by rfl) rfl ?_;(first | refine a3a.b2a (n1 _) ?_ | refine a3a.b2a (n2 _) ?_))|refine GoR.s (by rfl) rfl rfl ?_|(refine GoR.b1a rfl (fun hc => ?_) (fun hc => ?_)<;>simp only [hc])|refine Go.b0a rfl (fun hc => ?_) (fun hc => ?_))
   refine Go.lpN ?_
   refine Go.keep [(2,.ptr S.length 0),(3,.ptr (S.length+1) 0),(5,.int .i64 (((i+1:Nat):Int):Int))] (.cons .refl (.cons .refl (.cons .refl (.nil)))) ?_
   exact hn (by simp)
  ·clear next
   rw [k5b hlen fun j hj hj2=>hk j hj hj2 (by omega)]
   repeat' (first|refine Go.a rfl ?_|refine Go.rg ?_|refine GoR.nil ?_|refine Go.ret ?_|refine Go.b rfl ?_|refine Go.rgS dmx (by decide) ?_|(refine GoR.o (by rfl) (by rfl) ?_;(conv=>arg 1;simp only [G,Z,Y,Gx,vV,simprocAttr,fb2,fb3,fb9,h4a,g4a,k4a,k5a,k6a,show decide ((i:Int)<(w.length:Int))=false by simp;omega]);show GoR ..)|refine GoR.s (by rfl) rfl rfl ?_|(refine GoR.b1a rfl (fun hc => ?_) (fun hc => ?_)<;>simp only [hc])|refine Go.b0a rfl (fun hc => ?_) (fun hc => ?_))
   refine ⟨(by first | exact .inl rfl | exact .inr rfl),fin ?_⟩
   rw [a8a (fn:=Tryz.f13) rfl]
   simp only [a0a,a2a,a1a,G,Z,Y,Gx,vV,simprocAttr,fb2,fb3,fb9,h4a,g4a,k4a,k5a,k6a]
   exact ⟨_,_,rfl,.of_low (.bool _),rfl⟩
end Go.Proofs.DgT
