/- Any two folds: the law AggBack. -/
import Derived.Test.YtcdijoaabbjioaaGreatDoorDgG32x
import Derived.Test.YtcdijoaabbjioaaGreatDoorDgG34
import Derived.Test.YtcdijoaabbjioaaGreatDoorDgG20x
import Derived.Test.YtcdijoaabbjioaaGreatDoorDgW1x
import Derived.Test.YtcdijoaabbjioaaGreatDoorDgKn
set_option linter.unusedSimpArgs false
set_option linter.unusedVariables false
namespace Go.Proofs.DgT
open Go Go.DM
set_option maxRecDepth 100000
theorem x9c : ∀ {w:List Cd},a2c w=0 → ∀ c∈w,l1b c=0
 | x::w,h,c,hc=>by
  unfold a2c at h
  by_cases h0:l1b x=0
  ·rw [if_neg (fun q=>q h0)] at h
   rcases List.mem_cons.1 hc with rfl | hc
   ·exact h0
   ·exact x9c h c hc
  ·rw [if_pos h0] at h;exact absurd h h0
theorem i1d {c:Cd} (h:l1b c=0):k0b c.op=true∧checkN c.a=0∧checkN c.b=0:=by
 unfold l1b at h
 cases ho:k0b c.op with
 | false=>rw [ho,if_pos rfl] at h;exact absurd h (by decide)
 | true=>
  rw [ho,if_neg (by decide)] at h
  by_cases h0:checkN c.a=0
  ·rw [if_neg (fun q=>q h0)] at h;exact ⟨rfl,h0,h⟩
  ·rw [if_pos h0] at h;exact absurd h h0
theorem i9e {a:Ag} (hi:d6d a.k∧In64 a.e∧In64 a.by_ ∧ ∀ c∈a.w,In64 c.a∧In64 c.b) (hs:z8b a) (h:h8b a=0):f2b a:=by
 obtain ⟨_,i1,i2,i3⟩:=hi
 unfold h8b at h
 cases hn:(f6a a.fn).2.2.2 with
 | false=>rw [hn,if_pos rfl] at h;exact absurd h (by decide)
 | true=>
  rw [hn,if_neg (by decide)] at h
  by_cases hk:a.fn=(⟨#[116,111,112]⟩:ByteArray)∧(a.k<1∨16<a.k)
  ·rw [if_pos hk] at h;exact absurd h (by decide)
  rw [if_neg hk] at h
  by_cases he:v5d a=0
  rotate_left
  ·rw [if_pos he] at h;exact absurd h he
  rw [if_neg (fun q=>q he)] at h
  by_cases h4:4<a.w.length
  ·rw [if_pos h4] at h;exact absurd h (by decide)
  rw [if_neg h4] at h
  have hE:a.fn≠(⟨#[99,111,117,110,116]⟩:ByteArray)→checkN a.e=0∧(a.fn=(⟨#[102,105,114,115,116]⟩:ByteArray)→checkN a.by_=0):=by
   intro hc
   unfold v5d at he
   rw [if_neg hc] at he
   by_cases e0:checkN a.e=0
   ·rw [if_neg (fun q=>q e0)] at he
    exact ⟨e0,fun hf=>by rwa [if_pos hf] at he⟩
   ·rw [if_pos e0] at he;exact absurd he e0
  refine ⟨hn,fun ht => ?_,fun hc=>k9b i1 hs.1 (hE hc).1,fun hf=>k9b i2 hs.2.1 ((hE (by rw [hf];decide)).2 hf),by omega,fun c hc => ?_⟩
  ·have hq : ¬ (a.k<1∨16<a.k):=fun q=>hk ⟨ht,q⟩
   omega
  ·obtain ⟨c1,c2,c3⟩:=i1d (x9c h c hc)
   exact ⟨c1,k9b (i3 c hc).1 (hs.2.2 c hc).1 c2,k9b (i3 c hc).2 (hs.2.2 c hc).2 c3⟩
theorem r9c {a:Ag} (g:f2b a):h8b a=0:=by
 have hE:v5d a=0:=by
  unfold v5d
  by_cases h1:a.fn=(⟨#[99,111,117,110,116]⟩:ByteArray)
  ·rw [if_pos h1]
  rw [if_neg h1,if_neg (fun q=>q (g.e h1).check)]
  by_cases h2:a.fn=(⟨#[102,105,114,115,116]⟩:ByteArray)
  ·rw [if_pos h2];exact (g.by_ h2).check
  ·rw [if_neg h2]
 have hW : ∀ w:List Cd,(∀ c∈w,k0b c.op=true∧Fine c.a∧Fine c.b)→a2c w=0:=by
  intro w
  induction w with
  | nil=>intro _;rfl
  | cons c w ih=>
   intro h
   obtain ⟨h1,h2,h3⟩:=h c (by simp)
   have hc:l1b c=0:=by
    unfold l1b
    rw [h1,if_neg (by decide),if_neg (fun q=>q h2.check)]
    exact h3.check
   unfold a2c
   rw [if_neg (fun q=>q hc)]
   exact ih fun x hx=>h x (List.mem_cons_of_mem _ hx)
 unfold h8b
 rw [g.fn,if_neg (by decide),if_neg (fun q=>by have:=g.k q.1;omega),if_neg (fun q=>q hE),if_neg (by have:=g.w;omega)]
 exact hW _ g.ws
theorem f6d {a:Ag} (g:f2b a):(r5a a).size≤9653:=by
 have h1:=head_size g
 have h2:=c4b (b:=true) g.ws
 have:=g.w
 unfold r5a
 rw [d2a]
 omega
set_option maxHeartbeats 3200000 in
theorem d7d (a b:Ag) (hia:d6d a.k∧In64 a.e∧In64 a.by_ ∧ ∀ c∈a.w,In64 c.a∧In64 c.b) (hib:d6d b.k∧In64 b.e∧In64 b.by_ ∧ ∀ c∈b.w,In64 c.a∧In64 c.b) :
  a3a Tryz.prog O 4 [.agg (Ag.c a),.agg (Ag.c b)] [] fun d S'=>S'=[]∧d = .bool true:=by
 have fa:=s7e a
 have fb:=s7e b
 have oa:=fun (h:o0b a) S=>f9e a h.f0d (by have:=h.w;omega) S
 have ob:=fun (h:o0b b) S=>f9e b h.f0d (by have:=h.w;omega) S
 have ca:=fun (h:o0b a) S=>h0b a h.f0d (by have:=h.w;omega) S
 have cb:=fun (h:o0b b) S=>h0b b h.f0d (by have:=h.w;omega) S
 have pa:=fun (h:o0b a) S=>u8d a h.f0d (by have:=h.w;omega) S
 have good:=fun (h:o0b a) (hz:h8b a=0)=>i9e hia h.f0d hz
 have ta:=fun (h:o0b a) (hz:h8b a=0) S=>g1e a (good h hz) S
 have tr:=fun (h:o0b a) (hz:h8b a=0) S=>e7d a (good h hz) S
 have sa:=fun (h:o0b a) S=>g0e a b h.f0d (by have:=h.w;omega) S
 have sr:=fun (h:o0b a) (hz:h8b a=0) S=>c6c a b h.f0d (good h hz).fn (by have:=h.w;omega) S
 have ps:=fun (h:o0b a) (hz:h8b a=0) S=>u9d (r5a a) (by have:=f6d (good h hz);omega) S
 have pl := @v3c (r5a a)
 have pb:=fun (h:o0b a) (hz:h8b a=0) (hs:(r5a a).size≤1024)=>v1c (good h hz) hs
 have gx:=fun (h:o0b a) (hz:h8b a=0) (hs:(r5a a).size≤1024)=>v2c (pb h hz hs)
 have sx:=fun (h:o0b a) (hz:h8b a=0) (hs:(r5a a).size≤1024) S=>c6c (m4a a) a (gx h hz hs).2 (gx h hz hs).1.fn (by have:=(gx h hz hs).1.w;omega) S
 have cx:=fun (h:o0b a) (hz:h8b a=0) (hs:(r5a a).size≤1024) S=>h0b (m4a a) (gx h hz hs).2 (by have:=(gx h hz hs).1.w;omega) S
 have ox:=fun (h:o0b a) (hz:h8b a=0) (hs:(r5a a).size≤1024) S=>f9e (m4a a) (gx h hz hs).2 (by have:=(gx h hz hs).1.w;omega) S
 have sq:=fun (h:o0b a) (hz:h8b a=0)=>s0c (good h hz)
 have psL:o0b a→h8b a=0→1024<(r5a a).size → ∀ S,a3a Tryz.prog O 9 [.str (r5a a)] S fun d S'=>S'=S∧d = .tup [.agg (Ag.c b9d),.int .i64 0,.int .i64 4]:=fun h hz hs S=>by
  have:=ps h hz S
  rwa [pl hs] at this
 have psB:o0b a→h8b a=0→(r5a a).size≤1024 → ∀ S,a3a Tryz.prog O 9 [.str (r5a a)] S fun d S'=>S'=S∧d = .tup [.agg (Ag.c (m4a a)),.int .i64 0,.int .i64 0]:=fun h hz hs S=>by
  have:=ps h hz S
  rwa [pb h hz hs] at this
 have cx':o0b a→h8b a=0→(r5a a).size≤1024 → ∀ S,a3a Tryz.prog O 11 [.agg (Ag.c (m4a a))] S fun d S'=>S'=S∧d = .int .i64 0:=fun h hz hs S=>by
  have:=cx h hz hs S
  rwa [r9c (gx h hz hs).1] at this
 have sx':o0b a→h8b a=0→(r5a a).size≤1024 → ∀ S,a3a Tryz.prog O 13 [.agg (Ag.c (m4a a)),.agg (Ag.c a)] S fun d S'=>S'=S∧d = .bool true:=fun h hz hs S=>by
  have:=sx h hz hs S
  rwa [sq h hz] at this
 clear sx cx sq gx pb pl ps good hia hib
 generalize h8b a=z at *
 generalize h8b b=z2 at *
 generalize e0b a b=sab at *
 generalize r5a a=tx at *
 generalize m4a a=x at *
 generalize o0b a=FA at *
 generalize o0b b=FB at *
 obtain ⟨fn1,k1,⟨op1,nm1,n1,ks1⟩,⟨oq1,nq1,m1,kq1⟩,w1⟩:=a
 obtain ⟨fn2,k2,⟨op2,nm2,n2,ks2⟩,⟨oq2,nq2,m2,kq2⟩,w2⟩:=b
 obtain ⟨fn3,k3,⟨op3,nm3,n3,ks3⟩,⟨oq3,nq3,m3,kq3⟩,w3⟩:=x
 simp only [Ag.c,Nd.k0a,b9d,t6a,List.cons_append,List.nil_append] at *
 by_cases h0:z=0
 rotate_left
 ·refine a3a.e Tryz.func4 rfl Tryz.ntmps4 (by rfl) ?_
  repeat' (first|refine Go.a rfl ?_|refine Go.rg ?_|refine GoR.nil ?_|refine Go.ret ?_|refine Go.b rfl ?_|refine Go.rgS dmx (by decide) ?_|refine Go.rgD (id:=11) [8,10] (fun _=>True) dmx (by decide) 11 (by decide) (by trivial) ?_|refine Go.rgD (id:=16) [11] (fun _=>True) dmx (by decide) 12 (by decide) (by trivial) ?_|refine GoW.nil rfl ?_|((first|refine GoR.o (by rfl) (by rfl) ?_|refine GoW.o (by rfl) (by rfl) ?_|refine GoW.rd (by rfl) (by rfl) ?_);(conv=>arg 1;simp only [G,Z,Y,Gx,vV,simprocAttr,fb2,fb3,fb4,fb9,b7a,d7a,d9a,show (z != 0)=true by simpa using h0,bne_self_eq_false]);first|show GoR ..|(show _∧GoW ..;refine ⟨by exact fun _=>trivial,?_⟩)|(show _∧_∧_∧GoW ..;refine ⟨rfl,by trivial,(fun H _=>by simp only [G,Z,Y,Gx,vV,simprocAttr,fb2,fb3,fb4,fb9,b7a,d7a,d9a,show (z != 0)=true by simpa using h0,bne_self_eq_false]),?_⟩))|(refine GoW.c c8 (by rfl) (by rfl) rfl ?_;(refine a3a.b2a (b5b.o8b _) ?_);refine ⟨by exact fun _=>trivial,?_⟩)|(refine GoR.c c8 (by rfl) (by rfl) rfl ?_;(refine a3a.b2a (b5b.o8b _) ?_))|(refine GoW.c c14 (by rfl) (by rfl) rfl ?_;(first | (refine (fa _).w8a ?_;rintro _ ⟨b1,rfl,h1⟩;cases b1) | (refine (fb _).w8a ?_;rintro _ ⟨b2,rfl,h3⟩;cases b2));refine ⟨by exact fun _=>trivial,?_⟩)|(refine GoR.c c14 (by rfl) (by rfl) rfl ?_;(first | (refine (fa _).w8a ?_;rintro _ ⟨b1,rfl,h1⟩;cases b1) | (refine (fb _).w8a ?_;rintro _ ⟨b2,rfl,h3⟩;cases b2)))|(refine GoW.c c12 (by rfl) (by rfl) rfl ?_;(refine a3a.b2a (oa (h1 rfl) _) ?_);refine ⟨by exact fun _=>trivial,?_⟩)|(refine GoR.c c12 (by rfl) (by rfl) rfl ?_;(refine a3a.b2a (oa (h1 rfl) _) ?_))|(refine GoW.c c11 (by rfl) (by rfl) rfl ?_;(refine a3a.b2a (ca (h1 rfl) _) ?_);refine ⟨by exact fun _=>trivial,?_⟩)|(refine GoR.c c11 (by rfl) (by rfl) rfl ?_;(refine a3a.b2a (ca (h1 rfl) _) ?_))|(refine GoW.c c15 (by rfl) (by rfl) rfl ?_;(refine a3a.b2a (pa (h1 rfl) _) ?_);refine ⟨by exact fun _=>trivial,?_⟩)|(refine GoR.c c15 (by rfl) (by rfl) rfl ?_;(refine a3a.b2a (pa (h1 rfl) _) ?_))|refine GoR.s (by rfl) rfl rfl ?_|refine GoW.s (by rfl) rfl rfl (by exact fun _=>trivial) ?_|(refine GoR.b1a rfl (fun hc => ?_) (fun hc => ?_)<;>simp only [hc])|refine Go.b0a rfl (fun hc => ?_) (fun hc => ?_))
  all_goals
   refine ⟨(by first | exact .inl rfl | exact .inr rfl),fin ?_⟩
   rw [a8a (fn:=Tryz.f4) rfl]
   simp only [a0a,a2a,a1a,G,Z,Y,Gx,vV,simprocAttr,fb2,fb3,fb4,fb9,b7a,d7a,d9a]
   exact ⟨_,_,rfl,.of_low (.bool _),rfl⟩
 subst h0
 by_cases h2:z2=0
 rotate_left
 ·refine a3a.e Tryz.func4 rfl Tryz.ntmps4 (by rfl) ?_
  repeat' (first|refine Go.a rfl ?_|refine Go.rg ?_|refine GoR.nil ?_|refine Go.ret ?_|refine Go.b rfl ?_|refine Go.rgS dmx (by decide) ?_|refine Go.rgD (id:=11) [8,10] (fun _=>True) dmx (by decide) 11 (by decide) (by trivial) ?_|refine Go.rgD (id:=16) [11] (fun _=>True) dmx (by decide) 12 (by decide) (by trivial) ?_|refine GoW.nil rfl ?_|((first|refine GoR.o (by rfl) (by rfl) ?_|refine GoW.o (by rfl) (by rfl) ?_|refine GoW.rd (by rfl) (by rfl) ?_);(conv=>arg 1;simp only [G,Z,Y,Gx,vV,simprocAttr,fb2,fb3,fb4,fb9,b7a,d7a,d9a,show (z2 != 0)=true by simpa using h2,bne_self_eq_false]);first|show GoR ..|(show _∧GoW ..;refine ⟨by exact fun _=>trivial,?_⟩)|(show _∧_∧_∧GoW ..;refine ⟨rfl,by trivial,(fun H _=>by simp only [G,Z,Y,Gx,vV,simprocAttr,fb2,fb3,fb4,fb9,b7a,d7a,d9a,show (z2 != 0)=true by simpa using h2,bne_self_eq_false]),?_⟩))|(refine GoW.c c8 (by rfl) (by rfl) rfl ?_;(refine a3a.b2a (b5b.o8b _) ?_);refine ⟨by exact fun _=>trivial,?_⟩)|(refine GoR.c c8 (by rfl) (by rfl) rfl ?_;(refine a3a.b2a (b5b.o8b _) ?_))|(refine GoW.c c14 (by rfl) (by rfl) rfl ?_;(first | (refine (fa _).w8a ?_;rintro _ ⟨b1,rfl,h1⟩;cases b1) | (refine (fb _).w8a ?_;rintro _ ⟨b2,rfl,h3⟩;cases b2));refine ⟨by exact fun _=>trivial,?_⟩)|(refine GoR.c c14 (by rfl) (by rfl) rfl ?_;(first | (refine (fa _).w8a ?_;rintro _ ⟨b1,rfl,h1⟩;cases b1) | (refine (fb _).w8a ?_;rintro _ ⟨b2,rfl,h3⟩;cases b2)))|(refine GoW.c c12 (by rfl) (by rfl) rfl ?_;(first | refine a3a.b2a (oa (h1 rfl) _) ?_ | refine a3a.b2a (ob (h3 rfl) _) ?_);refine ⟨by exact fun _=>trivial,?_⟩)|(refine GoR.c c12 (by rfl) (by rfl) rfl ?_;(first | refine a3a.b2a (oa (h1 rfl) _) ?_ | refine a3a.b2a (ob (h3 rfl) _) ?_))|(refine GoW.c c11 (by rfl) (by rfl) rfl ?_;(first | refine a3a.b2a (ca (h1 rfl) _) ?_ | refine a3a.b2a (cb (h3 rfl) _) ?_);refine ⟨by exact fun _=>trivial,?_⟩)|(refine GoR.c c11 (by rfl) (by rfl) rfl ?_;(first | refine a3a.b2a (ca (h1 rfl) _) ?_ | refine a3a.b2a (cb (h3 rfl) _) ?_))|(refine GoW.c c15 (by rfl) (by rfl) rfl ?_;(refine a3a.b2a (pa (h1 rfl) _) ?_);refine ⟨by exact fun _=>trivial,?_⟩)|(refine GoR.c c15 (by rfl) (by rfl) rfl ?_;(refine a3a.b2a (pa (h1 rfl) _) ?_))|refine GoR.s (by rfl) rfl rfl ?_|refine GoW.s (by rfl) rfl rfl (by exact fun _=>trivial) ?_|(refine GoR.b1a rfl (fun hc => ?_) (fun hc => ?_)<;>simp only [hc])|refine Go.b0a rfl (fun hc => ?_) (fun hc => ?_))
  all_goals
   refine ⟨(by first | exact .inl rfl | exact .inr rfl),fin ?_⟩
   rw [a8a (fn:=Tryz.f4) rfl]
   simp only [a0a,a2a,a1a,G,Z,Y,Gx,vV,simprocAttr,fb2,fb3,fb4,fb9,b7a,d7a,d9a]
   exact ⟨_,_,rfl,.of_low (.bool _),rfl⟩
 subst h2
 by_cases hs:tx.size≤1024
 ·have dl:decide ((tx.size:Int)>1024)=false:=by simp;omega
  have dl2:decide (1024<(tx.size:Int))=false:=by simp;omega
  refine a3a.e Tryz.func4 rfl Tryz.ntmps4 (by rfl) ?_
  repeat' (first|refine Go.a rfl ?_|refine Go.rg ?_|refine GoR.nil ?_|refine Go.ret ?_|refine Go.b rfl ?_|refine Go.rgS dmx (by decide) ?_|refine Go.rgD [8,10] (fun H=>b6a H 0=some [.str fn1,.int .i64 k1,.str op1,.str nm1,.int .i64 n1,.sl none 4 ks1.length (d3a ks1),.str oq1,.str nq1,.int .i64 m1,.sl none 4 kq1.length (d3a kq1),.sl none 9 w1.length (i7a w1)]∧b6a H 1=some [.str fn2,.int .i64 k2,.str op2,.str nm2,.int .i64 n2,.sl none 4 ks2.length (d3a ks2),.str oq2,.str nq2,.int .i64 m2,.sl none 4 kq2.length (d3a kq2),.sl none 9 w2.length (i7a w2)]) dmx (by decide) 11 (by decide) (by (constructor<;>rfl)) ?_|refine GoW.nil rfl ?_|((first|refine GoR.o (by rfl) (by rfl) ?_|refine GoW.o (by rfl) (by rfl) ?_|refine GoW.rd (by rfl) (by rfl) ?_);(conv=>arg 1;simp only [G,Z,Y,Gx,vV,simprocAttr,fb2,fb3,fb4,fb9,b7a,d7a,d9a,dl,dl2,bne_self_eq_false,beq_self_eq_true,decide_true,ne_eq,not_true_eq_false,decide_false]);first|show GoR ..|(show _∧GoW ..;refine ⟨by (first|exact fun h=>absurd h (by decide)|(intro _;(constructor<;>rfl))),?_⟩)|(show _∧_∧_∧GoW ..;refine ⟨rfl,by (constructor<;>rfl),(fun H hI=>by (try dsimp only at hI);simp only [G,Z,Y,Gx,vV,simprocAttr,fb2,fb3,fb4,fb9,b7a,d7a,d9a,dl,dl2,bne_self_eq_false,beq_self_eq_true,decide_true,ne_eq,not_true_eq_false,decide_false,hI]),?_⟩))|(refine GoW.c c8 (by rfl) (by rfl) rfl ?_;(refine a3a.b2a (b5b.o8b _) ?_);refine ⟨by (first|exact fun h=>absurd h (by decide)|(intro _;(constructor<;>rfl))),?_⟩)|(refine GoR.c c8 (by rfl) (by rfl) rfl ?_;(refine a3a.b2a (b5b.o8b _) ?_))|(refine GoW.c c14 (by rfl) (by rfl) rfl ?_;(first | (refine (fa _).w8a ?_;rintro _ ⟨b1,rfl,h1⟩;cases b1) | (refine (fb _).w8a ?_;rintro _ ⟨b2,rfl,h3⟩;cases b2));refine ⟨by (first|exact fun h=>absurd h (by decide)|(intro _;(constructor<;>rfl))),?_⟩)|(refine GoR.c c14 (by rfl) (by rfl) rfl ?_;(first | (refine (fa _).w8a ?_;rintro _ ⟨b1,rfl,h1⟩;cases b1) | (refine (fb _).w8a ?_;rintro _ ⟨b2,rfl,h3⟩;cases b2)))|(refine GoW.c c12 (by rfl) (by rfl) rfl ?_;(first | refine a3a.b2a (oa (h1 rfl) _) ?_ | refine a3a.b2a (ob (h3 rfl) _) ?_);refine ⟨by (first|exact fun h=>absurd h (by decide)|(intro _;(constructor<;>rfl))),?_⟩)|(refine GoR.c c12 (by rfl) (by rfl) rfl ?_;(first | refine a3a.b2a (oa (h1 rfl) _) ?_ | refine a3a.b2a (ob (h3 rfl) _) ?_))|(refine GoW.c c11 (by rfl) (by rfl) rfl ?_;(first | refine a3a.b2a (ca (h1 rfl) _) ?_ | refine a3a.b2a (cb (h3 rfl) _) ?_);refine ⟨by (first|exact fun h=>absurd h (by decide)|(intro _;(constructor<;>rfl))),?_⟩)|(refine GoR.c c11 (by rfl) (by rfl) rfl ?_;(first | refine a3a.b2a (ca (h1 rfl) _) ?_ | refine a3a.b2a (cb (h3 rfl) _) ?_))|(refine GoW.c c15 (by rfl) (by rfl) rfl ?_;(refine a3a.b2a (pa (h1 rfl) _) ?_);refine ⟨by (first|exact fun h=>absurd h (by decide)|(intro _;(constructor<;>rfl))),?_⟩)|(refine GoR.c c15 (by rfl) (by rfl) rfl ?_;(refine a3a.b2a (pa (h1 rfl) _) ?_))|(refine GoW.c c16 (by rfl) (by rfl) rfl ?_;(refine a3a.b2a (tr (h1 rfl) rfl _) ?_);refine ⟨by (first|exact fun h=>absurd h (by decide)|(intro _;(constructor<;>rfl))),?_⟩)|(refine GoR.c c16 (by rfl) (by rfl) rfl ?_;(refine a3a.b2a (tr (h1 rfl) rfl _) ?_))|(refine GoW.c c17 (by rfl) (by rfl) rfl ?_;(refine a3a.b2a (ta (h1 rfl) rfl _) ?_);refine ⟨by (first|exact fun h=>absurd h (by decide)|(intro _;(constructor<;>rfl))),?_⟩)|(refine GoR.c c17 (by rfl) (by rfl) rfl ?_;(refine a3a.b2a (ta (h1 rfl) rfl _) ?_))|(refine GoW.c c18 (by rfl) (by rfl) rfl ?_;(refine a3a.b2a (sa (h1 rfl) _) ?_);refine ⟨by (first|exact fun h=>absurd h (by decide)|(intro _;(constructor<;>rfl))),?_⟩)|(refine GoR.c c18 (by rfl) (by rfl) rfl ?_;(refine a3a.b2a (sa (h1 rfl) _) ?_))|(refine GoW.c c13 (by rfl) (by rfl) rfl ?_;(refine a3a.b2a (sr (h1 rfl) rfl _) ?_);refine ⟨by (first|exact fun h=>absurd h (by decide)|(intro _;(constructor<;>rfl))),?_⟩)|(refine GoR.c c13 (by rfl) (by rfl) rfl ?_;(refine a3a.b2a (sr (h1 rfl) rfl _) ?_))|(refine GoW.c c9 (by rfl) (by rfl) rfl ?_;(refine a3a.b2a (psB (h1 rfl) rfl hs _) ?_);refine ⟨by (first|exact fun h=>absurd h (by decide)|(intro _;(constructor<;>rfl))),?_⟩)|(refine GoR.c c9 (by rfl) (by rfl) rfl ?_;(refine a3a.b2a (psB (h1 rfl) rfl hs _) ?_))|refine GoR.s (by rfl) rfl rfl ?_|refine GoW.s (by rfl) rfl rfl (by (first|exact fun h=>absurd h (by decide)|(intro _;(constructor<;>rfl)))) ?_|(refine GoR.b1a rfl (fun hc => ?_) (fun hc => ?_)<;>simp only [hc])|refine Go.b0a rfl (fun hc => ?_) (fun hc => ?_))
  ·refine ⟨(by first | exact .inl rfl | exact .inr rfl),fin ?_⟩
   rw [a8a (fn:=Tryz.f4) rfl]
   simp only [a0a,a2a,a1a,G,Z,Y,Gx,vV,simprocAttr,fb2,fb3,fb4,fb9,b7a,d7a,d9a]
   exact ⟨_,_,rfl,.of_low (.bool _),rfl⟩
  ·refine ⟨(by first | exact .inl rfl | exact .inr rfl),fin ?_⟩
   rw [a8a (fn:=Tryz.f4) rfl]
   simp only [a0a,a2a,a1a,G,Z,Y,Gx,vV,simprocAttr,fb2,fb3,fb4,fb9,b7a,d7a,d9a]
   exact ⟨_,_,rfl,.of_low (.bool _),rfl⟩
  repeat' (first|refine Go.a rfl ?_|refine Go.rg ?_|refine GoR.nil ?_|refine Go.ret ?_|refine Go.b rfl ?_|refine Go.rgS dmx (by decide) ?_|refine Go.rgD (id:=11) [8,10] (fun H=>b6a H 0=some [.str fn1,.int .i64 k1,.str op1,.str nm1,.int .i64 n1,.sl none 4 ks1.length (d3a ks1),.str oq1,.str nq1,.int .i64 m1,.sl none 4 kq1.length (d3a kq1),.sl none 9 w1.length (i7a w1)]∧b6a H 2=some [.str fn3,.int .i64 k3,.str op3,.str nm3,.int .i64 n3,.sl none 4 ks3.length (d3a ks3),.str oq3,.str nq3,.int .i64 m3,.sl none 4 kq3.length (d3a kq3),.sl none 9 w3.length (i7a w3)]) dmx (by decide) 11 (by decide) (by (constructor<;>rfl)) ?_|refine Go.rgD (id:=16) [11] (fun H=>b6a H 0=some [.str fn1,.int .i64 k1,.str op1,.str nm1,.int .i64 n1,.sl none 4 ks1.length (d3a ks1),.str oq1,.str nq1,.int .i64 m1,.sl none 4 kq1.length (d3a kq1),.sl none 9 w1.length (i7a w1)]∧b6a H 2=some [.str fn3,.int .i64 k3,.str op3,.str nm3,.int .i64 n3,.sl none 4 ks3.length (d3a ks3),.str oq3,.str nq3,.int .i64 m3,.sl none 4 kq3.length (d3a kq3),.sl none 9 w3.length (i7a w3)]) dmx (by decide) 12 (by decide) (by (constructor<;>rfl)) ?_|refine GoW.nil rfl ?_|((first|refine GoR.o (by rfl) (by rfl) ?_|refine GoW.o (by rfl) (by rfl) ?_|refine GoW.rd (by rfl) (by rfl) ?_);(conv=>arg 1;simp only [G,Z,Y,Gx,vV,simprocAttr,fb2,fb3,fb4,fb9,b7a,d7a,d9a,bne_self_eq_false,beq_self_eq_true,decide_true,ne_eq,not_true_eq_false,decide_false]);first|show GoR ..|(show _∧GoW ..;refine ⟨by (first|exact fun h=>absurd h (by decide)|(intro _;(constructor<;>rfl))),?_⟩)|(show _∧_∧_∧GoW ..;refine ⟨rfl,by (constructor<;>rfl),(fun H hI=>by (try dsimp only at hI);simp only [G,Z,Y,Gx,vV,simprocAttr,fb2,fb3,fb4,fb9,b7a,d7a,d9a,bne_self_eq_false,beq_self_eq_true,decide_true,ne_eq,not_true_eq_false,decide_false,hI]),?_⟩))|(refine GoW.c c12 (by rfl) (by rfl) rfl ?_;(first | refine a3a.b2a (oa (h1 rfl) _) ?_ | refine a3a.b2a (ox (h1 rfl) rfl hs _) ?_);refine ⟨by (first|exact fun h=>absurd h (by decide)|(intro _;(constructor<;>rfl))),?_⟩)|(refine GoR.c c12 (by rfl) (by rfl) rfl ?_;(first | refine a3a.b2a (oa (h1 rfl) _) ?_ | refine a3a.b2a (ox (h1 rfl) rfl hs _) ?_))|(refine GoW.c c11 (by rfl) (by rfl) rfl ?_;(refine a3a.b2a (cx' (h1 rfl) rfl hs _) ?_);refine ⟨by (first|exact fun h=>absurd h (by decide)|(intro _;(constructor<;>rfl))),?_⟩)|(refine GoR.c c11 (by rfl) (by rfl) rfl ?_;(refine a3a.b2a (cx' (h1 rfl) rfl hs _) ?_))|(refine GoW.c c13 (by rfl) (by rfl) rfl ?_;(refine a3a.b2a (sx' (h1 rfl) rfl hs _) ?_);refine ⟨by (first|exact fun h=>absurd h (by decide)|(intro _;(constructor<;>rfl))),?_⟩)|(refine GoR.c c13 (by rfl) (by rfl) rfl ?_;(refine a3a.b2a (sx' (h1 rfl) rfl hs _) ?_))|refine GoR.s (by rfl) rfl rfl ?_|refine GoW.s (by rfl) rfl rfl (by (first|exact fun h=>absurd h (by decide)|(intro _;(constructor<;>rfl)))) ?_|(refine GoR.b1a rfl (fun hc => ?_) (fun hc => ?_)<;>simp only [hc])|refine Go.b0a rfl (fun hc => ?_) (fun hc => ?_))
  refine ⟨(by first | exact .inl rfl | exact .inr rfl),fin ?_⟩
  rw [a8a (fn:=Tryz.f4) rfl]
  simp only [a0a,a2a,a1a,G,Z,Y,Gx,vV,simprocAttr,fb2,fb3,fb4,fb9,b7a,d7a,d9a]
  exact ⟨_,_,rfl,.of_low (.bool _),rfl⟩
 ·have dl:decide ((tx.size:Int)>1024)=true:=by simp;omega
  have dl2:decide (1024<(tx.size:Int))=true:=by simp;omega
  refine a3a.e Tryz.func4 rfl Tryz.ntmps4 (by rfl) ?_
  repeat' (first|refine Go.a rfl ?_|refine Go.rg ?_|refine GoR.nil ?_|refine Go.ret ?_|refine Go.b rfl ?_|refine Go.rgS dmx (by decide) ?_|refine Go.rgD (id:=11) [8,10] (fun H=>b6a H 0=some [.str fn1,.int .i64 k1,.str op1,.str nm1,.int .i64 n1,.sl none 4 ks1.length (d3a ks1),.str oq1,.str nq1,.int .i64 m1,.sl none 4 kq1.length (d3a kq1),.sl none 9 w1.length (i7a w1)]∧b6a H 1=some [.str fn2,.int .i64 k2,.str op2,.str nm2,.int .i64 n2,.sl none 4 ks2.length (d3a ks2),.str oq2,.str nq2,.int .i64 m2,.sl none 4 kq2.length (d3a kq2),.sl none 9 w2.length (i7a w2)]) dmx (by decide) 11 (by decide) (by (constructor<;>rfl)) ?_|refine Go.rgD (id:=16) [11] (fun H=>b6a H 0=some [.str fn1,.int .i64 k1,.str op1,.str nm1,.int .i64 n1,.sl none 4 ks1.length (d3a ks1),.str oq1,.str nq1,.int .i64 m1,.sl none 4 kq1.length (d3a kq1),.sl none 9 w1.length (i7a w1)]∧b6a H 1=some [.str fn2,.int .i64 k2,.str op2,.str nm2,.int .i64 n2,.sl none 4 ks2.length (d3a ks2),.str oq2,.str nq2,.int .i64 m2,.sl none 4 kq2.length (d3a kq2),.sl none 9 w2.length (i7a w2)]) dmx (by decide) 12 (by decide) (by (constructor<;>rfl)) ?_|refine GoW.nil rfl ?_|((first|refine GoR.o (by rfl) (by rfl) ?_|refine GoW.o (by rfl) (by rfl) ?_|refine GoW.rd (by rfl) (by rfl) ?_);(conv=>arg 1;simp only [G,Z,Y,Gx,vV,simprocAttr,fb2,fb3,fb4,fb9,b7a,d7a,d9a,dl,dl2,bne_self_eq_false,beq_self_eq_true,decide_true,ne_eq,not_true_eq_false,decide_false]);first|show GoR ..|(show _∧GoW ..;refine ⟨by (first|exact fun h=>absurd h (by decide)|(intro _;(constructor<;>rfl))),?_⟩)|(show _∧_∧_∧GoW ..;refine ⟨rfl,by (constructor<;>rfl),(fun H hI=>by (try dsimp only at hI);simp only [G,Z,Y,Gx,vV,simprocAttr,fb2,fb3,fb4,fb9,b7a,d7a,d9a,dl,dl2,bne_self_eq_false,beq_self_eq_true,decide_true,ne_eq,not_true_eq_false,decide_false,hI]),?_⟩))|(refine GoW.c c8 (by rfl) (by rfl) rfl ?_;(refine a3a.b2a (b5b.o8b _) ?_);refine ⟨by (first|exact fun h=>absurd h (by decide)|(intro _;(constructor<;>rfl))),?_⟩)|(refine GoR.c c8 (by rfl) (by rfl) rfl ?_;(refine a3a.b2a (b5b.o8b _) ?_))|(refine GoW.c c14 (by rfl) (by rfl) rfl ?_;(first | (refine (fa _).w8a ?_;rintro _ ⟨b1,rfl,h1⟩;cases b1) | (refine (fb _).w8a ?_;rintro _ ⟨b2,rfl,h3⟩;cases b2));refine ⟨by (first|exact fun h=>absurd h (by decide)|(intro _;(constructor<;>rfl))),?_⟩)|(refine GoR.c c14 (by rfl) (by rfl) rfl ?_;(first | (refine (fa _).w8a ?_;rintro _ ⟨b1,rfl,h1⟩;cases b1) | (refine (fb _).w8a ?_;rintro _ ⟨b2,rfl,h3⟩;cases b2)))|(refine GoW.c c12 (by rfl) (by rfl) rfl ?_;(first | refine a3a.b2a (oa (h1 rfl) _) ?_ | refine a3a.b2a (ob (h3 rfl) _) ?_);refine ⟨by (first|exact fun h=>absurd h (by decide)|(intro _;(constructor<;>rfl))),?_⟩)|(refine GoR.c c12 (by rfl) (by rfl) rfl ?_;(first | refine a3a.b2a (oa (h1 rfl) _) ?_ | refine a3a.b2a (ob (h3 rfl) _) ?_))|(refine GoW.c c11 (by rfl) (by rfl) rfl ?_;(first | refine a3a.b2a (ca (h1 rfl) _) ?_ | refine a3a.b2a (cb (h3 rfl) _) ?_);refine ⟨by (first|exact fun h=>absurd h (by decide)|(intro _;(constructor<;>rfl))),?_⟩)|(refine GoR.c c11 (by rfl) (by rfl) rfl ?_;(first | refine a3a.b2a (ca (h1 rfl) _) ?_ | refine a3a.b2a (cb (h3 rfl) _) ?_))|(refine GoW.c c15 (by rfl) (by rfl) rfl ?_;(refine a3a.b2a (pa (h1 rfl) _) ?_);refine ⟨by (first|exact fun h=>absurd h (by decide)|(intro _;(constructor<;>rfl))),?_⟩)|(refine GoR.c c15 (by rfl) (by rfl) rfl ?_;(refine a3a.b2a (pa (h1 rfl) _) ?_))|(refine GoW.c c16 (by rfl) (by rfl) rfl ?_;(refine a3a.b2a (tr (h1 rfl) rfl _) ?_);refine ⟨by (first|exact fun h=>absurd h (by decide)|(intro _;(constructor<;>rfl))),?_⟩)|(refine GoR.c c16 (by rfl) (by rfl) rfl ?_;(refine a3a.b2a (tr (h1 rfl) rfl _) ?_))|(refine GoW.c c17 (by rfl) (by rfl) rfl ?_;(refine a3a.b2a (ta (h1 rfl) rfl _) ?_);refine ⟨by (first|exact fun h=>absurd h (by decide)|(intro _;(constructor<;>rfl))),?_⟩)|(refine GoR.c c17 (by rfl) (by rfl) rfl ?_;(refine a3a.b2a (ta (h1 rfl) rfl _) ?_))|(refine GoW.c c18 (by rfl) (by rfl) rfl ?_;(refine a3a.b2a (sa (h1 rfl) _) ?_);refine ⟨by (first|exact fun h=>absurd h (by decide)|(intro _;(constructor<;>rfl))),?_⟩)|(refine GoR.c c18 (by rfl) (by rfl) rfl ?_;(refine a3a.b2a (sa (h1 rfl) _) ?_))|(refine GoW.c c13 (by rfl) (by rfl) rfl ?_;(refine a3a.b2a (sr (h1 rfl) rfl _) ?_);refine ⟨by (first|exact fun h=>absurd h (by decide)|(intro _;(constructor<;>rfl))),?_⟩)|(refine GoR.c c13 (by rfl) (by rfl) rfl ?_;(refine a3a.b2a (sr (h1 rfl) rfl _) ?_))|(refine GoW.c c9 (by rfl) (by rfl) rfl ?_;(refine a3a.b2a (psL (h1 rfl) rfl (by omega) _) ?_);refine ⟨by (first|exact fun h=>absurd h (by decide)|(intro _;(constructor<;>rfl))),?_⟩)|(refine GoR.c c9 (by rfl) (by rfl) rfl ?_;(refine a3a.b2a (psL (h1 rfl) rfl (by omega) _) ?_))|refine GoR.s (by rfl) rfl rfl ?_|refine GoW.s (by rfl) rfl rfl (by (first|exact fun h=>absurd h (by decide)|(intro _;(constructor<;>rfl)))) ?_|(refine GoR.b1a rfl (fun hc => ?_) (fun hc => ?_)<;>simp only [hc])|refine Go.b0a rfl (fun hc => ?_) (fun hc => ?_))
  all_goals
   refine ⟨(by first | exact .inl rfl | exact .inr rfl),fin ?_⟩
   rw [a8a (fn:=Tryz.f4) rfl]
   simp only [a0a,a2a,a1a,G,Z,Y,Gx,vV,simprocAttr,fb2,fb3,fb4,fb9,b7a,d7a,d9a]
   exact ⟨_,_,rfl,.of_low (.bool _),rfl⟩
end Go.Proofs.DgT
