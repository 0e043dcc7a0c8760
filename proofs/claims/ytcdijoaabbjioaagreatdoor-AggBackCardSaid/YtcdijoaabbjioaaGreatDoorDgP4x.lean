/- The program's parser: products, sums, factors. -/
import Derived.Test.YtcdijoaabbjioaaGreatDoorDgP1x
import Derived.Test.YtcdijoaabbjioaaGreatDoorDgL6x
set_option linter.unusedSimpArgs false
set_option linter.unusedVariables false
namespace Go.Proofs.DgT
open Go Go.DM
set_option maxRecDepth 100000
theorem o8f {l:List Tok} (hl:l.length<100000) {o f:Nat} (hp:j8c l o 217 (j7d l f)):j8c l o 193 (u2d l f):=by
 intro M n0 hF st r hb hr
 obtain ⟨m1,m2,m3,m4,m5,m6,m7,m8,m9,m10,m11⟩:=hF.facts
 have mm:=hF.facts
 have hf:=fun own (E:Mem)=>s8e hl (fn:=Tryz.f217) Tryz.func217 (by decide) (by rfl) hp mulS (by decide) own f (hF.app E) st r hb hr
 refine ⟨(hf none []).1,?_⟩
 have hf2 : ∀ own (E:Mem),a3a Tryz.prog O 192 [.ptr o 0,.fn (.func 217) [.ptr o 0] [],.sl own 1 3 [.str (⟨#[42]⟩:ByteArray),.str (⟨#[47]⟩:ByteArray),.str (⟨#[37]⟩:ByteArray)]] (M (pC l st)++E) fun d S'=>S'=M (pC l r.2)++E∧d = .agg r.1.c:=fun own E=>(hf own E).2
 clear hf
 obtain ⟨nd,st1⟩:=r
 obtain ⟨y1,hy1,hk1⟩:=g2b nd
 have ho1:=hk1.one
 have hc1:=hk1.cells
 simp only [hy1,ndX] at hf2
 refine a3a.b0c hF ?_
 refine a3a.eb Tryz.func193 rfl Tryz.ntmps193 (by rfl) ?_
 repeat' (first|refine Go.a rfl ?_|refine Go.rg ?_|refine GoR.nil ?_|refine Go.ret ?_|refine Go.b rfl ?_|(refine GoR.o (by rfl) (by rfl) ?_;(conv=>arg 1;simp only [G,Z,Y,Gx,vV,simprocAttr,fb2,fb9,c2a,b7a,g2a,mm,ho1,hc1]);show GoR ..)|(refine GoR.c i7f (by rfl) (by rfl) rfl ?_;(refine a3a.b2a (hf2 _ _) ?_))|refine Go.b0a rfl (fun hc => ?_) (fun hc => ?_))
 refine ⟨(by first | exact .inl rfl | exact .inr rfl),fin ?_⟩
 rw [g3a (fn:=Tryz.f193) rfl]
 simp only [a0a,a2a,a1a,G,Z,Y,Gx,vV,simprocAttr,fb2,fb9,c2a,b7a,g2a,mm,ho1,hc1]
 exact ⟨_,rfl,n9a l _,.agg' (w0b hk1),s3a _⟩
theorem sumW {l:List Tok} (hl:l.length<100000) {o f:Nat} (hp:j8c l o 217 (j7d l f)):j8c l o 157 (sumF l f):=by
 intro M n0 hF st r hb hr
 obtain ⟨m1,m2,m3,m4,m5,m6,m7,m8,m9,m10,m11⟩:=hF.facts
 have mm:=hF.facts
 have hf:=fun own (E:Mem)=>s8e hl (fn:=Tryz.f193) Tryz.func193 (by decide) (by rfl) (o8f hl hp) g4d (by decide) own f (hF.app E) st r hb hr
 refine ⟨(hf none []).1,?_⟩
 have hf2 : ∀ own (E:Mem),a3a Tryz.prog O 192 [.ptr o 0,.fn (.func 193) [.ptr o 0] [],.sl own 1 2 [.str (⟨#[43]⟩:ByteArray),.str (⟨#[45]⟩:ByteArray)]] (M (pC l st)++E) fun d S'=>S'=M (pC l r.2)++E∧d = .agg r.1.c:=fun own E=>(hf own E).2
 clear hf
 obtain ⟨nd,st1⟩:=r
 obtain ⟨y1,hy1,hk1⟩:=g2b nd
 have ho1:=hk1.one
 have hc1:=hk1.cells
 simp only [hy1,ndX] at hf2
 refine a3a.b0c hF ?_
 refine a3a.eb Tryz.func157 rfl Tryz.ntmps157 (by rfl) ?_
 repeat' (first|refine Go.a rfl ?_|refine Go.rg ?_|refine GoR.nil ?_|refine Go.ret ?_|refine Go.b rfl ?_|(refine GoR.o (by rfl) (by rfl) ?_;(conv=>arg 1;simp only [G,Z,Y,Gx,vV,simprocAttr,fb2,fb9,c2a,b7a,g2a,mm,ho1,hc1]);show GoR ..)|(refine GoR.c i7f (by rfl) (by rfl) rfl ?_;(refine a3a.b2a (hf2 _ _) ?_))|refine Go.b0a rfl (fun hc => ?_) (fun hc => ?_))
 refine ⟨(by first | exact .inl rfl | exact .inr rfl),fin ?_⟩
 rw [g3a (fn:=Tryz.f157) rfl]
 simp only [a0a,a2a,a1a,G,Z,Y,Gx,vV,simprocAttr,fb2,fb9,c2a,b7a,g2a,mm,ho1,hc1]
 exact ⟨_,rfl,n9a l _,.agg' (w0b hk1),s3a _⟩
theorem g5c {m:Nat} : p2a m (.agg [.str ⟨#[]⟩,.str ⟨#[]⟩,.int .i64 0,.sl none 4 0 (d3a [])]):=by
 have:=s3a (m:=m) t6a
 rw [t6a,Nd.k0a] at this
 exact this
theorem m4b {l:List Tok} {i:Nat} (h:i<l.length) {s:ByteArray} : isT l i [s]=(decide (l[i].k=3)&&decide (l[i].t=s)):=by
 unfold isT
 rw [List.getElem?_eq_getElem h]
 simp
set_option maxHeartbeats 4000000 in
theorem j0f {l:List Tok} (hl:l.length<100000) {o:Nat} : ∀ f,j8c l o 217 (j7d l f)
 | 0=>by intro M n0 hF st r hb hr;cases hr
 | f+1=>by
  intro M n0 hF st r hb hr
  have ihf:=j0f hl (o:=o) f
  have ihs:=sumW hl ihf
  obtain ⟨m1,m2,m3,m4,m5,m6,m7,m8,m9,m10,m11⟩:=hF.facts
  have mm:=hF.facts
  have hq:=fun own (E:Mem) (s:ByteArray)=>g9f hF E l st own [s] (by simp)
  rw [u1b] at hr
  obtain ⟨i,n,e⟩:=st
  by_cases he:e≠0
  ·rw [if_pos he] at hr
   cases hr
   refine ⟨hb,a3a.b0c hF ?_⟩
   refine a3a.eb Tryz.func217 rfl Tryz.ntmps217 (by rfl) ?_
   repeat' (first|refine Go.a rfl ?_|refine Go.rg ?_|refine GoR.nil ?_|refine Go.ret ?_|refine Go.b rfl ?_|refine Go.rgS dmx (by decide) ?_|refine Go.rgD [3,7,9] (fun _=>True) dmx (by decide) 11 (by decide) (by trivial) ?_|refine GoW.nil rfl ?_|((first|refine GoR.o (by rfl) (by rfl) ?_|refine GoW.o (by rfl) (by rfl) ?_|refine GoW.rd (by rfl) (by rfl) ?_);(conv=>arg 1;simp only [G,Z,Y,Gx,vV,simprocAttr,fb2,fb3,fb9,c2a,b7a,c8a,d4a,d5a,g2a,h8a,mm,p9a,show (e==0)=false by simpa using he,show (e != 0)=true by simpa using he]);first|show GoR ..|(show _∧GoW ..;refine ⟨by exact fun _=>trivial,?_⟩)|(show _∧_∧_∧GoW ..;refine ⟨rfl,by trivial,(fun H _=>by simp only [G,Z,Y,Gx,vV,simprocAttr,fb2,fb3,fb9,c2a,b7a,c8a,d4a,d5a,g2a,h8a,mm,p9a,show (e==0)=false by simpa using he,show (e != 0)=true by simpa using he]),?_⟩))|refine Go.b0a rfl (fun hc => ?_) (fun hc => ?_))
   refine ⟨(by first | exact .inl rfl | exact .inr rfl),fin ?_⟩
   rw [g3a (fn:=Tryz.f217) rfl]
   simp only [a0a,a2a,a1a,G,Z,Y,Gx,vV,simprocAttr,fb2,fb3,fb9,c2a,b7a,c8a,d4a,d5a,g2a,h8a,mm]
   exact ⟨_,rfl,n9a l _,w2b,s3a _⟩
  rw [if_neg he] at hr
  obtain rfl:e=0:=Decidable.not_not.1 he
  have x6d:=fun (E:Mem) x=>e6e hF E l ⟨i,n,0⟩ rfl x
  cases hqi:l[i]? with
  | none=>
   dsimp only at hr
   rw [hqi] at hr
   cases hr
   have hge:l.length≤i:=by simpa using hqi
   refine ⟨⟨hb.1,hb.2.1,nz2⟩,a3a.b0c hF ?_⟩
   refine a3a.eb Tryz.func217 rfl Tryz.ntmps217 (by rfl) ?_
   repeat' (first|refine Go.a rfl ?_|refine Go.rg ?_|refine GoR.nil ?_|refine Go.ret ?_|refine Go.b rfl ?_|refine Go.rgS dmx (by decide) ?_|refine Go.rgD [3,7,9] (fun _=>True) dmx (by decide) 11 (by decide) (by trivial) ?_|refine GoW.nil rfl ?_|((first|refine GoR.o (by rfl) (by rfl) ?_|refine GoW.o (by rfl) (by rfl) ?_|refine GoW.rd (by rfl) (by rfl) ?_);(conv=>arg 1;simp only [G,Z,Y,Gx,vV,simprocAttr,fb2,fb3,fb9,c2a,b7a,c8a,d4a,d5a,g2a,h8a,mm,p9a,show decide ((i:Int)≥(l.length:Int))=true by simp;omega,show decide ((l.length:Int)≤(i:Int))=true by simp;omega,t6a,Nd.k0a]);first|show GoR ..|(show _∧GoW ..;refine ⟨by exact fun _=>trivial,?_⟩)|(show _∧_∧_∧GoW ..;refine ⟨rfl,by trivial,(fun H _=>by simp only [G,Z,Y,Gx,vV,simprocAttr,fb2,fb3,fb9,c2a,b7a,c8a,d4a,d5a,g2a,h8a,mm,p9a,show decide ((i:Int)≥(l.length:Int))=true by simp;omega,show decide ((l.length:Int)≤(i:Int))=true by simp;omega,t6a,Nd.k0a]),?_⟩))|(refine GoW.c c234 (by rfl) (by rfl) rfl ?_;(refine a3a.b2a (x6d _ _) ?_);refine ⟨by exact fun _=>trivial,?_⟩)|(refine GoR.c c234 (by rfl) (by rfl) rfl ?_;(refine a3a.b2a (x6d _ _) ?_))|refine Go.b0a rfl (fun hc => ?_) (fun hc => ?_))
   refine ⟨(by first | exact .inl rfl | exact .inr rfl),fin ?_⟩
   rw [g3a (fn:=Tryz.f217) rfl]
   simp only [a0a,a2a,a1a,G,Z,Y,Gx,vV,simprocAttr,fb2,fb3,fb9,c2a,b7a,c8a,d4a,d5a,g2a,h8a,mm,t6a,Nd.k0a]
   exact ⟨_,rfl,n9a l _,.refl,g5c⟩
  | some t=>
   dsimp only at hr
   rw [hqi] at hr
   obtain ⟨hi,rfl⟩:=List.getElem?_eq_some_iff.1 hqi
   dsimp only at hr
   clear hqi
   have d1:decide ((i:Int)≥(l.length:Int))=false:=by simp;omega
   have d2:decide ((l.length:Int)≤(i:Int))=false:=by simp;omega
   have hn:n≤32:=hb.2.2 rfl
   have j4b:=fun (E:Mem)=>e7e hF E l ⟨i,n,0⟩ rfl (by dsimp only;omega) (by dsimp only;omega)
   by_cases hk:l[i].k=3
   ·rw [if_pos hk] at hr
    by_cases ho:l[i].t=(⟨#[40]⟩:ByteArray)
    ·rw [if_pos ho] at hr
     have hq1:isT l i [(⟨#[40]⟩:ByteArray)]=true:=by rw [m4b hi];simp [hk,ho]
     cases hs:sumF l f ⟨i+1,n,0⟩ with
     | none=>rw [hs] at hr;cases hr
     | some r1=>
     rw [hs,Option.map_some] at hr
     have hbs:Bs l ⟨i+1,n,0⟩:=⟨hi,by dsimp only;omega,fun _=>hn⟩
     obtain ⟨hb1,_⟩:=ihs.at hF [] hbs hs
     have hp1:=fun E=>(ihs.at hF E hbs hs).2
     obtain ⟨⟨op1,nm1,k1,ks1⟩,⟨i1,n1,e1⟩⟩:=r1
     obtain ⟨y1,hy1,hk1⟩:=g2b (.mk op1 nm1 k1 ks1)
     simp only [hy1,ndX,Nd.op,Nd.name,Nd.n] at hp1
     have ho1:=hk1.one
     have hc1:=hk1.cells
     have hend:=fun own (E:Mem) (s:ByteArray)=>g9f hF E l ⟨i1,n1,e1⟩ own [s] (by simp)
     simp only [k6c] at hr
     by_cases he1:e1≠0
     ·rw [if_pos he1] at hr
      cases hr
      refine ⟨hb1,a3a.b0c hF ?_⟩
      refine a3a.eb Tryz.func217 rfl Tryz.ntmps217 (by rfl) ?_
      repeat' (first|refine Go.a rfl ?_|refine Go.rg ?_|refine GoR.nil ?_|refine Go.ret ?_|refine Go.b rfl ?_|refine Go.rgS dmx (by decide) ?_|refine Go.rgD [3,7,9] (fun _=>True) dmx (by decide) 11 (by decide) (by trivial) ?_|refine GoW.nil rfl ?_|((first|refine GoR.o (by rfl) (by rfl) ?_|refine GoW.o (by rfl) (by rfl) ?_|refine GoW.rd (by rfl) (by rfl) ?_);(conv=>arg 1;simp only [G,Z,Y,Gx,vV,simprocAttr,fb2,fb3,fb9,c2a,b7a,c8a,d4a,d5a,g2a,h8a,mm,p9a,e4d,d1,d2,hq1,ho1,hc1,b9a (show i<4611686018427387904 by omega),show (e1==0)=false by simpa using he1,show (e1 != 0)=true by simpa using he1]);first|show GoR ..|(show _∧GoW ..;refine ⟨by exact fun _=>trivial,?_⟩)|(show _∧_∧_∧GoW ..;refine ⟨rfl,by trivial,(fun H _=>by simp only [G,Z,Y,Gx,vV,simprocAttr,fb2,fb3,fb9,c2a,b7a,c8a,d4a,d5a,g2a,h8a,mm,p9a,e4d,d1,d2,hq1,ho1,hc1,b9a (show i<4611686018427387904 by omega),show (e1==0)=false by simpa using he1,show (e1 != 0)=true by simpa using he1]),?_⟩))|(refine GoW.c o3b (by rfl) (by rfl) rfl ?_;(refine a3a.b2a (hq _ _ _) ?_);refine ⟨by exact fun _=>trivial,?_⟩)|(refine GoR.c o3b (by rfl) (by rfl) rfl ?_;(refine a3a.b2a (hq _ _ _) ?_))|(refine GoW.c c157 (by rfl) (by rfl) rfl ?_;(refine a3a.b2a (hp1 _) ?_);refine ⟨by exact fun _=>trivial,?_⟩)|(refine GoR.c c157 (by rfl) (by rfl) rfl ?_;(refine a3a.b2a (hp1 _) ?_))|refine Go.b0a rfl (fun hc => ?_) (fun hc => ?_))
      refine ⟨(by first | exact .inl rfl | exact .inr rfl),fin ?_⟩
      rw [g3a (fn:=Tryz.f217) rfl]
      simp only [a0a,a2a,a1a,G,Z,Y,Gx,vV,simprocAttr,fb2,fb3,fb9,c2a,b7a,c8a,d4a,d5a,g2a,h8a,mm]
      exact ⟨_,rfl,n9a l _,w2b,s3a _⟩
     ·rw [if_neg he1] at hr
      obtain rfl:e1=0:=Decidable.not_not.1 he1
      by_cases hx:isT l i1 y3e=true
      ·rw [if_pos hx] at hr
       cases hr
       obtain ⟨hi1,_⟩:=m3c hx
       have hx2:isT l i1 [(⟨#[41]⟩:ByteArray)]=true:=hx
       refine ⟨⟨hi1,hb1.2.1,fun _=>hb1.2.2 rfl⟩,a3a.b0c hF ?_⟩
       refine a3a.eb Tryz.func217 rfl Tryz.ntmps217 (by rfl) ?_
       repeat' (first|refine Go.a rfl ?_|refine Go.rg ?_|refine GoR.nil ?_|refine Go.ret ?_|refine Go.b rfl ?_|refine Go.rgS dmx (by decide) ?_|refine Go.rgD [3,7,9] (fun _=>True) dmx (by decide) 11 (by decide) (by trivial) ?_|refine GoW.nil rfl ?_|((first|refine GoR.o (by rfl) (by rfl) ?_|refine GoW.o (by rfl) (by rfl) ?_|refine GoW.rd (by rfl) (by rfl) ?_);(conv=>arg 1;simp only [G,Z,Y,Gx,vV,simprocAttr,fb2,fb3,fb9,c2a,b7a,c8a,d4a,d5a,g2a,h8a,mm,p9a,e4d,d1,d2,hq1,hx2,ho1,hc1,Bool.not_true,b9a (show i<4611686018427387904 by omega),b9a (show i1<4611686018427387904 by omega)]);first|show GoR ..|(show _∧GoW ..;refine ⟨by exact fun _=>trivial,?_⟩)|(show _∧_∧_∧GoW ..;refine ⟨rfl,by trivial,(fun H _=>by simp only [G,Z,Y,Gx,vV,simprocAttr,fb2,fb3,fb9,c2a,b7a,c8a,d4a,d5a,g2a,h8a,mm,p9a,e4d,d1,d2,hq1,hx2,ho1,hc1,Bool.not_true,b9a (show i<4611686018427387904 by omega),b9a (show i1<4611686018427387904 by omega)]),?_⟩))|(refine GoW.c o3b (by rfl) (by rfl) rfl ?_;(first | refine a3a.b2a (hend _ _ (⟨#[41]⟩:ByteArray)) ?_ | refine a3a.b2a (hq _ _ _) ?_);refine ⟨by exact fun _=>trivial,?_⟩)|(refine GoR.c o3b (by rfl) (by rfl) rfl ?_;(first | refine a3a.b2a (hend _ _ (⟨#[41]⟩:ByteArray)) ?_ | refine a3a.b2a (hq _ _ _) ?_))|(refine GoW.c c157 (by rfl) (by rfl) rfl ?_;(refine a3a.b2a (hp1 _) ?_);refine ⟨by exact fun _=>trivial,?_⟩)|(refine GoR.c c157 (by rfl) (by rfl) rfl ?_;(refine a3a.b2a (hp1 _) ?_))|refine Go.b0a rfl (fun hc => ?_) (fun hc => ?_))
       refine ⟨(by first | exact .inl rfl | exact .inr rfl),fin ?_⟩
       rw [g3a (fn:=Tryz.f217) rfl]
       simp only [a0a,a2a,a1a,G,Z,Y,Gx,vV,simprocAttr,fb2,fb3,fb9,c2a,b7a,c8a,d4a,d5a,g2a,h8a,mm,ho1,hc1]
       exact ⟨_,rfl,n9a l _,.agg' (w0b (n:=.mk op1 nm1 k1 ks1) hk1),s3a _⟩
      ·rw [if_neg hx] at hr
       cases hr
       have hx2:isT l i1 [(⟨#[41]⟩:ByteArray)]=false:=Bool.eq_false_iff.2 hx
       have d4e:=fun (E:Mem) x=>e6e hF E l ⟨i1,n1,0⟩ rfl x
       refine ⟨⟨hb1.1,hb1.2.1,nz2⟩,a3a.b0c hF ?_⟩
       refine a3a.eb Tryz.func217 rfl Tryz.ntmps217 (by rfl) ?_
       repeat' (first|refine Go.a rfl ?_|refine Go.rg ?_|refine GoR.nil ?_|refine Go.ret ?_|refine Go.b rfl ?_|refine Go.rgS dmx (by decide) ?_|refine Go.rgD [3,7,9] (fun _=>True) dmx (by decide) 11 (by decide) (by trivial) ?_|refine GoW.nil rfl ?_|((first|refine GoR.o (by rfl) (by rfl) ?_|refine GoW.o (by rfl) (by rfl) ?_|refine GoW.rd (by rfl) (by rfl) ?_);(conv=>arg 1;simp only [G,Z,Y,Gx,vV,simprocAttr,fb2,fb3,fb9,c2a,b7a,c8a,d4a,d5a,g2a,h8a,mm,p9a,e4d,d1,d2,hq1,hx2,ho1,hc1,Bool.not_false,b9a (show i<4611686018427387904 by omega),t6a,Nd.k0a]);first|show GoR ..|(show _∧GoW ..;refine ⟨by exact fun _=>trivial,?_⟩)|(show _∧_∧_∧GoW ..;refine ⟨rfl,by trivial,(fun H _=>by simp only [G,Z,Y,Gx,vV,simprocAttr,fb2,fb3,fb9,c2a,b7a,c8a,d4a,d5a,g2a,h8a,mm,p9a,e4d,d1,d2,hq1,hx2,ho1,hc1,Bool.not_false,b9a (show i<4611686018427387904 by omega),t6a,Nd.k0a]),?_⟩))|(refine GoW.c o3b (by rfl) (by rfl) rfl ?_;(first | refine a3a.b2a (hend _ _ (⟨#[41]⟩:ByteArray)) ?_ | refine a3a.b2a (hq _ _ _) ?_);refine ⟨by exact fun _=>trivial,?_⟩)|(refine GoR.c o3b (by rfl) (by rfl) rfl ?_;(first | refine a3a.b2a (hend _ _ (⟨#[41]⟩:ByteArray)) ?_ | refine a3a.b2a (hq _ _ _) ?_))|(refine GoW.c c157 (by rfl) (by rfl) rfl ?_;(refine a3a.b2a (hp1 _) ?_);refine ⟨by exact fun _=>trivial,?_⟩)|(refine GoR.c c157 (by rfl) (by rfl) rfl ?_;(refine a3a.b2a (hp1 _) ?_))|(refine GoW.c c234 (by rfl) (by rfl) rfl ?_;(refine a3a.b2a (d4e _ _) ?_);refine ⟨by exact fun _=>trivial,?_⟩)|(refine GoR.c c234 (by rfl) (by rfl) rfl ?_;(refine a3a.b2a (d4e _ _) ?_))|refine Go.b0a rfl (fun hc => ?_) (fun hc => ?_))
       refine ⟨(by first | exact .inl rfl | exact .inr rfl),fin ?_⟩
       rw [g3a (fn:=Tryz.f217) rfl]
       simp only [a0a,a2a,a1a,G,Z,Y,Gx,vV,simprocAttr,fb2,fb3,fb9,c2a,b7a,c8a,d4a,d5a,g2a,h8a,mm,t6a,Nd.k0a]
       exact ⟨_,rfl,n9a l _,.refl,g5c⟩
    ·rw [if_neg ho] at hr
     have hq1:isT l i [(⟨#[40]⟩:ByteArray)]=false:=by rw [m4b hi];simp [ho]
     by_cases hm:l[i].t=(⟨#[45]⟩:ByteArray)
     ·rw [if_pos hm] at hr
      have hq2:isT l i [(⟨#[45]⟩:ByteArray)]=true:=by rw [m4b hi];simp [hk,hm]
      by_cases hbig:32<n+1
      ·rw [if_pos hbig] at hr
       cases hr
       have hms:a5b ⟨i,n,0⟩=⟨i,n+1,4⟩:=by unfold a5b;rw [if_pos hbig]
       rw [hms] at j4b
       refine ⟨⟨hb.1,by dsimp only;omega,nz4⟩,a3a.b0c hF ?_⟩
       refine a3a.eb Tryz.func217 rfl Tryz.ntmps217 (by rfl) ?_
       repeat' (first|refine Go.a rfl ?_|refine Go.rg ?_|refine GoR.nil ?_|refine Go.ret ?_|refine Go.b rfl ?_|refine Go.rgS dmx (by decide) ?_|refine Go.rgD [3,7,9] (fun _=>True) dmx (by decide) 11 (by decide) (by trivial) ?_|refine GoW.nil rfl ?_|((first|refine GoR.o (by rfl) (by rfl) ?_|refine GoW.o (by rfl) (by rfl) ?_|refine GoW.rd (by rfl) (by rfl) ?_);(conv=>arg 1;simp only [G,Z,Y,Gx,vV,simprocAttr,fb2,fb3,fb9,c2a,b7a,c8a,d4a,d5a,g2a,h8a,mm,p9a,d1,d2,hq1,hq2,hbig,Bool.not_true]);first|show GoR ..|(show _∧GoW ..;refine ⟨by exact fun _=>trivial,?_⟩)|(show _∧_∧_∧GoW ..;refine ⟨rfl,by trivial,(fun H _=>by simp only [G,Z,Y,Gx,vV,simprocAttr,fb2,fb3,fb9,c2a,b7a,c8a,d4a,d5a,g2a,h8a,mm,p9a,d1,d2,hq1,hq2,hbig,Bool.not_true]),?_⟩))|(refine GoW.c o3b (by rfl) (by rfl) rfl ?_;(refine a3a.b2a (hq _ _ _) ?_);refine ⟨by exact fun _=>trivial,?_⟩)|(refine GoR.c o3b (by rfl) (by rfl) rfl ?_;(refine a3a.b2a (hq _ _ _) ?_))|(refine GoW.c x8c (by rfl) (by rfl) rfl ?_;(refine a3a.b2a (j4b _) ?_);refine ⟨by exact fun _=>trivial,?_⟩)|(refine GoR.c x8c (by rfl) (by rfl) rfl ?_;(refine a3a.b2a (j4b _) ?_))|refine Go.b0a rfl (fun hc => ?_) (fun hc => ?_))
       refine ⟨(by first | exact .inl rfl | exact .inr rfl),fin ?_⟩
       rw [g3a (fn:=Tryz.f217) rfl]
       simp only [a0a,a2a,a1a,G,Z,Y,Gx,vV,simprocAttr,fb2,fb3,fb9,c2a,b7a,c8a,d4a,d5a,g2a,h8a,mm]
       exact ⟨_,rfl,n9a l _,w2b,s3a _⟩
      ·rw [if_neg hbig] at hr
       have hms:a5b ⟨i,n,0⟩=⟨i+1,n+1,0⟩:=by unfold a5b;rw [if_neg hbig]
       rw [hms] at j4b
       cases hs:j7d l f ⟨i+1,n+1,0⟩ with
       | none=>rw [hs] at hr;cases hr
       | some r1=>
       rw [hs,Option.map_some] at hr
       cases hr
       have hbs:Bs l ⟨i+1,n+1,0⟩:=⟨hi,by dsimp only;omega,fun _=>by dsimp only;omega⟩
       obtain ⟨hb1,_⟩:=ihf.at hF [] hbs hs
       have hp1:=fun E=>(ihf.at hF E hbs hs).2
       obtain ⟨⟨op1,nm1,k1,ks1⟩,st1⟩:=r1
       obtain ⟨y1,hy1,hk1⟩:=g2b (.mk op1 nm1 k1 ks1)
       have hcc : ∀ id,Wf (.sl id 4 1 (Nd.mk op1 nm1 k1 ks1).c) (.sl none 4 1 (d3a [.mk op1 nm1 k1 ks1])):=by
        rw [show d3a [.mk op1 nm1 k1 ks1]=(Nd.mk op1 nm1 k1 ks1).c by simp [d3a]]
        exact fun _=>.disown
       simp only [hy1,ndX,Nd.op,Nd.name,Nd.n] at hp1 hcc
       have ho1:=hk1.one
       have hc1:=hk1.cells
       refine ⟨hb1,a3a.b0c hF ?_⟩
       refine a3a.eb Tryz.func217 rfl Tryz.ntmps217 (by rfl) ?_
       repeat' (first|refine Go.a rfl ?_|refine Go.rg ?_|refine GoR.nil ?_|refine Go.ret ?_|refine Go.b rfl ?_|refine Go.rgS dmx (by decide) ?_|refine Go.rgD [3,7,9] (fun _=>True) dmx (by decide) 11 (by decide) (by trivial) ?_|refine GoW.nil rfl ?_|((first|refine GoR.o (by rfl) (by rfl) ?_|refine GoW.o (by rfl) (by rfl) ?_|refine GoW.rd (by rfl) (by rfl) ?_);(conv=>arg 1;simp only [G,Z,Y,Gx,vV,simprocAttr,fb2,fb3,fb9,c2a,b7a,c8a,d4a,d5a,g2a,h8a,mm,p9a,d1,d2,hq1,hq2,hbig,ho1,hc1,j3c,Bool.not_false]);first|show GoR ..|(show _∧GoW ..;refine ⟨by exact fun _=>trivial,?_⟩)|(show _∧_∧_∧GoW ..;refine ⟨rfl,by trivial,(fun H _=>by simp only [G,Z,Y,Gx,vV,simprocAttr,fb2,fb3,fb9,c2a,b7a,c8a,d4a,d5a,g2a,h8a,mm,p9a,d1,d2,hq1,hq2,hbig,ho1,hc1,j3c,Bool.not_false]),?_⟩))|(refine GoW.c o3b (by rfl) (by rfl) rfl ?_;(refine a3a.b2a (hq _ _ _) ?_);refine ⟨by exact fun _=>trivial,?_⟩)|(refine GoR.c o3b (by rfl) (by rfl) rfl ?_;(refine a3a.b2a (hq _ _ _) ?_))|(refine GoW.c x8c (by rfl) (by rfl) rfl ?_;(refine a3a.b2a (j4b _) ?_);refine ⟨by exact fun _=>trivial,?_⟩)|(refine GoR.c x8c (by rfl) (by rfl) rfl ?_;(refine a3a.b2a (j4b _) ?_))|(refine GoW.c i8f (by rfl) (by rfl) rfl ?_;(refine a3a.b2a (hp1 _) ?_);refine ⟨by exact fun _=>trivial,?_⟩)|(refine GoR.c i8f (by rfl) (by rfl) rfl ?_;(refine a3a.b2a (hp1 _) ?_))|refine Go.b0a rfl (fun hc => ?_) (fun hc => ?_))
       refine ⟨(by first | exact .inl rfl | exact .inr rfl),fin ?_⟩
       rw [g3a (fn:=Tryz.f217) rfl]
       simp only [a0a,a2a,a1a,G,Z,Y,Gx,vV,simprocAttr,fb2,fb3,fb9,c2a,b7a,c8a,d4a,d5a,g2a,h8a,mm,ho1,hc1]
       refine ⟨_,rfl,n9a l _,?_,s3a _⟩
       rw [Nd.k0a]
       exact .agg' (.cons .refl (.cons .refl (.cons .refl (.cons (hcc _) .nil))))
     ·rw [if_neg hm] at hr
      cases hr
      have hq2:isT l i [(⟨#[45]⟩:ByteArray)]=false:=by rw [m4b hi];simp [hm]
      refine ⟨⟨hb.1,hb.2.1,nz2⟩,a3a.b0c hF ?_⟩
      refine a3a.eb Tryz.func217 rfl Tryz.ntmps217 (by rfl) ?_
      repeat' (first|refine Go.a rfl ?_|refine Go.rg ?_|refine GoR.nil ?_|refine Go.ret ?_|refine Go.b rfl ?_|refine Go.rgS dmx (by decide) ?_|refine Go.rgD [3,7,9] (fun H=>b6a H o=some (pC l ⟨i,n,0⟩)) dmx (by decide) 11 (by decide) (by (simp only [m2,m4])) ?_|refine GoW.nil rfl ?_|((first|refine GoR.o (by rfl) (by rfl) ?_|refine GoW.o (by rfl) (by rfl) ?_|refine GoW.rd (by rfl) (by rfl) ?_);(conv=>arg 1;simp only [G,Z,Y,Gx,vV,simprocAttr,fb2,fb3,fb9,c2a,b7a,c8a,d4a,d5a,g2a,h8a,mm,p9a,d1,d2,hq1,hq2,q6a hi,Tok.c,hk,t6a,Nd.k0a]);first|show GoR ..|(show _∧GoW ..;refine ⟨by (first|exact fun h=>absurd h (by decide)|(intro _;(simp only [m2,m4]))),?_⟩)|(show _∧_∧_∧GoW ..;refine ⟨rfl,by (simp only [m2,m4]),(fun H hI=>by (try dsimp only at hI);simp only [G,Z,Y,Gx,vV,simprocAttr,fb2,fb3,fb9,c2a,b7a,c8a,d4a,d5a,g2a,h8a,mm,p9a,d1,d2,hq1,hq2,q6a hi,Tok.c,hk,t6a,Nd.k0a,hI]),?_⟩))|(refine GoW.c o3b (by rfl) (by rfl) rfl ?_;(refine a3a.b2a (hq _ _ _) ?_);refine ⟨by (first|exact fun h=>absurd h (by decide)|(intro _;(simp only [m2,m4]))),?_⟩)|(refine GoR.c o3b (by rfl) (by rfl) rfl ?_;(refine a3a.b2a (hq _ _ _) ?_))|(refine GoW.c c234 (by rfl) (by rfl) rfl ?_;(refine a3a.b2a (x6d _ _) ?_);refine ⟨by (first|exact fun h=>absurd h (by decide)|(intro _;(simp only [m2,m4]))),?_⟩)|(refine GoR.c c234 (by rfl) (by rfl) rfl ?_;(refine a3a.b2a (x6d _ _) ?_))|refine Go.b0a rfl (fun hc => ?_) (fun hc => ?_))
      refine ⟨(by first | exact .inl rfl | exact .inr rfl),fin ?_⟩
      rw [g3a (fn:=Tryz.f217) rfl]
      simp only [a0a,a2a,a1a,G,Z,Y,Gx,vV,simprocAttr,fb2,fb3,fb9,c2a,b7a,c8a,d4a,d5a,g2a,h8a,mm,t6a,Nd.k0a]
      exact ⟨_,rfl,n9a l _,.refl,g5c⟩
   ·rw [if_neg hk] at hr
    have hq1:isT l i [(⟨#[40]⟩:ByteArray)]=false:=by rw [m4b hi];simp [hk]
    have hq2:isT l i [(⟨#[45]⟩:ByteArray)]=false:=by rw [m4b hi];simp [hk]
    have hkb:(l[i].k==3)=false:=by simpa using hk
    by_cases hbig:32<n+1
    ·rw [if_pos hbig] at hr
     cases hr
     have hms:a5b ⟨i,n,0⟩=⟨i,n+1,4⟩:=by unfold a5b;rw [if_pos hbig]
     rw [hms] at j4b
     refine ⟨⟨hb.1,by dsimp only;omega,nz4⟩,a3a.b0c hF ?_⟩
     refine a3a.eb Tryz.func217 rfl Tryz.ntmps217 (by rfl) ?_
     repeat' (first|refine Go.a rfl ?_|refine Go.rg ?_|refine GoR.nil ?_|refine Go.ret ?_|refine Go.b rfl ?_|refine Go.rgS dmx (by decide) ?_|refine Go.rgD [3,7,9] (fun H=>b6a H o=some (pC l ⟨i,n,0⟩)) dmx (by decide) 11 (by decide) (by (simp only [m2,m4])) ?_|refine GoW.nil rfl ?_|((first|refine GoR.o (by rfl) (by rfl) ?_|refine GoW.o (by rfl) (by rfl) ?_|refine GoW.rd (by rfl) (by rfl) ?_);(conv=>arg 1;simp only [G,Z,Y,Gx,vV,simprocAttr,fb2,fb3,fb9,c2a,b7a,c8a,d4a,d5a,g2a,h8a,mm,p9a,d1,d2,hq1,hq2,hbig,q6a hi,Tok.c,hkb,Bool.not_true]);first|show GoR ..|(show _∧GoW ..;refine ⟨by (first|exact fun h=>absurd h (by decide)|(intro _;(simp only [m2,m4]))),?_⟩)|(show _∧_∧_∧GoW ..;refine ⟨rfl,by (simp only [m2,m4]),(fun H hI=>by (try dsimp only at hI);simp only [G,Z,Y,Gx,vV,simprocAttr,fb2,fb3,fb9,c2a,b7a,c8a,d4a,d5a,g2a,h8a,mm,p9a,d1,d2,hq1,hq2,hbig,q6a hi,Tok.c,hkb,Bool.not_true,hI]),?_⟩))|(refine GoW.c o3b (by rfl) (by rfl) rfl ?_;(refine a3a.b2a (hq _ _ _) ?_);refine ⟨by (first|exact fun h=>absurd h (by decide)|(intro _;(simp only [m2,m4]))),?_⟩)|(refine GoR.c o3b (by rfl) (by rfl) rfl ?_;(refine a3a.b2a (hq _ _ _) ?_))|(refine GoW.c x8c (by rfl) (by rfl) rfl ?_;(refine a3a.b2a (j4b _) ?_);refine ⟨by (first|exact fun h=>absurd h (by decide)|(intro _;(simp only [m2,m4]))),?_⟩)|(refine GoR.c x8c (by rfl) (by rfl) rfl ?_;(refine a3a.b2a (j4b _) ?_))|refine Go.b0a rfl (fun hc => ?_) (fun hc => ?_))
     refine ⟨(by first | exact .inl rfl | exact .inr rfl),fin ?_⟩
     rw [g3a (fn:=Tryz.f217) rfl]
     simp only [a0a,a2a,a1a,G,Z,Y,Gx,vV,simprocAttr,fb2,fb3,fb9,c2a,b7a,c8a,d4a,d5a,g2a,h8a,mm]
     exact ⟨_,rfl,n9a l _,w2b,s3a _⟩
    ·rw [if_neg hbig] at hr
     cases hr
     have hms:a5b ⟨i,n,0⟩=⟨i+1,n+1,0⟩:=by unfold a5b;rw [if_neg hbig]
     rw [hms] at j4b
     refine ⟨⟨hi,by dsimp only;omega,fun _=>by dsimp only;omega⟩,a3a.b0c hF ?_⟩
     by_cases h2:l[i].k=2
     ·have hlf:f4c l[i] = .mk (⟨#[110,117,109]⟩:ByteArray) ⟨#[]⟩ l[i].n []:=by unfold f4c;rw [if_pos h2]
      rw [hlf]
      refine a3a.eb Tryz.func217 rfl Tryz.ntmps217 (by rfl) ?_
      repeat' (first|refine Go.a rfl ?_|refine Go.rg ?_|refine GoR.nil ?_|refine Go.ret ?_|refine Go.b rfl ?_|refine Go.rgS dmx (by decide) ?_|refine Go.rgD [3,7,9] (fun H=>b6a H o=some (pC l ⟨i,n,0⟩)) dmx (by decide) 11 (by decide) (by (simp only [m2,m4])) ?_|refine GoW.nil rfl ?_|((first|refine GoR.o (by rfl) (by rfl) ?_|refine GoW.o (by rfl) (by rfl) ?_|refine GoW.rd (by rfl) (by rfl) ?_);(conv=>arg 1;simp only [G,Z,Y,Gx,vV,simprocAttr,fb2,fb3,fb9,c2a,b7a,c8a,d4a,d5a,g2a,h8a,mm,p9a,d1,d2,hq1,hq2,hbig,q6a hi,Tok.c,hkb,h2,Bool.not_false]);first|show GoR ..|(show _∧GoW ..;refine ⟨by (first|exact fun h=>absurd h (by decide)|(intro _;(simp only [m2,m4]))),?_⟩)|(show _∧_∧_∧GoW ..;refine ⟨rfl,by (simp only [m2,m4]),(fun H hI=>by (try dsimp only at hI);simp only [G,Z,Y,Gx,vV,simprocAttr,fb2,fb3,fb9,c2a,b7a,c8a,d4a,d5a,g2a,h8a,mm,p9a,d1,d2,hq1,hq2,hbig,q6a hi,Tok.c,hkb,h2,Bool.not_false,hI]),?_⟩))|(refine GoW.c o3b (by rfl) (by rfl) rfl ?_;(refine a3a.b2a (hq _ _ _) ?_);refine ⟨by (first|exact fun h=>absurd h (by decide)|(intro _;(simp only [m2,m4]))),?_⟩)|(refine GoR.c o3b (by rfl) (by rfl) rfl ?_;(refine a3a.b2a (hq _ _ _) ?_))|(refine GoW.c x8c (by rfl) (by rfl) rfl ?_;(refine a3a.b2a (j4b _) ?_);refine ⟨by (first|exact fun h=>absurd h (by decide)|(intro _;(simp only [m2,m4]))),?_⟩)|(refine GoR.c x8c (by rfl) (by rfl) rfl ?_;(refine a3a.b2a (j4b _) ?_))|refine Go.b0a rfl (fun hc => ?_) (fun hc => ?_))
      refine ⟨(by first | exact .inl rfl | exact .inr rfl),fin ?_⟩
      rw [g3a (fn:=Tryz.f217) rfl]
      simp only [a0a,a2a,a1a,G,Z,Y,Gx,vV,simprocAttr,fb2,fb3,fb9,c2a,b7a,c8a,d4a,d5a,g2a,h8a,mm]
      refine ⟨_,rfl,n9a l _,?_,s3a _⟩
      rw [Nd.k0a]
      exact .agg' (.cons .refl (.cons .refl (.cons .refl (.cons .e1d .nil))))
     ·have hlf:f4c l[i] = .mk (⟨#[110,97,109,101]⟩:ByteArray) l[i].t 0 []:=by unfold f4c;rw [if_neg h2]
      have h2b:(l[i].k==2)=false:=by simpa using h2
      rw [hlf]
      refine a3a.eb Tryz.func217 rfl Tryz.ntmps217 (by rfl) ?_
      repeat' (first|refine Go.a rfl ?_|refine Go.rg ?_|refine GoR.nil ?_|refine Go.ret ?_|refine Go.b rfl ?_|refine Go.rgS dmx (by decide) ?_|refine Go.rgD [3,7,9] (fun H=>b6a H o=some (pC l ⟨i,n,0⟩)) dmx (by decide) 11 (by decide) (by (simp only [m2,m4])) ?_|refine GoW.nil rfl ?_|((first|refine GoR.o (by rfl) (by rfl) ?_|refine GoW.o (by rfl) (by rfl) ?_|refine GoW.rd (by rfl) (by rfl) ?_);(conv=>arg 1;simp only [G,Z,Y,Gx,vV,simprocAttr,fb2,fb3,fb9,c2a,b7a,c8a,d4a,d5a,g2a,h8a,mm,p9a,d1,d2,hq1,hq2,hbig,q6a hi,Tok.c,hkb,h2b,Bool.not_false]);first|show GoR ..|(show _∧GoW ..;refine ⟨by (first|exact fun h=>absurd h (by decide)|(intro _;(simp only [m2,m4]))),?_⟩)|(show _∧_∧_∧GoW ..;refine ⟨rfl,by (simp only [m2,m4]),(fun H hI=>by (try dsimp only at hI);simp only [G,Z,Y,Gx,vV,simprocAttr,fb2,fb3,fb9,c2a,b7a,c8a,d4a,d5a,g2a,h8a,mm,p9a,d1,d2,hq1,hq2,hbig,q6a hi,Tok.c,hkb,h2b,Bool.not_false,hI]),?_⟩))|(refine GoW.c o3b (by rfl) (by rfl) rfl ?_;(refine a3a.b2a (hq _ _ _) ?_);refine ⟨by (first|exact fun h=>absurd h (by decide)|(intro _;(simp only [m2,m4]))),?_⟩)|(refine GoR.c o3b (by rfl) (by rfl) rfl ?_;(refine a3a.b2a (hq _ _ _) ?_))|(refine GoW.c x8c (by rfl) (by rfl) rfl ?_;(refine a3a.b2a (j4b _) ?_);refine ⟨by (first|exact fun h=>absurd h (by decide)|(intro _;(simp only [m2,m4]))),?_⟩)|(refine GoR.c x8c (by rfl) (by rfl) rfl ?_;(refine a3a.b2a (j4b _) ?_))|refine Go.b0a rfl (fun hc => ?_) (fun hc => ?_))
      refine ⟨(by first | exact .inl rfl | exact .inr rfl),fin ?_⟩
      rw [g3a (fn:=Tryz.f217) rfl]
      simp only [a0a,a2a,a1a,G,Z,Y,Gx,vV,simprocAttr,fb2,fb3,fb9,c2a,b7a,c8a,d4a,d5a,g2a,h8a,mm]
      refine ⟨_,rfl,n9a l _,?_,s3a _⟩
      rw [Nd.k0a]
      exact .agg' (.cons .refl (.cons .refl (.cons .refl (.cons .e1d .nil))))
end Go.Proofs.DgT
namespace Go.Proofs.DgT
open Go Go.DM
set_option maxRecDepth 100000
theorem Fam.new (S:Mem) (x:Ob):Fam (fun c=>S++[x,.obj c]) (S.length+1) (S.length+2):=
 ⟨by omega,fun c=>by simp,fun c=>by simp [b6a,List.getElem?_append_right],fun c c'=>by
  show (S++[x,.obj c]).set (S.length+1) _=_
  rw [h9c]
  rfl⟩
def ofF (l:List Tok) (k:Nat):Option (Nd×St):=sumF l (l.length+1) ⟨k,0,0⟩
theorem g6c {l:List Tok} (hw : ∀ t∈l,n6a t) {k:Nat} (hk:k≤l.length) : ∃ r,ofF l k=some r∧u7d l (l.length+1) ⟨k,0,0⟩ r:=
 b3e hw _ ⟨k,0,0⟩ hk (by dsimp only;omega) (.inl (Nat.zero_le _)) (Nat.zero_le _) (.inl rfl)
def okN (r:Nd×St):Nd:=if r.2.e=0 then r.1 else t6a
theorem d4c {m:Nat} {n:Nd} {a b:Int} : p2a m (.tup [.agg n.c,.int .i64 a,.int .i64 b]):=.a2b (.cons (s3a n) (.cons (.int _ _) (.cons (.int _ _) .nil)))
theorem s6e {l:List Tok} (hl:l.length<100000) {k:Nat} (hk:k≤l.length) {r:Nd×St} (hr:ofF l k=some r) (S:Mem) :
  a3a Tryz.prog O 127 [.sl none 4 l.length (t4a l),.int .i64 (k:Int)] S fun d S'=>S'=S∧d = .tup [.agg (okN r).c,.int .i64 (r.2.i:Int),.int .i64 r.2.e]:=by
 have hs : ∀ E:Mem,a3a Tryz.prog O 157 [.ptr (S.length+1) 0] (S++[.obj [.str ⟨#[]⟩,.str ⟨#[]⟩,.int .i64 0,.c5a],.obj (pC l ⟨k,0,0⟩)]) fun d S'=>S'=S++[.obj [.str ⟨#[]⟩,.str ⟨#[]⟩,.int .i64 0,.c5a],.obj (pC l r.2)]∧d = .agg r.1.c:=fun E=>
  (sumW hl (j0f hl (l.length+1)) _ _ (Fam.new S _) ⟨k,0,0⟩ r ⟨hk,Nat.zero_le _,fun _=>Nat.zero_le _⟩ hr).2
 obtain ⟨nd,⟨i1,n1,e1⟩⟩:=r
 obtain ⟨y1,hy1,hk1⟩:=g2b nd
 have ho1:=hk1.one
 have hc1:=hk1.cells
 simp only [pC,hy1,ndX,Int.natCast_zero,Int.ofNat_zero,Int.cast_ofNat_Int] at hs
 have hk0:((k:Int)<0)=False:=eq_false (by omega)
 have hkl:((l.length:Int)<(k:Int))=False:=eq_false (by omega)
 refine a3a.e Tryz.func127 rfl Tryz.ntmps127 (by rfl) ?_
 by_cases he:e1=0
 ·subst he
  repeat' (first|refine Go.a rfl ?_|refine Go.rg ?_|refine GoR.nil ?_|refine Go.ret ?_|refine Go.b rfl ?_|refine Go.rgS dmx (by decide) ?_|refine Go.rgD (id:=4) [4,8] (fun H=>b6a H (S.length+1)=some [.sl none 4 l.length (t4a l),.int .i64 (i1:Int),.int .i64 (n1:Int),.int .i64 0]) dmx (by decide) 12 (by decide) (by (simp only [a7a,a5a,a4a])) ?_|refine Go.rgD (id:=5) [4] (fun H=>b6a H (S.length+1)=some [.sl none 4 l.length (t4a l),.int .i64 (i1:Int),.int .i64 (n1:Int),.int .i64 0]) dmx (by decide) 8 (by decide) (by (simp only [a7a,a5a,a4a])) ?_|refine GoW.nil rfl ?_|((first|refine GoR.o (by rfl) (by rfl) ?_|refine GoW.o (by rfl) (by rfl) ?_|refine GoW.rd (by rfl) (by rfl) ?_);(conv=>arg 1;simp only [G,Z,Y,Gx,vV,simprocAttr,fb2,fb3,fb9,c2a,b7a,c8a,d4a,h8a,ho1,hc1,hk0,hkl]);first|show GoR ..|(show _∧GoW ..;refine ⟨by (first|exact fun h=>absurd h (by decide)|(intro _;(simp only [a7a,a5a,a4a]))),?_⟩)|(show _∧_∧_∧GoW ..;refine ⟨rfl,by (simp only [a7a,a5a,a4a]),(fun H hI=>by (try dsimp only at hI);simp only [G,Z,Y,Gx,vV,simprocAttr,fb2,fb3,fb9,c2a,b7a,c8a,d4a,h8a,ho1,hc1,hk0,hkl,hI]),?_⟩))|(refine GoW.c c157 (by rfl) (by rfl) rfl ?_;(refine a3a.b2a (hs []) ?_);refine ⟨by (first|exact fun h=>absurd h (by decide)|(intro _;(simp only [a7a,a5a,a4a]))),?_⟩)|(refine GoR.c c157 (by rfl) (by rfl) rfl ?_;(refine a3a.b2a (hs []) ?_))|refine Go.b0a rfl (fun hc => ?_) (fun hc => ?_))
  refine ⟨(by first | exact .inl rfl | exact .inr rfl),fin ?_⟩
  rw [k7a (fn:=Tryz.f127) rfl]
  simp only [a0a,a2a,a1a,G,Z,Y,Gx,vV,simprocAttr,fb2,fb3,fb9,c2a,b7a,c8a,d4a,h8a,ho1,hc1]
  exact ⟨_,_,rfl,Wf.y9b (.a2b (.cons (.agg' (w0b hk1)) .refl)) d4c,rfl⟩
 ·repeat' (first|refine Go.a rfl ?_|refine Go.rg ?_|refine GoR.nil ?_|refine Go.ret ?_|refine Go.b rfl ?_|refine Go.rgS dmx (by decide) ?_|refine Go.rgD (id:=4) [4,8] (fun H=>b6a H (S.length+1)=some [.sl none 4 l.length (t4a l),.int .i64 (i1:Int),.int .i64 (n1:Int),.int .i64 e1]) dmx (by decide) 12 (by decide) (by (simp only [a7a,a5a,a4a])) ?_|refine Go.rgD (id:=5) [4] (fun H=>b6a H (S.length+1)=some [.sl none 4 l.length (t4a l),.int .i64 (i1:Int),.int .i64 (n1:Int),.int .i64 e1]) dmx (by decide) 8 (by decide) (by (simp only [a7a,a5a,a4a])) ?_|refine GoW.nil rfl ?_|((first|refine GoR.o (by rfl) (by rfl) ?_|refine GoW.o (by rfl) (by rfl) ?_|refine GoW.rd (by rfl) (by rfl) ?_);(conv=>arg 1;simp only [G,Z,Y,Gx,vV,simprocAttr,fb2,fb3,fb9,c2a,b7a,c8a,d4a,h8a,ho1,hc1,hk0,hkl,show (e1==0)=false by simpa using he,show (e1 != 0)=true by simpa using he]);first|show GoR ..|(show _∧GoW ..;refine ⟨by (first|exact fun h=>absurd h (by decide)|(intro _;(simp only [a7a,a5a,a4a]))),?_⟩)|(show _∧_∧_∧GoW ..;refine ⟨rfl,by (simp only [a7a,a5a,a4a]),(fun H hI=>by (try dsimp only at hI);simp only [G,Z,Y,Gx,vV,simprocAttr,fb2,fb3,fb9,c2a,b7a,c8a,d4a,h8a,ho1,hc1,hk0,hkl,show (e1==0)=false by simpa using he,show (e1 != 0)=true by simpa using he,hI]),?_⟩))|(refine GoW.c c157 (by rfl) (by rfl) rfl ?_;(refine a3a.b2a (hs []) ?_);refine ⟨by (first|exact fun h=>absurd h (by decide)|(intro _;(simp only [a7a,a5a,a4a]))),?_⟩)|(refine GoR.c c157 (by rfl) (by rfl) rfl ?_;(refine a3a.b2a (hs []) ?_))|refine Go.b0a rfl (fun hc => ?_) (fun hc => ?_))
  refine ⟨(by first | exact .inl rfl | exact .inr rfl),fin ?_⟩
  rw [k7a (fn:=Tryz.f127) rfl]
  simp only [a0a,a2a,a1a,G,Z,Y,Gx,vV,simprocAttr,fb2,fb3,fb9,c2a,b7a,c8a,d4a,h8a,ho1,hc1]
  have:okN (nd,⟨i1,n1,e1⟩)=t6a:=by unfold okN;rw [if_neg he]
  rw [this]
  exact ⟨_,_,rfl,Wf.y9b (.a2b (.cons w2b .refl)) d4c,rfl⟩
def p3b (l:List Tok) (i:Nat) (s:ByteArray):Nat:=match l[i]? with | some t=>t.a | none=>s.size
theorem y6d {s:ByteArray} {a:Nat} {e:Int} (h:u1c s = .error (a,e)):e≠0:=by
 unfold u1c at h
 split at h
 ·cases h;decide
 ·unfold a6b at h
  exact key _ _ _ _ _ h
where
 one : ∀ (l:List UInt8) (e:Int),j3a l = .error e→e≠0:=by
  intro l e h
  unfold j3a at h
  repeat' split at h
  all_goals first
   | (cases h;decide)
   | (cases h;done)
 key : ∀ (f:Nat) (l:List UInt8) (b a:Nat) (e:Int),q3a f l b = .error (a,e)→e≠0
  | 0,_,_,_,_,h=>by cases h
  | _+1,[],_,_,_,h=>by cases h
  | f+1,x::r,b,a,e,h=>by
   unfold q3a at h
   split at h
   ·exact key f r (b+1) a e h
   ·split at h
    ·rename_i e' ho
     cases h
     exact one _ _ ho
    ·rename_i k n v ho
     cases hq:q3a f ((x::r).drop n) (b+n) with
     | error y=>
      rw [hq] at h
      obtain ⟨a',e'⟩:=y
      cases h
      exact key f _ _ _ _ hq
     | ok ts=>rw [hq] at h;cases h
theorem y7d {s:ByteArray} (hs:s.size<1000000) {l:List Tok} (h:u1c s = .ok l):l.length≤1024:=by
 unfold u1c at h
 split at h
 ·cases h
 ·have:=(u4c h).count.1
  have e:s.data.toList.length=s.size:=Array.length_toList
  omega
end Go.Proofs.DgT
