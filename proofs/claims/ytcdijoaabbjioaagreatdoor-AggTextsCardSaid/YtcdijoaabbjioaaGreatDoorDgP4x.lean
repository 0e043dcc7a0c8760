/- The program's parser: products, sums, factors. -/
import Derived.Test.YtcdijoaabbjioaaGreatDoorDgP1x
import Derived.Test.YtcdijoaabbjioaaGreatDoorDgL6x
set_option linter.unusedSimpArgs false
set_option linter.unusedVariables false
namespace Go.Proofs.DgT
open Go Go.DM
set_option maxRecDepth 100000
theorem prdW {l:List Tok} (hl:l.length<100000) {o f:Nat} (hp:PartW l o 217 (facF l f)):PartW l o 193 (prdF l f):=by
 intro M n0 hF st r hb hr
 obtain ⟨m1,m2,m3,m4,m5,m6,m7,m8,m9,m10,m11⟩:=hF.facts
 have mm:=hF.facts
 have hf:=fun own (E:Mem)=>foldW hl (fn:=Tryz.f217) Tryz.func217 (by decide) (by rfl) hp mulS (by decide) own f (hF.app E) st r hb hr
 refine ⟨(hf none []).1,?_⟩
 have hf2 : ∀ own (E:Mem),CallD Tryz.prog O 192 [.ptr o 0,.fn (.func 217) [.ptr o 0] [],.sl own 1 3 [.str (⟨#[42]⟩:ByteArray),.str (⟨#[47]⟩:ByteArray),.str (⟨#[37]⟩:ByteArray)]] (M (pC l st)++E) fun d S'=>S'=M (pC l r.2)++E∧d = .agg r.1.c:=fun own E=>(hf own E).2
 clear hf
 obtain ⟨nd,st1⟩:=r
 obtain ⟨y1,hy1,hk1⟩:=kidY_of nd
 have ho1:=hk1.one
 have hc1:=hk1.cells
 simp only [hy1,ndX] at hf2
 refine CallD.updE hF ?_
 refine CallD.eb Tryz.func193 rfl Tryz.ntmps193 (by rfl) ?_
 repeat' (first|refine Go.a rfl ?_|refine Go.rg ?_|refine GoR.nil ?_|refine Go.ret ?_|refine Go.b rfl ?_|(refine GoR.o (by rfl) (by rfl) ?_;(conv=>arg 1;simp only [G,Z,Y,Gx,vV,simprocAttr,fb2,fb9,fb23,fb25,fb110,mm,ho1,hc1]);show GoR ..)|(refine GoR.c c192 (by rfl) (by rfl) rfl ?_;(refine CallD.ret2 (hf2 _ _) ?_))|refine Go.condB rfl (fun hc => ?_) (fun hc => ?_))
 refine ⟨(by first | exact .inl rfl | exact .inr rfl),fin ?_⟩
 rw [resD_cell (fn:=Tryz.f193) rfl]
 simp only [optThen_some,resultD_tmp,resultD_cell,G,Z,Y,Gx,vV,simprocAttr,fb2,fb9,fb23,fb25,fb110,mm,ho1,hc1]
 exact ⟨_,rfl,pC_low l _,.agg' (ndX_wf hk1),nd_low _⟩
theorem sumW {l:List Tok} (hl:l.length<100000) {o f:Nat} (hp:PartW l o 217 (facF l f)):PartW l o 157 (sumF l f):=by
 intro M n0 hF st r hb hr
 obtain ⟨m1,m2,m3,m4,m5,m6,m7,m8,m9,m10,m11⟩:=hF.facts
 have mm:=hF.facts
 have hf:=fun own (E:Mem)=>foldW hl (fn:=Tryz.f193) Tryz.func193 (by decide) (by rfl) (prdW hl hp) addS (by decide) own f (hF.app E) st r hb hr
 refine ⟨(hf none []).1,?_⟩
 have hf2 : ∀ own (E:Mem),CallD Tryz.prog O 192 [.ptr o 0,.fn (.func 193) [.ptr o 0] [],.sl own 1 2 [.str (⟨#[43]⟩:ByteArray),.str (⟨#[45]⟩:ByteArray)]] (M (pC l st)++E) fun d S'=>S'=M (pC l r.2)++E∧d = .agg r.1.c:=fun own E=>(hf own E).2
 clear hf
 obtain ⟨nd,st1⟩:=r
 obtain ⟨y1,hy1,hk1⟩:=kidY_of nd
 have ho1:=hk1.one
 have hc1:=hk1.cells
 simp only [hy1,ndX] at hf2
 refine CallD.updE hF ?_
 refine CallD.eb Tryz.func157 rfl Tryz.ntmps157 (by rfl) ?_
 repeat' (first|refine Go.a rfl ?_|refine Go.rg ?_|refine GoR.nil ?_|refine Go.ret ?_|refine Go.b rfl ?_|(refine GoR.o (by rfl) (by rfl) ?_;(conv=>arg 1;simp only [G,Z,Y,Gx,vV,simprocAttr,fb2,fb9,fb23,fb25,fb110,mm,ho1,hc1]);show GoR ..)|(refine GoR.c c192 (by rfl) (by rfl) rfl ?_;(refine CallD.ret2 (hf2 _ _) ?_))|refine Go.condB rfl (fun hc => ?_) (fun hc => ?_))
 refine ⟨(by first | exact .inl rfl | exact .inr rfl),fin ?_⟩
 rw [resD_cell (fn:=Tryz.f157) rfl]
 simp only [optThen_some,resultD_tmp,resultD_cell,G,Z,Y,Gx,vV,simprocAttr,fb2,fb9,fb23,fb25,fb110,mm,ho1,hc1]
 exact ⟨_,rfl,pC_low l _,.agg' (ndX_wf hk1),nd_low _⟩
theorem nilN_low {m:Nat} : DLow m (.agg [.str ⟨#[]⟩,.str ⟨#[]⟩,.int .i64 0,.sl none 4 0 (ndsC [])]):=by
 have:=nd_low (m:=m) nilN
 rw [nilN,Nd.c_mk] at this
 exact this
theorem isT_one {l:List Tok} {i:Nat} (h:i<l.length) {s:ByteArray} : isT l i [s]=(decide (l[i].k=3)&&decide (l[i].t=s)):=by
 unfold isT
 rw [List.getElem?_eq_getElem h]
 simp
set_option maxHeartbeats 4000000 in
theorem facW {l:List Tok} (hl:l.length<100000) {o:Nat} : ∀ f,PartW l o 217 (facF l f)
 | 0=>by intro M n0 hF st r hb hr;cases hr
 | f+1=>by
  intro M n0 hF st r hb hr
  have ihf:=facW hl (o:=o) f
  have ihs:=sumW hl ihf
  obtain ⟨m1,m2,m3,m4,m5,m6,m7,m8,m9,m10,m11⟩:=hF.facts
  have mm:=hF.facts
  have hq:=fun own (E:Mem) (s:ByteArray)=>pIsE hF E l st own [s] (by simp)
  rw [facF_succ] at hr
  obtain ⟨i,n,e⟩:=st
  by_cases he:e≠0
  ·rw [if_pos he] at hr
   cases hr
   refine ⟨hb,CallD.updE hF ?_⟩
   refine CallD.eb Tryz.func217 rfl Tryz.ntmps217 (by rfl) ?_
   repeat' (first|refine Go.a rfl ?_|refine Go.rg ?_|refine GoR.nil ?_|refine Go.ret ?_|refine Go.b rfl ?_|refine Go.rgS dmx (by decide) ?_|refine Go.rgD [3,7,9] (fun _=>True) dmx (by decide) 11 (by decide) (by trivial) ?_|refine GoW.nil rfl ?_|((first|refine GoR.o (by rfl) (by rfl) ?_|refine GoW.o (by rfl) (by rfl) ?_|refine GoW.rd (by rfl) (by rfl) ?_);(conv=>arg 1;simp only [G,Z,Y,Gx,vV,simprocAttr,fb2,fb3,fb9,fb23,fb25,fb29,fb71,fb77,fb110,fb220,mm,pC_at,show (e==0)=false by simpa using he,show (e != 0)=true by simpa using he]);first|show GoR ..|(show _∧GoW ..;refine ⟨by exact fun _=>trivial,?_⟩)|(show _∧_∧_∧GoW ..;refine ⟨rfl,by trivial,(fun H _=>by simp only [G,Z,Y,Gx,vV,simprocAttr,fb2,fb3,fb9,fb23,fb25,fb29,fb71,fb77,fb110,fb220,mm,pC_at,show (e==0)=false by simpa using he,show (e != 0)=true by simpa using he]),?_⟩))|refine Go.condB rfl (fun hc => ?_) (fun hc => ?_))
   refine ⟨(by first | exact .inl rfl | exact .inr rfl),fin ?_⟩
   rw [resD_cell (fn:=Tryz.f217) rfl]
   simp only [optThen_some,resultD_tmp,resultD_cell,G,Z,Y,Gx,vV,simprocAttr,fb2,fb3,fb9,fb23,fb25,fb29,fb71,fb77,fb110,fb220,mm]
   exact ⟨_,rfl,pC_low l _,nil_wf,nd_low _⟩
  rw [if_neg he] at hr
  obtain rfl:e=0:=Decidable.not_not.1 he
  have hfail:=fun (E:Mem) x=>pFailE hF E l ⟨i,n,0⟩ rfl x
  cases hqi:l[i]? with
  | none=>
   dsimp only at hr
   rw [hqi] at hr
   cases hr
   have hge:l.length≤i:=by simpa using hqi
   refine ⟨⟨hb.1,hb.2.1,nz2⟩,CallD.updE hF ?_⟩
   refine CallD.eb Tryz.func217 rfl Tryz.ntmps217 (by rfl) ?_
   repeat' (first|refine Go.a rfl ?_|refine Go.rg ?_|refine GoR.nil ?_|refine Go.ret ?_|refine Go.b rfl ?_|refine Go.rgS dmx (by decide) ?_|refine Go.rgD [3,7,9] (fun _=>True) dmx (by decide) 11 (by decide) (by trivial) ?_|refine GoW.nil rfl ?_|((first|refine GoR.o (by rfl) (by rfl) ?_|refine GoW.o (by rfl) (by rfl) ?_|refine GoW.rd (by rfl) (by rfl) ?_);(conv=>arg 1;simp only [G,Z,Y,Gx,vV,simprocAttr,fb2,fb3,fb9,fb23,fb25,fb29,fb71,fb77,fb110,fb220,mm,pC_at,show decide ((i:Int)≥(l.length:Int))=true by simp;omega,show decide ((l.length:Int)≤(i:Int))=true by simp;omega,nilN,Nd.c_mk]);first|show GoR ..|(show _∧GoW ..;refine ⟨by exact fun _=>trivial,?_⟩)|(show _∧_∧_∧GoW ..;refine ⟨rfl,by trivial,(fun H _=>by simp only [G,Z,Y,Gx,vV,simprocAttr,fb2,fb3,fb9,fb23,fb25,fb29,fb71,fb77,fb110,fb220,mm,pC_at,show decide ((i:Int)≥(l.length:Int))=true by simp;omega,show decide ((l.length:Int)≤(i:Int))=true by simp;omega,nilN,Nd.c_mk]),?_⟩))|(refine GoW.c c234 (by rfl) (by rfl) rfl ?_;(refine CallD.ret2 (hfail _ _) ?_);refine ⟨by exact fun _=>trivial,?_⟩)|(refine GoR.c c234 (by rfl) (by rfl) rfl ?_;(refine CallD.ret2 (hfail _ _) ?_))|refine Go.condB rfl (fun hc => ?_) (fun hc => ?_))
   refine ⟨(by first | exact .inl rfl | exact .inr rfl),fin ?_⟩
   rw [resD_cell (fn:=Tryz.f217) rfl]
   simp only [optThen_some,resultD_tmp,resultD_cell,G,Z,Y,Gx,vV,simprocAttr,fb2,fb3,fb9,fb23,fb25,fb29,fb71,fb77,fb110,fb220,mm,nilN,Nd.c_mk]
   exact ⟨_,rfl,pC_low l _,.refl,nilN_low⟩
  | some t=>
   dsimp only at hr
   rw [hqi] at hr
   obtain ⟨hi,rfl⟩:=List.getElem?_eq_some_iff.1 hqi
   dsimp only at hr
   clear hqi
   have d1:decide ((i:Int)≥(l.length:Int))=false:=by simp;omega
   have d2:decide ((l.length:Int)≤(i:Int))=false:=by simp;omega
   have hn:n≤32:=hb.2.2 rfl
   have hmade:=fun (E:Mem)=>pMadeE hF E l ⟨i,n,0⟩ rfl (by dsimp only;omega) (by dsimp only;omega)
   by_cases hk:l[i].k=3
   ·rw [if_pos hk] at hr
    by_cases ho:l[i].t=(⟨#[40]⟩:ByteArray)
    ·rw [if_pos ho] at hr
     have hq1:isT l i [(⟨#[40]⟩:ByteArray)]=true:=by rw [isT_one hi];simp [hk,ho]
     cases hs:sumF l f ⟨i+1,n,0⟩ with
     | none=>rw [hs] at hr;cases hr
     | some r1=>
     rw [hs,Option.map_some] at hr
     have hbs:Bs l ⟨i+1,n,0⟩:=⟨hi,by dsimp only;omega,fun _=>hn⟩
     obtain ⟨hb1,_⟩:=ihs.at hF [] hbs hs
     have hp1:=fun E=>(ihs.at hF E hbs hs).2
     obtain ⟨⟨op1,nm1,k1,ks1⟩,⟨i1,n1,e1⟩⟩:=r1
     obtain ⟨y1,hy1,hk1⟩:=kidY_of (.mk op1 nm1 k1 ks1)
     simp only [hy1,ndX,Nd.op,Nd.name,Nd.n] at hp1
     have ho1:=hk1.one
     have hc1:=hk1.cells
     have hend:=fun own (E:Mem) (s:ByteArray)=>pIsE hF E l ⟨i1,n1,e1⟩ own [s] (by simp)
     simp only [closeF] at hr
     by_cases he1:e1≠0
     ·rw [if_pos he1] at hr
      cases hr
      refine ⟨hb1,CallD.updE hF ?_⟩
      refine CallD.eb Tryz.func217 rfl Tryz.ntmps217 (by rfl) ?_
      repeat' (first|refine Go.a rfl ?_|refine Go.rg ?_|refine GoR.nil ?_|refine Go.ret ?_|refine Go.b rfl ?_|refine Go.rgS dmx (by decide) ?_|refine Go.rgD [3,7,9] (fun _=>True) dmx (by decide) 11 (by decide) (by trivial) ?_|refine GoW.nil rfl ?_|((first|refine GoR.o (by rfl) (by rfl) ?_|refine GoW.o (by rfl) (by rfl) ?_|refine GoW.rd (by rfl) (by rfl) ?_);(conv=>arg 1;simp only [G,Z,Y,Gx,vV,simprocAttr,fb2,fb3,fb9,fb23,fb25,fb29,fb71,fb77,fb110,fb220,mm,pC_at,pC_wr,d1,d2,hq1,ho1,hc1,wrap_succ (show i<4611686018427387904 by omega),show (e1==0)=false by simpa using he1,show (e1 != 0)=true by simpa using he1]);first|show GoR ..|(show _∧GoW ..;refine ⟨by exact fun _=>trivial,?_⟩)|(show _∧_∧_∧GoW ..;refine ⟨rfl,by trivial,(fun H _=>by simp only [G,Z,Y,Gx,vV,simprocAttr,fb2,fb3,fb9,fb23,fb25,fb29,fb71,fb77,fb110,fb220,mm,pC_at,pC_wr,d1,d2,hq1,ho1,hc1,wrap_succ (show i<4611686018427387904 by omega),show (e1==0)=false by simpa using he1,show (e1 != 0)=true by simpa using he1]),?_⟩))|(refine GoW.c c215 (by rfl) (by rfl) rfl ?_;(refine CallD.ret2 (hq _ _ _) ?_);refine ⟨by exact fun _=>trivial,?_⟩)|(refine GoR.c c215 (by rfl) (by rfl) rfl ?_;(refine CallD.ret2 (hq _ _ _) ?_))|(refine GoW.c c157 (by rfl) (by rfl) rfl ?_;(refine CallD.ret2 (hp1 _) ?_);refine ⟨by exact fun _=>trivial,?_⟩)|(refine GoR.c c157 (by rfl) (by rfl) rfl ?_;(refine CallD.ret2 (hp1 _) ?_))|refine Go.condB rfl (fun hc => ?_) (fun hc => ?_))
      refine ⟨(by first | exact .inl rfl | exact .inr rfl),fin ?_⟩
      rw [resD_cell (fn:=Tryz.f217) rfl]
      simp only [optThen_some,resultD_tmp,resultD_cell,G,Z,Y,Gx,vV,simprocAttr,fb2,fb3,fb9,fb23,fb25,fb29,fb71,fb77,fb110,fb220,mm]
      exact ⟨_,rfl,pC_low l _,nil_wf,nd_low _⟩
     ·rw [if_neg he1] at hr
      obtain rfl:e1=0:=Decidable.not_not.1 he1
      by_cases hx:isT l i1 endS=true
      ·rw [if_pos hx] at hr
       cases hr
       obtain ⟨hi1,_⟩:=isT_lt hx
       have hx2:isT l i1 [(⟨#[41]⟩:ByteArray)]=true:=hx
       refine ⟨⟨hi1,hb1.2.1,fun _=>hb1.2.2 rfl⟩,CallD.updE hF ?_⟩
       refine CallD.eb Tryz.func217 rfl Tryz.ntmps217 (by rfl) ?_
       repeat' (first|refine Go.a rfl ?_|refine Go.rg ?_|refine GoR.nil ?_|refine Go.ret ?_|refine Go.b rfl ?_|refine Go.rgS dmx (by decide) ?_|refine Go.rgD [3,7,9] (fun _=>True) dmx (by decide) 11 (by decide) (by trivial) ?_|refine GoW.nil rfl ?_|((first|refine GoR.o (by rfl) (by rfl) ?_|refine GoW.o (by rfl) (by rfl) ?_|refine GoW.rd (by rfl) (by rfl) ?_);(conv=>arg 1;simp only [G,Z,Y,Gx,vV,simprocAttr,fb2,fb3,fb9,fb23,fb25,fb29,fb71,fb77,fb110,fb220,mm,pC_at,pC_wr,d1,d2,hq1,hx2,ho1,hc1,Bool.not_true,wrap_succ (show i<4611686018427387904 by omega),wrap_succ (show i1<4611686018427387904 by omega)]);first|show GoR ..|(show _∧GoW ..;refine ⟨by exact fun _=>trivial,?_⟩)|(show _∧_∧_∧GoW ..;refine ⟨rfl,by trivial,(fun H _=>by simp only [G,Z,Y,Gx,vV,simprocAttr,fb2,fb3,fb9,fb23,fb25,fb29,fb71,fb77,fb110,fb220,mm,pC_at,pC_wr,d1,d2,hq1,hx2,ho1,hc1,Bool.not_true,wrap_succ (show i<4611686018427387904 by omega),wrap_succ (show i1<4611686018427387904 by omega)]),?_⟩))|(refine GoW.c c215 (by rfl) (by rfl) rfl ?_;(first | refine CallD.ret2 (hend _ _ (⟨#[41]⟩:ByteArray)) ?_ | refine CallD.ret2 (hq _ _ _) ?_);refine ⟨by exact fun _=>trivial,?_⟩)|(refine GoR.c c215 (by rfl) (by rfl) rfl ?_;(first | refine CallD.ret2 (hend _ _ (⟨#[41]⟩:ByteArray)) ?_ | refine CallD.ret2 (hq _ _ _) ?_))|(refine GoW.c c157 (by rfl) (by rfl) rfl ?_;(refine CallD.ret2 (hp1 _) ?_);refine ⟨by exact fun _=>trivial,?_⟩)|(refine GoR.c c157 (by rfl) (by rfl) rfl ?_;(refine CallD.ret2 (hp1 _) ?_))|refine Go.condB rfl (fun hc => ?_) (fun hc => ?_))
       refine ⟨(by first | exact .inl rfl | exact .inr rfl),fin ?_⟩
       rw [resD_cell (fn:=Tryz.f217) rfl]
       simp only [optThen_some,resultD_tmp,resultD_cell,G,Z,Y,Gx,vV,simprocAttr,fb2,fb3,fb9,fb23,fb25,fb29,fb71,fb77,fb110,fb220,mm,ho1,hc1]
       exact ⟨_,rfl,pC_low l _,.agg' (ndX_wf (n:=.mk op1 nm1 k1 ks1) hk1),nd_low _⟩
      ·rw [if_neg hx] at hr
       cases hr
       have hx2:isT l i1 [(⟨#[41]⟩:ByteArray)]=false:=Bool.eq_false_iff.2 hx
       have hfail1:=fun (E:Mem) x=>pFailE hF E l ⟨i1,n1,0⟩ rfl x
       refine ⟨⟨hb1.1,hb1.2.1,nz2⟩,CallD.updE hF ?_⟩
       refine CallD.eb Tryz.func217 rfl Tryz.ntmps217 (by rfl) ?_
       repeat' (first|refine Go.a rfl ?_|refine Go.rg ?_|refine GoR.nil ?_|refine Go.ret ?_|refine Go.b rfl ?_|refine Go.rgS dmx (by decide) ?_|refine Go.rgD [3,7,9] (fun _=>True) dmx (by decide) 11 (by decide) (by trivial) ?_|refine GoW.nil rfl ?_|((first|refine GoR.o (by rfl) (by rfl) ?_|refine GoW.o (by rfl) (by rfl) ?_|refine GoW.rd (by rfl) (by rfl) ?_);(conv=>arg 1;simp only [G,Z,Y,Gx,vV,simprocAttr,fb2,fb3,fb9,fb23,fb25,fb29,fb71,fb77,fb110,fb220,mm,pC_at,pC_wr,d1,d2,hq1,hx2,ho1,hc1,Bool.not_false,wrap_succ (show i<4611686018427387904 by omega),nilN,Nd.c_mk]);first|show GoR ..|(show _∧GoW ..;refine ⟨by exact fun _=>trivial,?_⟩)|(show _∧_∧_∧GoW ..;refine ⟨rfl,by trivial,(fun H _=>by simp only [G,Z,Y,Gx,vV,simprocAttr,fb2,fb3,fb9,fb23,fb25,fb29,fb71,fb77,fb110,fb220,mm,pC_at,pC_wr,d1,d2,hq1,hx2,ho1,hc1,Bool.not_false,wrap_succ (show i<4611686018427387904 by omega),nilN,Nd.c_mk]),?_⟩))|(refine GoW.c c215 (by rfl) (by rfl) rfl ?_;(first | refine CallD.ret2 (hend _ _ (⟨#[41]⟩:ByteArray)) ?_ | refine CallD.ret2 (hq _ _ _) ?_);refine ⟨by exact fun _=>trivial,?_⟩)|(refine GoR.c c215 (by rfl) (by rfl) rfl ?_;(first | refine CallD.ret2 (hend _ _ (⟨#[41]⟩:ByteArray)) ?_ | refine CallD.ret2 (hq _ _ _) ?_))|(refine GoW.c c157 (by rfl) (by rfl) rfl ?_;(refine CallD.ret2 (hp1 _) ?_);refine ⟨by exact fun _=>trivial,?_⟩)|(refine GoR.c c157 (by rfl) (by rfl) rfl ?_;(refine CallD.ret2 (hp1 _) ?_))|(refine GoW.c c234 (by rfl) (by rfl) rfl ?_;(refine CallD.ret2 (hfail1 _ _) ?_);refine ⟨by exact fun _=>trivial,?_⟩)|(refine GoR.c c234 (by rfl) (by rfl) rfl ?_;(refine CallD.ret2 (hfail1 _ _) ?_))|refine Go.condB rfl (fun hc => ?_) (fun hc => ?_))
       refine ⟨(by first | exact .inl rfl | exact .inr rfl),fin ?_⟩
       rw [resD_cell (fn:=Tryz.f217) rfl]
       simp only [optThen_some,resultD_tmp,resultD_cell,G,Z,Y,Gx,vV,simprocAttr,fb2,fb3,fb9,fb23,fb25,fb29,fb71,fb77,fb110,fb220,mm,nilN,Nd.c_mk]
       exact ⟨_,rfl,pC_low l _,.refl,nilN_low⟩
    ·rw [if_neg ho] at hr
     have hq1:isT l i [(⟨#[40]⟩:ByteArray)]=false:=by rw [isT_one hi];simp [ho]
     by_cases hm:l[i].t=(⟨#[45]⟩:ByteArray)
     ·rw [if_pos hm] at hr
      have hq2:isT l i [(⟨#[45]⟩:ByteArray)]=true:=by rw [isT_one hi];simp [hk,hm]
      by_cases hbig:32<n+1
      ·rw [if_pos hbig] at hr
       cases hr
       have hms:madeS ⟨i,n,0⟩=⟨i,n+1,4⟩:=by unfold madeS;rw [if_pos hbig]
       rw [hms] at hmade
       refine ⟨⟨hb.1,by dsimp only;omega,nz4⟩,CallD.updE hF ?_⟩
       refine CallD.eb Tryz.func217 rfl Tryz.ntmps217 (by rfl) ?_
       repeat' (first|refine Go.a rfl ?_|refine Go.rg ?_|refine GoR.nil ?_|refine Go.ret ?_|refine Go.b rfl ?_|refine Go.rgS dmx (by decide) ?_|refine Go.rgD [3,7,9] (fun _=>True) dmx (by decide) 11 (by decide) (by trivial) ?_|refine GoW.nil rfl ?_|((first|refine GoR.o (by rfl) (by rfl) ?_|refine GoW.o (by rfl) (by rfl) ?_|refine GoW.rd (by rfl) (by rfl) ?_);(conv=>arg 1;simp only [G,Z,Y,Gx,vV,simprocAttr,fb2,fb3,fb9,fb23,fb25,fb29,fb71,fb77,fb110,fb220,mm,pC_at,d1,d2,hq1,hq2,hbig,Bool.not_true]);first|show GoR ..|(show _∧GoW ..;refine ⟨by exact fun _=>trivial,?_⟩)|(show _∧_∧_∧GoW ..;refine ⟨rfl,by trivial,(fun H _=>by simp only [G,Z,Y,Gx,vV,simprocAttr,fb2,fb3,fb9,fb23,fb25,fb29,fb71,fb77,fb110,fb220,mm,pC_at,d1,d2,hq1,hq2,hbig,Bool.not_true]),?_⟩))|(refine GoW.c c215 (by rfl) (by rfl) rfl ?_;(refine CallD.ret2 (hq _ _ _) ?_);refine ⟨by exact fun _=>trivial,?_⟩)|(refine GoR.c c215 (by rfl) (by rfl) rfl ?_;(refine CallD.ret2 (hq _ _ _) ?_))|(refine GoW.c c216 (by rfl) (by rfl) rfl ?_;(refine CallD.ret2 (hmade _) ?_);refine ⟨by exact fun _=>trivial,?_⟩)|(refine GoR.c c216 (by rfl) (by rfl) rfl ?_;(refine CallD.ret2 (hmade _) ?_))|refine Go.condB rfl (fun hc => ?_) (fun hc => ?_))
       refine ⟨(by first | exact .inl rfl | exact .inr rfl),fin ?_⟩
       rw [resD_cell (fn:=Tryz.f217) rfl]
       simp only [optThen_some,resultD_tmp,resultD_cell,G,Z,Y,Gx,vV,simprocAttr,fb2,fb3,fb9,fb23,fb25,fb29,fb71,fb77,fb110,fb220,mm]
       exact ⟨_,rfl,pC_low l _,nil_wf,nd_low _⟩
      ·rw [if_neg hbig] at hr
       have hms:madeS ⟨i,n,0⟩=⟨i+1,n+1,0⟩:=by unfold madeS;rw [if_neg hbig]
       rw [hms] at hmade
       cases hs:facF l f ⟨i+1,n+1,0⟩ with
       | none=>rw [hs] at hr;cases hr
       | some r1=>
       rw [hs,Option.map_some] at hr
       cases hr
       have hbs:Bs l ⟨i+1,n+1,0⟩:=⟨hi,by dsimp only;omega,fun _=>by dsimp only;omega⟩
       obtain ⟨hb1,_⟩:=ihf.at hF [] hbs hs
       have hp1:=fun E=>(ihf.at hF E hbs hs).2
       obtain ⟨⟨op1,nm1,k1,ks1⟩,st1⟩:=r1
       obtain ⟨y1,hy1,hk1⟩:=kidY_of (.mk op1 nm1 k1 ks1)
       have hcc : ∀ id,Wf (.sl id 4 1 (Nd.mk op1 nm1 k1 ks1).c) (.sl none 4 1 (ndsC [.mk op1 nm1 k1 ks1])):=by
        rw [show ndsC [.mk op1 nm1 k1 ks1]=(Nd.mk op1 nm1 k1 ks1).c by simp [ndsC]]
        exact fun _=>.disown
       simp only [hy1,ndX,Nd.op,Nd.name,Nd.n] at hp1 hcc
       have ho1:=hk1.one
       have hc1:=hk1.cells
       refine ⟨hb1,CallD.updE hF ?_⟩
       refine CallD.eb Tryz.func217 rfl Tryz.ntmps217 (by rfl) ?_
       repeat' (first|refine Go.a rfl ?_|refine Go.rg ?_|refine GoR.nil ?_|refine Go.ret ?_|refine Go.b rfl ?_|refine Go.rgS dmx (by decide) ?_|refine Go.rgD [3,7,9] (fun _=>True) dmx (by decide) 11 (by decide) (by trivial) ?_|refine GoW.nil rfl ?_|((first|refine GoR.o (by rfl) (by rfl) ?_|refine GoW.o (by rfl) (by rfl) ?_|refine GoW.rd (by rfl) (by rfl) ?_);(conv=>arg 1;simp only [G,Z,Y,Gx,vV,simprocAttr,fb2,fb3,fb9,fb23,fb25,fb29,fb71,fb77,fb110,fb220,mm,pC_at,d1,d2,hq1,hq2,hbig,ho1,hc1,wr_full,Bool.not_false]);first|show GoR ..|(show _∧GoW ..;refine ⟨by exact fun _=>trivial,?_⟩)|(show _∧_∧_∧GoW ..;refine ⟨rfl,by trivial,(fun H _=>by simp only [G,Z,Y,Gx,vV,simprocAttr,fb2,fb3,fb9,fb23,fb25,fb29,fb71,fb77,fb110,fb220,mm,pC_at,d1,d2,hq1,hq2,hbig,ho1,hc1,wr_full,Bool.not_false]),?_⟩))|(refine GoW.c c215 (by rfl) (by rfl) rfl ?_;(refine CallD.ret2 (hq _ _ _) ?_);refine ⟨by exact fun _=>trivial,?_⟩)|(refine GoR.c c215 (by rfl) (by rfl) rfl ?_;(refine CallD.ret2 (hq _ _ _) ?_))|(refine GoW.c c216 (by rfl) (by rfl) rfl ?_;(refine CallD.ret2 (hmade _) ?_);refine ⟨by exact fun _=>trivial,?_⟩)|(refine GoR.c c216 (by rfl) (by rfl) rfl ?_;(refine CallD.ret2 (hmade _) ?_))|(refine GoW.c c217 (by rfl) (by rfl) rfl ?_;(refine CallD.ret2 (hp1 _) ?_);refine ⟨by exact fun _=>trivial,?_⟩)|(refine GoR.c c217 (by rfl) (by rfl) rfl ?_;(refine CallD.ret2 (hp1 _) ?_))|refine Go.condB rfl (fun hc => ?_) (fun hc => ?_))
       refine ⟨(by first | exact .inl rfl | exact .inr rfl),fin ?_⟩
       rw [resD_cell (fn:=Tryz.f217) rfl]
       simp only [optThen_some,resultD_tmp,resultD_cell,G,Z,Y,Gx,vV,simprocAttr,fb2,fb3,fb9,fb23,fb25,fb29,fb71,fb77,fb110,fb220,mm,ho1,hc1]
       refine ⟨_,rfl,pC_low l _,?_,nd_low _⟩
       rw [Nd.c_mk]
       exact .agg' (.cons .refl (.cons .refl (.cons .refl (.cons (hcc _) .nil))))
     ·rw [if_neg hm] at hr
      cases hr
      have hq2:isT l i [(⟨#[45]⟩:ByteArray)]=false:=by rw [isT_one hi];simp [hm]
      refine ⟨⟨hb.1,hb.2.1,nz2⟩,CallD.updE hF ?_⟩
      refine CallD.eb Tryz.func217 rfl Tryz.ntmps217 (by rfl) ?_
      repeat' (first|refine Go.a rfl ?_|refine Go.rg ?_|refine GoR.nil ?_|refine Go.ret ?_|refine Go.b rfl ?_|refine Go.rgS dmx (by decide) ?_|refine Go.rgD [3,7,9] (fun H=>objAt H o=some (pC l ⟨i,n,0⟩)) dmx (by decide) 11 (by decide) (by (simp only [m2,m4])) ?_|refine GoW.nil rfl ?_|((first|refine GoR.o (by rfl) (by rfl) ?_|refine GoW.o (by rfl) (by rfl) ?_|refine GoW.rd (by rfl) (by rfl) ?_);(conv=>arg 1;simp only [G,Z,Y,Gx,vV,simprocAttr,fb2,fb3,fb9,fb23,fb25,fb29,fb71,fb77,fb110,fb220,mm,pC_at,d1,d2,hq1,hq2,toksAt hi,Tok.c,hk,nilN,Nd.c_mk]);first|show GoR ..|(show _∧GoW ..;refine ⟨by (first|exact fun h=>absurd h (by decide)|(intro _;(simp only [m2,m4]))),?_⟩)|(show _∧_∧_∧GoW ..;refine ⟨rfl,by (simp only [m2,m4]),(fun H hI=>by (try dsimp only at hI);simp only [G,Z,Y,Gx,vV,simprocAttr,fb2,fb3,fb9,fb23,fb25,fb29,fb71,fb77,fb110,fb220,mm,pC_at,d1,d2,hq1,hq2,toksAt hi,Tok.c,hk,nilN,Nd.c_mk,hI]),?_⟩))|(refine GoW.c c215 (by rfl) (by rfl) rfl ?_;(refine CallD.ret2 (hq _ _ _) ?_);refine ⟨by (first|exact fun h=>absurd h (by decide)|(intro _;(simp only [m2,m4]))),?_⟩)|(refine GoR.c c215 (by rfl) (by rfl) rfl ?_;(refine CallD.ret2 (hq _ _ _) ?_))|(refine GoW.c c234 (by rfl) (by rfl) rfl ?_;(refine CallD.ret2 (hfail _ _) ?_);refine ⟨by (first|exact fun h=>absurd h (by decide)|(intro _;(simp only [m2,m4]))),?_⟩)|(refine GoR.c c234 (by rfl) (by rfl) rfl ?_;(refine CallD.ret2 (hfail _ _) ?_))|refine Go.condB rfl (fun hc => ?_) (fun hc => ?_))
      refine ⟨(by first | exact .inl rfl | exact .inr rfl),fin ?_⟩
      rw [resD_cell (fn:=Tryz.f217) rfl]
      simp only [optThen_some,resultD_tmp,resultD_cell,G,Z,Y,Gx,vV,simprocAttr,fb2,fb3,fb9,fb23,fb25,fb29,fb71,fb77,fb110,fb220,mm,nilN,Nd.c_mk]
      exact ⟨_,rfl,pC_low l _,.refl,nilN_low⟩
   ·rw [if_neg hk] at hr
    have hq1:isT l i [(⟨#[40]⟩:ByteArray)]=false:=by rw [isT_one hi];simp [hk]
    have hq2:isT l i [(⟨#[45]⟩:ByteArray)]=false:=by rw [isT_one hi];simp [hk]
    have hkb:(l[i].k==3)=false:=by simpa using hk
    by_cases hbig:32<n+1
    ·rw [if_pos hbig] at hr
     cases hr
     have hms:madeS ⟨i,n,0⟩=⟨i,n+1,4⟩:=by unfold madeS;rw [if_pos hbig]
     rw [hms] at hmade
     refine ⟨⟨hb.1,by dsimp only;omega,nz4⟩,CallD.updE hF ?_⟩
     refine CallD.eb Tryz.func217 rfl Tryz.ntmps217 (by rfl) ?_
     repeat' (first|refine Go.a rfl ?_|refine Go.rg ?_|refine GoR.nil ?_|refine Go.ret ?_|refine Go.b rfl ?_|refine Go.rgS dmx (by decide) ?_|refine Go.rgD [3,7,9] (fun H=>objAt H o=some (pC l ⟨i,n,0⟩)) dmx (by decide) 11 (by decide) (by (simp only [m2,m4])) ?_|refine GoW.nil rfl ?_|((first|refine GoR.o (by rfl) (by rfl) ?_|refine GoW.o (by rfl) (by rfl) ?_|refine GoW.rd (by rfl) (by rfl) ?_);(conv=>arg 1;simp only [G,Z,Y,Gx,vV,simprocAttr,fb2,fb3,fb9,fb23,fb25,fb29,fb71,fb77,fb110,fb220,mm,pC_at,d1,d2,hq1,hq2,hbig,toksAt hi,Tok.c,hkb,Bool.not_true]);first|show GoR ..|(show _∧GoW ..;refine ⟨by (first|exact fun h=>absurd h (by decide)|(intro _;(simp only [m2,m4]))),?_⟩)|(show _∧_∧_∧GoW ..;refine ⟨rfl,by (simp only [m2,m4]),(fun H hI=>by (try dsimp only at hI);simp only [G,Z,Y,Gx,vV,simprocAttr,fb2,fb3,fb9,fb23,fb25,fb29,fb71,fb77,fb110,fb220,mm,pC_at,d1,d2,hq1,hq2,hbig,toksAt hi,Tok.c,hkb,Bool.not_true,hI]),?_⟩))|(refine GoW.c c215 (by rfl) (by rfl) rfl ?_;(refine CallD.ret2 (hq _ _ _) ?_);refine ⟨by (first|exact fun h=>absurd h (by decide)|(intro _;(simp only [m2,m4]))),?_⟩)|(refine GoR.c c215 (by rfl) (by rfl) rfl ?_;(refine CallD.ret2 (hq _ _ _) ?_))|(refine GoW.c c216 (by rfl) (by rfl) rfl ?_;(refine CallD.ret2 (hmade _) ?_);refine ⟨by (first|exact fun h=>absurd h (by decide)|(intro _;(simp only [m2,m4]))),?_⟩)|(refine GoR.c c216 (by rfl) (by rfl) rfl ?_;(refine CallD.ret2 (hmade _) ?_))|refine Go.condB rfl (fun hc => ?_) (fun hc => ?_))
     refine ⟨(by first | exact .inl rfl | exact .inr rfl),fin ?_⟩
     rw [resD_cell (fn:=Tryz.f217) rfl]
     simp only [optThen_some,resultD_tmp,resultD_cell,G,Z,Y,Gx,vV,simprocAttr,fb2,fb3,fb9,fb23,fb25,fb29,fb71,fb77,fb110,fb220,mm]
     exact ⟨_,rfl,pC_low l _,nil_wf,nd_low _⟩
    ·rw [if_neg hbig] at hr
     cases hr
     have hms:madeS ⟨i,n,0⟩=⟨i+1,n+1,0⟩:=by unfold madeS;rw [if_neg hbig]
     rw [hms] at hmade
     refine ⟨⟨hi,by dsimp only;omega,fun _=>by dsimp only;omega⟩,CallD.updE hF ?_⟩
     by_cases h2:l[i].k=2
     ·have hlf:leafN l[i] = .mk (⟨#[110,117,109]⟩:ByteArray) ⟨#[]⟩ l[i].n []:=by unfold leafN;rw [if_pos h2]
      rw [hlf]
      refine CallD.eb Tryz.func217 rfl Tryz.ntmps217 (by rfl) ?_
      repeat' (first|refine Go.a rfl ?_|refine Go.rg ?_|refine GoR.nil ?_|refine Go.ret ?_|refine Go.b rfl ?_|refine Go.rgS dmx (by decide) ?_|refine Go.rgD [3,7,9] (fun H=>objAt H o=some (pC l ⟨i,n,0⟩)) dmx (by decide) 11 (by decide) (by (simp only [m2,m4])) ?_|refine GoW.nil rfl ?_|((first|refine GoR.o (by rfl) (by rfl) ?_|refine GoW.o (by rfl) (by rfl) ?_|refine GoW.rd (by rfl) (by rfl) ?_);(conv=>arg 1;simp only [G,Z,Y,Gx,vV,simprocAttr,fb2,fb3,fb9,fb23,fb25,fb29,fb71,fb77,fb110,fb220,mm,pC_at,d1,d2,hq1,hq2,hbig,toksAt hi,Tok.c,hkb,h2,Bool.not_false]);first|show GoR ..|(show _∧GoW ..;refine ⟨by (first|exact fun h=>absurd h (by decide)|(intro _;(simp only [m2,m4]))),?_⟩)|(show _∧_∧_∧GoW ..;refine ⟨rfl,by (simp only [m2,m4]),(fun H hI=>by (try dsimp only at hI);simp only [G,Z,Y,Gx,vV,simprocAttr,fb2,fb3,fb9,fb23,fb25,fb29,fb71,fb77,fb110,fb220,mm,pC_at,d1,d2,hq1,hq2,hbig,toksAt hi,Tok.c,hkb,h2,Bool.not_false,hI]),?_⟩))|(refine GoW.c c215 (by rfl) (by rfl) rfl ?_;(refine CallD.ret2 (hq _ _ _) ?_);refine ⟨by (first|exact fun h=>absurd h (by decide)|(intro _;(simp only [m2,m4]))),?_⟩)|(refine GoR.c c215 (by rfl) (by rfl) rfl ?_;(refine CallD.ret2 (hq _ _ _) ?_))|(refine GoW.c c216 (by rfl) (by rfl) rfl ?_;(refine CallD.ret2 (hmade _) ?_);refine ⟨by (first|exact fun h=>absurd h (by decide)|(intro _;(simp only [m2,m4]))),?_⟩)|(refine GoR.c c216 (by rfl) (by rfl) rfl ?_;(refine CallD.ret2 (hmade _) ?_))|refine Go.condB rfl (fun hc => ?_) (fun hc => ?_))
      refine ⟨(by first | exact .inl rfl | exact .inr rfl),fin ?_⟩
      rw [resD_cell (fn:=Tryz.f217) rfl]
      simp only [optThen_some,resultD_tmp,resultD_cell,G,Z,Y,Gx,vV,simprocAttr,fb2,fb3,fb9,fb23,fb25,fb29,fb71,fb77,fb110,fb220,mm]
      refine ⟨_,rfl,pC_low l _,?_,nd_low _⟩
      rw [Nd.c_mk]
      exact .agg' (.cons .refl (.cons .refl (.cons .refl (.cons .nilE .nil))))
     ·have hlf:leafN l[i] = .mk (⟨#[110,97,109,101]⟩:ByteArray) l[i].t 0 []:=by unfold leafN;rw [if_neg h2]
      have h2b:(l[i].k==2)=false:=by simpa using h2
      rw [hlf]
      refine CallD.eb Tryz.func217 rfl Tryz.ntmps217 (by rfl) ?_
      repeat' (first|refine Go.a rfl ?_|refine Go.rg ?_|refine GoR.nil ?_|refine Go.ret ?_|refine Go.b rfl ?_|refine Go.rgS dmx (by decide) ?_|refine Go.rgD [3,7,9] (fun H=>objAt H o=some (pC l ⟨i,n,0⟩)) dmx (by decide) 11 (by decide) (by (simp only [m2,m4])) ?_|refine GoW.nil rfl ?_|((first|refine GoR.o (by rfl) (by rfl) ?_|refine GoW.o (by rfl) (by rfl) ?_|refine GoW.rd (by rfl) (by rfl) ?_);(conv=>arg 1;simp only [G,Z,Y,Gx,vV,simprocAttr,fb2,fb3,fb9,fb23,fb25,fb29,fb71,fb77,fb110,fb220,mm,pC_at,d1,d2,hq1,hq2,hbig,toksAt hi,Tok.c,hkb,h2b,Bool.not_false]);first|show GoR ..|(show _∧GoW ..;refine ⟨by (first|exact fun h=>absurd h (by decide)|(intro _;(simp only [m2,m4]))),?_⟩)|(show _∧_∧_∧GoW ..;refine ⟨rfl,by (simp only [m2,m4]),(fun H hI=>by (try dsimp only at hI);simp only [G,Z,Y,Gx,vV,simprocAttr,fb2,fb3,fb9,fb23,fb25,fb29,fb71,fb77,fb110,fb220,mm,pC_at,d1,d2,hq1,hq2,hbig,toksAt hi,Tok.c,hkb,h2b,Bool.not_false,hI]),?_⟩))|(refine GoW.c c215 (by rfl) (by rfl) rfl ?_;(refine CallD.ret2 (hq _ _ _) ?_);refine ⟨by (first|exact fun h=>absurd h (by decide)|(intro _;(simp only [m2,m4]))),?_⟩)|(refine GoR.c c215 (by rfl) (by rfl) rfl ?_;(refine CallD.ret2 (hq _ _ _) ?_))|(refine GoW.c c216 (by rfl) (by rfl) rfl ?_;(refine CallD.ret2 (hmade _) ?_);refine ⟨by (first|exact fun h=>absurd h (by decide)|(intro _;(simp only [m2,m4]))),?_⟩)|(refine GoR.c c216 (by rfl) (by rfl) rfl ?_;(refine CallD.ret2 (hmade _) ?_))|refine Go.condB rfl (fun hc => ?_) (fun hc => ?_))
      refine ⟨(by first | exact .inl rfl | exact .inr rfl),fin ?_⟩
      rw [resD_cell (fn:=Tryz.f217) rfl]
      simp only [optThen_some,resultD_tmp,resultD_cell,G,Z,Y,Gx,vV,simprocAttr,fb2,fb3,fb9,fb23,fb25,fb29,fb71,fb77,fb110,fb220,mm]
      refine ⟨_,rfl,pC_low l _,?_,nd_low _⟩
      rw [Nd.c_mk]
      exact .agg' (.cons .refl (.cons .refl (.cons .refl (.cons .nilE .nil))))
end Go.Proofs.DgT
namespace Go.Proofs.DgT
open Go Go.DM
set_option maxRecDepth 100000
theorem Fam.new (S:Mem) (x:Ob):Fam (fun c=>S++[x,.obj c]) (S.length+1) (S.length+2):=
 ⟨by omega,fun c=>by simp,fun c=>by simp [objAt,List.getElem?_append_right],fun c c'=>by
  show (S++[x,.obj c]).set (S.length+1) _=_
  rw [set_app]
  rfl⟩
def ofF (l:List Tok) (k:Nat):Option (Nd×St):=sumF l (l.length+1) ⟨k,0,0⟩
theorem ofF_good {l:List Tok} (hw : ∀ t∈l,WordOk t) {k:Nat} (hk:k≤l.length) : ∃ r,ofF l k=some r∧GoodR l (l.length+1) ⟨k,0,0⟩ r:=
 sum_good hw _ ⟨k,0,0⟩ hk (by dsimp only;omega) (.inl (Nat.zero_le _)) (Nat.zero_le _) (.inl rfl)
def okN (r:Nd×St):Nd:=if r.2.e=0 then r.1 else nilN
theorem triple_low {m:Nat} {n:Nd} {a b:Int} : DLow m (.tup [.agg n.c,.int .i64 a,.int .i64 b]):=.tup' (.cons (nd_low n) (.cons (.int _ _) (.cons (.int _ _) .nil)))
theorem exprOf {l:List Tok} (hl:l.length<100000) {k:Nat} (hk:k≤l.length) {r:Nd×St} (hr:ofF l k=some r) (S:Mem) :
  CallD Tryz.prog O 127 [.sl none 4 l.length (toksC l),.int .i64 (k:Int)] S fun d S'=>S'=S∧d = .tup [.agg (okN r).c,.int .i64 (r.2.i:Int),.int .i64 r.2.e]:=by
 have hs : ∀ E:Mem,CallD Tryz.prog O 157 [.ptr (S.length+1) 0] (S++[.obj [.str ⟨#[]⟩,.str ⟨#[]⟩,.int .i64 0,.nils],.obj (pC l ⟨k,0,0⟩)]) fun d S'=>S'=S++[.obj [.str ⟨#[]⟩,.str ⟨#[]⟩,.int .i64 0,.nils],.obj (pC l r.2)]∧d = .agg r.1.c:=fun E=>
  (sumW hl (facW hl (l.length+1)) _ _ (Fam.new S _) ⟨k,0,0⟩ r ⟨hk,Nat.zero_le _,fun _=>Nat.zero_le _⟩ hr).2
 obtain ⟨nd,⟨i1,n1,e1⟩⟩:=r
 obtain ⟨y1,hy1,hk1⟩:=kidY_of nd
 have ho1:=hk1.one
 have hc1:=hk1.cells
 simp only [pC,hy1,ndX,Int.natCast_zero,Int.ofNat_zero,Int.cast_ofNat_Int] at hs
 have hk0:((k:Int)<0)=False:=eq_false (by omega)
 have hkl:((l.length:Int)<(k:Int))=False:=eq_false (by omega)
 refine CallD.e Tryz.func127 rfl Tryz.ntmps127 (by rfl) ?_
 by_cases he:e1=0
 ·subst he
  repeat' (first|refine Go.a rfl ?_|refine Go.rg ?_|refine GoR.nil ?_|refine Go.ret ?_|refine Go.b rfl ?_|refine Go.rgS dmx (by decide) ?_|refine Go.rgD (id:=4) [4,8] (fun H=>objAt H (S.length+1)=some [.sl none 4 l.length (toksC l),.int .i64 (i1:Int),.int .i64 (n1:Int),.int .i64 0]) dmx (by decide) 12 (by decide) (by (simp only [objAt_app,objAt_succ,objAt_zero])) ?_|refine Go.rgD (id:=5) [4] (fun H=>objAt H (S.length+1)=some [.sl none 4 l.length (toksC l),.int .i64 (i1:Int),.int .i64 (n1:Int),.int .i64 0]) dmx (by decide) 8 (by decide) (by (simp only [objAt_app,objAt_succ,objAt_zero])) ?_|refine GoW.nil rfl ?_|((first|refine GoR.o (by rfl) (by rfl) ?_|refine GoW.o (by rfl) (by rfl) ?_|refine GoW.rd (by rfl) (by rfl) ?_);(conv=>arg 1;simp only [G,Z,Y,Gx,vV,simprocAttr,fb2,fb3,fb9,fb23,fb25,fb29,fb71,fb220,ho1,hc1,hk0,hkl]);first|show GoR ..|(show _∧GoW ..;refine ⟨by (first|exact fun h=>absurd h (by decide)|(intro _;(simp only [objAt_app,objAt_succ,objAt_zero]))),?_⟩)|(show _∧_∧_∧GoW ..;refine ⟨rfl,by (simp only [objAt_app,objAt_succ,objAt_zero]),(fun H hI=>by (try dsimp only at hI);simp only [G,Z,Y,Gx,vV,simprocAttr,fb2,fb3,fb9,fb23,fb25,fb29,fb71,fb220,ho1,hc1,hk0,hkl,hI]),?_⟩))|(refine GoW.c c157 (by rfl) (by rfl) rfl ?_;(refine CallD.ret2 (hs []) ?_);refine ⟨by (first|exact fun h=>absurd h (by decide)|(intro _;(simp only [objAt_app,objAt_succ,objAt_zero]))),?_⟩)|(refine GoR.c c157 (by rfl) (by rfl) rfl ?_;(refine CallD.ret2 (hs []) ?_))|refine Go.condB rfl (fun hc => ?_) (fun hc => ?_))
  refine ⟨(by first | exact .inl rfl | exact .inr rfl),fin ?_⟩
  rw [resD_three (fn:=Tryz.f127) rfl]
  simp only [optThen_some,resultD_tmp,resultD_cell,G,Z,Y,Gx,vV,simprocAttr,fb2,fb3,fb9,fb23,fb25,fb29,fb71,fb220,ho1,hc1]
  exact ⟨_,_,rfl,Wf.to_Wk (.tup' (.cons (.agg' (ndX_wf hk1)) .refl)) triple_low,rfl⟩
 ·repeat' (first|refine Go.a rfl ?_|refine Go.rg ?_|refine GoR.nil ?_|refine Go.ret ?_|refine Go.b rfl ?_|refine Go.rgS dmx (by decide) ?_|refine Go.rgD (id:=4) [4,8] (fun H=>objAt H (S.length+1)=some [.sl none 4 l.length (toksC l),.int .i64 (i1:Int),.int .i64 (n1:Int),.int .i64 e1]) dmx (by decide) 12 (by decide) (by (simp only [objAt_app,objAt_succ,objAt_zero])) ?_|refine Go.rgD (id:=5) [4] (fun H=>objAt H (S.length+1)=some [.sl none 4 l.length (toksC l),.int .i64 (i1:Int),.int .i64 (n1:Int),.int .i64 e1]) dmx (by decide) 8 (by decide) (by (simp only [objAt_app,objAt_succ,objAt_zero])) ?_|refine GoW.nil rfl ?_|((first|refine GoR.o (by rfl) (by rfl) ?_|refine GoW.o (by rfl) (by rfl) ?_|refine GoW.rd (by rfl) (by rfl) ?_);(conv=>arg 1;simp only [G,Z,Y,Gx,vV,simprocAttr,fb2,fb3,fb9,fb23,fb25,fb29,fb71,fb220,ho1,hc1,hk0,hkl,show (e1==0)=false by simpa using he,show (e1 != 0)=true by simpa using he]);first|show GoR ..|(show _∧GoW ..;refine ⟨by (first|exact fun h=>absurd h (by decide)|(intro _;(simp only [objAt_app,objAt_succ,objAt_zero]))),?_⟩)|(show _∧_∧_∧GoW ..;refine ⟨rfl,by (simp only [objAt_app,objAt_succ,objAt_zero]),(fun H hI=>by (try dsimp only at hI);simp only [G,Z,Y,Gx,vV,simprocAttr,fb2,fb3,fb9,fb23,fb25,fb29,fb71,fb220,ho1,hc1,hk0,hkl,show (e1==0)=false by simpa using he,show (e1 != 0)=true by simpa using he,hI]),?_⟩))|(refine GoW.c c157 (by rfl) (by rfl) rfl ?_;(refine CallD.ret2 (hs []) ?_);refine ⟨by (first|exact fun h=>absurd h (by decide)|(intro _;(simp only [objAt_app,objAt_succ,objAt_zero]))),?_⟩)|(refine GoR.c c157 (by rfl) (by rfl) rfl ?_;(refine CallD.ret2 (hs []) ?_))|refine Go.condB rfl (fun hc => ?_) (fun hc => ?_))
  refine ⟨(by first | exact .inl rfl | exact .inr rfl),fin ?_⟩
  rw [resD_three (fn:=Tryz.f127) rfl]
  simp only [optThen_some,resultD_tmp,resultD_cell,G,Z,Y,Gx,vV,simprocAttr,fb2,fb3,fb9,fb23,fb25,fb29,fb71,fb220,ho1,hc1]
  have:okN (nd,⟨i1,n1,e1⟩)=nilN:=by unfold okN;rw [if_neg he]
  rw [this]
  exact ⟨_,_,rfl,Wf.to_Wk (.tup' (.cons nil_wf .refl)) triple_low,rfl⟩
def placeF (l:List Tok) (i:Nat) (s:ByteArray):Nat:=match l[i]? with | some t=>t.a | none=>s.size
theorem lexF_err {s:ByteArray} {a:Nat} {e:Int} (h:lexF s = .error (a,e)):e≠0:=by
 unfold lexF at h
 split at h
 ·cases h;decide
 ·unfold lexS at h
  exact key _ _ _ _ _ h
where
 one : ∀ (l:List UInt8) (e:Int),lexOne l = .error e→e≠0:=by
  intro l e h
  unfold lexOne at h
  repeat' split at h
  all_goals first
   | (cases h;decide)
   | (cases h;done)
 key : ∀ (f:Nat) (l:List UInt8) (b a:Nat) (e:Int),lexAll f l b = .error (a,e)→e≠0
  | 0,_,_,_,_,h=>by cases h
  | _+1,[],_,_,_,h=>by cases h
  | f+1,x::r,b,a,e,h=>by
   unfold lexAll at h
   split at h
   ·exact key f r (b+1) a e h
   ·split at h
    ·rename_i e' ho
     cases h
     exact one _ _ ho
    ·rename_i k n v ho
     cases hq:lexAll f ((x::r).drop n) (b+n) with
     | error y=>
      rw [hq] at h
      obtain ⟨a',e'⟩:=y
      cases h
      exact key f _ _ _ _ hq
     | ok ts=>rw [hq] at h;cases h
theorem lexF_len {s:ByteArray} (hs:s.size<1000000) {l:List Tok} (h:lexF s = .ok l):l.length≤1024:=by
 unfold lexF at h
 split at h
 ·cases h
 ·have:=(lexS_placed h).count.1
  have e:s.data.toList.length=s.size:=Array.length_toList
  omega
end Go.Proofs.DgT
