/- The document's reader: what looks at a word, what counts a node, what notes an error; products and sums. -/
import Derived.Test.YtcdijoaabbjioaaGreatDoorDgP4x
set_option linter.unusedSimpArgs false
set_option linter.unusedVariables false
namespace Go.Proofs.DgT
open Go Go.DM
set_option maxRecDepth 100000
def rC (l:List Tok) (a c b w:Int):List D:=[.sl none 4 l.length (toksC l),.int .i64 a,.int .i64 c,.int .i64 b,.int .i64 w]
theorem rC_low {m:Nat} {l:List Tok} {a c b w:Int} : LowL m (rC l a c b w):=.cons (.sl' (toks_low l)) (.cons (.int _ _) (.cons (.int _ _) (.cons (.int _ _) (.cons (.int _ _) .nil))))
theorem rC_at {l:List Tok} {a c b w:Int} : (rC l a c b w)[0]?=some (.sl none 4 l.length (toksC l))∧(rC l a c b w)[1]?=some (.int .i64 a)∧(rC l a c b w)[2]?=some (.int .i64 c)∧(rC l a c b w)[3]?=some (.int .i64 b)∧(rC l a c b w)[4]?=some (.int .i64 w)∧(rC l a c b w).length=5:=⟨rfl,rfl,rfl,rfl,rfl,rfl⟩
theorem rC_wr {l:List Tok} {a c b w x:Int} : (rC l a c b w).set 1 (.int .i64 x)=rC l x c b w∧(rC l a c b w).set 2 (.int .i64 x)=rC l a x b w∧(rC l a c b w).set 3 (.int .i64 x)=rC l a c x w∧(rC l a c b w).set 4 (.int .i64 x)=rC l a c b x ∧
  wr (rC l a c b w) 1 [.int .i64 x]=rC l x c b w∧wr (rC l a c b w) 2 [.int .i64 x]=rC l a x b w∧wr (rC l a c b w) 3 [.int .i64 x]=rC l a c x w∧wr (rC l a c b w) 4 [.int .i64 x]=rC l a c b x:=⟨rfl,rfl,rfl,rfl,rfl,rfl,rfl,rfl⟩
theorem rFail {M:List D→Mem} {o n0:Nat} (hF:Fam M o n0) (l:List Tok) (a c w e:Int) :
  CallD Tryz.prog O 32 [.ptr o 0,.int .i64 e] (M (rC l a c 0 w)) fun d S'=>S'=M (rC l a c e a)∧d = .tup []:=by
 obtain ⟨m1,m2,m3,m4,m5,m6,m7,m8,m9,m10,m11⟩:=hF.facts
 have mm:=hF.facts
 refine CallD.updE hF ?_
 refine CallD.eb Tryz.func32 rfl Tryz.ntmps32 (by rfl) ?_
 repeat' (first|refine Go.a rfl ?_|refine Go.rg ?_|refine GoR.nil ?_|refine Go.ret ?_|refine Go.b rfl ?_|(refine GoR.o (by rfl) (by rfl) ?_;(conv=>arg 1;simp only [G,Z,Y,Gx,vV,simprocAttr,fb3,fb82,fb87,mm,rC_at,rC_wr]);show GoR ..)|refine Go.condB rfl (fun hc => ?_) (fun hc => ?_))
 refine ⟨(by first | exact .inl rfl | exact .inr rfl),fin ?_⟩
 rw [resD_none (fn:=Tryz.f32) rfl]
 simp only [optThen_some,resultD_tmp,resultD_cell,G,Z,Y,Gx,vV,simprocAttr,fb3,fb82,fb87,mm]
 exact ⟨[],(List.append_nil _).symm,rC_low,.refl,.tup' .nil⟩
theorem rFailE {M:List D→Mem} {o n0:Nat} (hF:Fam M o n0) (E:Mem) (l:List Tok) (a c w e:Int) :
  CallD Tryz.prog O 32 [.ptr o 0,.int .i64 e] (M (rC l a c 0 w)++E) fun d S'=>S'=M (rC l a c e a)++E∧d = .tup []:=rFail (hF.app E) l a c w e
theorem rIs {M:List D→Mem} {o n0:Nat} (hF:Fam M o n0) (l:List Tok) (i:Nat) (c b w:Int) (s:ByteArray) :
  CallD Tryz.prog O 93 [.ptr o 0,.str s] (M (rC l (i:Int) c b w)) fun d S'=>S'=M (rC l (i:Int) c b w)∧d = .bool (isT l i [s]):=by
 obtain ⟨m1,m2,m3,m4,m5,m6,m7,m8,m9,m10,m11⟩:=hF.facts
 have mm:=hF.facts
 refine CallD.updE hF ?_
 refine CallD.eb Tryz.func93 rfl Tryz.ntmps93 (by rfl) ?_
 by_cases hi:i<l.length
 ·rw [isT_one hi]
  by_cases hk:l[i].k=3
  ·rw [decide_eq_true hk,Bool.true_and]
   repeat' (first|refine Go.a rfl ?_|refine Go.rg ?_|refine GoR.nil ?_|refine Go.ret ?_|refine Go.b rfl ?_|refine Go.rgS dmx (by decide) ?_|(refine GoR.o (by rfl) (by rfl) ?_;(conv=>arg 1;simp only [G,Z,Y,Gx,vV,simprocAttr,fb2,fb3,fb9,fb82,fb87,fb88,mm,rC_at,toksAt hi,Tok.c,hk,show decide ((i:Int)<(l.length:Int))=true by simp;omega]);show GoR ..)|refine GoR.s (by rfl) rfl rfl ?_|(refine GoR.splitG rfl (fun hc => ?_) (fun hc => ?_)<;>simp only [hc])|refine Go.condB rfl (fun hc => ?_) (fun hc => ?_))
   refine ⟨(by first | exact .inl rfl | exact .inr rfl),fin ?_⟩
   rw [resD_tmp (fn:=Tryz.f93) rfl]
   simp only [optThen_some,resultD_tmp,resultD_cell,G,Z,Y,Gx,vV,simprocAttr,fb2,fb3,fb9,fb82,fb87,fb88,mm]
   refine ⟨[],by simp,rC_low,?_,.bool _⟩
   first | exact .refl | (simp;exact .refl)
  ·rw [decide_eq_false hk,Bool.false_and]
   repeat' (first|refine Go.a rfl ?_|refine Go.rg ?_|refine GoR.nil ?_|refine Go.ret ?_|refine Go.b rfl ?_|refine Go.rgS dmx (by decide) ?_|(refine GoR.o (by rfl) (by rfl) ?_;(conv=>arg 1;simp only [G,Z,Y,Gx,vV,simprocAttr,fb2,fb3,fb9,fb82,fb87,fb88,mm,rC_at,toksAt hi,Tok.c,show (l[i].k==3)=false by simpa using hk,show decide ((i:Int)<(l.length:Int))=true by simp;omega]);show GoR ..)|refine GoR.s (by rfl) rfl rfl ?_|(refine GoR.splitG rfl (fun hc => ?_) (fun hc => ?_)<;>simp only [hc])|refine Go.condB rfl (fun hc => ?_) (fun hc => ?_))
   refine ⟨(by first | exact .inl rfl | exact .inr rfl),fin ?_⟩
   rw [resD_tmp (fn:=Tryz.f93) rfl]
   simp only [optThen_some,resultD_tmp,resultD_cell,G,Z,Y,Gx,vV,simprocAttr,fb2,fb3,fb9,fb82,fb87,fb88,mm]
   exact ⟨[],by simp,rC_low,.refl,.bool _⟩
 ·rw [isT_no (by omega)]
  repeat' (first|refine Go.a rfl ?_|refine Go.rg ?_|refine GoR.nil ?_|refine Go.ret ?_|refine Go.b rfl ?_|refine Go.rgS dmx (by decide) ?_|(refine GoR.o (by rfl) (by rfl) ?_;(conv=>arg 1;simp only [G,Z,Y,Gx,vV,simprocAttr,fb2,fb3,fb9,fb82,fb87,fb88,mm,rC_at,show decide ((i:Int)<(l.length:Int))=false by simp;omega]);show GoR ..)|refine GoR.s (by rfl) rfl rfl ?_|(refine GoR.splitG rfl (fun hc => ?_) (fun hc => ?_)<;>simp only [hc])|refine Go.condB rfl (fun hc => ?_) (fun hc => ?_))
  refine ⟨(by first | exact .inl rfl | exact .inr rfl),fin ?_⟩
  rw [resD_tmp (fn:=Tryz.f93) rfl]
  simp only [optThen_some,resultD_tmp,resultD_cell,G,Z,Y,Gx,vV,simprocAttr,fb2,fb3,fb9,fb82,fb87,fb88,mm]
  exact ⟨[],by simp,rC_low,.refl,.bool _⟩
theorem rIsE {M:List D→Mem} {o n0:Nat} (hF:Fam M o n0) (E:Mem) (l:List Tok) (i:Nat) (c b w:Int) (s:ByteArray) :
  CallD Tryz.prog O 93 [.ptr o 0,.str s] (M (rC l (i:Int) c b w)++E) fun d S'=>S'=M (rC l (i:Int) c b w)++E∧d = .bool (isT l i [s]):=rIs (hF.app E) l i c b w s
def tickC (l:List Tok) (i n:Nat) (w:Int):List D:=if 32<n+1 then rC l ((i+1:Nat):Int) ((n+1:Nat):Int) 4 (i:Int) else rC l ((i+1:Nat):Int) ((n+1:Nat):Int) 0 w
theorem rTick {M:List D→Mem} {o n0:Nat} (hF:Fam M o n0) (l:List Tok) (i n:Nat) (w:Int) (hi:i<1000000) (hn:n≤100) :
  CallD Tryz.prog O 195 [.ptr o 0] (M (rC l (i:Int) (n:Int) 0 w)) fun d S'=>S'=M (tickC l i n w)∧d = .tup []:=by
 obtain ⟨m1,m2,m3,m4,m5,m6,m7,m8,m9,m10,m11⟩:=hF.facts
 have mm:=hF.facts
 refine CallD.updE hF ?_
 unfold tickC
 refine CallD.eb Tryz.func195 rfl Tryz.ntmps195 (by rfl) ?_
 have hf:=fun E=>rFailE hF E l (i:Int) ((n+1:Nat):Int) w 4
 have hf0:=rFail hF l (i:Int) ((n+1:Nat):Int) w 4
 by_cases hb:32<n+1
 ·rw [if_pos hb]
  repeat' (first|refine Go.a rfl ?_|refine Go.rg ?_|refine GoR.nil ?_|refine Go.ret ?_|refine Go.b rfl ?_|(refine GoR.o (by rfl) (by rfl) ?_;(conv=>arg 1;simp only [G,Z,Y,Gx,vV,simprocAttr,fb3,fb82,fb87,mm,rC_at,rC_wr,wrap_succ (show n<4611686018427387904 by omega),wrap_succ (show i<4611686018427387904 by omega),show decide (((n+1:Nat):Int)>32)=true by simp;omega,show decide ((32:Int)<((n+1:Nat):Int))=true by simp;omega]);show GoR ..)|(refine GoR.c c32 (by rfl) (by rfl) rfl ?_;(first | refine CallD.ret2 hf0 ?_ | refine CallD.ret2 (hf _) ?_))|refine Go.condB rfl (fun hc => ?_) (fun hc => ?_))
  refine ⟨(by first | exact .inl rfl | exact .inr rfl),fin ?_⟩
  rw [resD_none (fn:=Tryz.f195) rfl]
  simp only [optThen_some,resultD_tmp,resultD_cell,G,Z,Y,Gx,vV,simprocAttr,fb3,fb82,fb87,mm]
  exact ⟨[],(List.append_nil _).symm,rC_low,.refl,.tup' .nil⟩
 ·rw [if_neg hb]
  repeat' (first|refine Go.a rfl ?_|refine Go.rg ?_|refine GoR.nil ?_|refine Go.ret ?_|refine Go.b rfl ?_|(refine GoR.o (by rfl) (by rfl) ?_;(conv=>arg 1;simp only [G,Z,Y,Gx,vV,simprocAttr,fb3,fb82,fb87,mm,rC_at,rC_wr,wrap_succ (show n<4611686018427387904 by omega),wrap_succ (show i<4611686018427387904 by omega),show decide (((n+1:Nat):Int)>32)=false by simp;omega,show decide ((32:Int)<((n+1:Nat):Int))=false by simp;omega]);show GoR ..)|refine Go.condB rfl (fun hc => ?_) (fun hc => ?_))
  refine ⟨(by first | exact .inl rfl | exact .inr rfl),fin ?_⟩
  rw [resD_none (fn:=Tryz.f195) rfl]
  simp only [optThen_some,resultD_tmp,resultD_cell,G,Z,Y,Gx,vV,simprocAttr,fb3,fb82,fb87,mm]
  exact ⟨[],(List.append_nil _).symm,rC_low,.refl,.tup' .nil⟩
theorem rTickE {M:List D→Mem} {o n0:Nat} (hF:Fam M o n0) (E:Mem) (l:List Tok) (i n:Nat) (w:Int) (hi:i<1000000) (hn:n≤100) :
  CallD Tryz.prog O 195 [.ptr o 0] (M (rC l (i:Int) (n:Int) 0 w)++E) fun d S'=>S'=M (tickC l i n w)++E∧d = .tup []:=rTick (hF.app E) l i n w hi hn
end Go.Proofs.DgT
namespace Go.Proofs.DgT
open Go Go.DM
set_option maxRecDepth 100000
def RR (l:List Tok) (r:Nd×St) (w:Int) (c:List D) (d:D):Prop:=
 (r.2.e=0∧c=rC l (r.2.i:Int) (r.2.n:Int) 0 w∧d = .agg r.1.c)∨(r.2.e≠0 ∧ ∃ (a k:Int) (nd:Nd),c=rC l a k r.2.e (r.2.i:Int)∧d = .agg nd.c)
structure PartR (l:List Tok) (o:Nat) (g:FuncId) (part:St→Option (Nd×St)):Prop where
 ok : ∀ (M:List D→Mem) (n0:Nat),Fam M o n0 → ∀ (i n:Nat) r (w:Int),Bs l ⟨i,n,0⟩→part ⟨i,n,0⟩=some r→CallD Tryz.prog O g [.ptr o 0] (M (rC l (i:Int) (n:Int) 0 w)) fun d S' => ∃ c,S'=M c∧RR l r w c d
 bad : ∀ (M:List D→Mem) (n0:Nat),Fam M o n0 → ∀ (a k b w:Int),b≠0→CallD Tryz.prog O g [.ptr o 0] (M (rC l a k b w)) fun d S'=>S'=M (rC l a k b w)∧d = .agg nilN.c
 bs : ∀ st r,Bs l st→part st=some r→Bs l r.2
theorem PartR.okE {l:List Tok} {o:Nat} {g:FuncId} {part:St→Option (Nd×St)} (h:PartR l o g part) {M:List D→Mem} {n0:Nat} (hF:Fam M o n0) (E:Mem) {i n:Nat} {r:Nd×St} (w:Int) (hb:Bs l ⟨i,n,0⟩) (hr:part ⟨i,n,0⟩=some r) :
  CallD Tryz.prog O g [.ptr o 0] (M (rC l (i:Int) (n:Int) 0 w)++E) fun d S' => ∃ c,S'=M c++E∧RR l r w c d:=h.ok (fun c=>M c++E) _ (hF.app E) i n r w hb hr
theorem PartR.badE {l:List Tok} {o:Nat} {g:FuncId} {part:St→Option (Nd×St)} (h:PartR l o g part) {M:List D→Mem} {n0:Nat} (hF:Fam M o n0) (E:Mem) (a k:Int) {b:Int} (w:Int) (hb:b≠0) :
  CallD Tryz.prog O g [.ptr o 0] (M (rC l a k b w)++E) fun d S'=>S'=M (rC l a k b w)++E∧d = .agg nilN.c:=h.bad (fun c=>M c++E) _ (hF.app E) a k b w hb
theorem RR.form {l:List Tok} {r:Nd×St} {w:Int} {c:List D} {d:D} (h:RR l r w c d) : ∃ (nd:Nd) (y:D),d = .agg [.str nd.op,.str nd.name,.int .i64 nd.n,y]∧KidY y nd.kids ∧
  ((r.2.e=0∧nd=r.1∧c=rC l (r.2.i:Int) (r.2.n:Int) 0 w)∨(r.2.e≠0 ∧ ∃ (a k:Int),c=rC l a k r.2.e (r.2.i:Int))):=by
 rcases h with ⟨h1,h2,h3⟩ | ⟨h1,a,k,nd,h2,h3⟩
 ·obtain ⟨y,hy,hk⟩:=kidY_of r.1
  exact ⟨r.1,y,by rw [h3,hy];rfl,hk,.inl ⟨h1,rfl,h2⟩⟩
 ·obtain ⟨y,hy,hk⟩:=kidY_of nd
  exact ⟨nd,y,by rw [h3,hy];rfl,hk,.inr ⟨h1,a,k,h2⟩⟩
theorem loopF_err {l:List Tok} {part:St→Option (Nd×St)} {sg:List ByteArray} {fu:Nat} {nd:Nd} {st:St} {r:Nd×St} (h:loopF l part sg fu nd st=some r) (he:st.e≠0):r=(nd,st):=by
 cases fu with
 | zero=>cases h
 | succ fu=>
  unfold loopF at h
  rw [if_neg fun q=>he q.1] at h
  cases h
  rfl
theorem loop_bs {l:List Tok} {part:St→Option (Nd×St)} (hp : ∀ st r,Bs l st→part st=some r→Bs l r.2) {sg:List ByteArray} {r:Nd×St} : ∀ (fu:Nat) (nd:Nd) (st:St),Bs l st→loopF l part sg fu nd st=some r→Bs l r.2
 | 0,_,_,_,h=>by cases h
 | fu+1,nd,⟨i,n,e⟩,hb,h=>by
  unfold loopF at h
  by_cases hc:e=0∧isT l i sg=true
  ·rw [if_pos hc] at h
   obtain ⟨hi,_⟩:=isT_lt hc.2
   have hn:=hb.2.2 hc.1
   dsimp only at hn h
   by_cases hbig:32<n+1
   ·rw [if_pos hbig] at h
    cases h
    exact ⟨by dsimp only;omega,by dsimp only;omega,nz4⟩
   ·rw [if_neg hbig] at h
    cases hr2:part ⟨i+1,n+1,0⟩ with
    | none=>rw [hr2] at h;cases h
    | some r2=>
     rw [hr2,Option.bind_some] at h
     exact loop_bs hp fu _ _ (hp _ _ ⟨by dsimp only;omega,by dsimp only;omega,fun _=>by dsimp only;omega⟩ hr2) h
  ·rw [if_neg hc] at h
   cases h
   exact hb
theorem fold_bs {l:List Tok} {part:St→Option (Nd×St)} (hp : ∀ st r,Bs l st→part st=some r→Bs l r.2) {sg:List ByteArray} {fu:Nat} (st:St) (r:Nd×St) (hb:Bs l st) (h:foldF l part sg fu st=some r):Bs l r.2:=by
 unfold foldF at h
 cases hr1:part st with
 | none=>rw [hr1] at h;cases h
 | some r1=>rw [hr1,Option.bind_some] at h;exact loop_bs hp fu _ _ (hp _ _ hb hr1) h
theorem isT_sub {l:List Tok} {i:Nat} {sg:List ByteArray} (h:isT l i sg=false) {s:ByteArray} (hs:s∈sg):isT l i [s]=false:=by
 by_cases hi:i<l.length
 ·rw [isT_at hi] at h
  rw [isT_one hi,Bool.eq_false_iff]
  intro hc
  simp only [Bool.and_eq_true,decide_eq_true_eq] at hc
  rw [decide_eq_true hc.1,Bool.true_and,(Lib.containsS_iff _ _).2 (hc.2▸hs)] at h
  cases h
 ·exact isT_no (by omega)
theorem nil_wf2:Wf (.agg [.str ⟨#[]⟩,.str ⟨#[]⟩,.int .i64 0,.sl none 4 0 (ndsC [])]) (.agg nilN.c):=by
 rw [nilN,Nd.c_mk]
 exact .refl
theorem kidZ_two {a b:Nd} {y z:D} (h:KidY y a.kids) (h2:KidY z b.kids) {id:Option Nat} : KidY (.sl id 4 2 (ndX a y++ndX b z)) [a,b]:=by
 refine ⟨?_,rfl,rfl⟩
 have e:ndsC [a,b]=a.c++b.c:=by simp [ndsC]
 rw [e]
 exact .sl' (.append (ndX_wf h) (ndX_wf h2))
set_option maxHeartbeats 4000000 in
theorem prdR {l:List Tok} (hl:l.length<100000) {o:Nat} {part:St→Option (Nd×St)} {fu:Nat} (hp:PartR l o 218 part):PartR l o 194 (foldF l part mulS fu):=by
 refine ⟨?_,?_,fun st r hb hr=>fold_bs hp.bs st r hb hr⟩
 ·intro M n0 hF i0 n1 r w hb hr
  obtain ⟨m1,m2,m3,m4,m5,m6,m7,m8,m9,m10,m11⟩:=hF.facts
  have mm:=hF.facts
  unfold foldF at hr
  cases hr1:part ⟨i0,n1,0⟩ with
  | none=>rw [hr1] at hr;cases hr
  | some r1=>
  rw [hr1,Option.bind_some] at hr
  have hb1:=hp.bs _ _ hb hr1
  have hp1:=fun E=>hp.okE hF E w hb hr1
  refine CallD.upd hF ?_
  refine CallD.eb Tryz.func194 rfl Tryz.ntmps194 (by rfl) ?_
  repeat' (first|refine Go.a rfl ?_|refine Go.rg ?_|refine GoR.nil ?_|refine Go.ret ?_|refine Go.b rfl ?_|refine Go.rgS dmx (by decide) ?_|(refine GoR.o (by rfl) (by rfl) ?_;(conv=>arg 1;simp only [G,Z,Y,Gx,vV,simprocAttr,fb2,fb3,fb9,fb32,fb34,fb82,fb87,fb88,mm]);show GoR ..)|(refine GoR.c c218 (by rfl) (by rfl) rfl ?_;(refine CallD.mono (hp1 _) ?_;rintro _ _ ⟨c1,rfl,hrr⟩;obtain ⟨nd1,y1,rfl,hk1,hrr⟩:=hrr.form;have ho1:=hk1.one;have hc1:=hk1.cells))|refine GoR.s (by rfl) rfl rfl ?_)
  repeat' (first|refine Go.a rfl ?_|refine Go.rg ?_|refine GoR.nil ?_|refine Go.ret ?_|refine Go.b rfl ?_|refine Go.rgS dmx (by decide) ?_|(refine GoR.o (by rfl) (by rfl) ?_;(conv=>arg 1;simp only [G,Z,Y,Gx,vV,simprocAttr,fb2,fb3,fb9,fb32,fb34,fb82,fb87,fb88,mm,ho1,hc1]);show GoR ..)|refine GoR.s (by rfl) rfl rfl ?_|(refine GoR.splitG rfl (fun hc => ?_) (fun hc => ?_)<;>simp only [hc])|refine Go.condB rfl (fun hc => ?_) (fun hc => ?_))
  refine Go.keep [(0,.ptr o 0),(2,.ptr n0 0),(3,.ptr (n0+1) 0)] (.cons .refl (.cons .refl (.cons .refl (.nil)))) ?_
  refine Go.while (α:=Nat×Nd×D×List D×Mem) (fun a=>a.1) (fun _=>[(0,.ptr o 0),(2,.ptr n0 0),(3,.ptr (n0+1) 0)])
   (fun a=>M a.2.2.2.1++(.obj [.str ⟨#[]⟩,.str ⟨#[]⟩,.int .i64 0,.nils] :: .obj [.str a.2.1.op,.str a.2.1.name,.int .i64 a.2.1.n,a.2.2.1]::a.2.2.2.2))
   (fun a=>KidY a.2.2.1 a.2.1.kids∧((∃ i n:Nat,a.2.2.2.1=rC l (i:Int) (n:Int) 0 w∧Bs l ⟨i,n,0⟩∧loopF l part mulS a.1 a.2.1 ⟨i,n,0⟩=some r)∨(r.2.e≠0 ∧ ∃ p q:Int,a.2.2.2.1=rC l p q r.2.e (r.2.i:Int)))) ?_ (fu,nd1,y1,c1,[]) ⟨hk1,?_⟩
  rotate_left
  ·rcases hrr with ⟨h1,rfl,rfl⟩ | ⟨h1,p,q,rfl⟩
   ·obtain ⟨nd1,⟨i1,n1,e1⟩⟩:=r1
    obtain rfl:e1=0:=h1
    exact .inl ⟨i1,n1,rfl,hb1,hr⟩
   ·have:=loopF_err hr h1
    subst this
    exact .inr ⟨h1,p,q,rfl⟩
  clear hr hb1 hk1 ho1 hc1 hp1 hr1 hb hrr
  rintro ⟨fu,⟨op,nm,k,ks⟩,y,c,E⟩ ⟨hky,hst⟩ next
  simp only [Nd.op,Nd.name,Nd.n,Nd.kids] at hky hst next ⊢
  have hoy:=hky.one
  have hcy:=hky.cells
  rcases hst with ⟨i,n,rfl,hb,hr⟩ | ⟨he,p,q,rfl⟩
  ·have hq:=fun E s=>rIsE hF E l i (n:Int) 0 w s
   cases fu with
   | zero=>cases hr
   | succ fu=>
   unfold loopF at hr
   by_cases hc:isT l i mulS=true
   ·rw [if_pos ⟨rfl,hc⟩] at hr
    obtain ⟨hi,hk3,hm,hop⟩:=isT_lt hc
    have htk:=fun E=>rTickE hF E l i n w (by omega) (by have:=hb.2.1;dsimp only at this;omega)
    have hn:n≤32:=hb.2.2 rfl
    have hqs : ∀ s,isT l i [s]=decide (l[i].t=s):=fun s=>by rw [isT_one hi,decide_eq_true hk3,Bool.true_and]
    dsimp only at hr
    by_cases hbig:32<n+1
    ·rw [if_pos hbig] at hr
     cases hr
     have hbd:=fun E=>hp.badE hF E ((i+1:Nat):Int) ((n+1:Nat):Int) (b:=4) (i:Int) (by decide)
     simp only [nilN,Nd.c_mk] at hbd
     unfold tickC at htk
     simp only [if_pos hbig] at htk
     have hyy:=fun id=>kidY_two (a:=.mk op nm k ks) (b:=nilN) (y:=y) hky (id:=id)
     simp only [ndX,Nd.op,Nd.name,Nd.n,nilN,Nd.c_mk] at hyy
     simp only [mulS,List.mem_cons,List.not_mem_nil,or_false] at hm
     rcases hm with ht | ht | ht
     all_goals
      repeat' (first|refine Go.a rfl ?_|refine Go.rg ?_|refine GoR.nil ?_|refine Go.ret ?_|refine Go.b rfl ?_|refine Go.rgS dmx (by decide) ?_|(refine GoR.o (by rfl) (by rfl) ?_;(conv=>arg 1;simp only [G,Z,Y,Gx,vV,simprocAttr,fb2,fb3,fb9,fb32,fb34,fb82,fb87,fb88,mm,hoy,hcy,rC_at,hqs,ht,toksAt hi,Tok.c,repD2,wrA,wrB,show decide (((⟨#[42]⟩:ByteArray):ByteArray)=(⟨#[47]⟩:ByteArray))=false by decide,show decide (((⟨#[42]⟩:ByteArray):ByteArray)=(⟨#[37]⟩:ByteArray))=false by decide,show decide (((⟨#[47]⟩:ByteArray):ByteArray)=(⟨#[42]⟩:ByteArray))=false by decide,show decide (((⟨#[47]⟩:ByteArray):ByteArray)=(⟨#[37]⟩:ByteArray))=false by decide,show decide (((⟨#[37]⟩:ByteArray):ByteArray)=(⟨#[42]⟩:ByteArray))=false by decide,show decide (((⟨#[37]⟩:ByteArray):ByteArray)=(⟨#[47]⟩:ByteArray))=false by decide]);show GoR ..)|(refine GoR.c c93 (by rfl) (by rfl) rfl ?_;(refine CallD.ret2 (hq _ _) ?_))|(refine GoR.c c195 (by rfl) (by rfl) rfl ?_;(refine CallD.ret2 (htk _) ?_))|(refine GoR.c c218 (by rfl) (by rfl) rfl ?_;(refine CallD.ret2 (hbd _) ?_))|refine GoR.s (by rfl) rfl rfl ?_|(refine GoR.splitG rfl (fun hc => ?_) (fun hc => ?_)<;>simp only [hc])|refine Go.condB rfl (fun hc => ?_) (fun hc => ?_))
      refine Go.lpN ?_
      refine Go.keep [(0,.ptr o 0),(2,.ptr n0 0),(3,.ptr (n0+1) 0)] (.cons .refl (.cons .refl (.cons .refl (.nil)))) ?_
      exact next (fu,.mk _ ⟨#[]⟩ 0 [.mk op nm k ks,nilN],_,_,_) (Nat.lt_succ_self _) ⟨hyy _,.inr ⟨fun e=>nz4 e,_,_,rfl⟩⟩
    ·rw [if_neg hbig] at hr
     unfold tickC at htk
     simp only [if_neg hbig] at htk
     cases hr1:part ⟨i+1,n+1,0⟩ with
     | none=>rw [hr1] at hr;cases hr
     | some r1=>
     rw [hr1,Option.bind_some,hop] at hr
     have hbs:Bs l ⟨i+1,n+1,0⟩:=⟨by dsimp only;omega,by dsimp only;omega,fun _=>by dsimp only;omega⟩
     have hb1:=hp.bs _ _ hbs hr1
     have hp1:=fun E=>hp.okE hF E w hbs hr1
     simp only [mulS,List.mem_cons,List.not_mem_nil,or_false] at hm
     rcases hm with ht | ht | ht
     all_goals
      repeat' (first|refine Go.a rfl ?_|refine Go.rg ?_|refine GoR.nil ?_|refine Go.ret ?_|refine Go.b rfl ?_|refine Go.rgS dmx (by decide) ?_|(refine GoR.o (by rfl) (by rfl) ?_;(conv=>arg 1;simp only [G,Z,Y,Gx,vV,simprocAttr,fb2,fb3,fb9,fb32,fb34,fb82,fb87,fb88,mm,hoy,hcy,rC_at,hqs,ht,toksAt hi,Tok.c,repD2,wrA,wrB,show decide (((⟨#[42]⟩:ByteArray):ByteArray)=(⟨#[47]⟩:ByteArray))=false by decide,show decide (((⟨#[42]⟩:ByteArray):ByteArray)=(⟨#[37]⟩:ByteArray))=false by decide,show decide (((⟨#[47]⟩:ByteArray):ByteArray)=(⟨#[42]⟩:ByteArray))=false by decide,show decide (((⟨#[47]⟩:ByteArray):ByteArray)=(⟨#[37]⟩:ByteArray))=false by decide,show decide (((⟨#[37]⟩:ByteArray):ByteArray)=(⟨#[42]⟩:ByteArray))=false by decide,show decide (((⟨#[37]⟩:ByteArray):ByteArray)=(⟨#[47]⟩:ByteArray))=false by decide]);show GoR ..)|(refine GoR.c c93 (by rfl) (by rfl) rfl ?_;(refine CallD.ret2 (hq _ _) ?_))|(refine GoR.c c195 (by rfl) (by rfl) rfl ?_;(refine CallD.ret2 (htk _) ?_))|(refine GoR.c c218 (by rfl) (by rfl) rfl ?_;(refine CallD.mono (hp1 _) ?_;rintro _ _ ⟨c1,rfl,hrr⟩;obtain ⟨⟨op1,nm1,k1,ks1⟩,y1,rfl,hk1,hrr⟩:=hrr.form;have ho1:=hk1.one;have hc1:=hk1.cells;simp only [Nd.op,Nd.name,Nd.n]))|refine GoR.s (by rfl) rfl rfl ?_|(refine GoR.splitG rfl (fun hc => ?_) (fun hc => ?_)<;>simp only [hc])|refine Go.condB rfl (fun hc => ?_) (fun hc => ?_))
      have hyy:=fun id=>kidZ_two (a:=.mk op nm k ks) (b:=.mk op1 nm1 k1 ks1) (y:=y) (z:=y1) hky hk1 (id:=id)
      simp only [ndX,Nd.op,Nd.name,Nd.n] at hyy
      repeat' (first|refine Go.a rfl ?_|refine Go.rg ?_|refine GoR.nil ?_|refine Go.ret ?_|refine Go.b rfl ?_|refine Go.rgS dmx (by decide) ?_|(refine GoR.o (by rfl) (by rfl) ?_;(conv=>arg 1;simp only [G,Z,Y,Gx,vV,simprocAttr,fb2,fb3,fb9,fb32,fb34,fb82,fb87,fb88,mm,hoy,hcy,ho1,hc1,rC_at,hqs,ht,toksAt hi,Tok.c,repD2,wrA,wrB]);show GoR ..)|refine GoR.s (by rfl) rfl rfl ?_|(refine GoR.splitG rfl (fun hc => ?_) (fun hc => ?_)<;>simp only [hc])|refine Go.condB rfl (fun hc => ?_) (fun hc => ?_))
      refine Go.lpN ?_
      refine Go.keep [(0,.ptr o 0),(2,.ptr n0 0),(3,.ptr (n0+1) 0)] (.cons .refl (.cons .refl (.cons .refl (.nil)))) ?_
      refine next (fu,.mk _ ⟨#[]⟩ 0 [.mk op nm k ks,.mk op1 nm1 k1 ks1],_,_,_) (Nat.lt_succ_self _) ⟨hyy _,?_⟩
      clear next
      rw [ht] at hr
      rcases hrr with ⟨h1,h2,rfl⟩ | ⟨h1,p,q,rfl⟩
      ·obtain ⟨nd1,⟨i1,n1,e1⟩⟩:=r1
       obtain rfl:e1=0:=h1
       subst h2
       exact .inl ⟨i1,n1,rfl,hb1,hr⟩
      ·have:=loopF_err hr h1
       subst this
       exact .inr ⟨h1,p,q,rfl⟩
   ·rw [if_neg fun q=>hc q.2] at hr
    cases hr
    clear next
    have hc0:isT l i mulS=false:=by simpa using hc
    repeat' (first|refine Go.a rfl ?_|refine Go.rg ?_|refine GoR.nil ?_|refine Go.ret ?_|refine Go.b rfl ?_|refine Go.rgS dmx (by decide) ?_|(refine GoR.o (by rfl) (by rfl) ?_;(conv=>arg 1;simp only [G,Z,Y,Gx,vV,simprocAttr,fb2,fb3,fb9,fb32,fb34,fb82,fb87,fb88,mm,hoy,hcy,rC_at,isT_sub hc0 (show (⟨#[42]⟩:ByteArray)∈mulS by simp [mulS]),isT_sub hc0 (show (⟨#[47]⟩:ByteArray)∈mulS by simp [mulS]),isT_sub hc0 (show (⟨#[37]⟩:ByteArray)∈mulS by simp [mulS])]);show GoR ..)|(refine GoR.c c93 (by rfl) (by rfl) rfl ?_;(refine CallD.ret2 (hq _ _) ?_))|refine GoR.s (by rfl) rfl rfl ?_|(refine GoR.splitG rfl (fun hc => ?_) (fun hc => ?_)<;>simp only [hc])|refine Go.condB rfl (fun hc => ?_) (fun hc => ?_))
    refine ⟨(by first | exact .inl rfl | exact .inr rfl),fin ?_⟩
    rw [resD_cell (fn:=Tryz.f194) rfl]
    simp only [optThen_some,resultD_tmp,resultD_cell,G,Z,Y,Gx,vV,simprocAttr,fb2,fb3,fb9,fb32,fb34,fb82,fb87,fb88,mm,hoy,hcy]
    exact ⟨_,_,_,rfl,rC_low,.agg' (ndX_wf (n:=.mk op nm k ks) hky),nd_low _,.inl ⟨rfl,rfl,rfl⟩⟩
  ·clear next
   repeat' (first|refine Go.a rfl ?_|refine Go.rg ?_|refine GoR.nil ?_|refine Go.ret ?_|refine Go.b rfl ?_|refine Go.rgS dmx (by decide) ?_|(refine GoR.o (by rfl) (by rfl) ?_;(conv=>arg 1;simp only [G,Z,Y,Gx,vV,simprocAttr,fb2,fb3,fb9,fb32,fb34,fb82,fb87,fb88,mm,hoy,hcy,rC_at,show (r.2.e==0)=false by simpa using he]);show GoR ..)|refine GoR.s (by rfl) rfl rfl ?_|(refine GoR.splitG rfl (fun hc => ?_) (fun hc => ?_)<;>simp only [hc])|refine Go.condB rfl (fun hc => ?_) (fun hc => ?_))
   refine ⟨(by first | exact .inl rfl | exact .inr rfl),fin ?_⟩
   rw [resD_cell (fn:=Tryz.f194) rfl]
   simp only [optThen_some,resultD_tmp,resultD_cell,G,Z,Y,Gx,vV,simprocAttr,fb2,fb3,fb9,fb32,fb34,fb82,fb87,fb88,mm,hoy,hcy]
   exact ⟨_,_,_,rfl,rC_low,.agg' (ndX_wf (n:=.mk op nm k ks) hky),nd_low _,.inr ⟨he,p,q,_,rfl,rfl⟩⟩
 ·intro M n0 hF a k b w hb
  obtain ⟨m1,m2,m3,m4,m5,m6,m7,m8,m9,m10,m11⟩:=hF.facts
  have mm:=hF.facts
  have hbd:=fun E=>hp.badE hF E a k w hb
  simp only [nilN,Nd.c_mk] at hbd
  refine CallD.updE hF ?_
  refine CallD.eb Tryz.func194 rfl Tryz.ntmps194 (by rfl) ?_
  repeat' (first|refine Go.a rfl ?_|refine Go.rg ?_|refine GoR.nil ?_|refine Go.ret ?_|refine Go.b rfl ?_|refine Go.rgS dmx (by decide) ?_|(refine GoR.o (by rfl) (by rfl) ?_;(conv=>arg 1;simp only [G,Z,Y,Gx,vV,simprocAttr,fb2,fb3,fb9,fb32,fb34,fb82,fb87,fb88,mm,rC_at]);show GoR ..)|(refine GoR.c c218 (by rfl) (by rfl) rfl ?_;(refine CallD.ret2 (hbd _) ?_))|refine GoR.s (by rfl) rfl rfl ?_|(refine GoR.splitG rfl (fun hc => ?_) (fun hc => ?_)<;>simp only [hc])|refine Go.condB rfl (fun hc => ?_) (fun hc => ?_))
  refine Go.keep [(0,.ptr o 0),(2,.ptr n0 0),(3,.ptr (n0+1) 0)] (.cons .refl (.cons .refl (.cons .refl (.nil)))) ?_
  refine Go.while (α:=Unit) (fun _=>0) (fun _=>[(0,.ptr o 0),(2,.ptr n0 0),(3,.ptr (n0+1) 0)]) (fun _=>M (rC l a k b w)++[.obj [.str ⟨#[]⟩,.str ⟨#[]⟩,.int .i64 0,.nils],.obj [.str ⟨#[]⟩,.str ⟨#[]⟩,.int .i64 0,.sl none 4 0 (ndsC [])]]) (fun _=>True) ?_ () trivial
  rintro _ _ next
  clear next
  repeat' (first|refine Go.a rfl ?_|refine Go.rg ?_|refine GoR.nil ?_|refine Go.ret ?_|refine Go.b rfl ?_|refine Go.rgS dmx (by decide) ?_|(refine GoR.o (by rfl) (by rfl) ?_;(conv=>arg 1;simp only [G,Z,Y,Gx,vV,simprocAttr,fb2,fb3,fb9,fb32,fb34,fb82,fb87,fb88,mm,rC_at,show (b==0)=false by simpa using hb]);show GoR ..)|refine GoR.s (by rfl) rfl rfl ?_|(refine GoR.splitG rfl (fun hc => ?_) (fun hc => ?_)<;>simp only [hc])|refine Go.condB rfl (fun hc => ?_) (fun hc => ?_))
  refine ⟨(by first | exact .inl rfl | exact .inr rfl),fin ?_⟩
  rw [resD_cell (fn:=Tryz.f194) rfl]
  simp only [optThen_some,resultD_tmp,resultD_cell,G,Z,Y,Gx,vV,simprocAttr,fb2,fb3,fb9,fb32,fb34,fb82,fb87,fb88,mm]
  exact ⟨_,rfl,rC_low,nil_wf2,nd_low _⟩
set_option maxHeartbeats 4000000 in
theorem sumR {l:List Tok} (hl:l.length<100000) {o:Nat} {part:St→Option (Nd×St)} {fu:Nat} (hp:PartR l o 194 part):PartR l o 158 (foldF l part addS fu):=by
 refine ⟨?_,?_,fun st r hb hr=>fold_bs hp.bs st r hb hr⟩
 ·intro M n0 hF i0 n1 r w hb hr
  obtain ⟨m1,m2,m3,m4,m5,m6,m7,m8,m9,m10,m11⟩:=hF.facts
  have mm:=hF.facts
  unfold foldF at hr
  cases hr1:part ⟨i0,n1,0⟩ with
  | none=>rw [hr1] at hr;cases hr
  | some r1=>
  rw [hr1,Option.bind_some] at hr
  have hb1:=hp.bs _ _ hb hr1
  have hp1:=fun E=>hp.okE hF E w hb hr1
  refine CallD.upd hF ?_
  refine CallD.eb Tryz.func158 rfl Tryz.ntmps158 (by rfl) ?_
  repeat' (first|refine Go.a rfl ?_|refine Go.rg ?_|refine GoR.nil ?_|refine Go.ret ?_|refine Go.b rfl ?_|refine Go.rgS dmx (by decide) ?_|(refine GoR.o (by rfl) (by rfl) ?_;(conv=>arg 1;simp only [G,Z,Y,Gx,vV,simprocAttr,fb2,fb3,fb9,fb32,fb34,fb82,fb87,fb88,mm]);show GoR ..)|(refine GoR.c c194 (by rfl) (by rfl) rfl ?_;(refine CallD.mono (hp1 _) ?_;rintro _ _ ⟨c1,rfl,hrr⟩;obtain ⟨nd1,y1,rfl,hk1,hrr⟩:=hrr.form;have ho1:=hk1.one;have hc1:=hk1.cells))|refine GoR.s (by rfl) rfl rfl ?_)
  repeat' (first|refine Go.a rfl ?_|refine Go.rg ?_|refine GoR.nil ?_|refine Go.ret ?_|refine Go.b rfl ?_|refine Go.rgS dmx (by decide) ?_|(refine GoR.o (by rfl) (by rfl) ?_;(conv=>arg 1;simp only [G,Z,Y,Gx,vV,simprocAttr,fb2,fb3,fb9,fb32,fb34,fb82,fb87,fb88,mm,ho1,hc1]);show GoR ..)|refine GoR.s (by rfl) rfl rfl ?_|(refine GoR.splitG rfl (fun hc => ?_) (fun hc => ?_)<;>simp only [hc])|refine Go.condB rfl (fun hc => ?_) (fun hc => ?_))
  refine Go.keep [(0,.ptr o 0),(2,.ptr n0 0),(3,.ptr (n0+1) 0)] (.cons .refl (.cons .refl (.cons .refl (.nil)))) ?_
  refine Go.while (α:=Nat×Nd×D×List D×Mem) (fun a=>a.1) (fun _=>[(0,.ptr o 0),(2,.ptr n0 0),(3,.ptr (n0+1) 0)])
   (fun a=>M a.2.2.2.1++(.obj [.str ⟨#[]⟩,.str ⟨#[]⟩,.int .i64 0,.nils] :: .obj [.str a.2.1.op,.str a.2.1.name,.int .i64 a.2.1.n,a.2.2.1]::a.2.2.2.2))
   (fun a=>KidY a.2.2.1 a.2.1.kids∧((∃ i n:Nat,a.2.2.2.1=rC l (i:Int) (n:Int) 0 w∧Bs l ⟨i,n,0⟩∧loopF l part addS a.1 a.2.1 ⟨i,n,0⟩=some r)∨(r.2.e≠0 ∧ ∃ p q:Int,a.2.2.2.1=rC l p q r.2.e (r.2.i:Int)))) ?_ (fu,nd1,y1,c1,[]) ⟨hk1,?_⟩
  rotate_left
  ·rcases hrr with ⟨h1,rfl,rfl⟩ | ⟨h1,p,q,rfl⟩
   ·obtain ⟨nd1,⟨i1,n1,e1⟩⟩:=r1
    obtain rfl:e1=0:=h1
    exact .inl ⟨i1,n1,rfl,hb1,hr⟩
   ·have:=loopF_err hr h1
    subst this
    exact .inr ⟨h1,p,q,rfl⟩
  clear hr hb1 hk1 ho1 hc1 hp1 hr1 hb hrr
  rintro ⟨fu,⟨op,nm,k,ks⟩,y,c,E⟩ ⟨hky,hst⟩ next
  simp only [Nd.op,Nd.name,Nd.n,Nd.kids] at hky hst next ⊢
  have hoy:=hky.one
  have hcy:=hky.cells
  rcases hst with ⟨i,n,rfl,hb,hr⟩ | ⟨he,p,q,rfl⟩
  ·have hq:=fun E s=>rIsE hF E l i (n:Int) 0 w s
   cases fu with
   | zero=>cases hr
   | succ fu=>
   unfold loopF at hr
   by_cases hc:isT l i addS=true
   ·rw [if_pos ⟨rfl,hc⟩] at hr
    obtain ⟨hi,hk3,hm,hop⟩:=isT_lt hc
    have htk:=fun E=>rTickE hF E l i n w (by omega) (by have:=hb.2.1;dsimp only at this;omega)
    have hn:n≤32:=hb.2.2 rfl
    have hqs : ∀ s,isT l i [s]=decide (l[i].t=s):=fun s=>by rw [isT_one hi,decide_eq_true hk3,Bool.true_and]
    dsimp only at hr
    by_cases hbig:32<n+1
    ·rw [if_pos hbig] at hr
     cases hr
     have hbd:=fun E=>hp.badE hF E ((i+1:Nat):Int) ((n+1:Nat):Int) (b:=4) (i:Int) (by decide)
     simp only [nilN,Nd.c_mk] at hbd
     unfold tickC at htk
     simp only [if_pos hbig] at htk
     have hyy:=fun id=>kidY_two (a:=.mk op nm k ks) (b:=nilN) (y:=y) hky (id:=id)
     simp only [ndX,Nd.op,Nd.name,Nd.n,nilN,Nd.c_mk] at hyy
     simp only [addS,List.mem_cons,List.not_mem_nil,or_false] at hm
     rcases hm with ht | ht
     all_goals
      repeat' (first|refine Go.a rfl ?_|refine Go.rg ?_|refine GoR.nil ?_|refine Go.ret ?_|refine Go.b rfl ?_|refine Go.rgS dmx (by decide) ?_|(refine GoR.o (by rfl) (by rfl) ?_;(conv=>arg 1;simp only [G,Z,Y,Gx,vV,simprocAttr,fb2,fb3,fb9,fb32,fb34,fb82,fb87,fb88,mm,hoy,hcy,rC_at,hqs,ht,toksAt hi,Tok.c,repD2,wrA,wrB,show decide (((⟨#[43]⟩:ByteArray):ByteArray)=(⟨#[45]⟩:ByteArray))=false by decide,show decide (((⟨#[45]⟩:ByteArray):ByteArray)=(⟨#[43]⟩:ByteArray))=false by decide]);show GoR ..)|(refine GoR.c c93 (by rfl) (by rfl) rfl ?_;(refine CallD.ret2 (hq _ _) ?_))|(refine GoR.c c195 (by rfl) (by rfl) rfl ?_;(refine CallD.ret2 (htk _) ?_))|(refine GoR.c c194 (by rfl) (by rfl) rfl ?_;(refine CallD.ret2 (hbd _) ?_))|refine GoR.s (by rfl) rfl rfl ?_|(refine GoR.splitG rfl (fun hc => ?_) (fun hc => ?_)<;>simp only [hc])|refine Go.condB rfl (fun hc => ?_) (fun hc => ?_))
      refine Go.lpN ?_
      refine Go.keep [(0,.ptr o 0),(2,.ptr n0 0),(3,.ptr (n0+1) 0)] (.cons .refl (.cons .refl (.cons .refl (.nil)))) ?_
      exact next (fu,.mk _ ⟨#[]⟩ 0 [.mk op nm k ks,nilN],_,_,_) (Nat.lt_succ_self _) ⟨hyy _,.inr ⟨fun e=>nz4 e,_,_,rfl⟩⟩
    ·rw [if_neg hbig] at hr
     unfold tickC at htk
     simp only [if_neg hbig] at htk
     cases hr1:part ⟨i+1,n+1,0⟩ with
     | none=>rw [hr1] at hr;cases hr
     | some r1=>
     rw [hr1,Option.bind_some,hop] at hr
     have hbs:Bs l ⟨i+1,n+1,0⟩:=⟨by dsimp only;omega,by dsimp only;omega,fun _=>by dsimp only;omega⟩
     have hb1:=hp.bs _ _ hbs hr1
     have hp1:=fun E=>hp.okE hF E w hbs hr1
     simp only [addS,List.mem_cons,List.not_mem_nil,or_false] at hm
     rcases hm with ht | ht
     all_goals
      repeat' (first|refine Go.a rfl ?_|refine Go.rg ?_|refine GoR.nil ?_|refine Go.ret ?_|refine Go.b rfl ?_|refine Go.rgS dmx (by decide) ?_|(refine GoR.o (by rfl) (by rfl) ?_;(conv=>arg 1;simp only [G,Z,Y,Gx,vV,simprocAttr,fb2,fb3,fb9,fb32,fb34,fb82,fb87,fb88,mm,hoy,hcy,rC_at,hqs,ht,toksAt hi,Tok.c,repD2,wrA,wrB,show decide (((⟨#[43]⟩:ByteArray):ByteArray)=(⟨#[45]⟩:ByteArray))=false by decide,show decide (((⟨#[45]⟩:ByteArray):ByteArray)=(⟨#[43]⟩:ByteArray))=false by decide]);show GoR ..)|(refine GoR.c c93 (by rfl) (by rfl) rfl ?_;(refine CallD.ret2 (hq _ _) ?_))|(refine GoR.c c195 (by rfl) (by rfl) rfl ?_;(refine CallD.ret2 (htk _) ?_))|(refine GoR.c c194 (by rfl) (by rfl) rfl ?_;(refine CallD.mono (hp1 _) ?_;rintro _ _ ⟨c1,rfl,hrr⟩;obtain ⟨⟨op1,nm1,k1,ks1⟩,y1,rfl,hk1,hrr⟩:=hrr.form;have ho1:=hk1.one;have hc1:=hk1.cells;simp only [Nd.op,Nd.name,Nd.n]))|refine GoR.s (by rfl) rfl rfl ?_|(refine GoR.splitG rfl (fun hc => ?_) (fun hc => ?_)<;>simp only [hc])|refine Go.condB rfl (fun hc => ?_) (fun hc => ?_))
      have hyy:=fun id=>kidZ_two (a:=.mk op nm k ks) (b:=.mk op1 nm1 k1 ks1) (y:=y) (z:=y1) hky hk1 (id:=id)
      simp only [ndX,Nd.op,Nd.name,Nd.n] at hyy
      repeat' (first|refine Go.a rfl ?_|refine Go.rg ?_|refine GoR.nil ?_|refine Go.ret ?_|refine Go.b rfl ?_|refine Go.rgS dmx (by decide) ?_|(refine GoR.o (by rfl) (by rfl) ?_;(conv=>arg 1;simp only [G,Z,Y,Gx,vV,simprocAttr,fb2,fb3,fb9,fb32,fb34,fb82,fb87,fb88,mm,hoy,hcy,ho1,hc1,rC_at,hqs,ht,toksAt hi,Tok.c,repD2,wrA,wrB]);show GoR ..)|refine GoR.s (by rfl) rfl rfl ?_|(refine GoR.splitG rfl (fun hc => ?_) (fun hc => ?_)<;>simp only [hc])|refine Go.condB rfl (fun hc => ?_) (fun hc => ?_))
      refine Go.lpN ?_
      refine Go.keep [(0,.ptr o 0),(2,.ptr n0 0),(3,.ptr (n0+1) 0)] (.cons .refl (.cons .refl (.cons .refl (.nil)))) ?_
      refine next (fu,.mk _ ⟨#[]⟩ 0 [.mk op nm k ks,.mk op1 nm1 k1 ks1],_,_,_) (Nat.lt_succ_self _) ⟨hyy _,?_⟩
      clear next
      rw [ht] at hr
      rcases hrr with ⟨h1,h2,rfl⟩ | ⟨h1,p,q,rfl⟩
      ·obtain ⟨nd1,⟨i1,n1,e1⟩⟩:=r1
       obtain rfl:e1=0:=h1
       subst h2
       exact .inl ⟨i1,n1,rfl,hb1,hr⟩
      ·have:=loopF_err hr h1
       subst this
       exact .inr ⟨h1,p,q,rfl⟩
   ·rw [if_neg fun q=>hc q.2] at hr
    cases hr
    clear next
    have hc0:isT l i addS=false:=by simpa using hc
    repeat' (first|refine Go.a rfl ?_|refine Go.rg ?_|refine GoR.nil ?_|refine Go.ret ?_|refine Go.b rfl ?_|refine Go.rgS dmx (by decide) ?_|(refine GoR.o (by rfl) (by rfl) ?_;(conv=>arg 1;simp only [G,Z,Y,Gx,vV,simprocAttr,fb2,fb3,fb9,fb32,fb34,fb82,fb87,fb88,mm,hoy,hcy,rC_at,isT_sub hc0 (show (⟨#[43]⟩:ByteArray)∈addS by simp [addS]),isT_sub hc0 (show (⟨#[45]⟩:ByteArray)∈addS by simp [addS])]);show GoR ..)|(refine GoR.c c93 (by rfl) (by rfl) rfl ?_;(refine CallD.ret2 (hq _ _) ?_))|refine GoR.s (by rfl) rfl rfl ?_|(refine GoR.splitG rfl (fun hc => ?_) (fun hc => ?_)<;>simp only [hc])|refine Go.condB rfl (fun hc => ?_) (fun hc => ?_))
    refine ⟨(by first | exact .inl rfl | exact .inr rfl),fin ?_⟩
    rw [resD_cell (fn:=Tryz.f158) rfl]
    simp only [optThen_some,resultD_tmp,resultD_cell,G,Z,Y,Gx,vV,simprocAttr,fb2,fb3,fb9,fb32,fb34,fb82,fb87,fb88,mm,hoy,hcy]
    exact ⟨_,_,_,rfl,rC_low,.agg' (ndX_wf (n:=.mk op nm k ks) hky),nd_low _,.inl ⟨rfl,rfl,rfl⟩⟩
  ·clear next
   repeat' (first|refine Go.a rfl ?_|refine Go.rg ?_|refine GoR.nil ?_|refine Go.ret ?_|refine Go.b rfl ?_|refine Go.rgS dmx (by decide) ?_|(refine GoR.o (by rfl) (by rfl) ?_;(conv=>arg 1;simp only [G,Z,Y,Gx,vV,simprocAttr,fb2,fb3,fb9,fb32,fb34,fb82,fb87,fb88,mm,hoy,hcy,rC_at,show (r.2.e==0)=false by simpa using he]);show GoR ..)|refine GoR.s (by rfl) rfl rfl ?_|(refine GoR.splitG rfl (fun hc => ?_) (fun hc => ?_)<;>simp only [hc])|refine Go.condB rfl (fun hc => ?_) (fun hc => ?_))
   refine ⟨(by first | exact .inl rfl | exact .inr rfl),fin ?_⟩
   rw [resD_cell (fn:=Tryz.f158) rfl]
   simp only [optThen_some,resultD_tmp,resultD_cell,G,Z,Y,Gx,vV,simprocAttr,fb2,fb3,fb9,fb32,fb34,fb82,fb87,fb88,mm,hoy,hcy]
   exact ⟨_,_,_,rfl,rC_low,.agg' (ndX_wf (n:=.mk op nm k ks) hky),nd_low _,.inr ⟨he,p,q,_,rfl,rfl⟩⟩
 ·intro M n0 hF a k b w hb
  obtain ⟨m1,m2,m3,m4,m5,m6,m7,m8,m9,m10,m11⟩:=hF.facts
  have mm:=hF.facts
  have hbd:=fun E=>hp.badE hF E a k w hb
  simp only [nilN,Nd.c_mk] at hbd
  refine CallD.updE hF ?_
  refine CallD.eb Tryz.func158 rfl Tryz.ntmps158 (by rfl) ?_
  repeat' (first|refine Go.a rfl ?_|refine Go.rg ?_|refine GoR.nil ?_|refine Go.ret ?_|refine Go.b rfl ?_|refine Go.rgS dmx (by decide) ?_|(refine GoR.o (by rfl) (by rfl) ?_;(conv=>arg 1;simp only [G,Z,Y,Gx,vV,simprocAttr,fb2,fb3,fb9,fb32,fb34,fb82,fb87,fb88,mm,rC_at]);show GoR ..)|(refine GoR.c c194 (by rfl) (by rfl) rfl ?_;(refine CallD.ret2 (hbd _) ?_))|refine GoR.s (by rfl) rfl rfl ?_|(refine GoR.splitG rfl (fun hc => ?_) (fun hc => ?_)<;>simp only [hc])|refine Go.condB rfl (fun hc => ?_) (fun hc => ?_))
  refine Go.keep [(0,.ptr o 0),(2,.ptr n0 0),(3,.ptr (n0+1) 0)] (.cons .refl (.cons .refl (.cons .refl (.nil)))) ?_
  refine Go.while (α:=Unit) (fun _=>0) (fun _=>[(0,.ptr o 0),(2,.ptr n0 0),(3,.ptr (n0+1) 0)]) (fun _=>M (rC l a k b w)++[.obj [.str ⟨#[]⟩,.str ⟨#[]⟩,.int .i64 0,.nils],.obj [.str ⟨#[]⟩,.str ⟨#[]⟩,.int .i64 0,.sl none 4 0 (ndsC [])]]) (fun _=>True) ?_ () trivial
  rintro _ _ next
  clear next
  repeat' (first|refine Go.a rfl ?_|refine Go.rg ?_|refine GoR.nil ?_|refine Go.ret ?_|refine Go.b rfl ?_|refine Go.rgS dmx (by decide) ?_|(refine GoR.o (by rfl) (by rfl) ?_;(conv=>arg 1;simp only [G,Z,Y,Gx,vV,simprocAttr,fb2,fb3,fb9,fb32,fb34,fb82,fb87,fb88,mm,rC_at,show (b==0)=false by simpa using hb]);show GoR ..)|refine GoR.s (by rfl) rfl rfl ?_|(refine GoR.splitG rfl (fun hc => ?_) (fun hc => ?_)<;>simp only [hc])|refine Go.condB rfl (fun hc => ?_) (fun hc => ?_))
  refine ⟨(by first | exact .inl rfl | exact .inr rfl),fin ?_⟩
  rw [resD_cell (fn:=Tryz.f158) rfl]
  simp only [optThen_some,resultD_tmp,resultD_cell,G,Z,Y,Gx,vV,simprocAttr,fb2,fb3,fb9,fb32,fb34,fb82,fb87,fb88,mm]
  exact ⟨_,rfl,rC_low,nil_wf2,nd_low _⟩
end Go.Proofs.DgT
namespace Go.Proofs.DgT
open Go Go.DM
set_option maxRecDepth 100000
theorem facBad {l:List Tok} {o:Nat} {M:List D→Mem} {n0:Nat} (hF:Fam M o n0) (a k b w:Int) (hb:b≠0) :
  CallD Tryz.prog O 218 [.ptr o 0] (M (rC l a k b w)) fun d S'=>S'=M (rC l a k b w)∧d = .agg nilN.c:=by
 obtain ⟨m1,m2,m3,m4,m5,m6,m7,m8,m9,m10,m11⟩:=hF.facts
 have mm:=hF.facts
 refine CallD.updE hF ?_
 refine CallD.eb Tryz.func218 rfl Tryz.ntmps218 (by rfl) ?_
 repeat' (first|refine Go.a rfl ?_|refine Go.rg ?_|refine GoR.nil ?_|refine Go.ret ?_|refine Go.b rfl ?_|refine Go.rgS dmx (by decide) ?_|refine Go.rgD [3,7,9] (fun _=>True) dmx (by decide) 11 (by decide) (by trivial) ?_|refine GoW.nil rfl ?_|((first|refine GoR.o (by rfl) (by rfl) ?_|refine GoW.o (by rfl) (by rfl) ?_|refine GoW.rd (by rfl) (by rfl) ?_);(conv=>arg 1;simp only [G,Z,Y,Gx,vV,simprocAttr,fb2,fb3,fb9,fb32,fb34,fb82,fb87,fb88,mm,rC_at,show (b==0)=false by simpa using hb,show (b != 0)=true by simpa using hb]);first|show GoR ..|(show _∧GoW ..;refine ⟨by exact fun _=>trivial,?_⟩)|(show _∧_∧_∧GoW ..;refine ⟨rfl,by trivial,(fun H _=>by simp only [G,Z,Y,Gx,vV,simprocAttr,fb2,fb3,fb9,fb32,fb34,fb82,fb87,fb88,mm,rC_at,show (b==0)=false by simpa using hb,show (b != 0)=true by simpa using hb]),?_⟩))|refine GoR.s (by rfl) rfl rfl ?_|refine GoW.s (by rfl) rfl rfl (by exact fun _=>trivial) ?_|(refine GoR.splitG rfl (fun hc => ?_) (fun hc => ?_)<;>simp only [hc])|refine Go.condB rfl (fun hc => ?_) (fun hc => ?_))
 refine ⟨(by first | exact .inl rfl | exact .inr rfl),fin ?_⟩
 rw [resD_cell (fn:=Tryz.f218) rfl]
 simp only [optThen_some,resultD_tmp,resultD_cell,G,Z,Y,Gx,vV,simprocAttr,fb2,fb3,fb9,fb32,fb34,fb82,fb87,fb88,mm]
 exact ⟨_,rfl,rC_low,nil_wf,nd_low _⟩
theorem Fam.triv:Fam (fun c=>[.obj c]) 0 1:=⟨by decide,fun _=>rfl,fun _=>rfl,fun _ _=>rfl⟩
theorem fac_bs {l:List Tok} (hl:l.length<100000) (f:Nat) (st:St) (r:Nd×St) (hb:Bs l st) (hr:facF l f st=some r):Bs l r.2:=(facW hl (o:=0) f _ _ Fam.triv st r hb hr).1
theorem leaf_wf {op nm:ByteArray} {n:Int} : Wf (.agg [.str op,.str nm,.int .i64 n,.nils]) (.agg (Nd.mk op nm n []).c):=by
 rw [Nd.c_mk]
 exact .agg' (.cons .refl (.cons .refl (.cons .refl (.cons .nilE .nil))))
theorem kidY_one {a:Nd} {y:D} (h:KidY y a.kids) {id:Option Nat} : KidY (.sl id 4 1 (ndX a y)) [a]:=by
 refine ⟨?_,rfl,rfl⟩
 have e:ndsC [a]=a.c:=by simp [ndsC]
 rw [e]
 exact .sl' (ndX_wf h)
set_option maxHeartbeats 4000000 in
theorem facR {l:List Tok} (hl:l.length<100000) (hw : ∀ t∈l,WordOk t) {o:Nat} : ∀ f,PartR l o 218 (facF l f)
 | 0=>⟨fun M n0 hF i n r w hb hr=>(by cases hr),fun M n0 hF a k b w hb=>facBad hF a k b w hb,fun st r hb hr=>(by cases hr)⟩
 | f+1=>by
  have ihf:=facR hl hw (o:=o) f
  have ihs:PartR l o 158 (sumF l f):=sumR hl (prdR hl ihf)
  refine ⟨fun M n0 hF i n r w hb hr => ?_,fun M n0 hF a k b w hb=>facBad hF a k b w hb,fun st r hb hr=>fac_bs hl _ st r hb hr⟩
  obtain ⟨m1,m2,m3,m4,m5,m6,m7,m8,m9,m10,m11⟩:=hF.facts
  have mm:=hF.facts
  rw [facF_succ,if_neg (fun h=>h rfl)] at hr
  have hfail:=fun (E:Mem) x=>rFailE hF E l (i:Int) (n:Int) w x
  refine CallD.upd hF ?_
  cases hqi:l[i]? with
  | none=>
   dsimp only at hr
   rw [hqi] at hr
   cases hr
   have hge:l.length≤i:=by simpa using hqi
   refine CallD.eb Tryz.func218 rfl Tryz.ntmps218 (by rfl) ?_
   repeat' (first|refine Go.a rfl ?_|refine Go.rg ?_|refine GoR.nil ?_|refine Go.ret ?_|refine Go.b rfl ?_|refine Go.rgS dmx (by decide) ?_|refine Go.rgD [3,7,9] (fun _=>True) dmx (by decide) 11 (by decide) (by trivial) ?_|refine GoW.nil rfl ?_|((first|refine GoR.o (by rfl) (by rfl) ?_|refine GoW.o (by rfl) (by rfl) ?_|refine GoW.rd (by rfl) (by rfl) ?_);(conv=>arg 1;simp only [G,Z,Y,Gx,vV,simprocAttr,fb2,fb3,fb9,fb32,fb34,fb82,fb87,fb88,mm,rC_at,rC_wr,show decide ((i:Int)≥(l.length:Int))=true by simp;omega,show decide ((l.length:Int)≤(i:Int))=true by simp;omega]);first|show GoR ..|(show _∧GoW ..;refine ⟨by exact fun _=>trivial,?_⟩)|(show _∧_∧_∧GoW ..;refine ⟨rfl,by trivial,(fun H _=>by simp only [G,Z,Y,Gx,vV,simprocAttr,fb2,fb3,fb9,fb32,fb34,fb82,fb87,fb88,mm,rC_at,rC_wr,show decide ((i:Int)≥(l.length:Int))=true by simp;omega,show decide ((l.length:Int)≤(i:Int))=true by simp;omega]),?_⟩))|(refine GoW.c c32 (by rfl) (by rfl) rfl ?_;(refine CallD.ret2 (hfail _ _) ?_);refine ⟨by exact fun _=>trivial,?_⟩)|(refine GoR.c c32 (by rfl) (by rfl) rfl ?_;(refine CallD.ret2 (hfail _ _) ?_))|refine GoR.s (by rfl) rfl rfl ?_|refine GoW.s (by rfl) rfl rfl (by exact fun _=>trivial) ?_|(refine GoR.splitG rfl (fun hc => ?_) (fun hc => ?_)<;>simp only [hc])|refine Go.condB rfl (fun hc => ?_) (fun hc => ?_))
   refine ⟨(by first | exact .inl rfl | exact .inr rfl),fin ?_⟩
   rw [resD_cell (fn:=Tryz.f218) rfl]
   simp only [optThen_some,resultD_tmp,resultD_cell,G,Z,Y,Gx,vV,simprocAttr,fb2,fb3,fb9,fb32,fb34,fb82,fb87,fb88,mm]
   exact ⟨_,_,_,rfl,rC_low,nil_wf,nd_low _,.inr ⟨fun e=>nz2 e,_,_,_,rfl,rfl⟩⟩
  | some t=>
   dsimp only at hr
   rw [hqi] at hr
   obtain ⟨hi,rfl⟩:=List.getElem?_eq_some_iff.1 hqi
   dsimp only at hr
   clear hqi
   have hwt:=hw _ (List.getElem_mem hi)
   have d1:decide ((i:Int)≥(l.length:Int))=false:=by simp;omega
   have d2:decide ((l.length:Int)≤(i:Int))=false:=by simp;omega
   have hn:n≤32:=hb.2.2 rfl
   have htk:=fun (E:Mem)=>rTickE hF E l i n w (by omega) (by omega)
   by_cases hk:l[i].k=3
   ·rw [if_pos hk] at hr
    have hk2:(l[i].k==2)=false:=by rw [hk];rfl
    have hk1:(l[i].k==1)=false:=by rw [hk];rfl
    by_cases ho:l[i].t=(⟨#[40]⟩:ByteArray)
    ·rw [if_pos ho] at hr
     cases hs:sumF l f ⟨i+1,n,0⟩ with
     | none=>rw [hs] at hr;cases hr
     | some r1=>
     rw [hs,Option.map_some] at hr
     cases hr
     have hbs:Bs l ⟨i+1,n,0⟩:=⟨hi,by dsimp only;omega,fun _=>hn⟩
     have hb1:=ihs.bs _ _ hbs hs
     have hp1:=fun E=>ihs.okE hF E w hbs hs
     refine CallD.eb Tryz.func218 rfl Tryz.ntmps218 (by rfl) ?_
     repeat' (first|refine Go.a rfl ?_|refine Go.rg ?_|refine GoR.nil ?_|refine Go.ret ?_|refine Go.b rfl ?_|refine Go.rgS dmx (by decide) ?_|refine Go.rgD [3,7,9] (fun H=>objAt H o=some (rC l (i:Int) (n:Int) 0 w)) dmx (by decide) 11 (by decide) (by (simp only [m2,m4])) ?_|refine GoW.nil rfl ?_|((first|refine GoR.o (by rfl) (by rfl) ?_|refine GoW.o (by rfl) (by rfl) ?_|refine GoW.rd (by rfl) (by rfl) ?_);(conv=>arg 1;simp only [G,Z,Y,Gx,vV,simprocAttr,fb2,fb3,fb9,fb32,fb34,fb82,fb87,fb88,mm,rC_at,rC_wr,d1,d2,hk1,hk2,ho,toksAt hi,Tok.c,wrap_succ (show i<4611686018427387904 by omega),show decide ((⟨#[40]⟩:ByteArray)=⟨#[45]⟩)=false by decide]);first|show GoR ..|(show _∧GoW ..;refine ⟨by (first|exact fun h=>absurd h (by decide)|(intro _;(simp only [m2,m4]))),?_⟩)|(show _∧_∧_∧GoW ..;refine ⟨rfl,by (simp only [m2,m4]),(fun H hI=>by (try dsimp only at hI);simp only [G,Z,Y,Gx,vV,simprocAttr,fb2,fb3,fb9,fb32,fb34,fb82,fb87,fb88,mm,rC_at,rC_wr,d1,d2,hk1,hk2,ho,toksAt hi,Tok.c,wrap_succ (show i<4611686018427387904 by omega),show decide ((⟨#[40]⟩:ByteArray)=⟨#[45]⟩)=false by decide,hI]),?_⟩))|(refine GoW.c c158 (by rfl) (by rfl) rfl ?_;(refine CallD.mono (hp1 _) ?_;rintro _ _ ⟨c1,rfl,hrr⟩;obtain ⟨nd1,y1,rfl,hy1,hrr⟩:=hrr.form;have ho1:=hy1.one;have hc1:=hy1.cells;rcases hrr with ⟨he1,rfl,rfl⟩ | ⟨he1,p,q,rfl⟩);refine ⟨by (first|exact fun h=>absurd h (by decide)|(intro _;(simp only [m2,m4]))),?_⟩)|(refine GoR.c c158 (by rfl) (by rfl) rfl ?_;(refine CallD.mono (hp1 _) ?_;rintro _ _ ⟨c1,rfl,hrr⟩;obtain ⟨nd1,y1,rfl,hy1,hrr⟩:=hrr.form;have ho1:=hy1.one;have hc1:=hy1.cells;rcases hrr with ⟨he1,rfl,rfl⟩ | ⟨he1,p,q,rfl⟩))|refine GoR.s (by rfl) rfl rfl ?_|refine GoW.s (by rfl) rfl rfl (by (first|exact fun h=>absurd h (by decide)|(intro _;(simp only [m2,m4])))) ?_|(refine GoR.splitG rfl (fun hc => ?_) (fun hc => ?_)<;>simp only [hc])|refine Go.condB rfl (fun hc => ?_) (fun hc => ?_))
     ·obtain ⟨nd1,⟨i1,n1,e1⟩⟩:=r1
      obtain rfl:e1=0:=he1
      have hend:=fun E s=>rIsE hF E l i1 (n1:Int) 0 w s
      have hfail1:=fun (E:Mem) x=>rFailE hF E l (i1:Int) (n1:Int) w x
      have hi1:i1≤l.length:=hb1.1
      by_cases hx:isT l i1 endS=true
      ·have hx2:isT l i1 [(⟨#[41]⟩:ByteArray)]=true:=hx
       have e:closeF l (nd1,⟨i1,n1,0⟩)=(nd1,⟨i1+1,n1,0⟩):=by unfold closeF;rw [if_neg (fun h=>h rfl),if_pos hx]
       rw [e]
       repeat' (first|refine Go.a rfl ?_|refine Go.rg ?_|refine GoR.nil ?_|refine Go.ret ?_|refine Go.b rfl ?_|refine Go.rgS dmx (by decide) ?_|refine Go.rgD [3,7,9] (fun _=>True) dmx (by decide) 11 (by decide) (by trivial) ?_|refine GoW.nil rfl ?_|((first|refine GoR.o (by rfl) (by rfl) ?_|refine GoW.o (by rfl) (by rfl) ?_|refine GoW.rd (by rfl) (by rfl) ?_);(conv=>arg 1;simp only [G,Z,Y,Gx,vV,simprocAttr,fb2,fb3,fb9,fb32,fb34,fb82,fb87,fb88,mm,rC_at,rC_wr,ho1,hc1,hx2,Bool.not_true,wrap_succ (show i1<4611686018427387904 by omega)]);first|show GoR ..|(show _∧GoW ..;refine ⟨by exact fun _=>trivial,?_⟩)|(show _∧_∧_∧GoW ..;refine ⟨rfl,by trivial,(fun H _=>by simp only [G,Z,Y,Gx,vV,simprocAttr,fb2,fb3,fb9,fb32,fb34,fb82,fb87,fb88,mm,rC_at,rC_wr,ho1,hc1,hx2,Bool.not_true,wrap_succ (show i1<4611686018427387904 by omega)]),?_⟩))|(refine GoW.c c93 (by rfl) (by rfl) rfl ?_;(refine CallD.ret2 (hend _ _) ?_);refine ⟨by exact fun _=>trivial,?_⟩)|(refine GoR.c c93 (by rfl) (by rfl) rfl ?_;(refine CallD.ret2 (hend _ _) ?_))|refine GoR.s (by rfl) rfl rfl ?_|refine GoW.s (by rfl) rfl rfl (by exact fun _=>trivial) ?_|(refine GoR.splitG rfl (fun hc => ?_) (fun hc => ?_)<;>simp only [hc])|refine Go.condB rfl (fun hc => ?_) (fun hc => ?_))
       refine ⟨(by first | exact .inl rfl | exact .inr rfl),fin ?_⟩
       rw [resD_cell (fn:=Tryz.f218) rfl]
       simp only [optThen_some,resultD_tmp,resultD_cell,G,Z,Y,Gx,vV,simprocAttr,fb2,fb3,fb9,fb32,fb34,fb82,fb87,fb88,mm,ho1,hc1]
       exact ⟨_,_,_,rfl,rC_low,.agg' (ndX_wf hy1),nd_low _,.inl ⟨rfl,rfl,rfl⟩⟩
      ·have hx2:isT l i1 [(⟨#[41]⟩:ByteArray)]=false:=Bool.eq_false_iff.2 hx
       have e:closeF l (nd1,⟨i1,n1,0⟩)=(nilN,⟨i1,n1,2⟩):=by unfold closeF;rw [if_neg (fun h=>h rfl),if_neg hx]
       rw [e]
       repeat' (first|refine Go.a rfl ?_|refine Go.rg ?_|refine GoR.nil ?_|refine Go.ret ?_|refine Go.b rfl ?_|refine Go.rgS dmx (by decide) ?_|refine Go.rgD [3,7,9] (fun _=>True) dmx (by decide) 11 (by decide) (by trivial) ?_|refine GoW.nil rfl ?_|((first|refine GoR.o (by rfl) (by rfl) ?_|refine GoW.o (by rfl) (by rfl) ?_|refine GoW.rd (by rfl) (by rfl) ?_);(conv=>arg 1;simp only [G,Z,Y,Gx,vV,simprocAttr,fb2,fb3,fb9,fb32,fb34,fb82,fb87,fb88,mm,rC_at,rC_wr,ho1,hc1,hx2,Bool.not_false,wrap_succ (show i1<4611686018427387904 by omega)]);first|show GoR ..|(show _∧GoW ..;refine ⟨by exact fun _=>trivial,?_⟩)|(show _∧_∧_∧GoW ..;refine ⟨rfl,by trivial,(fun H _=>by simp only [G,Z,Y,Gx,vV,simprocAttr,fb2,fb3,fb9,fb32,fb34,fb82,fb87,fb88,mm,rC_at,rC_wr,ho1,hc1,hx2,Bool.not_false,wrap_succ (show i1<4611686018427387904 by omega)]),?_⟩))|(refine GoW.c c93 (by rfl) (by rfl) rfl ?_;(refine CallD.ret2 (hend _ _) ?_);refine ⟨by exact fun _=>trivial,?_⟩)|(refine GoR.c c93 (by rfl) (by rfl) rfl ?_;(refine CallD.ret2 (hend _ _) ?_))|(refine GoW.c c32 (by rfl) (by rfl) rfl ?_;(refine CallD.ret2 (hfail1 _ _) ?_);refine ⟨by exact fun _=>trivial,?_⟩)|(refine GoR.c c32 (by rfl) (by rfl) rfl ?_;(refine CallD.ret2 (hfail1 _ _) ?_))|refine GoR.s (by rfl) rfl rfl ?_|refine GoW.s (by rfl) rfl rfl (by exact fun _=>trivial) ?_|(refine GoR.splitG rfl (fun hc => ?_) (fun hc => ?_)<;>simp only [hc])|refine Go.condB rfl (fun hc => ?_) (fun hc => ?_))
       refine ⟨(by first | exact .inl rfl | exact .inr rfl),fin ?_⟩
       rw [resD_cell (fn:=Tryz.f218) rfl]
       simp only [optThen_some,resultD_tmp,resultD_cell,G,Z,Y,Gx,vV,simprocAttr,fb2,fb3,fb9,fb32,fb34,fb82,fb87,fb88,mm,ho1,hc1]
       exact ⟨_,_,_,rfl,rC_low,.agg' (ndX_wf hy1),nd_low _,.inr ⟨fun e=>nz2 e,_,_,_,rfl,rfl⟩⟩
     ·have e:closeF l r1=(nilN,r1.2):=by unfold closeF;rw [if_pos he1]
      rw [e]
      repeat' (first|refine Go.a rfl ?_|refine Go.rg ?_|refine GoR.nil ?_|refine Go.ret ?_|refine Go.b rfl ?_|refine Go.rgS dmx (by decide) ?_|refine Go.rgD [3,7,9] (fun _=>True) dmx (by decide) 11 (by decide) (by trivial) ?_|refine GoW.nil rfl ?_|((first|refine GoR.o (by rfl) (by rfl) ?_|refine GoW.o (by rfl) (by rfl) ?_|refine GoW.rd (by rfl) (by rfl) ?_);(conv=>arg 1;simp only [G,Z,Y,Gx,vV,simprocAttr,fb2,fb3,fb9,fb32,fb34,fb82,fb87,fb88,mm,rC_at,rC_wr,ho1,hc1,show (r1.2.e==0)=false by simpa using he1]);first|show GoR ..|(show _∧GoW ..;refine ⟨by exact fun _=>trivial,?_⟩)|(show _∧_∧_∧GoW ..;refine ⟨rfl,by trivial,(fun H _=>by simp only [G,Z,Y,Gx,vV,simprocAttr,fb2,fb3,fb9,fb32,fb34,fb82,fb87,fb88,mm,rC_at,rC_wr,ho1,hc1,show (r1.2.e==0)=false by simpa using he1]),?_⟩))|refine GoR.s (by rfl) rfl rfl ?_|refine GoW.s (by rfl) rfl rfl (by exact fun _=>trivial) ?_|(refine GoR.splitG rfl (fun hc => ?_) (fun hc => ?_)<;>simp only [hc])|refine Go.condB rfl (fun hc => ?_) (fun hc => ?_))
      refine ⟨(by first | exact .inl rfl | exact .inr rfl),fin ?_⟩
      rw [resD_cell (fn:=Tryz.f218) rfl]
      simp only [optThen_some,resultD_tmp,resultD_cell,G,Z,Y,Gx,vV,simprocAttr,fb2,fb3,fb9,fb32,fb34,fb82,fb87,fb88,mm,ho1,hc1]
      exact ⟨_,_,_,rfl,rC_low,.agg' (ndX_wf hy1),nd_low _,.inr ⟨he1,_,_,_,rfl,rfl⟩⟩
    ·rw [if_neg ho] at hr
     by_cases hm:l[i].t=(⟨#[45]⟩:ByteArray)
     ·rw [if_pos hm] at hr
      by_cases hbig:32<n+1
      ·rw [if_pos hbig] at hr
       cases hr
       have hbd:=fun E=>ihf.badE hF E ((i+1:Nat):Int) ((n+1:Nat):Int) (b:=4) (i:Int) (by decide)
       simp only [nilN,Nd.c_mk] at hbd
       unfold tickC at htk
       simp only [if_pos hbig] at htk
       refine CallD.eb Tryz.func218 rfl Tryz.ntmps218 (by rfl) ?_
       repeat' (first|refine Go.a rfl ?_|refine Go.rg ?_|refine GoR.nil ?_|refine Go.ret ?_|refine Go.b rfl ?_|refine Go.rgS dmx (by decide) ?_|refine Go.rgD [3,7,9] (fun H=>objAt H o=some (rC l (i:Int) (n:Int) 0 w)) dmx (by decide) 11 (by decide) (by (simp only [m2,m4])) ?_|refine GoW.nil rfl ?_|((first|refine GoR.o (by rfl) (by rfl) ?_|refine GoW.o (by rfl) (by rfl) ?_|refine GoW.rd (by rfl) (by rfl) ?_);(conv=>arg 1;simp only [G,Z,Y,Gx,vV,simprocAttr,fb2,fb3,fb9,fb32,fb34,fb82,fb87,fb88,mm,rC_at,rC_wr,d1,d2,hk1,hk2,hm,toksAt hi,Tok.c,wr_full]);first|show GoR ..|(show _∧GoW ..;refine ⟨by (first|exact fun h=>absurd h (by decide)|(intro _;(simp only [m2,m4]))),?_⟩)|(show _∧_∧_∧GoW ..;refine ⟨rfl,by (simp only [m2,m4]),(fun H hI=>by (try dsimp only at hI);simp only [G,Z,Y,Gx,vV,simprocAttr,fb2,fb3,fb9,fb32,fb34,fb82,fb87,fb88,mm,rC_at,rC_wr,d1,d2,hk1,hk2,hm,toksAt hi,Tok.c,wr_full,hI]),?_⟩))|(refine GoW.c c195 (by rfl) (by rfl) rfl ?_;(refine CallD.ret2 (htk _) ?_);refine ⟨by (first|exact fun h=>absurd h (by decide)|(intro _;(simp only [m2,m4]))),?_⟩)|(refine GoR.c c195 (by rfl) (by rfl) rfl ?_;(refine CallD.ret2 (htk _) ?_))|(refine GoW.c c218 (by rfl) (by rfl) rfl ?_;(refine CallD.ret2 (hbd _) ?_);refine ⟨by (first|exact fun h=>absurd h (by decide)|(intro _;(simp only [m2,m4]))),?_⟩)|(refine GoR.c c218 (by rfl) (by rfl) rfl ?_;(refine CallD.ret2 (hbd _) ?_))|refine GoR.s (by rfl) rfl rfl ?_|refine GoW.s (by rfl) rfl rfl (by (first|exact fun h=>absurd h (by decide)|(intro _;(simp only [m2,m4])))) ?_|(refine GoR.splitG rfl (fun hc => ?_) (fun hc => ?_)<;>simp only [hc])|refine Go.condB rfl (fun hc => ?_) (fun hc => ?_))
       refine ⟨(by first | exact .inl rfl | exact .inr rfl),fin ?_⟩
       rw [resD_cell (fn:=Tryz.f218) rfl]
       simp only [optThen_some,resultD_tmp,resultD_cell,G,Z,Y,Gx,vV,simprocAttr,fb2,fb3,fb9,fb32,fb34,fb82,fb87,fb88,mm]
       refine ⟨.agg (Nd.mk (⟨#[110,101,103]⟩:ByteArray) ⟨#[]⟩ 0 [nilN]).c,_,_,rfl,rC_low,?_,nd_low _,.inr ⟨fun e=>nz4 e,_,_,_,rfl,rfl⟩⟩
       rw [Nd.c_mk,show ndsC [nilN]=nilN.c by simp [ndsC],nilN,Nd.c_mk]
       exact .agg' (.cons .refl (.cons .refl (.cons .refl (.cons .disown .nil))))
      ·rw [if_neg hbig] at hr
       unfold tickC at htk
       simp only [if_neg hbig] at htk
       cases hs:facF l f ⟨i+1,n+1,0⟩ with
       | none=>rw [hs] at hr;cases hr
       | some r1=>
       rw [hs,Option.map_some] at hr
       cases hr
       have hbs:Bs l ⟨i+1,n+1,0⟩:=⟨hi,by dsimp only;omega,fun _=>by dsimp only;omega⟩
       have hp1:=fun E=>ihf.okE hF E w hbs hs
       refine CallD.eb Tryz.func218 rfl Tryz.ntmps218 (by rfl) ?_
       repeat' (first|refine Go.a rfl ?_|refine Go.rg ?_|refine GoR.nil ?_|refine Go.ret ?_|refine Go.b rfl ?_|refine Go.rgS dmx (by decide) ?_|refine Go.rgD [3,7,9] (fun H=>objAt H o=some (rC l (i:Int) (n:Int) 0 w)) dmx (by decide) 11 (by decide) (by (simp only [m2,m4])) ?_|refine GoW.nil rfl ?_|((first|refine GoR.o (by rfl) (by rfl) ?_|refine GoW.o (by rfl) (by rfl) ?_|refine GoW.rd (by rfl) (by rfl) ?_);(conv=>arg 1;simp only [G,Z,Y,Gx,vV,simprocAttr,fb2,fb3,fb9,fb32,fb34,fb82,fb87,fb88,mm,rC_at,rC_wr,d1,d2,hk1,hk2,hm,toksAt hi,Tok.c]);first|show GoR ..|(show _∧GoW ..;refine ⟨by (first|exact fun h=>absurd h (by decide)|(intro _;(simp only [m2,m4]))),?_⟩)|(show _∧_∧_∧GoW ..;refine ⟨rfl,by (simp only [m2,m4]),(fun H hI=>by (try dsimp only at hI);simp only [G,Z,Y,Gx,vV,simprocAttr,fb2,fb3,fb9,fb32,fb34,fb82,fb87,fb88,mm,rC_at,rC_wr,d1,d2,hk1,hk2,hm,toksAt hi,Tok.c,hI]),?_⟩))|(refine GoW.c c195 (by rfl) (by rfl) rfl ?_;(refine CallD.ret2 (htk _) ?_);refine ⟨by (first|exact fun h=>absurd h (by decide)|(intro _;(simp only [m2,m4]))),?_⟩)|(refine GoR.c c195 (by rfl) (by rfl) rfl ?_;(refine CallD.ret2 (htk _) ?_))|(refine GoW.c c218 (by rfl) (by rfl) rfl ?_;(refine CallD.mono (hp1 _) ?_;rintro _ _ ⟨c1,rfl,hrr⟩;obtain ⟨nd1,y1,rfl,hy1,hrr⟩:=hrr.form;have ho1:=hy1.one;have hc1:=hy1.cells);refine ⟨by (first|exact fun h=>absurd h (by decide)|(intro _;(simp only [m2,m4]))),?_⟩)|(refine GoR.c c218 (by rfl) (by rfl) rfl ?_;(refine CallD.mono (hp1 _) ?_;rintro _ _ ⟨c1,rfl,hrr⟩;obtain ⟨nd1,y1,rfl,hy1,hrr⟩:=hrr.form;have ho1:=hy1.one;have hc1:=hy1.cells))|refine GoR.s (by rfl) rfl rfl ?_|refine GoW.s (by rfl) rfl rfl (by (first|exact fun h=>absurd h (by decide)|(intro _;(simp only [m2,m4])))) ?_|(refine GoR.splitG rfl (fun hc => ?_) (fun hc => ?_)<;>simp only [hc])|refine Go.condB rfl (fun hc => ?_) (fun hc => ?_))
       repeat' (first|refine Go.a rfl ?_|refine Go.rg ?_|refine GoR.nil ?_|refine Go.ret ?_|refine Go.b rfl ?_|refine Go.rgS dmx (by decide) ?_|refine Go.rgD [3,7,9] (fun _=>True) dmx (by decide) 11 (by decide) (by trivial) ?_|refine GoW.nil rfl ?_|((first|refine GoR.o (by rfl) (by rfl) ?_|refine GoW.o (by rfl) (by rfl) ?_|refine GoW.rd (by rfl) (by rfl) ?_);(conv=>arg 1;simp only [G,Z,Y,Gx,vV,simprocAttr,fb2,fb3,fb9,fb32,fb34,fb82,fb87,fb88,mm,ho1,hc1,wr_full]);first|show GoR ..|(show _∧GoW ..;refine ⟨by exact fun _=>trivial,?_⟩)|(show _∧_∧_∧GoW ..;refine ⟨rfl,by trivial,(fun H _=>by simp only [G,Z,Y,Gx,vV,simprocAttr,fb2,fb3,fb9,fb32,fb34,fb82,fb87,fb88,mm,ho1,hc1,wr_full]),?_⟩))|refine GoR.s (by rfl) rfl rfl ?_|refine GoW.s (by rfl) rfl rfl (by exact fun _=>trivial) ?_|(refine GoR.splitG rfl (fun hc => ?_) (fun hc => ?_)<;>simp only [hc])|refine Go.condB rfl (fun hc => ?_) (fun hc => ?_))
       refine ⟨(by first | exact .inl rfl | exact .inr rfl),fin ?_⟩
       rw [resD_cell (fn:=Tryz.f218) rfl]
       simp only [optThen_some,resultD_tmp,resultD_cell,G,Z,Y,Gx,vV,simprocAttr,fb2,fb3,fb9,fb32,fb34,fb82,fb87,fb88,mm,ho1,hc1]
       refine ⟨.agg (Nd.mk (⟨#[110,101,103]⟩:ByteArray) ⟨#[]⟩ 0 [nd1]).c,_,c1,rfl,?_,?_,nd_low _,?_⟩
       ·rcases hrr with ⟨_,_,rfl⟩ | ⟨_,p,q,rfl⟩<;>exact rC_low
       ·rw [Nd.c_mk]
        exact .agg' (.cons .refl (.cons .refl (.cons .refl (.cons (kidY_one hy1).wf .nil))))
       ·rcases hrr with ⟨he1,rfl,rfl⟩ | ⟨he1,p,q,rfl⟩
        ·exact .inl ⟨he1,rfl,rfl⟩
        ·exact .inr ⟨he1,p,q,_,rfl,rfl⟩
     ·rw [if_neg hm] at hr
      cases hr
      refine CallD.eb Tryz.func218 rfl Tryz.ntmps218 (by rfl) ?_
      repeat' (first|refine Go.a rfl ?_|refine Go.rg ?_|refine GoR.nil ?_|refine Go.ret ?_|refine Go.b rfl ?_|refine Go.rgS dmx (by decide) ?_|refine Go.rgD [3,7,9] (fun H=>objAt H o=some (rC l (i:Int) (n:Int) 0 w)) dmx (by decide) 11 (by decide) (by (simp only [m2,m4])) ?_|refine GoW.nil rfl ?_|((first|refine GoR.o (by rfl) (by rfl) ?_|refine GoW.o (by rfl) (by rfl) ?_|refine GoW.rd (by rfl) (by rfl) ?_);(conv=>arg 1;simp only [G,Z,Y,Gx,vV,simprocAttr,fb2,fb3,fb9,fb32,fb34,fb82,fb87,fb88,mm,rC_at,rC_wr,d1,d2,hk1,hk2,show decide (l[i].t=(⟨#[45]⟩:ByteArray))=false by simpa using hm,show decide (l[i].t=(⟨#[40]⟩:ByteArray))=false by simpa using ho,toksAt hi,Tok.c]);first|show GoR ..|(show _∧GoW ..;refine ⟨by (first|exact fun h=>absurd h (by decide)|(intro _;(simp only [m2,m4]))),?_⟩)|(show _∧_∧_∧GoW ..;refine ⟨rfl,by (simp only [m2,m4]),(fun H hI=>by (try dsimp only at hI);simp only [G,Z,Y,Gx,vV,simprocAttr,fb2,fb3,fb9,fb32,fb34,fb82,fb87,fb88,mm,rC_at,rC_wr,d1,d2,hk1,hk2,show decide (l[i].t=(⟨#[45]⟩:ByteArray))=false by simpa using hm,show decide (l[i].t=(⟨#[40]⟩:ByteArray))=false by simpa using ho,toksAt hi,Tok.c,hI]),?_⟩))|(refine GoW.c c32 (by rfl) (by rfl) rfl ?_;(refine CallD.ret2 (hfail _ _) ?_);refine ⟨by (first|exact fun h=>absurd h (by decide)|(intro _;(simp only [m2,m4]))),?_⟩)|(refine GoR.c c32 (by rfl) (by rfl) rfl ?_;(refine CallD.ret2 (hfail _ _) ?_))|refine GoR.s (by rfl) rfl rfl ?_|refine GoW.s (by rfl) rfl rfl (by (first|exact fun h=>absurd h (by decide)|(intro _;(simp only [m2,m4])))) ?_|(refine GoR.splitG rfl (fun hc => ?_) (fun hc => ?_)<;>simp only [hc])|refine Go.condB rfl (fun hc => ?_) (fun hc => ?_))
      refine ⟨(by first | exact .inl rfl | exact .inr rfl),fin ?_⟩
      rw [resD_cell (fn:=Tryz.f218) rfl]
      simp only [optThen_some,resultD_tmp,resultD_cell,G,Z,Y,Gx,vV,simprocAttr,fb2,fb3,fb9,fb32,fb34,fb82,fb87,fb88,mm]
      exact ⟨_,_,_,rfl,rC_low,nil_wf,nd_low _,.inr ⟨fun e=>nz2 e,_,_,_,rfl,rfl⟩⟩
   ·rw [if_neg hk] at hr
    by_cases h2:l[i].k=2
    ·have hlf:leafN l[i] = .mk (⟨#[110,117,109]⟩:ByteArray) ⟨#[]⟩ l[i].n []:=by unfold leafN;rw [if_pos h2]
     have hk2:(l[i].k==2)=true:=by rw [h2];rfl
     by_cases hbig:32<n+1
     ·rw [if_pos hbig] at hr
      cases hr
      unfold tickC at htk
      simp only [if_pos hbig] at htk
      refine CallD.eb Tryz.func218 rfl Tryz.ntmps218 (by rfl) ?_
      repeat' (first|refine Go.a rfl ?_|refine Go.rg ?_|refine GoR.nil ?_|refine Go.ret ?_|refine Go.b rfl ?_|refine Go.rgS dmx (by decide) ?_|refine Go.rgD [3,7,9] (fun H=>objAt H o=some (rC l (i:Int) (n:Int) 0 w)) dmx (by decide) 11 (by decide) (by (simp only [m2,m4])) ?_|refine GoW.nil rfl ?_|((first|refine GoR.o (by rfl) (by rfl) ?_|refine GoW.o (by rfl) (by rfl) ?_|refine GoW.rd (by rfl) (by rfl) ?_);(conv=>arg 1;simp only [G,Z,Y,Gx,vV,simprocAttr,fb2,fb3,fb9,fb32,fb34,fb82,fb87,fb88,mm,rC_at,rC_wr,d1,d2,hk2,toksAt hi,Tok.c]);first|show GoR ..|(show _∧GoW ..;refine ⟨by (first|exact fun h=>absurd h (by decide)|(intro _;(simp only [m2,m4]))),?_⟩)|(show _∧_∧_∧GoW ..;refine ⟨rfl,by (simp only [m2,m4]),(fun H hI=>by (try dsimp only at hI);simp only [G,Z,Y,Gx,vV,simprocAttr,fb2,fb3,fb9,fb32,fb34,fb82,fb87,fb88,mm,rC_at,rC_wr,d1,d2,hk2,toksAt hi,Tok.c,hI]),?_⟩))|(refine GoW.c c195 (by rfl) (by rfl) rfl ?_;(refine CallD.ret2 (htk _) ?_);refine ⟨by (first|exact fun h=>absurd h (by decide)|(intro _;(simp only [m2,m4]))),?_⟩)|(refine GoR.c c195 (by rfl) (by rfl) rfl ?_;(refine CallD.ret2 (htk _) ?_))|refine GoR.s (by rfl) rfl rfl ?_|refine GoW.s (by rfl) rfl rfl (by (first|exact fun h=>absurd h (by decide)|(intro _;(simp only [m2,m4])))) ?_|(refine GoR.splitG rfl (fun hc => ?_) (fun hc => ?_)<;>simp only [hc])|refine Go.condB rfl (fun hc => ?_) (fun hc => ?_))
      refine ⟨(by first | exact .inl rfl | exact .inr rfl),fin ?_⟩
      rw [resD_cell (fn:=Tryz.f218) rfl]
      simp only [optThen_some,resultD_tmp,resultD_cell,G,Z,Y,Gx,vV,simprocAttr,fb2,fb3,fb9,fb32,fb34,fb82,fb87,fb88,mm]
      exact ⟨_,_,_,rfl,rC_low,leaf_wf,nd_low _,.inr ⟨fun e=>nz4 e,_,_,_,rfl,rfl⟩⟩
     ·rw [if_neg hbig,hlf] at hr
      cases hr
      unfold tickC at htk
      simp only [if_neg hbig] at htk
      refine CallD.eb Tryz.func218 rfl Tryz.ntmps218 (by rfl) ?_
      repeat' (first|refine Go.a rfl ?_|refine Go.rg ?_|refine GoR.nil ?_|refine Go.ret ?_|refine Go.b rfl ?_|refine Go.rgS dmx (by decide) ?_|refine Go.rgD [3,7,9] (fun H=>objAt H o=some (rC l (i:Int) (n:Int) 0 w)) dmx (by decide) 11 (by decide) (by (simp only [m2,m4])) ?_|refine GoW.nil rfl ?_|((first|refine GoR.o (by rfl) (by rfl) ?_|refine GoW.o (by rfl) (by rfl) ?_|refine GoW.rd (by rfl) (by rfl) ?_);(conv=>arg 1;simp only [G,Z,Y,Gx,vV,simprocAttr,fb2,fb3,fb9,fb32,fb34,fb82,fb87,fb88,mm,rC_at,rC_wr,d1,d2,hk2,toksAt hi,Tok.c]);first|show GoR ..|(show _∧GoW ..;refine ⟨by (first|exact fun h=>absurd h (by decide)|(intro _;(simp only [m2,m4]))),?_⟩)|(show _∧_∧_∧GoW ..;refine ⟨rfl,by (simp only [m2,m4]),(fun H hI=>by (try dsimp only at hI);simp only [G,Z,Y,Gx,vV,simprocAttr,fb2,fb3,fb9,fb32,fb34,fb82,fb87,fb88,mm,rC_at,rC_wr,d1,d2,hk2,toksAt hi,Tok.c,hI]),?_⟩))|(refine GoW.c c195 (by rfl) (by rfl) rfl ?_;(refine CallD.ret2 (htk _) ?_);refine ⟨by (first|exact fun h=>absurd h (by decide)|(intro _;(simp only [m2,m4]))),?_⟩)|(refine GoR.c c195 (by rfl) (by rfl) rfl ?_;(refine CallD.ret2 (htk _) ?_))|refine GoR.s (by rfl) rfl rfl ?_|refine GoW.s (by rfl) rfl rfl (by (first|exact fun h=>absurd h (by decide)|(intro _;(simp only [m2,m4])))) ?_|(refine GoR.splitG rfl (fun hc => ?_) (fun hc => ?_)<;>simp only [hc])|refine Go.condB rfl (fun hc => ?_) (fun hc => ?_))
      refine ⟨(by first | exact .inl rfl | exact .inr rfl),fin ?_⟩
      rw [resD_cell (fn:=Tryz.f218) rfl]
      simp only [optThen_some,resultD_tmp,resultD_cell,G,Z,Y,Gx,vV,simprocAttr,fb2,fb3,fb9,fb32,fb34,fb82,fb87,fb88,mm]
      exact ⟨_,_,_,rfl,rC_low,leaf_wf,nd_low _,.inl ⟨rfl,rfl,rfl⟩⟩
    ·have hlf:leafN l[i] = .mk (⟨#[110,97,109,101]⟩:ByteArray) l[i].t 0 []:=by unfold leafN;rw [if_neg h2]
     have h1:l[i].k=1:=by rcases hwt.1 with h | h | h<;>first | exact h | exact absurd h h2 | exact absurd h hk
     have hk2:(l[i].k==2)=false:=by rw [h1];rfl
     have hk1:(l[i].k==1)=true:=by rw [h1];rfl
     by_cases hbig:32<n+1
     ·rw [if_pos hbig] at hr
      cases hr
      unfold tickC at htk
      simp only [if_pos hbig] at htk
      refine CallD.eb Tryz.func218 rfl Tryz.ntmps218 (by rfl) ?_
      repeat' (first|refine Go.a rfl ?_|refine Go.rg ?_|refine GoR.nil ?_|refine Go.ret ?_|refine Go.b rfl ?_|refine Go.rgS dmx (by decide) ?_|refine Go.rgD [3,7,9] (fun H=>objAt H o=some (rC l (i:Int) (n:Int) 0 w)) dmx (by decide) 11 (by decide) (by (simp only [m2,m4])) ?_|refine GoW.nil rfl ?_|((first|refine GoR.o (by rfl) (by rfl) ?_|refine GoW.o (by rfl) (by rfl) ?_|refine GoW.rd (by rfl) (by rfl) ?_);(conv=>arg 1;simp only [G,Z,Y,Gx,vV,simprocAttr,fb2,fb3,fb9,fb32,fb34,fb82,fb87,fb88,mm,rC_at,rC_wr,d1,d2,hk2,hk1,toksAt hi,Tok.c]);first|show GoR ..|(show _∧GoW ..;refine ⟨by (first|exact fun h=>absurd h (by decide)|(intro _;(simp only [m2,m4]))),?_⟩)|(show _∧_∧_∧GoW ..;refine ⟨rfl,by (simp only [m2,m4]),(fun H hI=>by (try dsimp only at hI);simp only [G,Z,Y,Gx,vV,simprocAttr,fb2,fb3,fb9,fb32,fb34,fb82,fb87,fb88,mm,rC_at,rC_wr,d1,d2,hk2,hk1,toksAt hi,Tok.c,hI]),?_⟩))|(refine GoW.c c195 (by rfl) (by rfl) rfl ?_;(refine CallD.ret2 (htk _) ?_);refine ⟨by (first|exact fun h=>absurd h (by decide)|(intro _;(simp only [m2,m4]))),?_⟩)|(refine GoR.c c195 (by rfl) (by rfl) rfl ?_;(refine CallD.ret2 (htk _) ?_))|refine GoR.s (by rfl) rfl rfl ?_|refine GoW.s (by rfl) rfl rfl (by (first|exact fun h=>absurd h (by decide)|(intro _;(simp only [m2,m4])))) ?_|(refine GoR.splitG rfl (fun hc => ?_) (fun hc => ?_)<;>simp only [hc])|refine Go.condB rfl (fun hc => ?_) (fun hc => ?_))
      refine ⟨(by first | exact .inl rfl | exact .inr rfl),fin ?_⟩
      rw [resD_cell (fn:=Tryz.f218) rfl]
      simp only [optThen_some,resultD_tmp,resultD_cell,G,Z,Y,Gx,vV,simprocAttr,fb2,fb3,fb9,fb32,fb34,fb82,fb87,fb88,mm]
      exact ⟨_,_,_,rfl,rC_low,leaf_wf,nd_low _,.inr ⟨fun e=>nz4 e,_,_,_,rfl,rfl⟩⟩
     ·rw [if_neg hbig,hlf] at hr
      cases hr
      unfold tickC at htk
      simp only [if_neg hbig] at htk
      refine CallD.eb Tryz.func218 rfl Tryz.ntmps218 (by rfl) ?_
      repeat' (first|refine Go.a rfl ?_|refine Go.rg ?_|refine GoR.nil ?_|refine Go.ret ?_|refine Go.b rfl ?_|refine Go.rgS dmx (by decide) ?_|refine Go.rgD [3,7,9] (fun H=>objAt H o=some (rC l (i:Int) (n:Int) 0 w)) dmx (by decide) 11 (by decide) (by (simp only [m2,m4])) ?_|refine GoW.nil rfl ?_|((first|refine GoR.o (by rfl) (by rfl) ?_|refine GoW.o (by rfl) (by rfl) ?_|refine GoW.rd (by rfl) (by rfl) ?_);(conv=>arg 1;simp only [G,Z,Y,Gx,vV,simprocAttr,fb2,fb3,fb9,fb32,fb34,fb82,fb87,fb88,mm,rC_at,rC_wr,d1,d2,hk2,hk1,toksAt hi,Tok.c]);first|show GoR ..|(show _∧GoW ..;refine ⟨by (first|exact fun h=>absurd h (by decide)|(intro _;(simp only [m2,m4]))),?_⟩)|(show _∧_∧_∧GoW ..;refine ⟨rfl,by (simp only [m2,m4]),(fun H hI=>by (try dsimp only at hI);simp only [G,Z,Y,Gx,vV,simprocAttr,fb2,fb3,fb9,fb32,fb34,fb82,fb87,fb88,mm,rC_at,rC_wr,d1,d2,hk2,hk1,toksAt hi,Tok.c,hI]),?_⟩))|(refine GoW.c c195 (by rfl) (by rfl) rfl ?_;(refine CallD.ret2 (htk _) ?_);refine ⟨by (first|exact fun h=>absurd h (by decide)|(intro _;(simp only [m2,m4]))),?_⟩)|(refine GoR.c c195 (by rfl) (by rfl) rfl ?_;(refine CallD.ret2 (htk _) ?_))|refine GoR.s (by rfl) rfl rfl ?_|refine GoW.s (by rfl) rfl rfl (by (first|exact fun h=>absurd h (by decide)|(intro _;(simp only [m2,m4])))) ?_|(refine GoR.splitG rfl (fun hc => ?_) (fun hc => ?_)<;>simp only [hc])|refine Go.condB rfl (fun hc => ?_) (fun hc => ?_))
      refine ⟨(by first | exact .inl rfl | exact .inr rfl),fin ?_⟩
      rw [resD_cell (fn:=Tryz.f218) rfl]
      simp only [optThen_some,resultD_tmp,resultD_cell,G,Z,Y,Gx,vV,simprocAttr,fb2,fb3,fb9,fb32,fb34,fb82,fb87,fb88,mm]
      exact ⟨_,_,_,rfl,rC_low,leaf_wf,nd_low _,.inl ⟨rfl,rfl,rfl⟩⟩
end Go.Proofs.DgT
