/- An expression out of words: the parser as a function; as many steps as there are words are enough. -/
import Derived.Test.YtcdijoaabbjioaaGreatDoorDgC5x
import Derived.Test.YtcdijoaabbjioaaGreatDoorDgL3x
import Derived.Test.YtcdijoaabbjioaaGreatDoorDgL1x
set_option linter.unusedSimpArgs false
set_option linter.unusedVariables false
namespace Go.Proofs.DgT
open Go Go.DM
set_option maxRecDepth 10000
def in64 (x:Int):Prop := -9223372036854775808≤x∧x≤9223372036854775807
structure St where
 i:Nat
 n:Nat
 e:Int
def nilN:Nd:=.mk ⟨#[]⟩ ⟨#[]⟩ 0 []
def isT (l:List Tok) (i:Nat) (sg:List ByteArray):Bool:=match l[i]? with | some t=>decide (t.k=3)&&sg.any (fun s=>decide (t.t=s)) | none=>false
def opAt (l:List Tok) (i:Nat):ByteArray:=match l[i]? with | some t=>t.t | none=>⟨#[]⟩
def loopF (l:List Tok) (part:St→Option (Nd×St)) (sg:List ByteArray):Nat→Nd→St→Option (Nd×St)
 | 0,_,_=>none
 | g+1,out,st=>
  if st.e=0∧isT l st.i sg=true then
   if 32<st.n+1 then some (nilN,⟨st.i,st.n+1,4⟩)
   else (part ⟨st.i+1,st.n+1,0⟩).bind fun r=>loopF l part sg g (.mk (opAt l st.i) ⟨#[]⟩ 0 [out,r.1]) r.2
  else some (out,st)
def foldF (l:List Tok) (part:St→Option (Nd×St)) (sg:List ByteArray) (g:Nat) (st:St):Option (Nd×St):=(part st).bind fun r=>loopF l part sg g r.1 r.2
def mulS:List ByteArray:=[(⟨#[42]⟩:ByteArray),(⟨#[47]⟩:ByteArray),(⟨#[37]⟩:ByteArray)]
def addS:List ByteArray:=[(⟨#[43]⟩:ByteArray),(⟨#[45]⟩:ByteArray)]
def endS:List ByteArray:=[(⟨#[41]⟩:ByteArray)]
def closeF (l:List Tok) (r:Nd×St):Nd×St:=if r.2.e≠0 then (nilN,r.2) else if isT l r.2.i endS=true then (r.1,⟨r.2.i+1,r.2.n,0⟩) else (nilN,⟨r.2.i,r.2.n,2⟩)
def leafN (t:Tok):Nd:=if t.k=2 then .mk (⟨#[110,117,109]⟩:ByteArray) ⟨#[]⟩ t.n [] else .mk (⟨#[110,97,109,101]⟩:ByteArray) t.t 0 []
def facF (l:List Tok):Nat→St→Option (Nd×St)
 | 0=>fun _=>none
 | f+1=>fun st=>
  if st.e≠0 then some (nilN,st) else
  match l[st.i]? with
  | none=>some (nilN,⟨st.i,st.n,2⟩)
  | some t=>
   if t.k=3 then
    if t.t=(⟨#[40]⟩:ByteArray) then (foldF l (foldF l (facF l f) mulS f) addS f ⟨st.i+1,st.n,0⟩).map (closeF l)
    else if t.t=(⟨#[45]⟩:ByteArray) then
     if 32<st.n+1 then some (nilN,⟨st.i,st.n+1,4⟩) else (facF l f ⟨st.i+1,st.n+1,0⟩).map fun r=>(.mk (⟨#[110,101,103]⟩:ByteArray) ⟨#[]⟩ 0 [r.1],r.2)
    else some (nilN,⟨st.i,st.n,2⟩)
   else if 32<st.n+1 then some (nilN,⟨st.i,st.n+1,4⟩)
   else some (leafN t,⟨st.i+1,st.n+1,0⟩)
def prdF (l:List Tok) (f:Nat):St→Option (Nd×St):=foldF l (facF l f) mulS f
def sumF (l:List Tok) (f:Nat):St→Option (Nd×St):=foldF l (prdF l f) addS f
theorem facF_succ {l:List Tok} {f:Nat} {st:St} : facF l (f+1) st =
  if st.e≠0 then some (nilN,st) else
  match l[st.i]? with
  | none=>some (nilN,⟨st.i,st.n,2⟩)
  | some t=>
   if t.k=3 then
    if t.t=(⟨#[40]⟩:ByteArray) then (sumF l f ⟨st.i+1,st.n,0⟩).map (closeF l)
    else if t.t=(⟨#[45]⟩:ByteArray) then
     if 32<st.n+1 then some (nilN,⟨st.i,st.n+1,4⟩) else (facF l f ⟨st.i+1,st.n+1,0⟩).map fun r=>(.mk (⟨#[110,101,103]⟩:ByteArray) ⟨#[]⟩ 0 [r.1],r.2)
    else some (nilN,⟨st.i,st.n,2⟩)
   else if 32<st.n+1 then some (nilN,⟨st.i,st.n+1,4⟩)
   else some (leafN t,⟨st.i+1,st.n+1,0⟩):=rfl
theorem nameOk_size {s:ByteArray} (h:nameOk s=true):s.size≤8:=by
 unfold nameOk at h
 simp only [Bool.and_eq_true,decide_eq_true_eq] at h
 exact h.1.1.2
def WordOk (t:Tok):Prop:=(t.k=1∨t.k=2∨t.k=3)∧(t.k=1→nameOk t.t=true)∧(t.k=2→in64 t.n∧0≤t.n)
inductive Whole:Nd→Prop
 | mk {op nm n ks} (h:arity op=ks.length) (hn:op=(⟨#[110,97,109,101]⟩:ByteArray)→nameOk nm=true) (hz:op=(⟨#[110,117,109]⟩:ByteArray)→0≤n) (hi:in64 n) (hk : ∀ k∈ks,Whole k) (hs:nm.size≤100):Whole (.mk op nm n ks)
structure GoodR (l:List Tok) (m:Nat) (st:St) (r:Nd×St):Prop where
 lo:st.i≤r.2.i
 hi:r.2.i≤l.length
 on:r.2.e=0→st.e=0∧st.i<r.2.i
 nn:st.n≤r.2.n∧r.2.n≤33
 ok:r.2.e=0→Whole r.1∧cnt r.1+st.n=r.2.n∧r.2.n≤32
 er:r.2.e=0∨r.2.e=2∨r.2.e=4
def GoodP (l:List Tok) (m:Nat) (part:St→Option (Nd×St)):Prop:=
 ∀ st:St,st.i≤l.length→l.length - st.i<m→st.n≤32∨st.e≠0→st.n≤33→(st.e=0∨st.e=2∨st.e=4) → ∃ r,part st=some r∧GoodR l m st r
theorem isT_lt {l:List Tok} {i:Nat} {sg:List ByteArray} (h:isT l i sg=true) : ∃ hi:i<l.length,l[i].k=3∧l[i].t∈sg∧opAt l i=l[i].t:=by
 unfold isT at h
 cases hq:l[i]? with
 | none=>rw [hq] at h;cases h
 | some t=>
  rw [hq] at h
  obtain ⟨hi,rfl⟩:=List.getElem?_eq_some_iff.1 hq
  simp only [Bool.and_eq_true,decide_eq_true_eq] at h
  obtain ⟨s,hs,e⟩:=List.any_eq_true.1 h.2
  exact ⟨hi,h.1,by rw [of_decide_eq_true e];exact hs,by simp [opAt,hi]⟩
theorem nz4 {p:Prop} (e:(4:Int)=0):p:=absurd e (by decide)
theorem nz2 {p:Prop} (e:(2:Int)=0):p:=absurd e (by decide)
theorem whole_slim (n:Nd) (h:Whole n):Slim 100 n:=by
 induction n using Nd.ind with
 | h op nm n ks ih=>
  obtain ⟨har,_,_,_,hk,hs⟩:=h
  refine .mk hs ?_ fun k hkm=>ih k hkm (hk k hkm)
  have:arity op≤2:=by unfold arity;repeat' split<;>omega
  omega
def SgOk (sg:List ByteArray):Prop := ∀ s∈sg,arity s=2∧s≠(⟨#[110,97,109,101]⟩:ByteArray)∧s≠(⟨#[110,117,109]⟩:ByteArray)
theorem mulS_ok:SgOk mulS:=by
 intro s hs
 simp only [mulS,List.mem_cons,List.not_mem_nil,or_false] at hs
 rcases hs with rfl | rfl | rfl<;>exact ⟨by decide,by decide,by decide⟩
theorem addS_ok:SgOk addS:=by
 intro s hs
 simp only [addS,List.mem_cons,List.not_mem_nil,or_false] at hs
 rcases hs with rfl | rfl<;>exact ⟨by decide,by decide,by decide⟩
theorem whole_two {op:ByteArray} {a b:Nd} (h:arity op=2∧op≠(⟨#[110,97,109,101]⟩:ByteArray)∧op≠(⟨#[110,117,109]⟩:ByteArray)) (ha:Whole a) (hb:Whole b):Whole (.mk op ⟨#[]⟩ 0 [a,b]):=by
 refine .mk h.1 (fun e=>absurd e h.2.1) (fun e=>absurd e h.2.2) ⟨by decide,by decide⟩ (fun k hk => ?_) (Nat.zero_le _)
 simp only [List.mem_cons,List.not_mem_nil,or_false] at hk
 rcases hk with rfl | rfl<;>assumption
theorem loop_good {l:List Tok} {m:Nat} {part:St→Option (Nd×St)} (hp:GoodP l m part) {sg:List ByteArray} (hsg:SgOk sg) {st0:St} (h0:l.length - st0.i<m) : ∀ (g:Nat) (out:Nd) (st:St),GoodR l m st0 (out,st)→l.length - st.i<g →
  ∃ r,loopF l part sg g out st=some r∧GoodR l m st0 r
 | 0,_,_,_,h=>by omega
 | g+1,out,st,hr,h=>by
  unfold loopF
  by_cases hc:st.e=0∧isT l st.i sg=true
  ·rw [if_pos hc]
   obtain ⟨hi,hk,hm,ho⟩:=isT_lt hc.2
   obtain ⟨hw,hn,hn2⟩:=hr.ok hc.1
   have hlo:=hr.lo
   have hnn:=hr.nn
   obtain ⟨he0,hlt⟩:=hr.on hc.1
   dsimp only at hlo hnn hw hn hn2 hlt
   by_cases hbig:32<st.n+1
   ·rw [if_pos hbig]
    exact ⟨_,rfl,⟨hlo,Nat.le_of_lt hi,nz4,⟨by dsimp only;omega,by dsimp only;omega⟩,nz4,.inr (.inr rfl)⟩⟩
   ·rw [if_neg hbig]
    obtain ⟨r1,e1,g1⟩:=hp ⟨st.i+1,st.n+1,0⟩ hi (by dsimp only;omega) (.inl (by dsimp only;omega)) (by dsimp only;omega) (.inl rfl)
    rw [e1,Option.bind_some]
    have hlo1:=g1.lo
    have hnn1:=g1.nn
    dsimp only at hlo1 hnn1
    refine loop_good hp hsg h0 g _ r1.2 ⟨by dsimp only;omega,g1.hi,fun e=>⟨he0,by dsimp only;omega⟩,⟨by dsimp only;omega,hnn1.2⟩,fun e => ?_,g1.er⟩ (by omega)
    obtain ⟨w1,c1,c2⟩:=g1.ok e
    refine ⟨whole_two (by rw [ho];exact hsg _ hm) hw w1,?_,c2⟩
    rw [cnt_mk]
    simp only [cnts,List.map_cons,List.map_nil,List.sum_cons,List.sum_nil] at c1 ⊢
    omega
  ·rw [if_neg hc]
   exact ⟨_,rfl,hr⟩
theorem fold_good {l:List Tok} {m:Nat} {part:St→Option (Nd×St)} (hp:GoodP l m part) {sg:List ByteArray} (hsg:SgOk sg) {g:Nat} (hg:m≤g):GoodP l m (foldF l part sg g):=by
 intro st h1 h2 h3 h4 h5
 obtain ⟨r,e,hr⟩:=hp st h1 h2 h3 h4 h5
 unfold foldF
 rw [e,Option.bind_some]
 exact loop_good hp hsg h2 g r.1 r.2 hr (by have:=hr.lo;omega)
theorem fac_good {l:List Tok} (hw : ∀ t∈l,WordOk t) : ∀ f,GoodP l f (facF l f)
 | 0=>by intro st h1 h2;omega
 | f+1=>by
  intro st h1 h2 h3 h4 h5
  rw [facF_succ]
  by_cases he:st.e≠0
  ·rw [if_pos he]
   exact ⟨_,rfl,⟨Nat.le_refl _,h1,fun e=>absurd e he,⟨Nat.le_refl _,h4⟩,fun e=>absurd e he,h5⟩⟩
  rw [if_neg he]
  have he0:st.e=0:=Decidable.not_not.1 he
  have hn:st.n≤32:=h3.resolve_right he
  cases hq:l[st.i]? with
  | none=>exact ⟨_,rfl,⟨Nat.le_refl _,h1,nz2,⟨Nat.le_refl _,h4⟩,nz2,.inr (.inl rfl)⟩⟩
  | some t=>
   obtain ⟨hi,rfl⟩:=List.getElem?_eq_some_iff.1 hq
   have hwt:=hw _ (List.getElem_mem hi)
   dsimp only
   by_cases hk:l[st.i].k=3
   ·rw [if_pos hk]
    by_cases ho:l[st.i].t=(⟨#[40]⟩:ByteArray)
    ·rw [if_pos ho]
     obtain ⟨r,e,hr⟩:=fold_good (fold_good (fac_good hw f) mulS_ok (Nat.le_refl f)) addS_ok (Nat.le_refl f) ⟨st.i+1,st.n,0⟩ hi (by dsimp only;omega) (.inl hn) h4 (.inl rfl)
     unfold sumF prdF
     rw [e,Option.map_some]
     refine ⟨_,rfl,?_⟩
     have hlo:=hr.lo
     have hnn:=hr.nn
     dsimp only at hlo hnn
     unfold closeF
     by_cases hre:r.2.e≠0
     ·rw [if_pos hre]
      exact ⟨by dsimp only;omega,hr.hi,fun e=>absurd e hre,hnn,fun e=>absurd e hre,hr.er⟩
     ·rw [if_neg hre]
      obtain ⟨w1,c1,c2⟩:=hr.ok (Decidable.not_not.1 hre)
      by_cases hx:isT l r.2.i endS=true
      ·rw [if_pos hx]
       obtain ⟨hi2,_⟩:=isT_lt hx
       exact ⟨by dsimp only;omega,hi2,fun _=>⟨he0,by dsimp only;omega⟩,hnn,fun _=>⟨w1,c1,c2⟩,.inl rfl⟩
      ·rw [if_neg hx]
       exact ⟨by dsimp only;omega,hr.hi,nz2,hnn,nz2,.inr (.inl rfl)⟩
    ·rw [if_neg ho]
     by_cases hm:l[st.i].t=(⟨#[45]⟩:ByteArray)
     ·rw [if_pos hm]
      by_cases hbig:32<st.n+1
      ·rw [if_pos hbig]
       exact ⟨_,rfl,⟨Nat.le_refl _,h1,nz4,⟨by dsimp only;omega,by dsimp only;omega⟩,nz4,.inr (.inr rfl)⟩⟩
      ·rw [if_neg hbig]
       obtain ⟨r,e,hr⟩:=fac_good hw f ⟨st.i+1,st.n+1,0⟩ hi (by dsimp only;omega) (.inl (by dsimp only;omega)) (by dsimp only;omega) (.inl rfl)
       rw [e,Option.map_some]
       have hlo:=hr.lo
       have hnn:=hr.nn
       dsimp only at hlo hnn
       refine ⟨_,rfl,⟨by dsimp only;omega,hr.hi,fun _=>⟨he0,by dsimp only;omega⟩,⟨by dsimp only;omega,hnn.2⟩,fun e => ?_,hr.er⟩⟩
       obtain ⟨w1,c1,c2⟩:=hr.ok e
       refine ⟨.mk rfl (fun e=>absurd e (by decide)) (fun e=>absurd e (by decide)) ⟨by decide,by decide⟩ (fun k hk => ?_) (Nat.zero_le _),?_,c2⟩
       ·rw [List.mem_singleton] at hk
        rw [hk];exact w1
       ·rw [cnt_mk]
        simp only [cnts,List.map_cons,List.map_nil,List.sum_cons,List.sum_nil] at c1 ⊢
        omega
     ·rw [if_neg hm]
      exact ⟨_,rfl,⟨Nat.le_refl _,h1,nz2,⟨Nat.le_refl _,h4⟩,nz2,.inr (.inl rfl)⟩⟩
   ·rw [if_neg hk]
    by_cases hbig:32<st.n+1
    ·rw [if_pos hbig]
     exact ⟨_,rfl,⟨Nat.le_refl _,h1,nz4,⟨by dsimp only;omega,by dsimp only;omega⟩,nz4,.inr (.inr rfl)⟩⟩
    ·rw [if_neg hbig]
     refine ⟨_,rfl,⟨by dsimp only;omega,hi,fun _=>⟨he0,by dsimp only;omega⟩,⟨by dsimp only;omega,by dsimp only;omega⟩,fun _ => ?_,.inl rfl⟩⟩
     unfold leafN
     by_cases h2':l[st.i].k=2
     ·rw [if_pos h2']
      refine ⟨.mk rfl (fun e=>absurd e (by decide)) (fun _=>(hwt.2.2 h2').2) (hwt.2.2 h2').1 (by simp) (Nat.zero_le _),?_,by dsimp only;omega⟩
      rw [cnt_mk]
      simp only [cnts,List.map_nil,List.sum_nil]
      omega
     ·rw [if_neg h2']
      have h1':l[st.i].k=1:=by rcases hwt.1 with h | h | h<;>first | exact h | exact absurd h h2' | exact absurd h hk
      refine ⟨.mk rfl (fun _=>hwt.2.1 h1') (fun e=>absurd e (by decide)) ⟨by decide,by decide⟩ (by simp) (Nat.le_trans (nameOk_size (hwt.2.1 h1')) (by decide)),?_,by dsimp only;omega⟩
      rw [cnt_mk]
      simp only [cnts,List.map_nil,List.sum_nil]
      omega
theorem sum_good {l:List Tok} (hw : ∀ t∈l,WordOk t) (f:Nat):GoodP l f (sumF l f):=fold_good (fold_good (fac_good hw f) mulS_ok (Nat.le_refl f)) addS_ok (Nat.le_refl f)
end Go.Proofs.DgT
namespace Go.Proofs.DgT
open Go Go.DM
set_option maxRecDepth 100000
structure Fam (M:List D→Mem) (o n:Nat):Prop where
 lt:o<n
 len : ∀ c,(M c).length=n
 get : ∀ c,objAt (M c) o=some c
 set : ∀ c c',(M c).set o (.obj c')=M c'
theorem Fam.app {M:List D→Mem} {o n:Nat} (h:Fam M o n) (E:Mem):Fam (fun c=>M c++E) o (n+E.length):=
 ⟨by have:=h.lt;omega,fun c=>by simp [h.len],fun c=>objAt_old (h.get c),fun c c'=>by
  show (M c++E).set o _=_
  rw [List.set_append_left _ _ (by rw [h.len];exact h.lt),h.set]⟩
theorem Fam.facts {M:List D→Mem} {o n:Nat} (h:Fam M o n) :
  (∀ c,(M c).length=n)∧(∀ c,objAt (M c) o=some c)∧(∀ c c',(M c).set o (.obj c')=M c')∧(∀ c E,objAt (M c++E) o=some c)∧(∀ c c' E,(M c++E).set o (.obj c')=M c'++E) ∧
  (∀ c E k,objAt (M c++E) (n+k)=objAt E k)∧(∀ c E,objAt (M c++E) n=objAt E 0)∧(∀ c E k x,(M c++E).set (n+k) x=M c++E.set k x)∧(∀ c E x,(M c++E).set n x=M c++E.set 0 x) ∧
  (∀ c (E:Mem) k,(M c++E)[n+k]?=E[k]?)∧(∀ c (E:Mem),(M c++E)[n]?=E[0]?):=by
 refine ⟨h.len,h.get,h.set,fun c E=>objAt_old (h.get c),fun c c' E => ?_,fun c E k => ?_,fun c E => ?_,fun c E k x => ?_,fun c E x => ?_,fun c E k => ?_,fun c E => ?_⟩
 ·rw [List.set_append_left _ _ (by rw [h.len];exact h.lt),h.set]
 ·rw [← h.len c];exact objAt_app
 ·rw [← h.len c];exact objAt_app0
 ·rw [← h.len c];exact set_app
 ·rw [← h.len c];exact set_app0
 ·rw [← h.len c];exact own_app
 ·rw [← h.len c];exact own_app0
theorem WzL_low {S1:Mem} {F:List Nat} {n m:Nat} {xs:List D} (hm:m≤n) (h:LowL m xs):WzL S1 F id n xs xs:=
 ⟨rfl,fun j h1 _=>.of_low (fun _ _=>rfl) hm (h.get j h1)⟩
theorem Wf.to_Wz {S1:Mem} {F:List Nat} {n:Nat} {d d':D} (h:Wf d d') (hl:DLow n d'):Wz S1 F id n d d':=fun r v hS hr=>
 Wz.of_low (fun _ _=>rfl) (Nat.le_refl n) hl r v hS (h r v hr)
theorem CallD.upd {P:Program} {orc:DOracle} {M:List D→Mem} {o n:Nat} (hF:Fam M o n) {f:FuncId} {args:List D} {c:List D} {R:List D→D→Prop}
  (h:CallD P orc f args (M c) fun d S1 => ∃ d' E c',S1=M c'++E∧LowL n c'∧Wf d d'∧DLow n d'∧R c' d'):CallD P orc f args (M c) fun d S' => ∃ c',S'=M c'∧R c' d:=by
 obtain ⟨d,S1,hb,d',E,c',rfl,hl,hw,hd,hr⟩:=h
 refine CallD.keep ⟨d,_,hb,[],id,M c',d',?_,fun _ _=>rfl,fun i j _ _ e=>e,fun o ho=>by (cases ho),fun i _ hi=>by (cases hi),fun i cells hi => ?_,fun i hi => ?_,Wf.to_Wz hw (by rw [hF.len];exact hd),c',rfl,hr⟩
 ·rw [hF.len,hF.len];exact Nat.le_refl _
 ·by_cases e:i=o
  ·subst e
   rw [hF.get] at hi
   cases hi
   exact .inr ⟨c',objAt_old (hF.get c'),WzL_low (m:=n) (by rw [hF.len];exact Nat.le_refl _) hl⟩
  ·have hlt:i<(M c').length:=objAt_lt hi
   have e2:objAt (M c) i=some cells:=by
    rw [← hF.set c c'] at hi
    unfold objAt at hi ⊢
    rwa [List.getElem?_set_ne (Ne.symm e)] at hi
   exact .inl ⟨by rw [hF.len];rw [hF.len] at hlt;exact hlt,e2,objAt_old hi⟩
 ·have hlt:=(List.getElem?_eq_some_iff.1 hi).1
  show (M c'++E)[i]?=_
  rw [List.getElem?_append_left hlt]
  exact hi
theorem CallD.updE {P:Program} {orc:DOracle} {M:List D→Mem} {o n:Nat} (hF:Fam M o n) {f:FuncId} {args:List D} {c c2:List D} {d2:D}
  (h:CallD P orc f args (M c) fun d S1 => ∃ E,S1=M c2++E∧LowL n c2∧Wf d d2∧DLow n d2):CallD P orc f args (M c) fun d S'=>S'=M c2∧d=d2:=
 (CallD.upd (R:=fun c' d=>c'=c2∧d=d2) hF (h.mono fun d S1 ⟨E,h1,h2,h3,h4⟩=>⟨d2,E,c2,h1,h2,h3,h4,rfl,rfl⟩)).mono fun d S' ⟨c',h1,h2,h3⟩=>⟨by rw [h1,h2],h3⟩
theorem CallD.ret2 {P:Program} {orc:DOracle} {f:FuncId} {args:List D} {S X:Mem} {Y:D} {Q:D→Mem→Prop} (h:CallD P orc f args S fun d S'=>S'=X∧d=Y) (hq:Q Y X):CallD P orc f args S Q:=h.mono (by rintro d S' ⟨rfl,rfl⟩;exact hq)
def pC (l:List Tok) (st:St):List D:=[.sl none 4 l.length (toksC l),.int .i64 (st.i:Int),.int .i64 (st.n:Int),.int .i64 st.e]
theorem pC_low {m:Nat} (l:List Tok) (st:St):LowL m (pC l st):=.cons (.sl' (toks_low l)) (.cons (.int _ _) (.cons (.int _ _) (.cons (.int _ _) .nil)))
theorem nil_wf:Wf (.agg [.str ⟨#[]⟩,.str ⟨#[]⟩,.int .i64 0,.nils]) (.agg nilN.c):=by
 rw [nilN,Nd.c_mk]
 exact .agg' (.cons .refl (.cons .refl (.cons .refl (.cons .nilE .nil))))
theorem nd_low {m:Nat} (n:Nd):DLow m (.agg n.c):=.agg' (Nd.low n)
theorem pFail {M:List D→Mem} {o n0:Nat} (hF:Fam M o n0) (l:List Tok) (st:St) (he:st.e=0) (e:Int) :
  CallD Tryz.prog O 234 [.ptr o 0,.int .i64 e] (M (pC l st)) fun d S'=>S'=M (pC l ⟨st.i,st.n,e⟩)∧d = .agg nilN.c:=by
 obtain ⟨m1,m2,m3,m4,m5,m6,m7,m8,m9,m10,m11⟩:=hF.facts
 have mm:=hF.facts
 refine CallD.updE hF ?_
 obtain ⟨i,n,e0⟩:=st
 obtain rfl:e0=0:=he
 simp only [pC]
 refine CallD.eb Tryz.func234 rfl Tryz.ntmps234 (by rfl) ?_
 repeat' (first|refine Go.a rfl ?_|refine Go.rg ?_|refine GoR.nil ?_|refine Go.ret ?_|refine Go.b rfl ?_|(refine GoR.o (by rfl) (by rfl) ?_;(conv=>arg 1;simp only [G,Z,Y,Gx,vV,simprocAttr,fb2,fb3,fb9,fb23,fb25,fb29,fb71,fb220,mm]);show GoR ..)|refine Go.condB rfl (fun hc => ?_) (fun hc => ?_))
 refine ⟨(by first | exact .inl rfl | exact .inr rfl),fin ?_⟩
 rw [resD_cell (fn:=Tryz.f234) rfl]
 simp only [optThen_some,resultD_tmp,resultD_cell,G,Z,Y,Gx,vV,simprocAttr,fb2,fb3,fb9,fb23,fb25,fb29,fb71,fb220,mm]
 exact ⟨_,rfl,pC_low l ⟨i,n,e⟩,nil_wf,nd_low _⟩
theorem isT_at {l:List Tok} {i:Nat} (h:i<l.length) {sg:List ByteArray} : isT l i sg=(decide (l[i].k=3)&&Lib.containsS sg l[i].t):=by
 unfold isT
 rw [List.getElem?_eq_getElem h]
 dsimp only
 congr 1
 rw [Bool.eq_iff_iff,Lib.containsS_iff,List.any_eq_true]
 exact ⟨fun ⟨s,hs,e⟩=>by rw [of_decide_eq_true e];exact hs,fun hm=>⟨_,hm,decide_eq_true rfl⟩⟩
theorem isT_no {l:List Tok} {i:Nat} (h:l.length≤i) {sg:List ByteArray} : isT l i sg=false:=by
 unfold isT
 rw [List.getElem?_eq_none h]
theorem pIs {M:List D→Mem} {o n0:Nat} (hF:Fam M o n0) (l:List Tok) (st:St) (own:Option Nat) (sg:List ByteArray) (hs:sg.length<1000000) :
  CallD Tryz.prog O 215 [.ptr o 0,.sl own 1 sg.length (sg.map .str)] (M (pC l st)) fun d S'=>S'=M (pC l st)∧d = .bool (isT l st.i sg):=by
 obtain ⟨m1,m2,m3,m4,m5,m6,m7,m8,m9,m10,m11⟩:=hF.facts
 have mm:=hF.facts
 refine CallD.updE hF ?_
 obtain ⟨i,n,e⟩:=st
 simp only [pC]
 refine CallD.eb Tryz.func215 rfl Tryz.ntmps215 (by rfl) ?_
 by_cases hi:i<l.length
 ·rw [isT_at hi]
  by_cases hk:l[i].k=3
  ·rw [decide_eq_true hk,Bool.true_and]
   repeat' (first|refine Go.a rfl ?_|refine Go.rg ?_|refine GoR.nil ?_|refine Go.ret ?_|refine Go.b rfl ?_|refine Go.rgS dmx (by decide) ?_|(refine GoR.o (by rfl) (by rfl) ?_;(conv=>arg 1;simp only [G,Z,Y,Gx,vV,simprocAttr,fb2,fb3,fb9,fb29,fb71,fb77,fb220,m1,m2,m4,toksAt hi,Tok.c,hk,show decide ((i:Int)<(l.length:Int))=true by simp;omega]);show GoR ..)|(refine GoR.c c154 (by rfl) (by rfl) rfl ?_;(refine (containsL own sg _ hs _).ret ?_))|refine GoR.s (by rfl) rfl rfl ?_|(refine GoR.splitG rfl (fun hc => ?_) (fun hc => ?_)<;>simp only [hc])|refine Go.condB rfl (fun hc => ?_) (fun hc => ?_))
   refine ⟨(by first | exact .inl rfl | exact .inr rfl),fin ?_⟩
   rw [resD_tmp (fn:=Tryz.f215) rfl]
   simp only [optThen_some,resultD_tmp,resultD_cell,G,Z,Y,Gx,vV,simprocAttr,fb2,fb3,fb9,fb29,fb71,fb77,fb220]
   exact ⟨[],by simp,pC_low l ⟨i,n,e⟩,.refl,.bool _⟩
  ·rw [decide_eq_false hk,Bool.false_and]
   repeat' (first|refine Go.a rfl ?_|refine Go.rg ?_|refine GoR.nil ?_|refine Go.ret ?_|refine Go.b rfl ?_|refine Go.rgS dmx (by decide) ?_|(refine GoR.o (by rfl) (by rfl) ?_;(conv=>arg 1;simp only [G,Z,Y,Gx,vV,simprocAttr,fb2,fb3,fb9,fb29,fb71,fb77,fb220,m1,m2,m4,toksAt hi,Tok.c,hk,show (l[i].k==3)=false by simp [hk],show decide ((i:Int)<(l.length:Int))=true by simp;omega]);show GoR ..)|(refine GoR.c c154 (by rfl) (by rfl) rfl ?_;(refine (containsL own sg _ hs _).ret ?_))|refine GoR.s (by rfl) rfl rfl ?_|(refine GoR.splitG rfl (fun hc => ?_) (fun hc => ?_)<;>simp only [hc])|refine Go.condB rfl (fun hc => ?_) (fun hc => ?_))
   refine ⟨(by first | exact .inl rfl | exact .inr rfl),fin ?_⟩
   rw [resD_tmp (fn:=Tryz.f215) rfl]
   simp only [optThen_some,resultD_tmp,resultD_cell,G,Z,Y,Gx,vV,simprocAttr,fb2,fb3,fb9,fb29,fb71,fb77,fb220]
   exact ⟨[],by simp,pC_low l ⟨i,n,e⟩,.refl,.bool _⟩
 ·rw [isT_no (by omega)]
  repeat' (first|refine Go.a rfl ?_|refine Go.rg ?_|refine GoR.nil ?_|refine Go.ret ?_|refine Go.b rfl ?_|refine Go.rgS dmx (by decide) ?_|(refine GoR.o (by rfl) (by rfl) ?_;(conv=>arg 1;simp only [G,Z,Y,Gx,vV,simprocAttr,fb2,fb3,fb9,fb29,fb71,fb77,fb220,m1,m2,m4,show decide ((i:Int)<(l.length:Int))=false by simp;omega]);show GoR ..)|(refine GoR.c c154 (by rfl) (by rfl) rfl ?_;(refine (containsL own sg _ hs _).ret ?_))|refine GoR.s (by rfl) rfl rfl ?_|(refine GoR.splitG rfl (fun hc => ?_) (fun hc => ?_)<;>simp only [hc])|refine Go.condB rfl (fun hc => ?_) (fun hc => ?_))
  refine ⟨(by first | exact .inl rfl | exact .inr rfl),fin ?_⟩
  rw [resD_tmp (fn:=Tryz.f215) rfl]
  simp only [optThen_some,resultD_tmp,resultD_cell,G,Z,Y,Gx,vV,simprocAttr,fb2,fb3,fb9,fb29,fb71,fb77,fb220]
  exact ⟨[],by simp,pC_low l ⟨i,n,e⟩,.refl,.bool _⟩
def madeS (st:St):St:=if 32<st.n+1 then ⟨st.i,st.n+1,4⟩ else ⟨st.i+1,st.n+1,0⟩
theorem pMade {M:List D→Mem} {o n0:Nat} (hF:Fam M o n0) (l:List Tok) (st:St) (he:st.e=0) (hi:st.i<1000000) (hn:st.n≤100) :
  CallD Tryz.prog O 216 [.ptr o 0] (M (pC l st)) fun d S'=>S'=M (pC l (madeS st))∧d = .bool (!decide (32<st.n+1)):=by
 obtain ⟨m1,m2,m3,m4,m5,m6,m7,m8,m9,m10,m11⟩:=hF.facts
 have mm:=hF.facts
 refine CallD.updE hF ?_
 obtain ⟨i,n,e0⟩:=st
 obtain rfl:e0=0:=he
 dsimp only at hi hn
 simp only [pC]
 refine CallD.eb Tryz.func216 rfl Tryz.ntmps216 (by rfl) ?_
 by_cases hb:32<n+1
 ·have hf:=pFail hF l ⟨i,n+1,0⟩ rfl 4
  simp only [pC] at hf
  repeat' (first|refine Go.a rfl ?_|refine Go.rg ?_|refine GoR.nil ?_|refine Go.ret ?_|refine Go.b rfl ?_|(refine GoR.o (by rfl) (by rfl) ?_;(conv=>arg 1;simp only [G,Z,Y,Gx,vV,simprocAttr,fb3,fb29,fb71,fb220,m1,m2,m3,m4,m5,wrap_succ (show n<4611686018427387904 by omega),show decide (((n+1:Nat):Int)>32)=true by simp;omega,show decide ((32:Int)<((n+1:Nat):Int))=true by simp;omega]);show GoR ..)|(refine GoR.c c234 (by rfl) (by rfl) rfl ?_;(refine CallD.ret2 hf ?_))|refine Go.condB rfl (fun hc => ?_) (fun hc => ?_))
  refine ⟨(by first | exact .inl rfl | exact .inr rfl),fin ?_⟩
  rw [resD_tmp (fn:=Tryz.f216) rfl]
  simp only [optThen_some,resultD_tmp,resultD_cell,G,Z,Y,Gx,vV,simprocAttr,fb3,fb29,fb71,fb220]
  have e:madeS ⟨i,n,0⟩=⟨i,n+1,4⟩:=by unfold madeS;rw [if_pos hb]
  refine ⟨[],?_,pC_low l _,?_,.bool _⟩
  ·rw [e,List.append_nil]
  ·rw [decide_eq_true hb];exact .refl
 ·repeat' (first|refine Go.a rfl ?_|refine Go.rg ?_|refine GoR.nil ?_|refine Go.ret ?_|refine Go.b rfl ?_|(refine GoR.o (by rfl) (by rfl) ?_;(conv=>arg 1;simp only [G,Z,Y,Gx,vV,simprocAttr,fb3,fb29,fb71,fb220,m1,m2,m3,m4,m5,wrap_succ (show n<4611686018427387904 by omega),wrap_succ (show i<4611686018427387904 by omega),show decide (((n+1:Nat):Int)>32)=false by simp;omega,show decide ((32:Int)<((n+1:Nat):Int))=false by simp;omega]);show GoR ..)|refine Go.condB rfl (fun hc => ?_) (fun hc => ?_))
  refine ⟨(by first | exact .inl rfl | exact .inr rfl),fin ?_⟩
  rw [resD_tmp (fn:=Tryz.f216) rfl]
  simp only [optThen_some,resultD_tmp,resultD_cell,G,Z,Y,Gx,vV,simprocAttr,fb3,fb29,fb71,fb220]
  have e:madeS ⟨i,n,0⟩=⟨i+1,n+1,0⟩:=by unfold madeS;rw [if_neg hb]
  refine ⟨[],?_,pC_low l _,?_,.bool _⟩
  ·rw [e,List.append_nil]
  ·rw [decide_eq_false hb];exact .refl
end Go.Proofs.DgT
namespace Go.Proofs.DgT
open Go Go.DM
set_option maxRecDepth 100000
def Bs (l:List Tok) (st:St):Prop:=st.i≤l.length∧st.n≤33∧(st.e=0→st.n≤32)
def PartW (l:List Tok) (o:Nat) (g:FuncId) (part:St→Option (Nd×St)):Prop:=
 ∀ (M:List D→Mem) (n0:Nat),Fam M o n0 → ∀ st r,Bs l st→part st=some r→Bs l r.2∧CallD Tryz.prog O g [.ptr o 0] (M (pC l st)) fun d S'=>S'=M (pC l r.2)∧d = .agg r.1.c
structure KidY (y:D) (ks:List Nd):Prop where
 wf:Wf y (.sl none 4 ks.length (ndsC ks))
 one:D.one y=true
 cells:cellsD y=some [y]
def ndX (n:Nd) (y:D):List D:=[.str n.op,.str n.name,.int .i64 n.n,y]
theorem ndX_wf {n:Nd} {y:D} (h:KidY y n.kids):WfL (ndX n y) n.c:=by
 obtain ⟨op,nm,k,ks⟩:=n
 rw [Nd.c_mk]
 exact .cons .refl (.cons .refl (.cons .refl (.cons h.wf .nil)))
theorem kidY_of (n:Nd) : ∃ y,n.c=ndX n y∧KidY y n.kids:=by
 obtain ⟨op,nm,k,ks⟩:=n
 exact ⟨_,Nd.c_mk,.refl,rfl,rfl⟩
theorem kidY_two {a b:Nd} {y:D} (h:KidY y a.kids) {id:Option Nat} : KidY (.sl id 4 2 (ndX a y++b.c)) [a,b]:=by
 refine ⟨?_,rfl,rfl⟩
 have e:ndsC [a,b]=a.c++b.c:=by simp [ndsC]
 rw [e]
 exact .sl' (.append (ndX_wf h) .refl)
theorem repD2 {a b c d:D} : repD [a,b,c,d] 2=[a,b,c,d,a,b,c,d]:=rfl
theorem wrA {z1 z2 z3 z4 z5 z6 z7 z8 a b c d:D} : wr [z1,z2,z3,z4,z5,z6,z7,z8] 0 [a,b,c,d]=[a,b,c,d,z5,z6,z7,z8]:=rfl
theorem wrB {z1 z2 z3 z4 z5 z6 z7 z8 a b c d:D} : wr [z1,z2,z3,z4,z5,z6,z7,z8] 4 [a,b,c,d]=[z1,z2,z3,z4,a,b,c,d]:=rfl
theorem PartW.at {l:List Tok} {o:Nat} {g:FuncId} {part:St→Option (Nd×St)} (hp:PartW l o g part) {M:List D→Mem} {n0:Nat} (hF:Fam M o n0) (E:Mem) {st:St} {r:Nd×St} (hb:Bs l st) (hr:part st=some r) :
  Bs l r.2∧CallD Tryz.prog O g [.ptr o 0] (M (pC l st)++E) fun d S'=>S'=M (pC l r.2)++E∧d = .agg r.1.c:=hp (fun c=>M c++E) _ (hF.app E) st r hb hr
theorem pIsE {M:List D→Mem} {o n0:Nat} (hF:Fam M o n0) (E:Mem) (l:List Tok) (st:St) (own:Option Nat) (sg:List ByteArray) (hs:sg.length<1000000) :
  CallD Tryz.prog O 215 [.ptr o 0,.sl own 1 sg.length (sg.map .str)] (M (pC l st)++E) fun d S'=>S'=M (pC l st)++E∧d = .bool (isT l st.i sg):=pIs (hF.app E) l st own sg hs
theorem pMadeE {M:List D→Mem} {o n0:Nat} (hF:Fam M o n0) (E:Mem) (l:List Tok) (st:St) (he:st.e=0) (hi:st.i<1000000) (hn:st.n≤100) :
  CallD Tryz.prog O 216 [.ptr o 0] (M (pC l st)++E) fun d S'=>S'=M (pC l (madeS st))++E∧d = .bool (!decide (32<st.n+1)):=pMade (hF.app E) l st he hi hn
theorem pFailE {M:List D→Mem} {o n0:Nat} (hF:Fam M o n0) (E:Mem) (l:List Tok) (st:St) (he:st.e=0) (e:Int) :
  CallD Tryz.prog O 234 [.ptr o 0,.int .i64 e] (M (pC l st)++E) fun d S'=>S'=M (pC l ⟨st.i,st.n,e⟩)++E∧d = .agg nilN.c:=pFail (hF.app E) l st he e
theorem pC_at {l:List Tok} {i n:Nat} {e:Int} : (pC l ⟨i,n,e⟩)[0]?=some (.sl none 4 l.length (toksC l))∧(pC l ⟨i,n,e⟩)[1]?=some (.int .i64 (i:Int))∧(pC l ⟨i,n,e⟩)[2]?=some (.int .i64 (n:Int))∧(pC l ⟨i,n,e⟩)[3]?=some (.int .i64 e)∧(pC l ⟨i,n,e⟩).length=4:=⟨rfl,rfl,rfl,rfl,rfl⟩
theorem pC_wr {l:List Tok} {i n:Nat} {e:Int} {j:Nat} : wr (pC l ⟨i,n,e⟩) 1 [.int .i64 (j:Int)]=pC l ⟨j,n,e⟩:=rfl
theorem foldW {l : List Tok} (hl : l.length < 100000) {o : Nat} {g : FuncId} {fn : Func} (hgf : Tryz.prog.funcs[g]? = some fn) (hgn : (fn.name == "runtime.NumGoroutine") = false) (hgb : fn.body.isNone = false) {part : St → Option (Nd × St)} (hp : PartW l o g part) (sg : List ByteArray) (hs : sg.length < 1000000) (own : Option Nat) (fu : Nat)
  {M:List D→Mem} {n0:Nat} (hF:Fam M o n0) (st:St) (r:Nd×St) (hb:Bs l st) (hr:foldF l part sg fu st=some r) :
  Bs l r.2∧CallD Tryz.prog O 192 [.ptr o 0,.fn (.func g) [.ptr o 0] [],.sl own 1 sg.length (sg.map .str)] (M (pC l st)) fun d S'=>S'=M (pC l r.2)∧d = .agg r.1.c:=by
 obtain ⟨m1,m2,m3,m4,m5,m6,m7,m8,m9,m10,m11⟩:=hF.facts
 have mm:=hF.facts
 unfold foldF at hr
 cases hr1:part st with
 | none=>rw [hr1] at hr;cases hr
 | some r1=>
 rw [hr1,Option.bind_some] at hr
 obtain ⟨hb1,_⟩:=hp.at hF [] hb hr1
 have hp1:=fun E=>(hp.at hF E hb hr1).2
 obtain ⟨⟨op1,nm1,k1,ks1⟩,st1⟩:=r1
 obtain ⟨y1,hy1,hk1⟩:=kidY_of (.mk op1 nm1 k1 ks1)
 simp only [hy1,ndX,Nd.op,Nd.name,Nd.n] at hp1
 have ho1:=hk1.one
 have hc1:=hk1.cells
 suffices key : ∀ (fu:Nat) (nd:Nd) (st':St),Bs l st'→loopF l part sg fu nd st'=some r→Bs l r.2 by
  refine ⟨key fu _ _ hb1 hr,?_⟩
  refine CallD.updE hF ?_
  refine CallD.eb Tryz.func192 rfl Tryz.ntmps192 (by rfl) ?_
  repeat' (first|refine Go.a rfl ?_|refine Go.rg ?_|refine GoR.nil ?_|refine Go.ret ?_|refine Go.b rfl ?_|refine Go.rgS dmx (by decide) ?_|refine Go.rgD [1] (fun _=>True) dmx (by decide) 4 (by decide) (by trivial) ?_|refine GoW.nil rfl ?_|((first|refine GoR.o (by rfl) (by rfl) ?_|refine GoW.o (by rfl) (by rfl) ?_|refine GoW.rd (by rfl) (by rfl) ?_);(conv=>arg 1;simp only [G,Z,Y,Gx,vV,simprocAttr,fb2,fb3,fb9,fb23,fb25,fb29,fb71,fb77,fb220,mm,ho1,hc1]);first|show GoR ..|(show _∧GoW ..;refine ⟨by exact fun _=>trivial,?_⟩)|(show _∧_∧_∧GoW ..;refine ⟨rfl,by trivial,(fun H _=>by simp only [G,Z,Y,Gx,vV,simprocAttr,fb2,fb3,fb9,fb23,fb25,fb29,fb71,fb77,fb220,mm,ho1,hc1]),?_⟩))|(refine GoR.call (f:=g) (by decide) (by rfl) rfl hgf hgn hgb ?_;refine CallD.ret2 (hp1 _) ?_)|refine GoR.s (by rfl) rfl rfl ?_|refine GoW.s (by rfl) rfl rfl (by exact fun _=>trivial) ?_|(refine GoR.splitG rfl (fun hc => ?_) (fun hc => ?_)<;>simp only [hc])|refine Go.condB rfl (fun hc => ?_) (fun hc => ?_))
  refine Go.keep [(0,.ptr o 0),(1,.fn (.func g) [.ptr o 0] []),(2,.sl own 1 sg.length (sg.map .str)),(6,.ptr n0 0),(7,.ptr (n0+1) 0)] (.cons .refl (.cons .refl (.cons .refl (.cons .refl (.cons .refl (.nil)))))) ?_
  refine Go.while (α:=Nat×Nd×D×St×Mem) (fun a=>a.1) (fun _=>[(0,.ptr o 0),(1,.fn (.func g) [.ptr o 0] []),(2,.sl own 1 sg.length (sg.map .str)),(6,.ptr n0 0),(7,.ptr (n0+1) 0)])
   (fun a=>M (pC l a.2.2.2.1)++(.obj [.str ⟨#[]⟩,.str ⟨#[]⟩,.int .i64 0,.nils] :: .obj [.str a.2.1.op,.str a.2.1.name,.int .i64 a.2.1.n,a.2.2.1]::a.2.2.2.2))
   (fun a=>Bs l a.2.2.2.1∧KidY a.2.2.1 a.2.1.kids∧loopF l part sg a.1 a.2.1 a.2.2.2.1=some r) ?_ (fu,.mk op1 nm1 k1 ks1,y1,st1,[]) ⟨hb1,hk1,hr⟩
  clear hr hb1 hk1 ho1 hc1 hp1 hy1 hr1 hb
  rintro ⟨fu,⟨op,nm,k,ks⟩,y,⟨i,n,e⟩,E⟩ ⟨hb,hky,hr⟩ next
  simp only [Nd.op,Nd.name,Nd.n,Nd.kids] at hky hr next ⊢
  have hoy:=hky.one
  have hcy:=hky.cells
  have hq:=fun E=>pIsE hF E l ⟨i,n,e⟩ own sg hs
  cases fu with
  | zero=>simp [loopF] at hr
  | succ fu=>
  unfold loopF at hr
  by_cases hc:e=0∧isT l i sg=true
  ·rw [if_pos hc] at hr
   obtain ⟨rfl,hc⟩:=hc
   obtain ⟨hi,hk3,hm,hop⟩:=isT_lt hc
   have hm:=fun E=>pMadeE hF E l ⟨i,n,0⟩ rfl (by dsimp only;omega) (by have:=hb.2.1;dsimp only at this ⊢;omega)
   by_cases hbig:32<n+1
   ·rw [if_pos hbig] at hr
    cases hr
    have hms:madeS ⟨i,n,0⟩=⟨i,n+1,4⟩:=by unfold madeS;rw [if_pos hbig]
    rw [hms] at hm
    repeat' (first|refine Go.a rfl ?_|refine Go.rg ?_|refine GoR.nil ?_|refine Go.ret ?_|refine Go.b rfl ?_|refine Go.rgS dmx (by decide) ?_|refine Go.rgD [1] (fun _=>True) dmx (by decide) 4 (by decide) (by trivial) ?_|refine GoW.nil rfl ?_|((first|refine GoR.o (by rfl) (by rfl) ?_|refine GoW.o (by rfl) (by rfl) ?_|refine GoW.rd (by rfl) (by rfl) ?_);(conv=>arg 1;simp only [G,Z,Y,Gx,vV,simprocAttr,fb2,fb3,fb9,fb23,fb25,fb29,fb71,fb77,fb220,mm,hoy,hcy,pC_at,hc,toksAt hi,Tok.c,hbig,Bool.not_true]);first|show GoR ..|(show _∧GoW ..;refine ⟨by exact fun _=>trivial,?_⟩)|(show _∧_∧_∧GoW ..;refine ⟨rfl,by trivial,(fun H _=>by simp only [G,Z,Y,Gx,vV,simprocAttr,fb2,fb3,fb9,fb23,fb25,fb29,fb71,fb77,fb220,mm,hoy,hcy,pC_at,hc,toksAt hi,Tok.c,hbig,Bool.not_true]),?_⟩))|(refine GoW.c c215 (by rfl) (by rfl) rfl ?_;(refine CallD.ret2 (hq _) ?_);refine ⟨by exact fun _=>trivial,?_⟩)|(refine GoR.c c215 (by rfl) (by rfl) rfl ?_;(refine CallD.ret2 (hq _) ?_))|(refine GoW.c c216 (by rfl) (by rfl) rfl ?_;(refine CallD.ret2 (hm _) ?_);refine ⟨by exact fun _=>trivial,?_⟩)|(refine GoR.c c216 (by rfl) (by rfl) rfl ?_;(refine CallD.ret2 (hm _) ?_))|refine GoR.s (by rfl) rfl rfl ?_|refine GoW.s (by rfl) rfl rfl (by exact fun _=>trivial) ?_|(refine GoR.splitG rfl (fun hc => ?_) (fun hc => ?_)<;>simp only [hc])|refine Go.condB rfl (fun hc => ?_) (fun hc => ?_))
    clear next
    refine ⟨(by first | exact .inl rfl | exact .inr rfl),fin ?_⟩
    rw [resD_cell (fn:=Tryz.f192) rfl]
    simp only [optThen_some,resultD_tmp,resultD_cell,G,Z,Y,Gx,vV,simprocAttr,fb2,fb3,fb9,fb23,fb25,fb29,fb71,fb77,fb220,mm,hoy,hcy]
    exact ⟨_,rfl,pC_low l _,nil_wf,nd_low _⟩
   ·rw [if_neg hbig] at hr
    have hms:madeS ⟨i,n,0⟩=⟨i+1,n+1,0⟩:=by unfold madeS;rw [if_neg hbig]
    rw [hms] at hm
    cases hr1:part ⟨i+1,n+1,0⟩ with
    | none=>rw [hr1] at hr;cases hr
    | some r1=>
    rw [hr1,Option.bind_some,hop] at hr
    have hbs:Bs l ⟨i+1,n+1,0⟩:=⟨by dsimp only;omega,by dsimp only;omega,fun _=>by dsimp only;omega⟩
    obtain ⟨hb1,_⟩:=hp.at hF [] hbs hr1
    have hp1:=fun E=>(hp.at hF E hbs hr1).2
    obtain ⟨⟨op1,nm1,k1,ks1⟩,st1⟩:=r1
    obtain ⟨y1,hy1,hk1⟩:=kidY_of (.mk op1 nm1 k1 ks1)
    have hyy:=fun id=>kidY_two (a:=.mk op nm k ks) (b:=.mk op1 nm1 k1 ks1) (y:=y) hky (id:=id)
    simp only [hy1,ndX,Nd.op,Nd.name,Nd.n] at hp1 hyy
    have ho1:=hk1.one
    have hc1:=hk1.cells
    repeat' (first|refine Go.a rfl ?_|refine Go.rg ?_|refine GoR.nil ?_|refine Go.ret ?_|refine Go.b rfl ?_|refine Go.rgS dmx (by decide) ?_|refine Go.rgD [1] (fun H=>objAt H (n0+1)=some [.str op,.str nm,.int .i64 k,y]) dmx (by decide) 4 (by decide) (by (simp only [mm,objAt_succ,objAt_zero])) ?_|refine GoW.nil rfl ?_|((first|refine GoR.o (by rfl) (by rfl) ?_|refine GoW.o (by rfl) (by rfl) ?_|refine GoW.rd (by rfl) (by rfl) ?_);(conv=>arg 1;simp only [G,Z,Y,Gx,vV,simprocAttr,fb2,fb3,fb9,fb23,fb25,fb29,fb71,fb77,fb220,mm,hoy,hcy,ho1,hc1,pC_at,hc,toksAt hi,Tok.c,hbig,Bool.not_false,repD2,wrA,wrB]);first|show GoR ..|(show _∧GoW ..;refine ⟨by (first|exact fun h=>absurd h (by decide)|(intro _;(simp only [mm,objAt_succ,objAt_zero]))),?_⟩)|(show _∧_∧_∧GoW ..;refine ⟨rfl,by (simp only [mm,objAt_succ,objAt_zero]),(fun H hI=>by (try dsimp only at hI);simp only [G,Z,Y,Gx,vV,simprocAttr,fb2,fb3,fb9,fb23,fb25,fb29,fb71,fb77,fb220,mm,hoy,hcy,ho1,hc1,pC_at,hc,toksAt hi,Tok.c,hbig,Bool.not_false,repD2,wrA,wrB,hI]),?_⟩))|(refine GoW.c c215 (by rfl) (by rfl) rfl ?_;(refine CallD.ret2 (hq _) ?_);refine ⟨by (first|exact fun h=>absurd h (by decide)|(intro _;(simp only [mm,objAt_succ,objAt_zero]))),?_⟩)|(refine GoR.c c215 (by rfl) (by rfl) rfl ?_;(refine CallD.ret2 (hq _) ?_))|(refine GoW.c c216 (by rfl) (by rfl) rfl ?_;(refine CallD.ret2 (hm _) ?_);refine ⟨by (first|exact fun h=>absurd h (by decide)|(intro _;(simp only [mm,objAt_succ,objAt_zero]))),?_⟩)|(refine GoR.c c216 (by rfl) (by rfl) rfl ?_;(refine CallD.ret2 (hm _) ?_))|(refine GoW.call (f:=g) (by decide) (by rfl) rfl hgf hgn hgb rfl ?_;refine CallD.ret2 (hp1 _) ?_;refine ⟨by (first | exact fun h=>absurd h (by decide) | (intro _;simp only [mm,objAt_succ,objAt_zero])),?_⟩)|refine GoR.s (by rfl) rfl rfl ?_|refine GoW.s (by rfl) rfl rfl (by (first|exact fun h=>absurd h (by decide)|(intro _;(simp only [mm,objAt_succ,objAt_zero])))) ?_|(refine GoR.splitG rfl (fun hc => ?_) (fun hc => ?_)<;>simp only [hc])|refine Go.condB rfl (fun hc => ?_) (fun hc => ?_))
    refine Go.lpN ?_
    refine Go.keep [(0,.ptr o 0),(1,.fn (.func g) [.ptr o 0] []),(2,.sl own 1 sg.length (sg.map .str)),(6,.ptr n0 0),(7,.ptr (n0+1) 0)] (.cons .refl (.cons .refl (.cons .refl (.cons .refl (.cons .refl (.nil)))))) ?_
    refine next (fu,.mk l[i].t ⟨#[]⟩ 0 [.mk op nm k ks,.mk op1 nm1 k1 ks1],_,st1,_) (Nat.lt_succ_self _) ⟨hb1,hyy _,hr⟩
  ·rw [if_neg hc] at hr
   cases hr
   clear next
   have hc0:(e==0&&isT l i sg)=false:=by
    rw [Bool.eq_false_iff]
    intro h
    simp only [Bool.and_eq_true,beq_iff_eq] at h
    exact hc h
   by_cases he:e=0
   ·subst he
    have hc1:isT l i sg=false:=by simpa using hc0
    repeat' (first|refine Go.a rfl ?_|refine Go.rg ?_|refine GoR.nil ?_|refine Go.ret ?_|refine Go.b rfl ?_|refine Go.rgS dmx (by decide) ?_|refine Go.rgD [1] (fun _=>True) dmx (by decide) 4 (by decide) (by trivial) ?_|refine GoW.nil rfl ?_|((first|refine GoR.o (by rfl) (by rfl) ?_|refine GoW.o (by rfl) (by rfl) ?_|refine GoW.rd (by rfl) (by rfl) ?_);(conv=>arg 1;simp only [G,Z,Y,Gx,vV,simprocAttr,fb2,fb3,fb9,fb23,fb25,fb29,fb71,fb77,fb220,mm,hoy,hcy,pC_at,hc1]);first|show GoR ..|(show _∧GoW ..;refine ⟨by exact fun _=>trivial,?_⟩)|(show _∧_∧_∧GoW ..;refine ⟨rfl,by trivial,(fun H _=>by simp only [G,Z,Y,Gx,vV,simprocAttr,fb2,fb3,fb9,fb23,fb25,fb29,fb71,fb77,fb220,mm,hoy,hcy,pC_at,hc1]),?_⟩))|(refine GoW.c c215 (by rfl) (by rfl) rfl ?_;(refine CallD.ret2 (hq _) ?_);refine ⟨by exact fun _=>trivial,?_⟩)|(refine GoR.c c215 (by rfl) (by rfl) rfl ?_;(refine CallD.ret2 (hq _) ?_))|refine GoR.s (by rfl) rfl rfl ?_|refine GoW.s (by rfl) rfl rfl (by exact fun _=>trivial) ?_|(refine GoR.splitG rfl (fun hc => ?_) (fun hc => ?_)<;>simp only [hc])|refine Go.condB rfl (fun hc => ?_) (fun hc => ?_))
    refine ⟨(by first | exact .inl rfl | exact .inr rfl),fin ?_⟩
    rw [resD_cell (fn:=Tryz.f192) rfl]
    simp only [optThen_some,resultD_tmp,resultD_cell,G,Z,Y,Gx,vV,simprocAttr,fb2,fb3,fb9,fb23,fb25,fb29,fb71,fb77,fb220,mm,hoy,hcy]
    exact ⟨_,rfl,pC_low l _,.agg' (ndX_wf (n:=.mk op nm k ks) hky),nd_low _⟩
   ·repeat' (first|refine Go.a rfl ?_|refine Go.rg ?_|refine GoR.nil ?_|refine Go.ret ?_|refine Go.b rfl ?_|refine Go.rgS dmx (by decide) ?_|refine Go.rgD [1] (fun _=>True) dmx (by decide) 4 (by decide) (by trivial) ?_|refine GoW.nil rfl ?_|((first|refine GoR.o (by rfl) (by rfl) ?_|refine GoW.o (by rfl) (by rfl) ?_|refine GoW.rd (by rfl) (by rfl) ?_);(conv=>arg 1;simp only [G,Z,Y,Gx,vV,simprocAttr,fb2,fb3,fb9,fb23,fb25,fb29,fb71,fb77,fb220,mm,hoy,hcy,pC_at,show (e==0)=false by simp [he]]);first|show GoR ..|(show _∧GoW ..;refine ⟨by exact fun _=>trivial,?_⟩)|(show _∧_∧_∧GoW ..;refine ⟨rfl,by trivial,(fun H _=>by simp only [G,Z,Y,Gx,vV,simprocAttr,fb2,fb3,fb9,fb23,fb25,fb29,fb71,fb77,fb220,mm,hoy,hcy,pC_at,show (e==0)=false by simp [he]]),?_⟩))|(refine GoW.c c215 (by rfl) (by rfl) rfl ?_;(refine CallD.ret2 (hq _) ?_);refine ⟨by exact fun _=>trivial,?_⟩)|(refine GoR.c c215 (by rfl) (by rfl) rfl ?_;(refine CallD.ret2 (hq _) ?_))|refine GoR.s (by rfl) rfl rfl ?_|refine GoW.s (by rfl) rfl rfl (by exact fun _=>trivial) ?_|(refine GoR.splitG rfl (fun hc => ?_) (fun hc => ?_)<;>simp only [hc])|refine Go.condB rfl (fun hc => ?_) (fun hc => ?_))
    refine ⟨(by first | exact .inl rfl | exact .inr rfl),fin ?_⟩
    rw [resD_cell (fn:=Tryz.f192) rfl]
    simp only [optThen_some,resultD_tmp,resultD_cell,G,Z,Y,Gx,vV,simprocAttr,fb2,fb3,fb9,fb23,fb25,fb29,fb71,fb77,fb220,mm,hoy,hcy]
    exact ⟨_,rfl,pC_low l _,.agg' (ndX_wf (n:=.mk op nm k ks) hky),nd_low _⟩
 intro fu
 induction fu with
 | zero=>intro nd st' _ h;simp [loopF] at h
 | succ fu ih=>
  rintro nd ⟨i,n,e⟩ hb' h
  unfold loopF at h
  by_cases hc:e=0∧isT l i sg=true
  ·rw [if_pos hc] at h
   obtain ⟨hi,_⟩:=isT_lt hc.2
   have hn:=hb'.2.2 hc.1
   dsimp only at hn h
   by_cases hbig:32<n+1
   ·rw [if_pos hbig] at h
    cases h
    exact ⟨by dsimp only;omega,by dsimp only;omega,nz4⟩
   ·rw [if_neg hbig] at h
    cases hr2:part ⟨i+1,n+1,0⟩ with
    | none=>rw [hr2] at h;cases h
    | some r2=>
     rw [hr2,Option.bind_some] at h
     exact ih _ _ (hp.at hF [] ⟨by dsimp only;omega,by dsimp only;omega,fun _=>by dsimp only;omega⟩ hr2).1 h
  ·rw [if_neg hc] at h
   cases h
   exact hb'
end Go.Proofs.DgT
