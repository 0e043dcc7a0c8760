/- An expression out of words: the parser as a function; as many steps as there are words are enough. -/
import Derived.Test.YtcdijoaabbjioaaGreatDoorDgC5x
import Derived.Test.YtcdijoaabbjioaaGreatDoorDgL3x
import Derived.Test.YtcdijoaabbjioaaGreatDoorDgL1x
set_option linter.unusedSimpArgs false
set_option linter.unusedVariables false
namespace Go.Proofs.DgT
open Go Go.DM
set_option maxRecDepth 10000
def d6d (x:Int):Prop := -9223372036854775808≤x∧x≤9223372036854775807
structure St where
 i:Nat
 n:Nat
 e:Int
def t6a:Nd:=.mk ⟨#[]⟩ ⟨#[]⟩ 0 []
def isT (l:List Tok) (i:Nat) (sg:List ByteArray):Bool:=match l[i]? with | some t=>decide (t.k=3)&&sg.any (fun s=>decide (t.t=s)) | none=>false
def opAt (l:List Tok) (i:Nat):ByteArray:=match l[i]? with | some t=>t.t | none=>⟨#[]⟩
def g7b (l:List Tok) (part:St→Option (Nd×St)) (sg:List ByteArray):Nat→Nd→St→Option (Nd×St)
 | 0,_,_=>none
 | g+1,out,st=>
  if st.e=0∧isT l st.i sg=true then
   if 32<st.n+1 then some (t6a,⟨st.i,st.n+1,4⟩)
   else (part ⟨st.i+1,st.n+1,0⟩).bind fun r=>g7b l part sg g (.mk (opAt l st.i) ⟨#[]⟩ 0 [out,r.1]) r.2
  else some (out,st)
def j1b (l:List Tok) (part:St→Option (Nd×St)) (sg:List ByteArray) (g:Nat) (st:St):Option (Nd×St):=(part st).bind fun r=>g7b l part sg g r.1 r.2
def mulS:List ByteArray:=[(⟨#[42]⟩:ByteArray),(⟨#[47]⟩:ByteArray),(⟨#[37]⟩:ByteArray)]
def g4d:List ByteArray:=[(⟨#[43]⟩:ByteArray),(⟨#[45]⟩:ByteArray)]
def y3e:List ByteArray:=[(⟨#[41]⟩:ByteArray)]
def k6c (l:List Tok) (r:Nd×St):Nd×St:=if r.2.e≠0 then (t6a,r.2) else if isT l r.2.i y3e=true then (r.1,⟨r.2.i+1,r.2.n,0⟩) else (t6a,⟨r.2.i,r.2.n,2⟩)
def f4c (t:Tok):Nd:=if t.k=2 then .mk (⟨#[110,117,109]⟩:ByteArray) ⟨#[]⟩ t.n [] else .mk (⟨#[110,97,109,101]⟩:ByteArray) t.t 0 []
def j7d (l:List Tok):Nat→St→Option (Nd×St)
 | 0=>fun _=>none
 | f+1=>fun st=>
  if st.e≠0 then some (t6a,st) else
  match l[st.i]? with
  | none=>some (t6a,⟨st.i,st.n,2⟩)
  | some t=>
   if t.k=3 then
    if t.t=(⟨#[40]⟩:ByteArray) then (j1b l (j1b l (j7d l f) mulS f) g4d f ⟨st.i+1,st.n,0⟩).map (k6c l)
    else if t.t=(⟨#[45]⟩:ByteArray) then
     if 32<st.n+1 then some (t6a,⟨st.i,st.n+1,4⟩) else (j7d l f ⟨st.i+1,st.n+1,0⟩).map fun r=>(.mk (⟨#[110,101,103]⟩:ByteArray) ⟨#[]⟩ 0 [r.1],r.2)
    else some (t6a,⟨st.i,st.n,2⟩)
   else if 32<st.n+1 then some (t6a,⟨st.i,st.n+1,4⟩)
   else some (f4c t,⟨st.i+1,st.n+1,0⟩)
def u2d (l:List Tok) (f:Nat):St→Option (Nd×St):=j1b l (j7d l f) mulS f
def sumF (l:List Tok) (f:Nat):St→Option (Nd×St):=j1b l (u2d l f) g4d f
theorem u1b {l:List Tok} {f:Nat} {st:St} : j7d l (f+1) st =
  if st.e≠0 then some (t6a,st) else
  match l[st.i]? with
  | none=>some (t6a,⟨st.i,st.n,2⟩)
  | some t=>
   if t.k=3 then
    if t.t=(⟨#[40]⟩:ByteArray) then (sumF l f ⟨st.i+1,st.n,0⟩).map (k6c l)
    else if t.t=(⟨#[45]⟩:ByteArray) then
     if 32<st.n+1 then some (t6a,⟨st.i,st.n+1,4⟩) else (j7d l f ⟨st.i+1,st.n+1,0⟩).map fun r=>(.mk (⟨#[110,101,103]⟩:ByteArray) ⟨#[]⟩ 0 [r.1],r.2)
    else some (t6a,⟨st.i,st.n,2⟩)
   else if 32<st.n+1 then some (t6a,⟨st.i,st.n+1,4⟩)
   else some (f4c t,⟨st.i+1,st.n+1,0⟩):=rfl
theorem v9b {s:ByteArray} (h:l6a s=true):s.size≤8:=by
 unfold l6a at h
 simp only [Bool.and_eq_true,decide_eq_true_eq] at h
 exact h.1.1.2
def n6a (t:Tok):Prop:=(t.k=1∨t.k=2∨t.k=3)∧(t.k=1→l6a t.t=true)∧(t.k=2→d6d t.n∧0≤t.n)
inductive Whole:Nd→Prop
 | mk {op nm n ks} (h:arity op=ks.length) (hn:op=(⟨#[110,97,109,101]⟩:ByteArray)→l6a nm=true) (hz:op=(⟨#[110,117,109]⟩:ByteArray)→0≤n) (hi:d6d n) (hk : ∀ k∈ks,Whole k) (hs:nm.size≤100):Whole (.mk op nm n ks)
structure u7d (l:List Tok) (m:Nat) (st:St) (r:Nd×St):Prop where
 lo:st.i≤r.2.i
 hi:r.2.i≤l.length
 on:r.2.e=0→st.e=0∧st.i<r.2.i
 nn:st.n≤r.2.n∧r.2.n≤33
 ok:r.2.e=0→Whole r.1∧cnt r.1+st.n=r.2.n∧r.2.n≤32
 er:r.2.e=0∨r.2.e=2∨r.2.e=4
def g3d (l:List Tok) (m:Nat) (part:St→Option (Nd×St)):Prop:=
 ∀ st:St,st.i≤l.length→l.length - st.i<m→st.n≤32∨st.e≠0→st.n≤33→(st.e=0∨st.e=2∨st.e=4) → ∃ r,part st=some r∧u7d l m st r
theorem m3c {l:List Tok} {i:Nat} {sg:List ByteArray} (h:isT l i sg=true) : ∃ hi:i<l.length,l[i].k=3∧l[i].t∈sg∧opAt l i=l[i].t:=by
 unfold isT at h
 cases hq:l[i]? with
 | none=>rw [hq] at h;cases h
 | some t=>
  rw [hq] at h
  obtain ⟨hi,rfl⟩:=List.getElem?_eq_some_iff.1 hq
  simp only [Bool.and_eq_true,decide_eq_true_eq] at h
  obtain ⟨s,hs,e⟩:=List.any_eq_true.1 h.2
  exact ⟨hi,h.1,by rw [of_decide_eq_true e];exact hs,by simp [opAt,hi]⟩
theorem nz4 {p:Prop} (e:(4:Int)=0):p:=absurd e (by decide)
theorem nz2 {p:Prop} (e:(2:Int)=0):p:=absurd e (by decide)
theorem f7d (n:Nd) (h:Whole n):f3b 100 n:=by
 induction n using Nd.ind with
 | h op nm n ks ih=>
  obtain ⟨har,_,_,_,hk,hs⟩:=h
  refine .mk hs ?_ fun k hkm=>ih k hkm (hk k hkm)
  have:arity op≤2:=by unfold arity;repeat' split<;>omega
  omega
def y0e (sg:List ByteArray):Prop := ∀ s∈sg,arity s=2∧s≠(⟨#[110,97,109,101]⟩:ByteArray)∧s≠(⟨#[110,117,109]⟩:ByteArray)
theorem o1d:y0e mulS:=by
 intro s hs
 simp only [mulS,List.mem_cons,List.not_mem_nil,or_false] at hs
 rcases hs with rfl | rfl | rfl<;>exact ⟨by decide,by decide,by decide⟩
theorem g5d:y0e g4d:=by
 intro s hs
 simp only [g4d,List.mem_cons,List.not_mem_nil,or_false] at hs
 rcases hs with rfl | rfl<;>exact ⟨by decide,by decide,by decide⟩
theorem t9d {op:ByteArray} {a b:Nd} (h:arity op=2∧op≠(⟨#[110,97,109,101]⟩:ByteArray)∧op≠(⟨#[110,117,109]⟩:ByteArray)) (ha:Whole a) (hb:Whole b):Whole (.mk op ⟨#[]⟩ 0 [a,b]):=by
 refine .mk h.1 (fun e=>absurd e h.2.1) (fun e=>absurd e h.2.2) ⟨by decide,by decide⟩ (fun k hk => ?_) (Nat.zero_le _)
 simp only [List.mem_cons,List.not_mem_nil,or_false] at hk
 rcases hk with rfl | rfl<;>assumption
theorem n2c {l:List Tok} {m:Nat} {part:St→Option (Nd×St)} (hp:g3d l m part) {sg:List ByteArray} (hsg:y0e sg) {st0:St} (h0:l.length - st0.i<m) : ∀ (g:Nat) (out:Nd) (st:St),u7d l m st0 (out,st)→l.length - st.i<g →
  ∃ r,g7b l part sg g out st=some r∧u7d l m st0 r
 | 0,_,_,_,h=>by omega
 | g+1,out,st,hr,h=>by
  unfold g7b
  by_cases hc:st.e=0∧isT l st.i sg=true
  ·rw [if_pos hc]
   obtain ⟨hi,hk,hm,ho⟩:=m3c hc.2
   obtain ⟨hw,hn,hn2⟩:=hr.ok hc.1
   have hlo:=hr.lo
   have hnn:=hr.nn
   obtain ⟨he0,hlt⟩:=hr.on hc.1
   dsimp only at hlo hnn hw hn hn2 hlt
   by_cases hbig:32<st.n+1
   ·rw [if_pos hbig]
    exact ⟨_,rfl,⟨hlo,Nat.le_of_lt hi,nz4,⟨by dsimp only;omega,by dsimp only;omega⟩,nz4,.inr (.inr rfl)⟩⟩
   ·rw [if_neg hbig]
    obtain ⟨r1,e1,g1⟩:=hp ⟨st.i+1,st.n+1,0⟩ hi (by dsimp only;omega) (.inl (by dsimp only;omega)) (by dsimp only;omega) (.inl rfl)
    rw [e1,Option.bind_some]
    have hlo1:=g1.lo
    have j7f:=g1.nn
    dsimp only at hlo1 j7f
    refine n2c hp hsg h0 g _ r1.2 ⟨by dsimp only;omega,g1.hi,fun e=>⟨he0,by dsimp only;omega⟩,⟨by dsimp only;omega,j7f.2⟩,fun e => ?_,g1.er⟩ (by omega)
    obtain ⟨w1,c1,c2⟩:=g1.ok e
    refine ⟨t9d (by rw [ho];exact hsg _ hm) hw w1,?_,c2⟩
    rw [z9a]
    simp only [cnts,List.map_cons,List.map_nil,List.sum_cons,List.sum_nil] at c1 ⊢
    omega
  ·rw [if_neg hc]
   exact ⟨_,rfl,hr⟩
theorem j2b {l:List Tok} {m:Nat} {part:St→Option (Nd×St)} (hp:g3d l m part) {sg:List ByteArray} (hsg:y0e sg) {g:Nat} (hg:m≤g):g3d l m (j1b l part sg g):=by
 intro st h1 h2 h3 h4 h5
 obtain ⟨r,e,hr⟩:=hp st h1 h2 h3 h4 h5
 unfold j1b
 rw [e,Option.bind_some]
 exact n2c hp hsg h2 g r.1 r.2 hr (by have:=hr.lo;omega)
theorem f2c {l:List Tok} (hw : ∀ t∈l,n6a t) : ∀ f,g3d l f (j7d l f)
 | 0=>by intro st h1 h2;omega
 | f+1=>by
  intro st h1 h2 h3 h4 h5
  rw [u1b]
  by_cases he:st.e≠0
  ·rw [if_pos he]
   exact ⟨_,rfl,⟨Nat.le_refl _,h1,fun e=>absurd e he,⟨Nat.le_refl _,h4⟩,fun e=>absurd e he,h5⟩⟩
  rw [if_neg he]
  have he0:st.e=0:=Decidable.not_not.1 he
  have hn:st.n≤32:=h3.resolve_right he
  cases hq:l[st.i]? with
  | none=>exact ⟨_,rfl,⟨Nat.le_refl _,h1,nz2,⟨Nat.le_refl _,h4⟩,nz2,.inr (.inl rfl)⟩⟩
  | some t=>
   obtain ⟨hi,rfl⟩:=List.getElem?_eq_some_iff.1 hq
   have hwt:=hw _ (List.getElem_mem hi)
   dsimp only
   by_cases hk:l[st.i].k=3
   ·rw [if_pos hk]
    by_cases ho:l[st.i].t=(⟨#[40]⟩:ByteArray)
    ·rw [if_pos ho]
     obtain ⟨r,e,hr⟩:=j2b (j2b (f2c hw f) o1d (Nat.le_refl f)) g5d (Nat.le_refl f) ⟨st.i+1,st.n,0⟩ hi (by dsimp only;omega) (.inl hn) h4 (.inl rfl)
     unfold sumF u2d
     rw [e,Option.map_some]
     refine ⟨_,rfl,?_⟩
     have hlo:=hr.lo
     have hnn:=hr.nn
     dsimp only at hlo hnn
     unfold k6c
     by_cases hre:r.2.e≠0
     ·rw [if_pos hre]
      exact ⟨by dsimp only;omega,hr.hi,fun e=>absurd e hre,hnn,fun e=>absurd e hre,hr.er⟩
     ·rw [if_neg hre]
      obtain ⟨w1,c1,c2⟩:=hr.ok (Decidable.not_not.1 hre)
      by_cases hx:isT l r.2.i y3e=true
      ·rw [if_pos hx]
       obtain ⟨hi2,_⟩:=m3c hx
       exact ⟨by dsimp only;omega,hi2,fun _=>⟨he0,by dsimp only;omega⟩,hnn,fun _=>⟨w1,c1,c2⟩,.inl rfl⟩
      ·rw [if_neg hx]
       exact ⟨by dsimp only;omega,hr.hi,nz2,hnn,nz2,.inr (.inl rfl)⟩
    ·rw [if_neg ho]
     by_cases hm:l[st.i].t=(⟨#[45]⟩:ByteArray)
     ·rw [if_pos hm]
      by_cases hbig:32<st.n+1
      ·rw [if_pos hbig]
       exact ⟨_,rfl,⟨Nat.le_refl _,h1,nz4,⟨by dsimp only;omega,by dsimp only;omega⟩,nz4,.inr (.inr rfl)⟩⟩
      ·rw [if_neg hbig]
       obtain ⟨r,e,hr⟩:=f2c hw f ⟨st.i+1,st.n+1,0⟩ hi (by dsimp only;omega) (.inl (by dsimp only;omega)) (by dsimp only;omega) (.inl rfl)
       rw [e,Option.map_some]
       have hlo:=hr.lo
       have hnn:=hr.nn
       dsimp only at hlo hnn
       refine ⟨_,rfl,⟨by dsimp only;omega,hr.hi,fun _=>⟨he0,by dsimp only;omega⟩,⟨by dsimp only;omega,hnn.2⟩,fun e => ?_,hr.er⟩⟩
       obtain ⟨w1,c1,c2⟩:=hr.ok e
       refine ⟨.mk rfl (fun e=>absurd e (by decide)) (fun e=>absurd e (by decide)) ⟨by decide,by decide⟩ (fun k hk => ?_) (Nat.zero_le _),?_,c2⟩
       ·rw [List.mem_singleton] at hk
        rw [hk];exact w1
       ·rw [z9a]
        simp only [cnts,List.map_cons,List.map_nil,List.sum_cons,List.sum_nil] at c1 ⊢
        omega
     ·rw [if_neg hm]
      exact ⟨_,rfl,⟨Nat.le_refl _,h1,nz2,⟨Nat.le_refl _,h4⟩,nz2,.inr (.inl rfl)⟩⟩
   ·rw [if_neg hk]
    by_cases hbig:32<st.n+1
    ·rw [if_pos hbig]
     exact ⟨_,rfl,⟨Nat.le_refl _,h1,nz4,⟨by dsimp only;omega,by dsimp only;omega⟩,nz4,.inr (.inr rfl)⟩⟩
    ·rw [if_neg hbig]
     refine ⟨_,rfl,⟨by dsimp only;omega,hi,fun _=>⟨he0,by dsimp only;omega⟩,⟨by dsimp only;omega,by dsimp only;omega⟩,fun _ => ?_,.inl rfl⟩⟩
     unfold f4c
     by_cases h2':l[st.i].k=2
     ·rw [if_pos h2']
      refine ⟨.mk rfl (fun e=>absurd e (by decide)) (fun _=>(hwt.2.2 h2').2) (hwt.2.2 h2').1 (by simp) (Nat.zero_le _),?_,by dsimp only;omega⟩
      rw [z9a]
      simp only [cnts,List.map_nil,List.sum_nil]
      omega
     ·rw [if_neg h2']
      have h1':l[st.i].k=1:=by rcases hwt.1 with h | h | h<;>first | exact h | exact absurd h h2' | exact absurd h hk
      refine ⟨.mk rfl (fun _=>hwt.2.1 h1') (fun e=>absurd e (by decide)) ⟨by decide,by decide⟩ (by simp) (Nat.le_trans (v9b (hwt.2.1 h1')) (by decide)),?_,by dsimp only;omega⟩
      rw [z9a]
      simp only [cnts,List.map_nil,List.sum_nil]
      omega
theorem b3e {l:List Tok} (hw : ∀ t∈l,n6a t) (f:Nat):g3d l f (sumF l f):=j2b (j2b (f2c hw f) o1d (Nat.le_refl f)) g5d (Nat.le_refl f)
end Go.Proofs.DgT
namespace Go.Proofs.DgT
open Go Go.DM
set_option maxRecDepth 100000
structure Fam (M:List D→Mem) (o n:Nat):Prop where
 lt:o<n
 len : ∀ c,(M c).length=n
 get : ∀ c,b6a (M c) o=some c
 set : ∀ c c',(M c).set o (.obj c')=M c'
theorem Fam.app {M:List D→Mem} {o n:Nat} (h:Fam M o n) (E:Mem):Fam (fun c=>M c++E) o (n+E.length):=
 ⟨by have:=h.lt;omega,fun c=>by simp [h.len],fun c=>w4a (h.get c),fun c c'=>by
  show (M c++E).set o _=_
  rw [List.set_append_left _ _ (by rw [h.len];exact h.lt),h.set]⟩
theorem Fam.facts {M:List D→Mem} {o n:Nat} (h:Fam M o n) :
  (∀ c,(M c).length=n)∧(∀ c,b6a (M c) o=some c)∧(∀ c c',(M c).set o (.obj c')=M c')∧(∀ c E,b6a (M c++E) o=some c)∧(∀ c c' E,(M c++E).set o (.obj c')=M c'++E) ∧
  (∀ c E k,b6a (M c++E) (n+k)=b6a E k)∧(∀ c E,b6a (M c++E) n=b6a E 0)∧(∀ c E k x,(M c++E).set (n+k) x=M c++E.set k x)∧(∀ c E x,(M c++E).set n x=M c++E.set 0 x) ∧
  (∀ c (E:Mem) k,(M c++E)[n+k]?=E[k]?)∧(∀ c (E:Mem),(M c++E)[n]?=E[0]?):=by
 refine ⟨h.len,h.get,h.set,fun c E=>w4a (h.get c),fun c c' E => ?_,fun c E k => ?_,fun c E => ?_,fun c E k x => ?_,fun c E x => ?_,fun c E k => ?_,fun c E => ?_⟩
 ·rw [List.set_append_left _ _ (by rw [h.len];exact h.lt),h.set]
 ·rw [← h.len c];exact a7a
 ·rw [← h.len c];exact a6a
 ·rw [← h.len c];exact h9c
 ·rw [← h.len c];exact b4d
 ·rw [← h.len c];exact v0c
 ·rw [← h.len c];exact a8d
theorem f8e {S1:Mem} {F:List Nat} {n m:Nat} {xs:List D} (hm:m≤n) (h:e5b m xs):WzL S1 F id n xs xs:=
 ⟨rfl,fun j h1 _=>.of_low (fun _ _=>rfl) hm (h.get j h1)⟩
theorem Wf.i0f {S1:Mem} {F:List Nat} {n:Nat} {d d':D} (h:Wf d d') (hl:p2a n d'):Wz S1 F id n d d':=fun r v hS hr=>
 Wz.of_low (fun _ _=>rfl) (Nat.le_refl n) hl r v hS (h r v hr)
theorem a3a.upd {P:Program} {orc:c3a} {M:List D→Mem} {o n:Nat} (hF:Fam M o n) {f:FuncId} {args:List D} {c:List D} {R:List D→D→Prop}
  (h:a3a P orc f args (M c) fun d S1 => ∃ d' E c',S1=M c'++E∧e5b n c'∧Wf d d'∧p2a n d'∧R c' d'):a3a P orc f args (M c) fun d S' => ∃ c',S'=M c'∧R c' d:=by
 obtain ⟨d,S1,hb,d',E,c',rfl,hl,hw,hd,hr⟩:=h
 refine a3a.keep ⟨d,_,hb,[],id,M c',d',?_,fun _ _=>rfl,fun i j _ _ e=>e,fun o ho=>by (cases ho),fun i _ hi=>by (cases hi),fun i cells hi => ?_,fun i hi => ?_,Wf.i0f hw (by rw [hF.len];exact hd),c',rfl,hr⟩
 ·rw [hF.len,hF.len];exact Nat.le_refl _
 ·by_cases e:i=o
  ·subst e
   rw [hF.get] at hi
   cases hi
   exact .inr ⟨c',w4a (hF.get c'),f8e (m:=n) (by rw [hF.len];exact Nat.le_refl _) hl⟩
  ·have hlt:i<(M c').length:=z4d hi
   have e2:b6a (M c) i=some cells:=by
    rw [← hF.set c c'] at hi
    unfold b6a at hi ⊢
    rwa [List.getElem?_set_ne (Ne.symm e)] at hi
   exact .inl ⟨by rw [hF.len];rw [hF.len] at hlt;exact hlt,e2,w4a hi⟩
 ·have hlt:=(List.getElem?_eq_some_iff.1 hi).1
  show (M c'++E)[i]?=_
  rw [List.getElem?_append_left hlt]
  exact hi
theorem a3a.b0c {P:Program} {orc:c3a} {M:List D→Mem} {o n:Nat} (hF:Fam M o n) {f:FuncId} {args:List D} {c c2:List D} {d2:D}
  (h:a3a P orc f args (M c) fun d S1 => ∃ E,S1=M c2++E∧e5b n c2∧Wf d d2∧p2a n d2):a3a P orc f args (M c) fun d S'=>S'=M c2∧d=d2:=
 (a3a.upd (R:=fun c' d=>c'=c2∧d=d2) hF (h.mono fun d S1 ⟨E,h1,h2,h3,h4⟩=>⟨d2,E,c2,h1,h2,h3,h4,rfl,rfl⟩)).mono fun d S' ⟨c',h1,h2,h3⟩=>⟨by rw [h1,h2],h3⟩
theorem a3a.b2a {P:Program} {orc:c3a} {f:FuncId} {args:List D} {S X:Mem} {Y:D} {Q:D→Mem→Prop} (h:a3a P orc f args S fun d S'=>S'=X∧d=Y) (hq:Q Y X):a3a P orc f args S Q:=h.mono (by rintro d S' ⟨rfl,rfl⟩;exact hq)
def pC (l:List Tok) (st:St):List D:=[.sl none 4 l.length (t4a l),.int .i64 (st.i:Int),.int .i64 (st.n:Int),.int .i64 st.e]
theorem n9a {m:Nat} (l:List Tok) (st:St):e5b m (pC l st):=.cons (.sl' (s0b l)) (.cons (.int _ _) (.cons (.int _ _) (.cons (.int _ _) .nil)))
theorem w2b:Wf (.agg [.str ⟨#[]⟩,.str ⟨#[]⟩,.int .i64 0,.c5a]) (.agg t6a.c):=by
 rw [t6a,Nd.k0a]
 exact .agg' (.cons .refl (.cons .refl (.cons .refl (.cons .e1d .nil))))
theorem s3a {m:Nat} (n:Nd):p2a m (.agg n.c):=.agg' (Nd.low n)
theorem v6e {M:List D→Mem} {o n0:Nat} (hF:Fam M o n0) (l:List Tok) (st:St) (he:st.e=0) (e:Int) :
  a3a Tryz.prog O 234 [.ptr o 0,.int .i64 e] (M (pC l st)) fun d S'=>S'=M (pC l ⟨st.i,st.n,e⟩)∧d = .agg t6a.c:=by
 obtain ⟨m1,m2,m3,m4,m5,m6,m7,m8,m9,m10,m11⟩:=hF.facts
 have mm:=hF.facts
 refine a3a.b0c hF ?_
 obtain ⟨i,n,e0⟩:=st
 obtain rfl:e0=0:=he
 simp only [pC]
 refine a3a.eb Tryz.func234 rfl Tryz.ntmps234 (by rfl) ?_
 repeat' (first|refine Go.a rfl ?_|refine Go.rg ?_|refine GoR.nil ?_|refine Go.ret ?_|refine Go.b rfl ?_|(refine GoR.o (by rfl) (by rfl) ?_;(conv=>arg 1;simp only [G,Z,Y,Gx,vV,simprocAttr,fb2,fb3,fb9,c2a,b7a,c8a,d4a,h8a,mm]);show GoR ..)|refine Go.b0a rfl (fun hc => ?_) (fun hc => ?_))
 refine ⟨(by first | exact .inl rfl | exact .inr rfl),fin ?_⟩
 rw [g3a (fn:=Tryz.f234) rfl]
 simp only [a0a,a2a,a1a,G,Z,Y,Gx,vV,simprocAttr,fb2,fb3,fb9,c2a,b7a,c8a,d4a,h8a,mm]
 exact ⟨_,rfl,n9a l ⟨i,n,e⟩,w2b,s3a _⟩
theorem u0e {l:List Tok} {i:Nat} (h:i<l.length) {sg:List ByteArray} : isT l i sg=(decide (l[i].k=3)&&Lib.containsS sg l[i].t):=by
 unfold isT
 rw [List.getElem?_eq_getElem h]
 dsimp only
 congr 1
 rw [Bool.eq_iff_iff,Lib.containsS_iff,List.any_eq_true]
 exact ⟨fun ⟨s,hs,e⟩=>by rw [of_decide_eq_true e];exact hs,fun hm=>⟨_,hm,decide_eq_true rfl⟩⟩
theorem l1d {l:List Tok} {i:Nat} (h:l.length≤i) {sg:List ByteArray} : isT l i sg=false:=by
 unfold isT
 rw [List.getElem?_eq_none h]
theorem pIs {M:List D→Mem} {o n0:Nat} (hF:Fam M o n0) (l:List Tok) (st:St) (own:Option Nat) (sg:List ByteArray) (hs:sg.length<1000000) :
  a3a Tryz.prog O 215 [.ptr o 0,.sl own 1 sg.length (sg.map .str)] (M (pC l st)) fun d S'=>S'=M (pC l st)∧d = .bool (isT l st.i sg):=by
 obtain ⟨m1,m2,m3,m4,m5,m6,m7,m8,m9,m10,m11⟩:=hF.facts
 have mm:=hF.facts
 refine a3a.b0c hF ?_
 obtain ⟨i,n,e⟩:=st
 simp only [pC]
 refine a3a.eb Tryz.func215 rfl Tryz.ntmps215 (by rfl) ?_
 by_cases hi:i<l.length
 ·rw [u0e hi]
  by_cases hk:l[i].k=3
  ·rw [decide_eq_true hk,Bool.true_and]
   repeat' (first|refine Go.a rfl ?_|refine Go.rg ?_|refine GoR.nil ?_|refine Go.ret ?_|refine Go.b rfl ?_|refine Go.rgS dmx (by decide) ?_|(refine GoR.o (by rfl) (by rfl) ?_;(conv=>arg 1;simp only [G,Z,Y,Gx,vV,simprocAttr,fb2,fb3,fb9,c8a,d4a,d5a,h8a,m1,m2,m4,q6a hi,Tok.c,hk,show decide ((i:Int)<(l.length:Int))=true by simp;omega]);show GoR ..)|(refine GoR.c c154 (by rfl) (by rfl) rfl ?_;(refine (b2b own sg _ hs _).ret ?_))|refine GoR.s (by rfl) rfl rfl ?_|(refine GoR.b1a rfl (fun hc => ?_) (fun hc => ?_)<;>simp only [hc])|refine Go.b0a rfl (fun hc => ?_) (fun hc => ?_))
   refine ⟨(by first | exact .inl rfl | exact .inr rfl),fin ?_⟩
   rw [a8a (fn:=Tryz.f215) rfl]
   simp only [a0a,a2a,a1a,G,Z,Y,Gx,vV,simprocAttr,fb2,fb3,fb9,c8a,d4a,d5a,h8a]
   exact ⟨[],by simp,n9a l ⟨i,n,e⟩,.refl,.bool _⟩
  ·rw [decide_eq_false hk,Bool.false_and]
   repeat' (first|refine Go.a rfl ?_|refine Go.rg ?_|refine GoR.nil ?_|refine Go.ret ?_|refine Go.b rfl ?_|refine Go.rgS dmx (by decide) ?_|(refine GoR.o (by rfl) (by rfl) ?_;(conv=>arg 1;simp only [G,Z,Y,Gx,vV,simprocAttr,fb2,fb3,fb9,c8a,d4a,d5a,h8a,m1,m2,m4,q6a hi,Tok.c,hk,show (l[i].k==3)=false by simp [hk],show decide ((i:Int)<(l.length:Int))=true by simp;omega]);show GoR ..)|(refine GoR.c c154 (by rfl) (by rfl) rfl ?_;(refine (b2b own sg _ hs _).ret ?_))|refine GoR.s (by rfl) rfl rfl ?_|(refine GoR.b1a rfl (fun hc => ?_) (fun hc => ?_)<;>simp only [hc])|refine Go.b0a rfl (fun hc => ?_) (fun hc => ?_))
   refine ⟨(by first | exact .inl rfl | exact .inr rfl),fin ?_⟩
   rw [a8a (fn:=Tryz.f215) rfl]
   simp only [a0a,a2a,a1a,G,Z,Y,Gx,vV,simprocAttr,fb2,fb3,fb9,c8a,d4a,d5a,h8a]
   exact ⟨[],by simp,n9a l ⟨i,n,e⟩,.refl,.bool _⟩
 ·rw [l1d (by omega)]
  repeat' (first|refine Go.a rfl ?_|refine Go.rg ?_|refine GoR.nil ?_|refine Go.ret ?_|refine Go.b rfl ?_|refine Go.rgS dmx (by decide) ?_|(refine GoR.o (by rfl) (by rfl) ?_;(conv=>arg 1;simp only [G,Z,Y,Gx,vV,simprocAttr,fb2,fb3,fb9,c8a,d4a,d5a,h8a,m1,m2,m4,show decide ((i:Int)<(l.length:Int))=false by simp;omega]);show GoR ..)|(refine GoR.c c154 (by rfl) (by rfl) rfl ?_;(refine (b2b own sg _ hs _).ret ?_))|refine GoR.s (by rfl) rfl rfl ?_|(refine GoR.b1a rfl (fun hc => ?_) (fun hc => ?_)<;>simp only [hc])|refine Go.b0a rfl (fun hc => ?_) (fun hc => ?_))
  refine ⟨(by first | exact .inl rfl | exact .inr rfl),fin ?_⟩
  rw [a8a (fn:=Tryz.f215) rfl]
  simp only [a0a,a2a,a1a,G,Z,Y,Gx,vV,simprocAttr,fb2,fb3,fb9,c8a,d4a,d5a,h8a]
  exact ⟨[],by simp,n9a l ⟨i,n,e⟩,.refl,.bool _⟩
def a5b (st:St):St:=if 32<st.n+1 then ⟨st.i,st.n+1,4⟩ else ⟨st.i+1,st.n+1,0⟩
theorem h0f {M:List D→Mem} {o n0:Nat} (hF:Fam M o n0) (l:List Tok) (st:St) (he:st.e=0) (hi:st.i<1000000) (hn:st.n≤100) :
  a3a Tryz.prog O 216 [.ptr o 0] (M (pC l st)) fun d S'=>S'=M (pC l (a5b st))∧d = .bool (!decide (32<st.n+1)):=by
 obtain ⟨m1,m2,m3,m4,m5,m6,m7,m8,m9,m10,m11⟩:=hF.facts
 have mm:=hF.facts
 refine a3a.b0c hF ?_
 obtain ⟨i,n,e0⟩:=st
 obtain rfl:e0=0:=he
 dsimp only at hi hn
 simp only [pC]
 refine a3a.eb Tryz.func216 rfl Tryz.ntmps216 (by rfl) ?_
 by_cases hb:32<n+1
 ·have hf:=v6e hF l ⟨i,n+1,0⟩ rfl 4
  simp only [pC] at hf
  repeat' (first|refine Go.a rfl ?_|refine Go.rg ?_|refine GoR.nil ?_|refine Go.ret ?_|refine Go.b rfl ?_|(refine GoR.o (by rfl) (by rfl) ?_;(conv=>arg 1;simp only [G,Z,Y,Gx,vV,simprocAttr,fb3,c8a,d4a,h8a,m1,m2,m3,m4,m5,b9a (show n<4611686018427387904 by omega),show decide (((n+1:Nat):Int)>32)=true by simp;omega,show decide ((32:Int)<((n+1:Nat):Int))=true by simp;omega]);show GoR ..)|(refine GoR.c c234 (by rfl) (by rfl) rfl ?_;(refine a3a.b2a hf ?_))|refine Go.b0a rfl (fun hc => ?_) (fun hc => ?_))
  refine ⟨(by first | exact .inl rfl | exact .inr rfl),fin ?_⟩
  rw [a8a (fn:=Tryz.f216) rfl]
  simp only [a0a,a2a,a1a,G,Z,Y,Gx,vV,simprocAttr,fb3,c8a,d4a,h8a]
  have e:a5b ⟨i,n,0⟩=⟨i,n+1,4⟩:=by unfold a5b;rw [if_pos hb]
  refine ⟨[],?_,n9a l _,?_,.bool _⟩
  ·rw [e,List.append_nil]
  ·rw [decide_eq_true hb];exact .refl
 ·repeat' (first|refine Go.a rfl ?_|refine Go.rg ?_|refine GoR.nil ?_|refine Go.ret ?_|refine Go.b rfl ?_|(refine GoR.o (by rfl) (by rfl) ?_;(conv=>arg 1;simp only [G,Z,Y,Gx,vV,simprocAttr,fb3,c8a,d4a,h8a,m1,m2,m3,m4,m5,b9a (show n<4611686018427387904 by omega),b9a (show i<4611686018427387904 by omega),show decide (((n+1:Nat):Int)>32)=false by simp;omega,show decide ((32:Int)<((n+1:Nat):Int))=false by simp;omega]);show GoR ..)|refine Go.b0a rfl (fun hc => ?_) (fun hc => ?_))
  refine ⟨(by first | exact .inl rfl | exact .inr rfl),fin ?_⟩
  rw [a8a (fn:=Tryz.f216) rfl]
  simp only [a0a,a2a,a1a,G,Z,Y,Gx,vV,simprocAttr,fb3,c8a,d4a,h8a]
  have e:a5b ⟨i,n,0⟩=⟨i+1,n+1,0⟩:=by unfold a5b;rw [if_neg hb]
  refine ⟨[],?_,n9a l _,?_,.bool _⟩
  ·rw [e,List.append_nil]
  ·rw [decide_eq_false hb];exact .refl
end Go.Proofs.DgT
namespace Go.Proofs.DgT
open Go Go.DM
set_option maxRecDepth 100000
def Bs (l:List Tok) (st:St):Prop:=st.i≤l.length∧st.n≤33∧(st.e=0→st.n≤32)
def j8c (l:List Tok) (o:Nat) (g:FuncId) (part:St→Option (Nd×St)):Prop:=
 ∀ (M:List D→Mem) (n0:Nat),Fam M o n0 → ∀ st r,Bs l st→part st=some r→Bs l r.2∧a3a Tryz.prog O g [.ptr o 0] (M (pC l st)) fun d S'=>S'=M (pC l r.2)∧d = .agg r.1.c
structure o1e (y:D) (ks:List Nd):Prop where
 wf:Wf y (.sl none 4 ks.length (d3a ks))
 one:D.one y=true
 cells:cellsD y=some [y]
def ndX (n:Nd) (y:D):List D:=[.str n.op,.str n.name,.int .i64 n.n,y]
theorem w0b {n:Nd} {y:D} (h:o1e y n.kids):WfL (ndX n y) n.c:=by
 obtain ⟨op,nm,k,ks⟩:=n
 rw [Nd.k0a]
 exact .cons .refl (.cons .refl (.cons .refl (.cons h.wf .nil)))
theorem g2b (n:Nd) : ∃ y,n.c=ndX n y∧o1e y n.kids:=by
 obtain ⟨op,nm,k,ks⟩:=n
 exact ⟨_,Nd.k0a,.refl,rfl,rfl⟩
theorem y5d {a b:Nd} {y:D} (h:o1e y a.kids) {id:Option Nat} : o1e (.sl id 4 2 (ndX a y++b.c)) [a,b]:=by
 refine ⟨?_,rfl,rfl⟩
 have e:d3a [a,b]=a.c++b.c:=by simp [d3a]
 rw [e]
 exact .sl' (.append (w0b h) .refl)
theorem w1e {a b c d:D} : k4b [a,b,c,d] 2=[a,b,c,d,a,b,c,d]:=rfl
theorem wrA {z1 z2 z3 z4 z5 z6 z7 z8 a b c d:D} : wr [z1,z2,z3,z4,z5,z6,z7,z8] 0 [a,b,c,d]=[a,b,c,d,z5,z6,z7,z8]:=rfl
theorem wrB {z1 z2 z3 z4 z5 z6 z7 z8 a b c d:D} : wr [z1,z2,z3,z4,z5,z6,z7,z8] 4 [a,b,c,d]=[z1,z2,z3,z4,a,b,c,d]:=rfl
theorem j8c.at {l:List Tok} {o:Nat} {g:FuncId} {part:St→Option (Nd×St)} (hp:j8c l o g part) {M:List D→Mem} {n0:Nat} (hF:Fam M o n0) (E:Mem) {st:St} {r:Nd×St} (hb:Bs l st) (hr:part st=some r) :
  Bs l r.2∧a3a Tryz.prog O g [.ptr o 0] (M (pC l st)++E) fun d S'=>S'=M (pC l r.2)++E∧d = .agg r.1.c:=hp (fun c=>M c++E) _ (hF.app E) st r hb hr
theorem g9f {M:List D→Mem} {o n0:Nat} (hF:Fam M o n0) (E:Mem) (l:List Tok) (st:St) (own:Option Nat) (sg:List ByteArray) (hs:sg.length<1000000) :
  a3a Tryz.prog O 215 [.ptr o 0,.sl own 1 sg.length (sg.map .str)] (M (pC l st)++E) fun d S'=>S'=M (pC l st)++E∧d = .bool (isT l st.i sg):=pIs (hF.app E) l st own sg hs
theorem e7e {M:List D→Mem} {o n0:Nat} (hF:Fam M o n0) (E:Mem) (l:List Tok) (st:St) (he:st.e=0) (hi:st.i<1000000) (hn:st.n≤100) :
  a3a Tryz.prog O 216 [.ptr o 0] (M (pC l st)++E) fun d S'=>S'=M (pC l (a5b st))++E∧d = .bool (!decide (32<st.n+1)):=h0f (hF.app E) l st he hi hn
theorem e6e {M:List D→Mem} {o n0:Nat} (hF:Fam M o n0) (E:Mem) (l:List Tok) (st:St) (he:st.e=0) (e:Int) :
  a3a Tryz.prog O 234 [.ptr o 0,.int .i64 e] (M (pC l st)++E) fun d S'=>S'=M (pC l ⟨st.i,st.n,e⟩)++E∧d = .agg t6a.c:=v6e (hF.app E) l st he e
theorem p9a {l:List Tok} {i n:Nat} {e:Int} : (pC l ⟨i,n,e⟩)[0]?=some (.sl none 4 l.length (t4a l))∧(pC l ⟨i,n,e⟩)[1]?=some (.int .i64 (i:Int))∧(pC l ⟨i,n,e⟩)[2]?=some (.int .i64 (n:Int))∧(pC l ⟨i,n,e⟩)[3]?=some (.int .i64 e)∧(pC l ⟨i,n,e⟩).length=4:=⟨rfl,rfl,rfl,rfl,rfl⟩
theorem e4d {l:List Tok} {i n:Nat} {e:Int} {j:Nat} : wr (pC l ⟨i,n,e⟩) 1 [.int .i64 (j:Int)]=pC l ⟨j,n,e⟩:=rfl
theorem s8e {l : List Tok} (hl : l.length < 100000) {o : Nat} {g : FuncId} {fn : Func} (hgf : Tryz.prog.funcs[g]? = some fn) (hgn : (fn.name == "runtime.NumGoroutine") = false) (hgb : fn.body.isNone = false) {part : St → Option (Nd × St)} (hp : j8c l o g part) (sg : List ByteArray) (hs : sg.length < 1000000) (own : Option Nat) (fu : Nat)
  {M:List D→Mem} {n0:Nat} (hF:Fam M o n0) (st:St) (r:Nd×St) (hb:Bs l st) (hr:j1b l part sg fu st=some r) :
  Bs l r.2∧a3a Tryz.prog O 192 [.ptr o 0,.fn (.func g) [.ptr o 0] [],.sl own 1 sg.length (sg.map .str)] (M (pC l st)) fun d S'=>S'=M (pC l r.2)∧d = .agg r.1.c:=by
 obtain ⟨m1,m2,m3,m4,m5,m6,m7,m8,m9,m10,m11⟩:=hF.facts
 have mm:=hF.facts
 unfold j1b at hr
 cases hr1:part st with
 | none=>rw [hr1] at hr;cases hr
 | some r1=>
 rw [hr1,Option.bind_some] at hr
 obtain ⟨hb1,_⟩:=hp.at hF [] hb hr1
 have hp1:=fun E=>(hp.at hF E hb hr1).2
 obtain ⟨⟨op1,nm1,k1,ks1⟩,st1⟩:=r1
 obtain ⟨y1,hy1,hk1⟩:=g2b (.mk op1 nm1 k1 ks1)
 simp only [hy1,ndX,Nd.op,Nd.name,Nd.n] at hp1
 have ho1:=hk1.one
 have hc1:=hk1.cells
 suffices key : ∀ (fu:Nat) (nd:Nd) (st':St),Bs l st'→g7b l part sg fu nd st'=some r→Bs l r.2 by
  refine ⟨key fu _ _ hb1 hr,?_⟩
  refine a3a.b0c hF ?_
  refine a3a.eb Tryz.func192 rfl Tryz.ntmps192 (by rfl) ?_
  repeat' (first|refine Go.a rfl ?_|refine Go.rg ?_|refine GoR.nil ?_|refine Go.ret ?_|refine Go.b rfl ?_|refine Go.rgS dmx (by decide) ?_|refine Go.rgD [1] (fun _=>True) dmx (by decide) 4 (by decide) (by trivial) ?_|refine GoW.nil rfl ?_|((first|refine GoR.o (by rfl) (by rfl) ?_|refine GoW.o (by rfl) (by rfl) ?_|refine GoW.rd (by rfl) (by rfl) ?_);(conv=>arg 1;simp only [G,Z,Y,Gx,vV,simprocAttr,fb2,fb3,fb9,c2a,b7a,c8a,d4a,d5a,h8a,mm,ho1,hc1]);first|show GoR ..|(show _∧GoW ..;refine ⟨by exact fun _=>trivial,?_⟩)|(show _∧_∧_∧GoW ..;refine ⟨rfl,by trivial,(fun H _=>by simp only [G,Z,Y,Gx,vV,simprocAttr,fb2,fb3,fb9,c2a,b7a,c8a,d4a,d5a,h8a,mm,ho1,hc1]),?_⟩))|(refine GoR.call (f:=g) (by decide) (by rfl) rfl hgf hgn hgb ?_;refine a3a.b2a (hp1 _) ?_)|refine GoR.s (by rfl) rfl rfl ?_|refine GoW.s (by rfl) rfl rfl (by exact fun _=>trivial) ?_|(refine GoR.b1a rfl (fun hc => ?_) (fun hc => ?_)<;>simp only [hc])|refine Go.b0a rfl (fun hc => ?_) (fun hc => ?_))
  refine Go.keep [(0,.ptr o 0),(1,.fn (.func g) [.ptr o 0] []),(2,.sl own 1 sg.length (sg.map .str)),(6,.ptr n0 0),(7,.ptr (n0+1) 0)] (.cons .refl (.cons .refl (.cons .refl (.cons .refl (.cons .refl (.nil)))))) ?_
  refine Go.while (α:=Nat×Nd×D×St×Mem) (fun a=>a.1) (fun _=>[(0,.ptr o 0),(1,.fn (.func g) [.ptr o 0] []),(2,.sl own 1 sg.length (sg.map .str)),(6,.ptr n0 0),(7,.ptr (n0+1) 0)])
   (fun a=>M (pC l a.2.2.2.1)++(.obj [.str ⟨#[]⟩,.str ⟨#[]⟩,.int .i64 0,.c5a] :: .obj [.str a.2.1.op,.str a.2.1.name,.int .i64 a.2.1.n,a.2.2.1]::a.2.2.2.2))
   (fun a=>Bs l a.2.2.2.1∧o1e a.2.2.1 a.2.1.kids∧g7b l part sg a.1 a.2.1 a.2.2.2.1=some r) ?_ (fu,.mk op1 nm1 k1 ks1,y1,st1,[]) ⟨hb1,hk1,hr⟩
  clear hr hb1 hk1 ho1 hc1 hp1 hy1 hr1 hb
  rintro ⟨fu,⟨op,nm,k,ks⟩,y,⟨i,n,e⟩,E⟩ ⟨hb,hky,hr⟩ next
  simp only [Nd.op,Nd.name,Nd.n,Nd.kids] at hky hr next ⊢
  have hoy:=hky.one
  have hcy:=hky.cells
  have hq:=fun E=>g9f hF E l ⟨i,n,e⟩ own sg hs
  cases fu with
  | zero=>simp [g7b] at hr
  | succ fu=>
  unfold g7b at hr
  by_cases hc:e=0∧isT l i sg=true
  ·rw [if_pos hc] at hr
   obtain ⟨rfl,hc⟩:=hc
   obtain ⟨hi,hk3,hm,hop⟩:=m3c hc
   have hm:=fun E=>e7e hF E l ⟨i,n,0⟩ rfl (by dsimp only;omega) (by have:=hb.2.1;dsimp only at this ⊢;omega)
   by_cases hbig:32<n+1
   ·rw [if_pos hbig] at hr
    cases hr
    have hms:a5b ⟨i,n,0⟩=⟨i,n+1,4⟩:=by unfold a5b;rw [if_pos hbig]
    rw [hms] at hm
    repeat' (first|refine Go.a rfl ?_|refine Go.rg ?_|refine GoR.nil ?_|refine Go.ret ?_|refine Go.b rfl ?_|refine Go.rgS dmx (by decide) ?_|refine Go.rgD [1] (fun _=>True) dmx (by decide) 4 (by decide) (by trivial) ?_|refine GoW.nil rfl ?_|((first|refine GoR.o (by rfl) (by rfl) ?_|refine GoW.o (by rfl) (by rfl) ?_|refine GoW.rd (by rfl) (by rfl) ?_);(conv=>arg 1;simp only [G,Z,Y,Gx,vV,simprocAttr,fb2,fb3,fb9,c2a,b7a,c8a,d4a,d5a,h8a,mm,hoy,hcy,p9a,hc,q6a hi,Tok.c,hbig,Bool.not_true]);first|show GoR ..|(show _∧GoW ..;refine ⟨by exact fun _=>trivial,?_⟩)|(show _∧_∧_∧GoW ..;refine ⟨rfl,by trivial,(fun H _=>by simp only [G,Z,Y,Gx,vV,simprocAttr,fb2,fb3,fb9,c2a,b7a,c8a,d4a,d5a,h8a,mm,hoy,hcy,p9a,hc,q6a hi,Tok.c,hbig,Bool.not_true]),?_⟩))|(refine GoW.c o3b (by rfl) (by rfl) rfl ?_;(refine a3a.b2a (hq _) ?_);refine ⟨by exact fun _=>trivial,?_⟩)|(refine GoR.c o3b (by rfl) (by rfl) rfl ?_;(refine a3a.b2a (hq _) ?_))|(refine GoW.c x8c (by rfl) (by rfl) rfl ?_;(refine a3a.b2a (hm _) ?_);refine ⟨by exact fun _=>trivial,?_⟩)|(refine GoR.c x8c (by rfl) (by rfl) rfl ?_;(refine a3a.b2a (hm _) ?_))|refine GoR.s (by rfl) rfl rfl ?_|refine GoW.s (by rfl) rfl rfl (by exact fun _=>trivial) ?_|(refine GoR.b1a rfl (fun hc => ?_) (fun hc => ?_)<;>simp only [hc])|refine Go.b0a rfl (fun hc => ?_) (fun hc => ?_))
    clear next
    refine ⟨(by first | exact .inl rfl | exact .inr rfl),fin ?_⟩
    rw [g3a (fn:=Tryz.f192) rfl]
    simp only [a0a,a2a,a1a,G,Z,Y,Gx,vV,simprocAttr,fb2,fb3,fb9,c2a,b7a,c8a,d4a,d5a,h8a,mm,hoy,hcy]
    exact ⟨_,rfl,n9a l _,w2b,s3a _⟩
   ·rw [if_neg hbig] at hr
    have hms:a5b ⟨i,n,0⟩=⟨i+1,n+1,0⟩:=by unfold a5b;rw [if_neg hbig]
    rw [hms] at hm
    cases hr1:part ⟨i+1,n+1,0⟩ with
    | none=>rw [hr1] at hr;cases hr
    | some r1=>
    rw [hr1,Option.bind_some,hop] at hr
    have hbs:Bs l ⟨i+1,n+1,0⟩:=⟨by dsimp only;omega,by dsimp only;omega,fun _=>by dsimp only;omega⟩
    obtain ⟨hb1,_⟩:=hp.at hF [] hbs hr1
    have hp1:=fun E=>(hp.at hF E hbs hr1).2
    obtain ⟨⟨op1,nm1,k1,ks1⟩,st1⟩:=r1
    obtain ⟨y1,hy1,hk1⟩:=g2b (.mk op1 nm1 k1 ks1)
    have hyy:=fun id=>y5d (a:=.mk op nm k ks) (b:=.mk op1 nm1 k1 ks1) (y:=y) hky (id:=id)
    simp only [hy1,ndX,Nd.op,Nd.name,Nd.n] at hp1 hyy
    have ho1:=hk1.one
    have hc1:=hk1.cells
    repeat' (first|refine Go.a rfl ?_|refine Go.rg ?_|refine GoR.nil ?_|refine Go.ret ?_|refine Go.b rfl ?_|refine Go.rgS dmx (by decide) ?_|refine Go.rgD [1] (fun H=>b6a H (n0+1)=some [.str op,.str nm,.int .i64 k,y]) dmx (by decide) 4 (by decide) (by (simp only [mm,a5a,a4a])) ?_|refine GoW.nil rfl ?_|((first|refine GoR.o (by rfl) (by rfl) ?_|refine GoW.o (by rfl) (by rfl) ?_|refine GoW.rd (by rfl) (by rfl) ?_);(conv=>arg 1;simp only [G,Z,Y,Gx,vV,simprocAttr,fb2,fb3,fb9,c2a,b7a,c8a,d4a,d5a,h8a,mm,hoy,hcy,ho1,hc1,p9a,hc,q6a hi,Tok.c,hbig,Bool.not_false,w1e,wrA,wrB]);first|show GoR ..|(show _∧GoW ..;refine ⟨by (first|exact fun h=>absurd h (by decide)|(intro _;(simp only [mm,a5a,a4a]))),?_⟩)|(show _∧_∧_∧GoW ..;refine ⟨rfl,by (simp only [mm,a5a,a4a]),(fun H hI=>by (try dsimp only at hI);simp only [G,Z,Y,Gx,vV,simprocAttr,fb2,fb3,fb9,c2a,b7a,c8a,d4a,d5a,h8a,mm,hoy,hcy,ho1,hc1,p9a,hc,q6a hi,Tok.c,hbig,Bool.not_false,w1e,wrA,wrB,hI]),?_⟩))|(refine GoW.c o3b (by rfl) (by rfl) rfl ?_;(refine a3a.b2a (hq _) ?_);refine ⟨by (first|exact fun h=>absurd h (by decide)|(intro _;(simp only [mm,a5a,a4a]))),?_⟩)|(refine GoR.c o3b (by rfl) (by rfl) rfl ?_;(refine a3a.b2a (hq _) ?_))|(refine GoW.c x8c (by rfl) (by rfl) rfl ?_;(refine a3a.b2a (hm _) ?_);refine ⟨by (first|exact fun h=>absurd h (by decide)|(intro _;(simp only [mm,a5a,a4a]))),?_⟩)|(refine GoR.c x8c (by rfl) (by rfl) rfl ?_;(refine a3a.b2a (hm _) ?_))|(refine GoW.call (f:=g) (by decide) (by rfl) rfl hgf hgn hgb rfl ?_;refine a3a.b2a (hp1 _) ?_;refine ⟨by (first | exact fun h=>absurd h (by decide) | (intro _;simp only [mm,a5a,a4a])),?_⟩)|refine GoR.s (by rfl) rfl rfl ?_|refine GoW.s (by rfl) rfl rfl (by (first|exact fun h=>absurd h (by decide)|(intro _;(simp only [mm,a5a,a4a])))) ?_|(refine GoR.b1a rfl (fun hc => ?_) (fun hc => ?_)<;>simp only [hc])|refine Go.b0a rfl (fun hc => ?_) (fun hc => ?_))
    refine Go.lpN ?_
    refine Go.keep [(0,.ptr o 0),(1,.fn (.func g) [.ptr o 0] []),(2,.sl own 1 sg.length (sg.map .str)),(6,.ptr n0 0),(7,.ptr (n0+1) 0)] (.cons .refl (.cons .refl (.cons .refl (.cons .refl (.cons .refl (.nil)))))) ?_
    refine next (fu,.mk l[i].t ⟨#[]⟩ 0 [.mk op nm k ks,.mk op1 nm1 k1 ks1],_,st1,_) (Nat.lt_succ_self _) ⟨hb1,hyy _,hr⟩
  ·rw [if_neg hc] at hr
   cases hr
   clear next
   have hc0:(e==0&&isT l i sg)=false:=by
    rw [Bool.eq_false_iff]
    intro h
    simp only [Bool.and_eq_true,beq_iff_eq] at h
    exact hc h
   by_cases he:e=0
   ·subst he
    have hc1:isT l i sg=false:=by simpa using hc0
    repeat' (first|refine Go.a rfl ?_|refine Go.rg ?_|refine GoR.nil ?_|refine Go.ret ?_|refine Go.b rfl ?_|refine Go.rgS dmx (by decide) ?_|refine Go.rgD [1] (fun _=>True) dmx (by decide) 4 (by decide) (by trivial) ?_|refine GoW.nil rfl ?_|((first|refine GoR.o (by rfl) (by rfl) ?_|refine GoW.o (by rfl) (by rfl) ?_|refine GoW.rd (by rfl) (by rfl) ?_);(conv=>arg 1;simp only [G,Z,Y,Gx,vV,simprocAttr,fb2,fb3,fb9,c2a,b7a,c8a,d4a,d5a,h8a,mm,hoy,hcy,p9a,hc1]);first|show GoR ..|(show _∧GoW ..;refine ⟨by exact fun _=>trivial,?_⟩)|(show _∧_∧_∧GoW ..;refine ⟨rfl,by trivial,(fun H _=>by simp only [G,Z,Y,Gx,vV,simprocAttr,fb2,fb3,fb9,c2a,b7a,c8a,d4a,d5a,h8a,mm,hoy,hcy,p9a,hc1]),?_⟩))|(refine GoW.c o3b (by rfl) (by rfl) rfl ?_;(refine a3a.b2a (hq _) ?_);refine ⟨by exact fun _=>trivial,?_⟩)|(refine GoR.c o3b (by rfl) (by rfl) rfl ?_;(refine a3a.b2a (hq _) ?_))|refine GoR.s (by rfl) rfl rfl ?_|refine GoW.s (by rfl) rfl rfl (by exact fun _=>trivial) ?_|(refine GoR.b1a rfl (fun hc => ?_) (fun hc => ?_)<;>simp only [hc])|refine Go.b0a rfl (fun hc => ?_) (fun hc => ?_))
    refine ⟨(by first | exact .inl rfl | exact .inr rfl),fin ?_⟩
    rw [g3a (fn:=Tryz.f192) rfl]
    simp only [a0a,a2a,a1a,G,Z,Y,Gx,vV,simprocAttr,fb2,fb3,fb9,c2a,b7a,c8a,d4a,d5a,h8a,mm,hoy,hcy]
    exact ⟨_,rfl,n9a l _,.agg' (w0b (n:=.mk op nm k ks) hky),s3a _⟩
   ·repeat' (first|refine Go.a rfl ?_|refine Go.rg ?_|refine GoR.nil ?_|refine Go.ret ?_|refine Go.b rfl ?_|refine Go.rgS dmx (by decide) ?_|refine Go.rgD [1] (fun _=>True) dmx (by decide) 4 (by decide) (by trivial) ?_|refine GoW.nil rfl ?_|((first|refine GoR.o (by rfl) (by rfl) ?_|refine GoW.o (by rfl) (by rfl) ?_|refine GoW.rd (by rfl) (by rfl) ?_);(conv=>arg 1;simp only [G,Z,Y,Gx,vV,simprocAttr,fb2,fb3,fb9,c2a,b7a,c8a,d4a,d5a,h8a,mm,hoy,hcy,p9a,show (e==0)=false by simp [he]]);first|show GoR ..|(show _∧GoW ..;refine ⟨by exact fun _=>trivial,?_⟩)|(show _∧_∧_∧GoW ..;refine ⟨rfl,by trivial,(fun H _=>by simp only [G,Z,Y,Gx,vV,simprocAttr,fb2,fb3,fb9,c2a,b7a,c8a,d4a,d5a,h8a,mm,hoy,hcy,p9a,show (e==0)=false by simp [he]]),?_⟩))|(refine GoW.c o3b (by rfl) (by rfl) rfl ?_;(refine a3a.b2a (hq _) ?_);refine ⟨by exact fun _=>trivial,?_⟩)|(refine GoR.c o3b (by rfl) (by rfl) rfl ?_;(refine a3a.b2a (hq _) ?_))|refine GoR.s (by rfl) rfl rfl ?_|refine GoW.s (by rfl) rfl rfl (by exact fun _=>trivial) ?_|(refine GoR.b1a rfl (fun hc => ?_) (fun hc => ?_)<;>simp only [hc])|refine Go.b0a rfl (fun hc => ?_) (fun hc => ?_))
    refine ⟨(by first | exact .inl rfl | exact .inr rfl),fin ?_⟩
    rw [g3a (fn:=Tryz.f192) rfl]
    simp only [a0a,a2a,a1a,G,Z,Y,Gx,vV,simprocAttr,fb2,fb3,fb9,c2a,b7a,c8a,d4a,d5a,h8a,mm,hoy,hcy]
    exact ⟨_,rfl,n9a l _,.agg' (w0b (n:=.mk op nm k ks) hky),s3a _⟩
 intro fu
 induction fu with
 | zero=>intro nd st' _ h;simp [g7b] at h
 | succ fu ih=>
  rintro nd ⟨i,n,e⟩ hb' h
  unfold g7b at h
  by_cases hc:e=0∧isT l i sg=true
  ·rw [if_pos hc] at h
   obtain ⟨hi,_⟩:=m3c hc.2
   have hn:=hb'.2.2 hc.1
   dsimp only at hn h
   by_cases hbig:32<n+1
   ·rw [if_pos hbig] at h
    cases h
    exact ⟨by dsimp only;omega,by dsimp only;omega,nz4⟩
   ·rw [if_neg hbig] at h
    cases hr2:part ⟨i+1,n+1,0⟩ with
    | none=>rw [hr2] at h;cases h
    | some r2=>
     rw [hr2,Option.bind_some] at h
     exact ih _ _ (hp.at hF [] ⟨by dsimp only;omega,by dsimp only;omega,fun _=>by dsimp only;omega⟩ hr2).1 h
  ·rw [if_neg hc] at h
   cases h
   exact hb'
end Go.Proofs.DgT
