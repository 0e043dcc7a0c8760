/- A tree's words are read as the tree. -/
import Derived.Test.YtcdijoaabbjioaaGreatDoorDgP9x
import Derived.Test.YtcdijoaabbjioaaGreatDoorDgT1
import Derived.Test.YtcdijoaabbjioaaGreatDoorDgW1x
set_option linter.unusedSimpArgs false
set_option linter.unusedVariables false
namespace Go.Proofs.DgT
open Go Go.DM
set_option maxRecDepth 100000
abbrev Wd:=Int×ByteArray×Int
def b7d (t:Tok):Wd:=(t.k,t.t,t.n)
def sgW (s:ByteArray):Wd:=(3,s,0)
def q2c (op nm:ByteArray) (n:Int) (ws:List (List Wd)):List Wd:=
 if op=(⟨#[110,117,109]⟩:ByteArray) then [(2,o9a n,n)] else if op=(⟨#[110,97,109,101]⟩:ByteArray) then [(1,nm,0)] else
 match ws with
 | [a]=>sgW (⟨#[45]⟩:ByteArray)::a
 | [a,b]=>sgW (⟨#[40]⟩:ByteArray)::(a++(sgW op::(b++[sgW (⟨#[41]⟩:ByteArray)])))
 | _=>[]
def e0a:Nd→List Wd
 | .mk op nm n ks=>q2c op nm n (ks.attach.map fun ⟨k,_⟩=>e0a k)
termination_by n=>SizeOf.sizeOf n
decreasing_by exact Nd.p0b ‹_›
theorem z3b {op nm:ByteArray} {n:Int} {ks:List Nd} : e0a (.mk op nm n ks)=q2c op nm n (ks.map e0a):=by
 rw [e0a]
 simp
def n8a:Nd→Nd
 | .mk op nm n ks=>if op=(⟨#[110,117,109]⟩:ByteArray) then .mk (⟨#[110,117,109]⟩:ByteArray) ⟨#[]⟩ n [] else if op=(⟨#[110,97,109,101]⟩:ByteArray) then .mk (⟨#[110,97,109,101]⟩:ByteArray) nm 0 [] else .mk op ⟨#[]⟩ 0 (ks.attach.map fun ⟨k,_⟩=>n8a k)
termination_by n=>SizeOf.sizeOf n
decreasing_by exact Nd.p0b ‹_›
theorem k4c {op nm:ByteArray} {n:Int} {ks:List Nd} : n8a (.mk op nm n ks)=if op=(⟨#[110,117,109]⟩:ByteArray) then .mk (⟨#[110,117,109]⟩:ByteArray) ⟨#[]⟩ n [] else if op=(⟨#[110,97,109,101]⟩:ByteArray) then .mk (⟨#[110,97,109,101]⟩:ByteArray) nm 0 [] else .mk op ⟨#[]⟩ 0 (ks.map n8a):=by
 rw [n8a]
 simp
theorem t5a (n:Nd) (hw:Whole n):o7a (n8a n) n=true:=by
 induction n using Nd.ind with
 | h op nm n ks ih=>
  rw [k4c]
  rcases p1a hw with ⟨rfl,rfl,_,_⟩ | ⟨rfl,rfl,_⟩ | ⟨k,rfl,rfl,hk⟩ | ⟨k,k2,hq,hop,rfl,hk,hk2⟩
  ·rw [if_pos rfl,d4b,u6a rfl (fun i h _=>absurd h (by simp))]
   simp
  ·rw [if_neg (by decide),if_pos rfl,d4b,u6a rfl (fun i h _=>absurd h (by simp))]
   simp
  ·rw [if_neg (by decide),if_neg (by decide),d4b,u6a (by simp)]
   ·rfl
   ·intro i h1 h2
    have:i=0:=by simp at h2;omega
    subst this
    exact ih k (by simp) hk
  ·have n1:op≠(⟨#[110,117,109]⟩:ByteArray):=by rcases hop with rfl | rfl | rfl | rfl | rfl<;>decide
   have n2:op≠(⟨#[110,97,109,101]⟩:ByteArray):=by rcases hop with rfl | rfl | rfl | rfl | rfl<;>decide
   rw [if_neg n1,if_neg n2,d4b,u6a (by simp)]
   ·simp [n1,n2]
   ·intro i h1 h2
    have:i=0∨i=1:=by simp at h2;omega
    rcases this with rfl | rfl
    ·exact ih k (by simp) hk
    ·exact ih k2 (by simp) hk2
theorem c5e {k:Nat} (h:k<10):v1a (UInt8.ofNat (48+k))=true∧(UInt8.ofNat (48+k)).toNat - 48=k:=by
 have e:(UInt8.ofNat (48+k)).toNat=48+k:=by simp;omega
 unfold v1a
 rw [e]
 simp
 omega
theorem i9f : ∀ (f u:Nat),u≤f→(∀ b∈Lib.decDigits u,v1a b=true)∧e2d (Lib.decDigits u)=u∧Lib.decDigits u≠[]∧(1≤u → ∀ b,(Lib.decDigits u).head?=some b→b≠48)
 | f,u,h=>by
  by_cases h1:u<10
  ·rw [Lib.decDigits_one h1]
   obtain ⟨d1,d2⟩:=c5e h1
   refine ⟨by simpa using d1,by simpa [e2d] using d2,by simp,fun hu b hb => ?_⟩
   simp only [List.head?_cons,Option.some.injEq] at hb
   rintro rfl
   have:=congrArg UInt8.toNat hb
   have e:(UInt8.ofNat (48+u)).toNat=48+u:=by simp;omega
   rw [e] at this
   have:48+u=48:=this
   omega
  ·match f,h with
   | 0,h=>omega
   | f+1,h=>
    obtain ⟨a1,a2,a3,a4⟩:=i9f f (u/10) (by omega)
    have e:Lib.decDigits u=Lib.decDigits (u/10)++[UInt8.ofNat (48+u%10)]:=by rw [Lib.decDigits,dif_neg h1]
    obtain ⟨d1,d2⟩:=c5e (Nat.mod_lt u (by decide:0<10))
    rw [e]
    refine ⟨fun b hb => ?_,?_,by simp,fun _ b hb => ?_⟩
    ·rcases List.mem_append.1 hb with hb | hb
     ·exact a1 b hb
     ·rw [List.mem_singleton] at hb;rw [hb];exact d1
    ·unfold e2d at a2 ⊢
     rw [List.foldl_append,a2]
     simp only [List.foldl_cons,List.foldl_nil,d2]
     omega
    ·have hha:(Lib.decDigits (u/10)++[UInt8.ofNat (48+u%10)]).head?=(Lib.decDigits (u/10)).head?:=by
      cases hq:Lib.decDigits (u/10) with
      | nil=>exact absurd hq a3
      | cons x xs=>rfl
     rw [hha] at hb
     exact a4 (by omega) b hb
theorem x1e {p:UInt8→Bool} {w:List UInt8} (h : ∀ b∈w,p b=true):w.takeWhile p=w:=by
 induction w with
 | nil=>rfl
 | cons b w ih=>rw [List.takeWhile_cons,if_pos (h b (by simp)),ih fun x hx=>h x (by simp [hx])]
def w1a (rest:List UInt8):Prop := ∀ c,rest.head?=some c→g6b c=false
theorem t4d {p:UInt8→Bool} {w rest:List UInt8} (h : ∀ b∈w,p b=true) (hr : ∀ c,rest.head?=some c→p c=false):(w++rest).takeWhile p=w:=by
 have:=q1a (p:=p) hr w
 rwa [x1e h] at this
theorem r4b {w rest:List UInt8} {k:Int} {v:Nat} (a:Nat) (hne:w≠[]) (hb:w.head?≠some 32) (h:j3a (w++rest) = .ok (k,w.length,v)) :
  a6b (w++rest) a=(a6b rest (a+w.length)).map (⟨k,⟨w.toArray⟩,v,a⟩ :: ·):=by
 match w,hne with
 | b::w,_=>
  have hb':b≠32:=fun e=>hb (by rw [e];rfl)
  have:=z5c (a:=a) hb' h
  rw [show (b::(w.append rest))=(b::w)++rest from rfl,List.drop_left,List.take_left] at this
  exact this
theorem n1d {n:Int} (h0:0≤n) (hi:d6d n) {rest:List UInt8} (hr:w1a rest) (a:Nat) :
  a6b ((o9a n).data.toList++rest) a=(a6b rest (a+(o9a n).size)).map (⟨2,o9a n,n,a⟩ :: ·):=by
 obtain ⟨u,rfl⟩ : ∃ u:Nat,n=(u:Int):=⟨n.toNat,by omega⟩
 have e:(o9a (u:Int)).data.toList=Lib.decDigits u:=by
  show (Lib.itoa (u:Int)).toArray.toList=_
  rw [List.toList_toArray]
  unfold Lib.itoa
  rw [if_neg (by omega),Int.toNat_natCast]
 have e2:o9a (u:Int)=⟨(Lib.decDigits u).toArray⟩:=by rw [← e]
 have e3:(o9a (u:Int)).size=(Lib.decDigits u).length:=by rw [e2,d3c]
 obtain ⟨d1,d2,d3,d4⟩:=i9f u u (Nat.le_refl _)
 have hdr : ∀ c,rest.head?=some c→v1a c=false:=fun c hc=>by
  have:=hr c hc
  unfold g6b at this
  simp only [Bool.or_eq_false_iff] at this
  exact this.2
 have hlr : ∀ c,rest.head?=some c→v5b c=false:=fun c hc=>by
  have:=hr c hc
  unfold g6b at this
  simp only [Bool.or_eq_false_iff] at this
  exact this.1
 have htw:=t4d d1 hdr
 rw [e,e3,e2]
 have hone:j3a (Lib.decDigits u++rest) = .ok (2,(Lib.decDigits u).length,u):=by
  generalize hw:Lib.decDigits u=w at *
  match w,d3 with
  | b::w,_=>
   have hb:=d1 b (by simp)
   have hnl:v5b b=false:=by
    unfold v1a at hb
    unfold v5b
    simp only [Bool.and_eq_true,decide_eq_true_eq] at hb
    rw [decide_eq_false (by omega),Bool.false_and]
   rw [List.cons_append] at htw ⊢
   unfold j3a
   dsimp only
   rw [htw,if_neg (by rw [hnl];decide),if_pos hb,if_neg,d2,if_pos (by have:=hi.2;omega)]
   rintro (q | ⟨q1,q2⟩)
   ·have e5:(b::(w++rest))[(b::w).length]?=rest.head?:=by
     rw [← List.cons_append,List.getElem?_append_right (Nat.le_refl _),Nat.sub_self]
     cases rest<;>rfl
    rw [e5] at q
    cases hh:rest.head? with
    | none=>rw [hh] at q;cases q
    | some c=>rw [hh] at q;have:=hlr c hh;simp only [Option.any_some] at q;rw [q] at this;cases this
   ·refine d4 ?_ b rfl q2
    rcases Nat.eq_zero_or_pos u with hz | hz
    ·subst hz
     have:Lib.decDigits 0=[UInt8.ofNat 48]:=Lib.decDigits_one (by decide)
     rw [this] at hw
     have:=congrArg List.length hw
     simp only [List.length_cons,List.length_nil] at this q1
     omega
    ·exact hz
 exact r4b a d3 (by
  intro hh
  cases hq:Lib.decDigits u with
  | nil=>exact d3 hq
  | cons b w=>
   rw [hq] at hh d1
   simp only [List.head?_cons,Option.some.injEq] at hh
   have:=d1 b (by simp)
   rw [hh] at this
   exact absurd this (by decide)) hone
theorem z6c {nm:ByteArray} (h:l6a nm=true) {rest:List UInt8} (hr:w1a rest) (a:Nat) :
  a6b (nm.data.toList++rest) a=(a6b rest (a+nm.size)).map (⟨1,nm,0,a⟩ :: ·):=by
 unfold l6a at h
 simp only [Bool.and_eq_true,decide_eq_true_eq] at h
 obtain ⟨⟨⟨h1,h8⟩,hf⟩,hall⟩:=h
 have e3:nm.size=nm.data.toList.length:=rfl
 have m8f:nm.data[0]?=nm.data.toList.head?:=by
  rw [← Array.getElem?_toList,List.head?_eq_getElem?]
 rw [m8f] at hf
 have hall' : ∀ b∈nm.data.toList,g6b b=true:=fun b hb=>List.all_eq_true.1 hall b hb
 have htw:=t4d hall' hr
 rw [e3] at h1 h8 ⊢
 have en:nm=⟨nm.data.toList.toArray⟩:=rfl
 have hone:j3a (nm.data.toList++rest) = .ok (1,nm.data.toList.length,0):=by
  generalize nm.data.toList=w at *
  match w,h1 with
  | b::w,_=>
   have hb:v5b b=true:=hf
   rw [List.cons_append] at htw ⊢
   unfold j3a
   dsimp only
   rw [htw,if_pos hb,if_neg (by omega)]
 have:=r4b (rest:=rest) a (by intro q;rw [q] at h1;simp at h1) (by
  intro hh
  rw [hh] at hf
  exact absurd hf (by decide)) hone
 exact this
theorem r5b {c:UInt8} (h:c=40∨c=41∨c=43∨c=45∨c=42∨c=47∨c=37) (rest:List UInt8) (a:Nat) :
  a6b (c::rest) a=(a6b rest (a+1)).map (⟨3,⟨#[c]⟩,0,a⟩ :: ·):=by
 have hone:j3a ([c]++rest) = .ok (3,[c].length,0):=by
  rcases h with rfl | rfl | rfl | rfl | rfl | rfl | rfl<;>rfl
 exact r4b (w:=[c]) (v:=0) a (by simp) (by
  rcases h with rfl | rfl | rfl | rfl | rfl | rfl | rfl<;>decide) hone
theorem v5c {r:List UInt8} : w1a (32::r):=by
 intro c hc
 simp only [List.head?_cons,Option.some.injEq] at hc
 subst hc
 rfl
theorem r4d {r:List UInt8} : w1a (41::r):=by
 intro c hc
 simp only [List.head?_cons,Option.some.injEq] at hc
 subst hc
 rfl
theorem n3d (n:Nd) (hw:Whole n) : ∀ (rest:List UInt8) (a:Nat),w1a rest → ∃ (ts:List Tok) (a':Nat),a6b ((textS n).data.toList++rest) a=(a6b rest a').map (ts ++ ·)∧ts.map b7d=e0a n:=by
 induction n using Nd.ind with
 | h op nm n ks ih=>
  intro rest a hr
  rw [r9b,z3b]
  rcases p1a hw with ⟨rfl,rfl,h0,hi⟩ | ⟨rfl,rfl,hn⟩ | ⟨k,rfl,rfl,hk⟩ | ⟨k,k2,hq,hop,rfl,hk,hk2⟩
  ·exact ⟨[⟨2,o9a n,n,a⟩],_,n1d h0 hi hr a,rfl⟩
  ·exact ⟨[⟨1,nm,0,a⟩],_,z6c hn hr a,rfl⟩
  ·obtain ⟨ts,a',h1,h2⟩:=ih k (by simp) hk rest (a+1) hr
   refine ⟨⟨3,(⟨#[45]⟩:ByteArray),0,a⟩::ts,a',?_,?_⟩
   ·have e:(p5c (⟨#[110,101,103]⟩:ByteArray) nm n ([k].map textS)).data.toList++rest=45::((textS k).data.toList++rest):=by
     show (((⟨#[45]⟩:ByteArray)++textS k:ByteArray)).data.toList++rest=_
     simp
    rw [e,r5b (by decide),h1,map_map]
    rfl
   ·show b7d _::ts.map b7d=_
    rw [h2]
    rfl
  ·obtain ⟨c,hc,hcs⟩ : ∃ c:UInt8,op=⟨#[c]⟩∧(c=40∨c=41∨c=43∨c=45∨c=42∨c=47∨c=37):=by
    rcases hop with rfl | rfl | rfl | rfl | rfl
    ·exact ⟨43,rfl,by decide⟩
    ·exact ⟨45,rfl,by decide⟩
    ·exact ⟨42,rfl,by decide⟩
    ·exact ⟨47,rfl,by decide⟩
    ·exact ⟨37,rfl,by decide⟩
   have e:p5c op nm n ([k,k2].map textS)=((((((⟨#[40]⟩:ByteArray)++textS k)++(⟨#[32]⟩:ByteArray))++op)++(⟨#[32]⟩:ByteArray))++textS k2)++(⟨#[41]⟩:ByteArray):=by
    rcases hop with rfl | rfl | rfl | rfl | rfl<;>rfl
   have ew:q2c op nm n ([k,k2].map e0a)=sgW (⟨#[40]⟩:ByteArray)::(e0a k++(sgW op::(e0a k2++[sgW (⟨#[41]⟩:ByteArray)]))):=by
    rcases hop with rfl | rfl | rfl | rfl | rfl<;>rfl
   rw [e,ew]
   subst hc
   obtain ⟨ts,a1,h1,h2⟩:=ih k (by simp) hk (32::c::32::((textS k2).data.toList++(41::rest))) (a+1) v5c
   obtain ⟨ts2,a2,h3,h4⟩:=ih k2 (by simp) hk2 (41::rest) (a1+1+1+1) r4d
   have el:((((((((⟨#[40]⟩:ByteArray)++textS k)++(⟨#[32]⟩:ByteArray))++(⟨#[c]⟩:ByteArray))++(⟨#[32]⟩:ByteArray))++textS k2)++(⟨#[41]⟩:ByteArray):ByteArray)).data.toList++rest=40::((textS k).data.toList++(32::c::32::((textS k2).data.toList++(41::rest)))):=by simp
   refine ⟨⟨3,(⟨#[40]⟩:ByteArray),0,a⟩::(ts++(⟨3,⟨#[c]⟩,0,a1+1⟩::(ts2++[⟨3,(⟨#[41]⟩:ByteArray),0,a2⟩]))),a2+1,?_,?_⟩
   ·rw [el,r5b (by decide),h1,d1b,r5b hcs,d1b,h3,r5b (by decide)]
    simp only [map_map]
    congr 1
    funext x
    simp
   ·simp only [List.map_cons,List.map_append,List.map_nil,h2,h4]
    rfl
def Match (l:List Tok) (i:Nat) (ws:List Wd):Prop := ∀ j (h:j<ws.length),∃ h2:i+j<l.length,b7d l[i+j]=ws[j]
theorem Match.app {l:List Tok} {i:Nat} {xs ys:List Wd} (h:Match l i (xs++ys)):Match l i xs∧Match l (i+xs.length) ys:=by
 refine ⟨fun j hj => ?_,fun j hj => ?_⟩
 ·obtain ⟨h2,e⟩:=h j (by simp;omega)
  exact ⟨h2,by rw [e,List.getElem_append_left hj]⟩
 ·obtain ⟨h2,e⟩:=h (xs.length+j) (by simp;omega)
  refine ⟨by omega,?_⟩
  have e2:(xs++ys)[xs.length+j]'(by simp;omega)=ys[j]:=by
   rw [List.getElem_append_right (by omega)]
   simp
  rw [e2] at e
  rw [← e]
  congr 2
  omega
theorem Match.head {l:List Tok} {i:Nat} {x:Wd} {xs:List Wd} (h:Match l i (x::xs)):(∃ h2:i<l.length,b7d l[i]=x)∧Match l (i+1) xs:=by
 have:=Match.app (xs:=[x]) (ys:=xs) h
 obtain ⟨h2,e⟩:=this.1 0 (by simp)
 exact ⟨⟨h2,e⟩,this.2⟩
theorem r2b {l:List Tok} {i:Nat} (h:i<l.length) {s:ByteArray} (e:b7d l[i]=sgW s) (sg:List ByteArray):isT l i sg=sg.any (fun x=>decide (s=x)):=by
 unfold isT
 rw [List.getElem?_eq_getElem h]
 have h1:l[i].k=3:=congrArg (·.1) e
 have h2:l[i].t=s:=congrArg (·.2.1) e
 dsimp only
 rw [h1,h2]
 simp
theorem u3a {l:List Tok} {part:St→Option (Nd×St)} {sg:List ByteArray} {g:Nat} {nd:Nd} {st:St} (h:isT l st.i sg=false) (hg:0<g):g7b l part sg g nd st=some (nd,st):=by
 obtain ⟨g,rfl⟩ : ∃ k,g=k+1:=⟨g - 1,by omega⟩
 unfold g7b
 rw [if_neg]
 rintro ⟨_,q⟩
 rw [h] at q
 cases q
theorem n8d {l:List Tok} {part:St→Option (Nd×St)} {sg:List ByteArray} {g i m:Nat} {nd:Nd} (h:isT l i sg=true) (hm:m+1≤32) {r:Nd×St} (hr:part ⟨i+1,m+1,0⟩=some r) :
  g7b l part sg (g+1) nd ⟨i,m,0⟩=g7b l part sg g (.mk (opAt l i) ⟨#[]⟩ 0 [nd,r.1]) r.2:=by
 conv=>lhs;unfold g7b
 rw [if_pos ⟨rfl,h⟩]
 dsimp only
 rw [if_neg (by omega),hr,Option.bind_some]
theorem w6e {nd nd':Nd} {a a' b b':Nat} (h1:nd=nd') (h2:a=a') (h3:b=b'):some (nd,(⟨a,b,0⟩:St))=some (nd',(⟨a',b',0⟩:St)):=by subst h1 h2 h3;rfl
theorem q3c (n:Nd) (hw:Whole n):0<(e0a n).length:=by
 obtain ⟨op,nm,n,ks⟩:=n
 rw [z3b]
 rcases p1a hw with ⟨rfl,rfl,_,_⟩ | ⟨rfl,rfl,_⟩ | ⟨k,rfl,rfl,hk⟩ | ⟨k,k2,hq,hop,rfl,hk,hk2⟩
 ·exact Nat.one_pos
 ·exact Nat.one_pos
 ·exact Nat.succ_pos _
 ·rcases hop with rfl | rfl | rfl | rfl | rfl<;>exact Nat.succ_pos _
theorem w8d {l:List Tok} (n:Nd) (hw:Whole n) : ∀ (f i m:Nat),Match l i (e0a n)→i≤l.length→l.length - i<f→m+cnt n≤32→j7d l f ⟨i,m,0⟩=some (n8a n,⟨i+(e0a n).length,m+cnt n,0⟩):=by
 induction n using Nd.ind with
 | h op nm n ks ih=>
  intro f i m hM hi hf hc
  obtain ⟨f,rfl⟩ : ∃ k,f=k+1:=⟨f - 1,by omega⟩
  rw [u1b,if_neg (fun q=>q rfl)]
  rw [z3b] at hM ⊢
  rw [z9a] at hc ⊢
  rw [k4c]
  dsimp only
  rcases p1a hw with ⟨rfl,rfl,h0,hin⟩ | ⟨rfl,rfl,hn⟩ | ⟨k,rfl,rfl,hk⟩ | ⟨k,k2,hq,hop,rfl,hk,hk2⟩
  ·have hM':Match l i [(2,o9a n,n)]:=hM
   obtain ⟨⟨h2,e⟩,_⟩:=hM'.head
   have e1:l[i].k=2:=congrArg (·.1) e
   have e2:l[i].n=n:=congrArg (·.2.2) e
   simp only [cnts,List.map_nil,List.sum_nil] at hc ⊢
   rw [List.getElem?_eq_getElem h2]
   dsimp only
   rw [if_neg (by rw [e1];decide),if_neg (by omega),if_pos (by first | trivial | rfl)]
   unfold f4c
   rw [if_pos e1,e2]
   rfl
  ·have hM':Match l i [(1,nm,0)]:=hM
   obtain ⟨⟨h2,e⟩,_⟩:=hM'.head
   have e1:l[i].k=1:=congrArg (·.1) e
   have e2:l[i].t=nm:=congrArg (·.2.1) e
   simp only [cnts,List.map_nil,List.sum_nil] at hc ⊢
   rw [List.getElem?_eq_getElem h2]
   dsimp only
   rw [if_neg (by rw [e1];decide),if_neg (by omega),if_neg (by decide),if_pos (by first | trivial | rfl)]
   unfold f4c
   rw [if_neg (by rw [e1];decide),e2]
   rfl
  ·have hM':Match l i (sgW (⟨#[45]⟩:ByteArray)::e0a k):=hM
   obtain ⟨⟨h2,e⟩,hM2⟩:=hM'.head
   have e1:l[i].k=3:=congrArg (·.1) e
   have e2:l[i].t=(⟨#[45]⟩:ByteArray):=congrArg (·.2.1) e
   simp only [cnts,List.map_cons,List.map_nil,List.sum_cons,List.sum_nil] at hc ⊢
   rw [List.getElem?_eq_getElem h2]
   dsimp only
   rw [if_pos e1,if_neg (by rw [e2];decide),if_pos e2,if_neg (by omega),ih k (by simp) hk f (i+1) (m+1) hM2 h2 (by omega) (by omega),Option.map_some,if_neg (by decide),if_neg (by decide)]
   have el:(q2c (⟨#[110,101,103]⟩:ByteArray) nm n [e0a k]).length=1+(e0a k).length:=by
    show (sgW (⟨#[45]⟩:ByteArray)::e0a k).length=_
    rw [List.length_cons];omega
   rw [el]
   exact w6e rfl (by omega) (by omega)
  ·have ew:q2c op nm n ([k,k2].map e0a)=sgW (⟨#[40]⟩:ByteArray)::(e0a k++(sgW op::(e0a k2++[sgW (⟨#[41]⟩:ByteArray)]))):=by
    rcases hop with rfl | rfl | rfl | rfl | rfl<;>rfl
   have n1:op≠(⟨#[110,117,109]⟩:ByteArray):=by rcases hop with rfl | rfl | rfl | rfl | rfl<;>decide
   have n2:op≠(⟨#[110,97,109,101]⟩:ByteArray):=by rcases hop with rfl | rfl | rfl | rfl | rfl<;>decide
   rw [ew] at hM ⊢
   obtain ⟨⟨h2,e⟩,hM2⟩:=hM.head
   obtain ⟨hMa,hM3⟩:=hM2.app
   obtain ⟨⟨h4,e4⟩,hM5⟩:=hM3.head
   obtain ⟨hMb,hM6⟩:=hM5.app
   obtain ⟨⟨h7,e7⟩,_⟩:=hM6.head
   have e1:l[i].k=3:=congrArg (·.1) e
   have e2:l[i].t=(⟨#[40]⟩:ByteArray):=congrArg (·.2.1) e
   have p1:=q3c k hk
   have p2:=q3c k2 hk2
   simp only [cnts,List.map_cons,List.map_nil,List.sum_cons,List.sum_nil] at hc
   have hca:cnts [k,k2]=cnt k+cnt k2:=by simp [cnts]
   rw [hca]
   rw [List.getElem?_eq_getElem h2]
   dsimp only
   rw [if_pos e1,if_pos e2,if_neg n1,if_neg n2]
   have ha:=ih k (by simp) hk f (i+1) m hMa h2 (by omega) (by omega)
   have hb:=ih k2 (by simp) hk2 f (i+1+(e0a k).length+1) (m+cnt k+1) hMb h4 (by omega) (by omega)
   have j8f:opAt l (i+1+(e0a k).length)=op:=by
    unfold opAt
    rw [List.getElem?_eq_getElem h4]
    exact congrArg (·.2.1) e4
   have t1:=r2b h4 e4
   have t2:=r2b h7 e7
   have t2m:isT l (i+1+(e0a k).length+1+(e0a k2).length) mulS=false:=by rw [t2];rfl
   have t2a:isT l (i+1+(e0a k).length+1+(e0a k2).length) g4d=false:=by rw [t2];rfl
   have t2e:isT l (i+1+(e0a k).length+1+(e0a k2).length) y3e=true:=by rw [t2];rfl
   obtain ⟨g,rfl⟩ : ∃ g,f=g+1:=⟨f - 1,by omega⟩
   have hsum:sumF l (g+1) ⟨i+1,m,0⟩=some (.mk op ⟨#[]⟩ 0 [n8a k,n8a k2],⟨i+1+(e0a k).length+1+(e0a k2).length,m+cnt k+1+cnt k2,0⟩):=by
    unfold sumF
    by_cases hmul:op=(⟨#[42]⟩:ByteArray)∨op=(⟨#[47]⟩:ByteArray)∨op=(⟨#[37]⟩:ByteArray)
    ·have tm:isT l (i+1+(e0a k).length) mulS=true:=by rw [t1];rcases hmul with rfl | rfl | rfl<;>rfl
     have f5f:u2d l (g+1) ⟨i+1,m,0⟩=some (.mk op ⟨#[]⟩ 0 [n8a k,n8a k2],⟨i+1+(e0a k).length+1+(e0a k2).length,m+cnt k+1+cnt k2,0⟩):=by
      unfold u2d j1b
      rw [ha,Option.bind_some]
      dsimp only
      rw [n8d tm (by omega) hb,j8f]
      exact u3a t2m (by omega)
     unfold j1b
     rw [f5f,Option.bind_some]
     exact u3a t2a (by omega)
    ·have hadd:op=(⟨#[43]⟩:ByteArray)∨op=(⟨#[45]⟩:ByteArray):=by
      rcases hop with h | h | h | h | h
      ·exact .inl h
      ·exact .inr h
      ·exact absurd (.inl h) hmul
      ·exact absurd (.inr (.inl h)) hmul
      ·exact absurd (.inr (.inr h)) hmul
     have tm:isT l (i+1+(e0a k).length) mulS=false:=by rw [t1];rcases hadd with rfl | rfl<;>rfl
     have ta:isT l (i+1+(e0a k).length) g4d=true:=by rw [t1];rcases hadd with rfl | rfl<;>rfl
     have f5f:u2d l (g+1) ⟨i+1,m,0⟩=some (n8a k,⟨i+1+(e0a k).length,m+cnt k,0⟩):=by
      unfold u2d j1b
      rw [ha,Option.bind_some]
      exact u3a tm (by omega)
     have f6f:u2d l (g+1) ⟨i+1+(e0a k).length+1,m+cnt k+1,0⟩=some (n8a k2,⟨i+1+(e0a k).length+1+(e0a k2).length,m+cnt k+1+cnt k2,0⟩):=by
      unfold u2d j1b
      rw [hb,Option.bind_some]
      exact u3a t2m (by omega)
     unfold j1b
     rw [f5f,Option.bind_some]
     dsimp only
     rw [n8d ta (by omega) f6f,j8f]
     exact u3a t2a (by omega)
   rw [hsum,Option.map_some]
   unfold k6c
   rw [if_neg (fun q=>q rfl),if_pos t2e]
   dsimp only
   have el:(sgW (⟨#[40]⟩:ByteArray)::(e0a k++(sgW op::(e0a k2++[sgW (⟨#[41]⟩:ByteArray)])))).length=1+(e0a k).length+1+(e0a k2).length+1:=by
    simp only [List.length_cons,List.length_append,List.length_nil]
    omega
   rw [el]
   exact w6e rfl (by omega) (by omega)
end Go.Proofs.DgT
