/- A fold's words are read as the fold. -/
import Derived.Test.YtcdijoaabbjioaaGreatDoorDgG30x
import Derived.Test.YtcdijoaabbjioaaGreatDoorDgG32x
import Derived.Test.YtcdijoaabbjioaaGreatDoorDgQ5
import Derived.Test.YtcdijoaabbjioaaGreatDoorDgG18x
set_option linter.unusedSimpArgs false
set_option linter.unusedVariables false
namespace Go.Proofs.DgT
open Go Go.DM
set_option maxRecDepth 100000
def l1a (s:List UInt8) (ws:List Wd) (rest:List UInt8):Prop := ∀ a:Nat,∃ (ts:List Tok) (a':Nat),a6b (s++rest) a=(a6b rest a').map (ts ++ ·)∧ts.map b7d=ws
theorem l1a.app {s1 s2 rest:List UInt8} {w1 w2:List Wd} (h1:l1a s1 w1 (s2++rest)) (h2:l1a s2 w2 rest):l1a (s1++s2) (w1++w2) rest:=by
 intro a
 obtain ⟨t1,a1,e1,m1⟩:=h1 a
 obtain ⟨t2,a2,e2,m2⟩:=h2 a1
 refine ⟨t1++t2,a2,?_,by rw [List.map_append,m1,m2]⟩
 rw [List.append_assoc,e1,e2,map_map]
 congr 1
 funext x
 simp
theorem l1a.nil {rest:List UInt8} : l1a [] [] rest:=fun a=>⟨[],a,by cases h:a6b rest a<;>simp [h,Except.map],rfl⟩
theorem l1a.blank {rest:List UInt8} : l1a [32] [] rest:=fun a=>⟨[],a+1,by
 rw [show [32]++rest=32::rest from rfl,d1b]
 cases h:a6b rest (a+1)<;>simp [Except.map],rfl⟩
theorem l1a.leaf {w rest:List UInt8} {k:Int} {v:Nat} (hne:w≠[]) (hb:w.head?≠some 32) (h:j3a (w++rest) = .ok (k,w.length,v)):l1a w [(k,⟨w.toArray⟩,(v:Int))] rest:=fun a=>⟨[⟨k,⟨w.toArray⟩,v,a⟩],_,r4b a hne hb h,rfl⟩
theorem l1a.name {nm:ByteArray} (h:l6a nm=true) {rest:List UInt8} (hr:w1a rest):l1a nm.data.toList [(1,nm,0)] rest:=fun a=>⟨[⟨1,nm,0,a⟩],_,z6c h hr a,rfl⟩
theorem l1a.num {n:Int} (h0:0≤n) (hi:d6d n) {rest:List UInt8} (hr:w1a rest):l1a (o9a n).data.toList [(2,o9a n,n)] rest:=fun a=>⟨[⟨2,o9a n,n,a⟩],_,n1d h0 hi hr a,rfl⟩
theorem l1a.sign {c:UInt8} (h:c=40∨c=41∨c=44) {rest:List UInt8} : l1a [c] [sgW ⟨#[c]⟩] rest:=by
 refine .leaf (k:=3) (v:=0) (by simp) ?_ ?_
 ·rcases h with rfl | rfl | rfl<;>decide
 ·rcases h with rfl | rfl | rfl<;>rfl
theorem l1a.op {op:ByteArray} (h:k0b op=true) {rest:List UInt8} : l1a op.data.toList [sgW op] (32::rest):=by
 unfold k0b b4b at h
 by_cases h1:op=(⟨#[61]⟩:ByteArray)
 ·subst h1;exact .leaf (w:=[61]) (k:=3) (v:=0) (by simp) (by decide) rfl
 rw [if_neg h1] at h
 by_cases h2:op=(⟨#[33,61]⟩:ByteArray)
 ·subst h2;exact .leaf (w:=[33,61]) (k:=3) (v:=0) (by simp) (by decide) rfl
 rw [if_neg h2] at h
 by_cases h3:op=(⟨#[60]⟩:ByteArray)
 ·subst h3;exact .leaf (w:=[60]) (k:=3) (v:=0) (by simp) (by decide) rfl
 rw [if_neg h3] at h
 by_cases h4:op=(⟨#[60,61]⟩:ByteArray)
 ·subst h4;exact .leaf (w:=[60,61]) (k:=3) (v:=0) (by simp) (by decide) rfl
 rw [if_neg h4] at h
 by_cases h5:op=(⟨#[62]⟩:ByteArray)
 ·subst h5;exact .leaf (w:=[62]) (k:=3) (v:=0) (by simp) (by decide) rfl
 rw [if_neg h5] at h
 by_cases h6:op=(⟨#[62,61]⟩:ByteArray)
 ·subst h6;exact .leaf (w:=[62,61]) (k:=3) (v:=0) (by simp) (by decide) rfl
 rw [if_neg h6] at h
 cases h
theorem l1a.tree {n:Nd} (hw:Whole n) {rest:List UInt8} (hr:w1a rest):l1a (textS n).data.toList (e0a n) rest:=fun a=>n3d n hw rest a hr
theorem l9e {r:List UInt8} : w1a (40::r):=by
 intro c hc
 simp only [List.head?_cons,Option.some.injEq] at hc
 subst hc
 rfl
theorem r5d {r:List UInt8} : w1a (44::r):=by
 intro c hc
 simp only [List.head?_cons,Option.some.injEq] at hc
 subst hc
 rfl
def nmW (s:ByteArray):Wd:=(1,s,0)
def h4d (a:Ag):List Wd:=if a.fn=(⟨#[99,111,117,110,116]⟩:ByteArray) then [] else if a.fn=(⟨#[102,105,114,115,116]⟩:ByteArray) then e0a a.e++(sgW (⟨#[44]⟩:ByteArray)::e0a a.by_) else if a.fn=(⟨#[116,111,112]⟩:ByteArray) then (2,o9a a.k,a.k)::sgW (⟨#[44]⟩:ByteArray)::e0a a.e else e0a a.e
def b1b (c:Cd):List Wd:=e0a c.a++(sgW c.op::e0a c.b)
def a6e (b:Bool):ByteArray:=if b=true then (⟨#[119,104,101,114,101]⟩:ByteArray) else (⟨#[97,110,100]⟩:ByteArray)
def s6a:Bool→List Cd→List Wd
 | _,[]=>[]
 | b,c::l=>nmW (a6e b)::(b1b c++s6a false l)
def z1b (a:Ag):List Wd:=nmW a.fn::sgW (⟨#[40]⟩:ByteArray)::(h4d a++(sgW (⟨#[41]⟩:ByteArray)::s6a true a.w))
theorem c7d {l:List Cd} : w1a ((m9a false l).data.toList++[]):=by
 intro c hc
 cases l with
 | nil=>cases hc
 | cons x l=>
  have:((m9a false (x::l)).data.toList++[]).head?=some 32:=by simp [m9a,u3d]
  rw [this] at hc
  cases hc
  rfl
theorem v9d {c:Cd} (h:k0b c.op=true∧Fine c.a∧Fine c.b) {rest:List UInt8} (hr:w1a rest):l1a (b0a c).data.toList (b1b c) rest:=by
 have e:(b0a c).data.toList=(textS c.a).data.toList++([32]++(c.op.data.toList++([32]++(textS c.b).data.toList))):=by simp [b0a]
 rw [e]
 refine l1a.app (.tree h.2.1.1 ?_) (l1a.app (w1:=[]) (w2:=sgW c.op::e0a c.b) .blank (l1a.app (w1:=[sgW c.op]) (w2:=e0a c.b) ?_ (l1a.app (w1:=[]) .blank (.tree h.2.2.1 hr))))
 ·exact v5c
 ·exact .op h.1
theorem l0c : ∀ {b:Bool} {l:List Cd},(∀ c∈l,k0b c.op=true∧Fine c.a∧Fine c.b)→l1a (m9a b l).data.toList (s6a b l) []
 | _,[],_=>.nil
 | b,c::l,h=>by
  have ih:=l0c (b:=false) fun x hx=>h x (List.mem_cons_of_mem _ hx)
  have e:(m9a b (c::l)).data.toList=[32]++((a6e b).data.toList++([32]++((b0a c).data.toList++(m9a false l).data.toList))):=by cases b<;>simp [m9a,u3d,a6e]
  rw [e]
  refine l1a.app (w1:=[]) (w2:=s6a b (c::l)) .blank (l1a.app (w1:=[nmW (a6e b)]) (w2:=b1b c++s6a false l) ?_ (l1a.app (w1:=[]) .blank (l1a.app (v9d (h c (by simp)) c7d) ih)))
  exact .name (by cases b<;>decide) v5c
theorem v2d {a:Ag} (g:f2b a) {rest:List UInt8} (hr:w1a rest):l1a (a0c a).data.toList (h4d a) rest:=by
 unfold a0c h4d
 by_cases h1:a.fn=(⟨#[99,111,117,110,116]⟩:ByteArray)
 ·rw [if_pos h1,if_pos h1];exact .nil
 rw [if_neg h1,if_neg h1]
 by_cases h2:a.fn=(⟨#[102,105,114,115,116]⟩:ByteArray)
 ·rw [if_pos h2,if_pos h2]
  have e:((textS a.e++(⟨#[44,32]⟩:ByteArray))++textS a.by_).data.toList=(textS a.e).data.toList++([44]++([32]++(textS a.by_).data.toList)):=by simp
  rw [e]
  exact l1a.app (.tree (g.e h1).1 r5d) (l1a.app (w1:=[sgW (⟨#[44]⟩:ByteArray)]) (.sign (by decide)) (l1a.app (w1:=[]) .blank (.tree (g.by_ h2).1 hr)))
 rw [if_neg h2,if_neg h2]
 by_cases h3:a.fn=(⟨#[116,111,112]⟩:ByteArray)
 ·rw [if_pos h3,if_pos h3]
  have e:((o9a a.k++(⟨#[44,32]⟩:ByteArray))++textS a.e).data.toList=(o9a a.k).data.toList++([44]++([32]++(textS a.e).data.toList)):=by simp
  rw [e]
  have hk:=g.k h3
  exact l1a.app (w1:=[(2,o9a a.k,a.k)]) (.num (by omega) ⟨by omega,by omega⟩ r5d) (l1a.app (w1:=[sgW (⟨#[44]⟩:ByteArray)]) (.sign (by decide)) (l1a.app (w1:=[]) .blank (.tree (g.e h1).1 hr)))
 rw [if_neg h3,if_neg h3]
 exact .tree (g.e h1).1 hr
theorem t2d {a:Ag} (g:f2b a):l1a (r5a a).data.toList (z1b a) []:=by
 have e:(r5a a).data.toList=a.fn.data.toList++([40]++((a0c a).data.toList++([41]++(m9a true a.w).data.toList))):=by simp [r5a,m1c]
 rw [e]
 refine l1a.app (w1:=[nmW a.fn]) (.name ?_ l9e) (l1a.app (w1:=[sgW (⟨#[40]⟩:ByteArray)]) (.sign (by decide)) (l1a.app (v2d g r4d) (l1a.app (w1:=[sgW (⟨#[41]⟩:ByteArray)]) (.sign (by decide)) (l0c g.ws))))
 rcases w1b g.fn with h | h | h | h | h | h<;>rw [h]<;>decide
theorem u2c {a:Ag} (g:f2b a) (hs:(r5a a).size≤1024) : ∃ ts,u1c (r5a a) = .ok ts∧ts.map b7d=z1b a:=by
 obtain ⟨ts,a',h1,h2⟩:=t2d g 0
 refine ⟨ts,?_,h2⟩
 unfold u1c
 rw [if_neg (by omega)]
 rw [List.append_nil] at h1
 rw [h1,y9d]
 show Except.ok (ts++[])=_
 rw [List.append_nil]
theorem d8e {l:List Tok} {i:Nat} {k:Int} {s:ByteArray} {v:Int} (h:i<l.length) (e:b7d l[i]=(k,s,v)):isW l i k s=true:=by
 unfold isW
 rw [List.getElem?_eq_getElem h]
 have h1:l[i].k=k:=congrArg (·.1) e
 have h2:l[i].t=s:=congrArg (·.2.1) e
 simp [h1,h2]
theorem d7e {l:List Tok} {i:Nat} {k:Int} {s:ByteArray} {v:Int} (h:i<l.length) (e:b7d l[i]=(k,s,v)) (hk:k≠3) (sg:List ByteArray):isT l i sg=false:=by
 unfold isT
 rw [List.getElem?_eq_getElem h]
 have h1:l[i].k=k:=congrArg (·.1) e
 simp [h1,hk]
def Ends (l:List Tok) (j:Nat):Prop:=isT l j mulS=false∧isT l j g4d=false
theorem s5c {l:List Tok} {j:Nat} {s:ByteArray} (h:j<l.length) (e:b7d l[j]=sgW s) (hs:(mulS.any (fun x=>decide (s=x))=false)∧(g4d.any (fun x=>decide (s=x))=false)):Ends l j:=⟨(r2b h e _).trans hs.1,(r2b h e _).trans hs.2⟩
theorem c5b {l:List Tok} {n:Nd} (hf:Fine n) {i:Nat} (hM:Match l i (e0a n)) (hi:i≤l.length) (he:Ends l (i+(e0a n).length)):r0a l i = .ok (n8a n,i+(e0a n).length):=by
 have h1:=w8d n hf.1 (l.length+1) i 0 hM hi (by omega) (by have:=hf.2;omega)
 have hof:ofF l i=some (n8a n,⟨i+(e0a n).length,0+cnt n,0⟩):=by
  unfold ofF sumF u2d j1b
  rw [h1,Option.bind_some]
  try dsimp only
  rw [u3a he.1 (by omega),Option.bind_some]
  exact u3a he.2 (by omega)
 unfold r0a
 rw [hof]
 rfl
def o5b (c:Cd):Cd:=⟨c.op,n8a c.a,n8a c.b⟩
theorem l4e {op:ByteArray} (h:k0b op=true):(mulS.any (fun x=>decide (op=x))=false)∧(g4d.any (fun x=>decide (op=x))=false):=by
 constructor
 all_goals
  rw [List.any_eq_false]
  intro x hx hq
  simp only [decide_eq_true_eq] at hq
  subst hq
  simp only [mulS,g4d,List.mem_cons,List.not_mem_nil,or_false] at hx
 ·rcases hx with rfl | rfl | rfl<;>exact absurd h (by decide)
 ·rcases hx with rfl | rfl<;>exact absurd h (by decide)
theorem v8d {l:List Tok} {c:Cd} (h:k0b c.op=true∧Fine c.a∧Fine c.b) {i:Nat} (hM:Match l i (b1b c)) (hi:i≤l.length) (he:Ends l (i+(b1b c).length)):a3b l i = .ok (o5b c,i+(b1b c).length):=by
 obtain ⟨hMa,hM2⟩:=hM.app
 obtain ⟨⟨h2,e2⟩,hMb⟩:=hM2.head
 have hl:i+(b1b c).length=i+(e0a c.a).length+1+(e0a c.b).length:=by
  simp only [b1b,List.length_append,List.length_cons]
  omega
 rw [hl] at he ⊢
 unfold a3b
 rw [c5b h.2.1 hMa hi (s5c h2 e2 (l4e h.1))]
 dsimp only
 rw [List.getElem?_eq_getElem h2]
 dsimp only
 have k1:l[i+(e0a c.a).length].k=3:=congrArg (·.1) e2
 have k2:l[i+(e0a c.a).length].t=c.op:=congrArg (·.2.1) e2
 rw [k1,k2,if_pos ⟨rfl,h.1⟩,c5b h.2.2 hMb h2 he]
 rfl
theorem w4e {ws:List Cd} : e8e ws=a6e ws.isEmpty:=by cases ws<;>rfl
theorem k9c {l:List Tok} : ∀ (cs:List Cd),(∀ c∈cs,k0b c.op=true∧Fine c.a∧Fine c.b) → ∀ (f:Nat) (ws:List Cd) (i:Nat),cs.length<f→ws.length+cs.length≤4→Match l i (s6a ws.isEmpty cs)→i+(s6a ws.isEmpty cs).length=l.length→r9a l f ws i = .ok (ws++cs.map o5b,l.length)
 | [],_,f+1,ws,i,_,_,_,hl=>by
  have hl':i=l.length:=hl
  subst hl'
  unfold r9a
  have:isW l l.length 1 (e8e ws)=false:=by unfold isW;rw [List.getElem?_eq_none (Nat.le_refl _)]
  rw [this]
  simp
 | c::cs,h,f+1,ws,i,hf,h4,hM,hl=>by
  have hM':Match l i (nmW (a6e ws.isEmpty)::(b1b c++s6a false cs)):=hM
  obtain ⟨⟨h2,e2⟩,hM2⟩:=hM'.head
  obtain ⟨hMc,hMr⟩:=hM2.app
  have hll:i+1+(b1b c).length+(s6a false cs).length=l.length:=by
   have hl':i+(nmW (a6e ws.isEmpty)::(b1b c++s6a false cs)).length=l.length:=hl
   simp only [List.length_cons,List.length_append] at hl'
   omega
  have hend:Ends l (i+1+(b1b c).length):=by
   cases cs with
   | nil=>
    have:i+1+(b1b c).length=l.length:=hll
    rw [this]
    exact ⟨l1d (Nat.le_refl _),l1d (Nat.le_refl _)⟩
   | cons x cs=>
    have m5f:Match l (i+1+(b1b c).length) (nmW (a6e false)::(b1b x++s6a false cs)):=hMr
    obtain ⟨⟨h3,e3⟩,_⟩:=m5f.head
    exact ⟨d7e h3 e3 (by decide) _,d7e h3 e3 (by decide) _⟩
  have hc:=v8d (h c (by simp)) hMc (by omega) hend
  unfold r9a
  simp only [List.length_cons] at h4 hf
  rw [w4e,d8e h2 e2,if_pos rfl,if_pos (by omega),hc]
  dsimp only
  have he:(ws++[o5b c]).isEmpty=false:=by cases ws<;>rfl
  have ih:=k9c cs (fun x hx=>h x (List.mem_cons_of_mem _ hx)) f (ws++[o5b c]) (i+1+(b1b c).length) (by omega) (by simp;omega) (by rw [he];exact hMr) (by rw [he];exact hll)
  rw [ih]
  simp
def m4a (a:Ag):Ag:=⟨a.fn,if a.fn=(⟨#[116,111,112]⟩:ByteArray) then a.k else 0,if a.fn=(⟨#[99,111,117,110,116]⟩:ByteArray) then t6a else n8a a.e,if a.fn=(⟨#[102,105,114,115,116]⟩:ByteArray) then n8a a.by_ else t6a,a.w.map o5b⟩
theorem b7e {l:List Tok} {i:Nat} {s:ByteArray} (h:i<l.length) (e:b7d l[i]=sgW s):wX l i s = .ok (i+1):=by
 unfold wX
 rw [d8e h e]
 rfl
theorem b4e {l:List Tok} {fn:ByteArray} {k:Int} {e b:Nd} {w:List Cd} (hw : ∀ c∈w,k0b c.op=true∧Fine c.a∧Fine c.b) (h4:w.length≤4) {i:Nat} (hM:Match l i (sgW (⟨#[41]⟩:ByteArray)::s6a true w)) (hl:i+(1+(s6a true w).length)=l.length):h6b l fn k e b i = .ok ⟨fn,k,e,b,w.map o5b⟩:=by
 obtain ⟨⟨h2,e2⟩,hM2⟩:=hM.head
 unfold h6b
 rw [b7e h2 e2]
 dsimp only
 have hlen : ∀ (b:Bool) (w:List Cd),w.length≤(s6a b w).length:=by
  intro b w
  induction w generalizing b with
  | nil=>exact Nat.zero_le _
  | cons c w ih=>
   have:=ih false
   show _≤(nmW (a6e b)::(b1b c++s6a false w)).length
   simp only [List.length_cons,List.length_append]
   omega
 have:=hlen true w
 rw [k9c w hw (l.length+1) [] (i+1) (by omega) (by simpa using h4) hM2 (by show _+(s6a true w).length=_;omega)]
 dsimp only
 rw [if_pos rfl]
 rfl
theorem g2e {l:List Tok} {a:Ag} (g:f2b a) (hm:l.map b7d=z1b a):x3c l = .ok (m4a a):=by
 have hlen:l.length=(z1b a).length:=by rw [← hm,List.length_map]
 have hM:Match l 0 (z1b a):=fun j hj=>by
  refine ⟨by omega,?_⟩
  have:(l.map b7d)[j]'(by simp;omega)=(z1b a)[j]:=by simp only [hm]
  rw [← this]
  simp
 unfold z1b at hM hlen
 obtain ⟨⟨h0,e0⟩,hM1⟩:=hM.head
 obtain ⟨⟨h1,e1⟩,hM2⟩:=hM1.head
 obtain ⟨hMa,hM3⟩:=hM2.app
 obtain ⟨⟨h3,e3⟩,_⟩:=hM3.head
 simp only [List.length_cons,List.length_append] at hlen
 have k0:l[0].k=1:=congrArg (·.1) e0
 have t0:l[0].t=a.fn:=congrArg (·.2.1) e0
 have ew:wX l 1 (⟨#[40]⟩:ByteArray) = .ok 2:=b7e h1 e1
 have hend:Ends l (0+1+1+(h4d a).length):=s5c h3 e3 (by decide)
 have tl:=fun k e b=>b4e (fn:=a.fn) (k:=k) (e:=e) (b:=b) g.ws g.w hM3 (by omega)
 have hg2:(f6a a.fn).2.2.2=true:=g.fn
 unfold x3c
 rw [List.getElem?_eq_getElem h0]
 dsimp only
 rw [k0,t0,if_pos rfl,if_pos hg2]
 unfold a3d
 rw [ew]
 dsimp only
 unfold m4a h4d at *
 rcases l9a hg2 with hf | hf | hf | ⟨f1,f2,f3,hN⟩
 ·have hN:f6a a.fn=(false,false,false,true):=by rw [hf];rfl
  rw [hN]
  rw [if_pos hf] at tl
  simp only [kX,eX,byX,if_true,Bool.false_eq_true,if_false]
  have n1:a.fn≠(⟨#[116,111,112]⟩:ByteArray):=by rw [hf];decide
  have n2:a.fn≠(⟨#[102,105,114,115,116]⟩:ByteArray):=by rw [hf];decide
  rw [if_neg n1,if_pos hf,if_neg n2]
  exact tl _ _ _
 ·have hN:f6a a.fn=(false,true,true,true):=by rw [hf];rfl
  have n1:a.fn≠(⟨#[116,111,112]⟩:ByteArray):=by rw [hf];decide
  have n2:a.fn≠(⟨#[99,111,117,110,116]⟩:ByteArray):=by rw [hf];decide
  rw [if_neg n2,if_pos hf] at tl hMa hend
  obtain ⟨hM4,hM5⟩:=hMa.app
  obtain ⟨⟨h6,e6⟩,hM7⟩:=hM5.head
  have x1:=c5b (g.e n2) hM4 (by omega) (s5c h6 e6 (by decide))
  have x2:=c5b (g.by_ hf) hM7 (by omega) (by
   have e:0+1+1+(e0a a.e).length+1+(e0a a.by_).length=0+1+1+(e0a a.e++(sgW (⟨#[44]⟩:ByteArray)::e0a a.by_)).length:=by simp only [List.length_append,List.length_cons];omega
   rw [e]
   exact hend)
  rw [hN]
  simp only [kX,eX,byX,if_true,Bool.false_eq_true,Bool.true_eq_false,if_false]
  have x1':r0a l 2=_:=x1
  rw [x1']
  dsimp only
  rw [b7e h6 e6]
  dsimp only
  rw [x2]
  dsimp only
  rw [if_neg n1,if_neg n2,if_pos hf]
  have e:0+1+1+(e0a a.e).length+1+(e0a a.by_).length=0+1+1+(e0a a.e++(sgW (⟨#[44]⟩:ByteArray)::e0a a.by_)).length:=by simp only [List.length_append,List.length_cons];omega
  rw [e]
  exact tl _ _ _
 ·have hN:f6a a.fn=(true,true,false,true):=by rw [hf];rfl
  have n1:a.fn≠(⟨#[102,105,114,115,116]⟩:ByteArray):=by rw [hf];decide
  have n2:a.fn≠(⟨#[99,111,117,110,116]⟩:ByteArray):=by rw [hf];decide
  rw [if_neg n2,if_neg n1,if_pos hf] at tl hMa hend
  obtain ⟨⟨h4,e4⟩,hM5⟩:=hMa.head
  obtain ⟨⟨h6,e6⟩,hM7⟩:=hM5.head
  have hk:=g.k hf
  have e:0+1+1+1+1+(e0a a.e).length=0+1+1+((2,o9a a.k,a.k)::sgW (⟨#[44]⟩:ByteArray)::e0a a.e).length:=by simp only [List.length_cons];omega
  have x1:=c5b (g.e n2) hM7 (by omega) (by rw [e];exact hend)
  have kk:l[0+1+1].k=2:=congrArg (·.1) e4
  have kn:l[0+1+1].n=a.k:=congrArg (·.2.2) e4
  have hkx:kX l true 2 = .ok (a.k,4):=by
   unfold kX
   rw [if_neg (by decide),show l[2]?=some l[0+1+1] from List.getElem?_eq_getElem h4]
   dsimp only
   rw [kk,kn,if_pos rfl,if_neg (by omega),b7e h6 e6]
  rw [hN]
  dsimp only
  rw [hkx]
  simp only [eX,byX,if_true]
  have x1':r0a l 4=_:=x1
  rw [x1']
  dsimp only
  rw [if_pos hf,if_neg n2,if_neg n1,e]
  exact tl _ _ _
 ·rw [if_neg f1,if_neg f3,if_neg f2] at tl hMa hend
  have x1:=c5b (g.e f1) hMa (by omega) hend
  rw [hN]
  simp only [kX,eX,byX,if_true,Bool.false_eq_true,if_false]
  have x1':r0a l 2=_:=x1
  rw [x1']
  dsimp only
  rw [if_neg f2,if_neg f1,if_neg f3]
  exact tl _ _ _
theorem v1c {a:Ag} (g:f2b a) (hs:(r5a a).size≤1024):w5a (r5a a) = .ok (m4a a):=by
 obtain ⟨ts,h1,h2⟩:=u2c g hs
 unfold w5a
 rw [h1]
 dsimp only
 rw [g2e g h2]
theorem v3c {s:ByteArray} (h:1024<s.size):w5a s = .error (0,4):=by
 unfold w5a u1c
 rw [if_pos h]
theorem s0c {a:Ag} (g:f2b a):e0b (m4a a) a=true:=by
 have hw:b8b (m4a a).w a.w=true:=by
  refine k5b (by simp [m4a]) fun i h1 h2 => ?_
  obtain ⟨_,c1,c2⟩:=g.ws _ (List.getElem_mem h2)
  have e:(m4a a).w[i]=o5b a.w[i]:=by simp [m4a]
  rw [e]
  unfold n3b o5b
  dsimp only
  rw [t5a _ c1.1,t5a _ c2.1]
  simp
 rcases l9a g.fn with hf | hf | hf | ⟨f1,f2,f3,hN⟩
 ·rw [y2b (a:=m4a a) (b:=a) hf rfl,hw]
 ·have n2:a.fn≠(⟨#[99,111,117,110,116]⟩:ByteArray):=by rw [hf];decide
  rw [y3b (a:=m4a a) (b:=a) hf rfl,hw]
  have e1:(m4a a).e=n8a a.e:=if_neg n2
  have e2:(m4a a).by_=n8a a.by_:=if_pos hf
  rw [e1,e2,t5a _ (g.e n2).1,t5a _ (g.by_ hf).1]
  rfl
 ·have n2:a.fn≠(⟨#[99,111,117,110,116]⟩:ByteArray):=by rw [hf];decide
  rw [o8c (a:=m4a a) (b:=a) hf rfl,hw]
  have e1:(m4a a).e=n8a a.e:=if_neg n2
  have e2:(m4a a).k=a.k:=if_pos hf
  rw [e1,e2,t5a _ (g.e n2).1]
  simp
 ·rw [d0c (a:=m4a a) (b:=a) hN rfl,hw]
  have e1:(m4a a).e=n8a a.e:=if_neg f1
  rw [e1,t5a _ (g.e f1).1]
  rfl
end Go.Proofs.DgT
