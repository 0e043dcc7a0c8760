/- The words of the language as a Lean function, and what holds of them: where they stand, and that words with blanks between are those again. -/
import Derived.Lib.ParseIntB
import Derived.Test.YtcdijoaabbjioaaGreatDoorDpAx
set_option linter.unusedSimpArgs false
set_option linter.unusedVariables false
namespace Go.DM
open Go
def v5b (b:UInt8):Bool:=decide (97≤b.toNat)&&decide (b.toNat≤122)
def v1a (b:UInt8):Bool:=decide (48≤b.toNat)&&decide (b.toNat≤57)
def g6b (b:UInt8):Bool:=v5b b || v1a b
def e9d:List UInt8:=[40,41,44,61,60,62,43,45,42,47,37]
def e2d (l:List UInt8):Nat:=l.foldl (fun a b=>a*10+(b.toNat - 48)) 0
def j3a:List UInt8→Except Int (Int×Nat×Nat)
 | []=>.error 2
 | b::r=>
  if v5b b=true then
   if 8<((b::r).takeWhile g6b).length then .error 5 else .ok (1,((b::r).takeWhile g6b).length,0)
  else if v1a b=true then
   if ((b::r)[((b::r).takeWhile v1a).length]?).any v5b=true∨(1<((b::r).takeWhile v1a).length∧b=48) then .error 2
   else if e2d ((b::r).takeWhile v1a)<9223372036854775808 then .ok (2,((b::r).takeWhile v1a).length,e2d ((b::r).takeWhile v1a)) else .error 1
  else if (b=33∨b=60∨b=62)∧r.head?=some 61 then .ok (3,2,0)
  else if b∈e9d then .ok (3,1,0) else .error 2
structure Tok where
 k:Int
 t:ByteArray
 n:Int
 a:Nat
def q3a:Nat→List UInt8→Nat→Except (Nat×Int) (List Tok)
 | 0,_,_=>.ok []
 | _+1,[],_=>.ok []
 | f+1,b::r,a=>
  if b=32 then q3a f r (a+1) else
  match j3a (b::r) with
  | .error e=>.error (a,e)
  | .ok (k,n,v)=>(q3a f ((b::r).drop n) (a+n)).map (⟨k,⟨((b::r).take n).toArray⟩,v,a⟩ :: ·)
def a6b (l:List UInt8) (a:Nat):Except (Nat×Int) (List Tok):=q3a (l.length+1) l a
theorem z6a {p:UInt8→Bool} {b:UInt8} {r:List UInt8} (h:p b=true):1≤((b::r).takeWhile p).length:=by
 rw [List.takeWhile_cons,if_pos h,List.length_cons]
 omega
theorem v4a {p:UInt8→Bool} : ∀ (l:List UInt8),(l.takeWhile p).length≤l.length
 | []=>Nat.le_refl _
 | b::r=>by
  rw [List.takeWhile_cons]
  split
  ·have:=v4a (p:=p) r
   simp only [List.length_cons]
   omega
  ·simp
theorem takeWhile_take {p:UInt8→Bool} : ∀ (l:List UInt8),l.take (l.takeWhile p).length=l.takeWhile p
 | []=>rfl
 | b::r=>by
  rw [List.takeWhile_cons]
  split
  ·simp only [List.length_cons,List.take_succ_cons,takeWhile_take r]
  ·rfl
theorem q1a {p:UInt8→Bool} {rest:List UInt8} (hr : ∀ x,rest.head?=some x→p x=false) : ∀ (l:List UInt8),(l.takeWhile p++rest).takeWhile p=l.takeWhile p
 | []=>by
  cases rest with
  | nil=>rfl
  | cons x r=>
   have:=hr x rfl
   simp [List.takeWhile_cons,this]
 | b::r=>by
  rw [List.takeWhile_cons]
  split
  ·rename_i h
   rw [List.cons_append,List.takeWhile_cons,if_pos h,q1a hr r]
  ·cases rest with
   | nil=>rfl
   | cons x r=>
    have:=hr x rfl
    simp [List.takeWhile_cons,this]
theorem j7b {l:List UInt8} {k:Int} {n v:Nat} (h:j3a l = .ok (k,n,v)) :
  1≤n∧n≤l.length∧v<9223372036854775808∧(k≠2→v=0) ∧ ∀ rest:List UInt8,(∀ x,rest.head?=some x→x=32)→j3a (l.take n++rest) = .ok (k,n,v):=by
 match l,h with
 | b::r,h=>
  rw [j3a] at h
  split at h
  ·rename_i hb
   split at h
   ·cases h
   ·rename_i h8
    cases h
    have hlb:g6b b=true:=by simp [g6b,hb]
    refine ⟨z6a hlb,v4a _,by decide,fun _=>rfl,fun rest hr => ?_⟩
    rw [takeWhile_take,List.takeWhile_cons,if_pos hlb]
    have hag:=q1a (p:=g6b) (rest:=rest) (fun x hx=>by rw [hr x hx];rfl) (b::r)
    rw [List.takeWhile_cons,if_pos hlb] at hag h8
    rw [List.cons_append] at hag ⊢
    rw [j3a,if_pos hb,hag,if_neg h8]
  ·rename_i hb
   split at h
   ·rename_i hd
    split at h
    ·cases h
    ·rename_i hbad
     split at h
     ·rename_i hv
      cases h
      refine ⟨z6a hd,v4a _,hv,fun h=>absurd rfl h,fun rest hr => ?_⟩
      rw [takeWhile_take]
      have hag:=q1a (p:=v1a) (rest:=rest) (fun x hx=>by rw [hr x hx];rfl) (b::r)
      generalize hdd:(b::r).takeWhile v1a=d at *
      have hd1:d=b::r.takeWhile v1a:=by rw [← hdd,List.takeWhile_cons,if_pos hd]
      obtain ⟨d',rfl⟩ : ∃ d',d=b::d':=⟨_,hd1⟩
      rw [List.cons_append] at hag ⊢
      rw [j3a,if_neg hb,if_pos hd,hag,if_neg,if_pos hv]
      rintro (h1 | h1)
      ·rw [← List.cons_append,List.getElem?_append_right (Nat.le_refl _),Nat.sub_self] at h1
       cases rest with
       | nil=>cases h1
       | cons x rr=>
        have:=hr x rfl
        subst this
        cases h1
      ·exact hbad (.inr h1)
     ·cases h
   ·rename_i hd
    split at h
    ·rename_i h2
     cases h
     obtain ⟨r',rfl⟩ : ∃ r',r=61::r':=by
      obtain ⟨_,h2⟩:=h2
      cases r with
      | nil=>cases h2
      | cons x r'=>exact ⟨r',by simp at h2;rw [h2]⟩
     refine ⟨by decide,by simp,by decide,fun _=>rfl,fun rest hr => ?_⟩
     show j3a (b::61::rest)=_
     rw [j3a,if_neg hb,if_neg hd,if_pos ⟨h2.1,rfl⟩]
    ·split at h
     ·rename_i h2 hs
      cases h
      refine ⟨by decide,by simp,by decide,fun _=>rfl,fun rest hr => ?_⟩
      show j3a (b::rest)=_
      rw [j3a,if_neg hb,if_neg hd,if_neg,if_pos hs]
      rintro ⟨_,h3⟩
      have:=hr _ h3
      cases this
     ·cases h
theorem g4b : ∀ (f g:Nat) (l:List UInt8) (a:Nat),l.length<f→l.length<g→q3a f l a=q3a g l a
 | 0,_,_,_,h,_=>absurd h (Nat.not_lt_zero _)
 | _+1,0,_,_,_,h=>absurd h (Nat.not_lt_zero _)
 | f+1,g+1,[],a,_,_=>rfl
 | f+1,g+1,b::r,a,hf,hg=>by
  rw [List.length_cons] at hf hg
  unfold q3a
  split
  ·exact g4b f g r (a+1) (by omega) (by omega)
  ·cases h:j3a (b::r) with
   | error e=>rfl
   | ok x=>
    obtain ⟨k,n,v⟩:=x
    have:=(j7b h).1
    simp only
    rw [g4b f g ((b::r).drop n) (a+n) (by rw [List.length_drop,List.length_cons];omega) (by rw [List.length_drop,List.length_cons];omega)]
theorem y9d (a:Nat):a6b [] a = .ok []:=rfl
theorem d1b (r:List UInt8) (a:Nat):a6b (32::r) a=a6b r (a+1):=by
 rw [a6b,List.length_cons,q3a,if_pos rfl]
 rfl
theorem y8d {b:UInt8} {r:List UInt8} {a:Nat} {e:Int} (hb:b≠32) (h:j3a (b::r) = .error e):a6b (b::r) a = .error (a,e):=by
 rw [a6b,List.length_cons,q3a,if_neg hb,h]
theorem z5c {b:UInt8} {r:List UInt8} {a:Nat} {k:Int} {n v:Nat} (hb:b≠32) (h:j3a (b::r) = .ok (k,n,v)) :
  a6b (b::r) a=(a6b ((b::r).drop n) (a+n)).map (⟨k,⟨((b::r).take n).toArray⟩,v,a⟩ :: ·):=by
 have h1:=(j7b h).1
 rw [a6b,List.length_cons,q3a,if_neg hb,h]
 simp only
 rw [g4b (r.length+1) (((b::r).drop n).length+1) _ _ (by rw [List.length_drop,List.length_cons];omega) (by omega)]
 rfl
inductive Placed (s:List UInt8):Nat→List Tok→Prop
 | nil {a} (h : ∀ i,a≤i→i<s.length→s[i]?=some 32):Placed s a []
 | cons {a t ts} (h1:a≤t.a) (h2 : ∀ i,a≤i→i<t.a→s[i]?=some 32) (h3:t.t.data.toList=(s.drop t.a).take t.t.size) (h4:0<t.t.size) (h5:t.a+t.t.size≤s.length)
   (h6:t.k≠2→t.n=0) (h7:0≤t.n∧t.n<9223372036854775808) (h8:t.k=1∨t.k=2∨t.k=3) (rest:Placed s (t.a+t.t.size) ts):Placed s a (t::ts)
theorem v6b {l:List UInt8} {k:Int} {n v:Nat} (h:j3a l = .ok (k,n,v)):k=1∨k=2∨k=3:=by
 match l,h with
 | b::r,h=>
  unfold j3a at h
  repeat' split at h
  all_goals first
   | (cases h;done)
   | (cases h;simp)
theorem Placed.blank {s:List UInt8} {a:Nat} (hb:s[a]?=some 32) : ∀ {ts:List Tok},Placed s (a+1) ts→Placed s a ts
 | [],.nil h=>.nil fun i h1 h2=>by
  rcases Nat.eq_or_lt_of_le h1 with e | e
  ·subst e;exact hb
  ·exact h i e h2
 | _::_,.cons h1 h2 h3 h4 h5 h6 h7 h8 rest=>.cons (by omega) (fun i k1 k2=>by
  rcases Nat.eq_or_lt_of_le k1 with e | e
  ·subst e;exact hb
  ·exact h2 i e k2) h3 h4 h5 h6 h7 h8 rest
theorem f5c (s:List UInt8) : ∀ (f a:Nat) (ts:List Tok),(s.drop a).length<f→q3a f (s.drop a) a = .ok ts→Placed s a ts:=by
 intro f
 induction f with
 | zero=>intro a ts h;exact absurd h (Nat.not_lt_zero _)
 | succ f ih=>
  intro a ts hf h
  cases hd:s.drop a with
  | nil=>
   rw [hd] at h
   cases h
   refine .nil fun i h1 h2 => ?_
   have:=congrArg List.length hd
   rw [List.length_drop,List.length_nil] at this
   omega
  | cons b r=>
   have hlen:=congrArg List.length hd
   rw [List.length_drop,List.length_cons] at hlen
   have ha:s[a]?=some b:=by
    have:=congrArg (fun l=>l[0]?) hd
    simpa [List.getElem?_drop] using this
   have hr:r=s.drop (a+1):=by
    have:=congrArg (fun l=>l.drop 1) hd
    simpa [List.drop_drop] using this.symm
   rw [hd] at h hf
   unfold q3a at h
   rw [List.length_cons] at hf
   split at h
   ·rename_i hb
    subst hb
    rw [hr] at h
    exact Placed.blank ha (ih (a+1) ts (by rw [← hr];omega) h)
   ·cases ho:j3a (b::r) with
    | error e=>rw [ho] at h;cases h
    | ok x=>
     obtain ⟨k,n,v⟩:=x
     obtain ⟨h1,h2,h3,h4,_⟩:=j7b ho
     rw [ho] at h
     simp only at h
     rw [← hd,List.drop_drop] at h
     cases hl:q3a f (s.drop (a+n)) (a+n) with
     | error e=>rw [hl] at h;cases h
     | ok ts' =>
      rw [hl] at h
      cases h
      rw [List.length_cons] at h2
      have hsz:(⟨((s.drop a).take n).toArray⟩:ByteArray).size=n:=by
       show ((s.drop a).take n).toArray.size=n
       rw [List.size_toArray,List.length_take,List.length_drop]
       omega
      refine .cons (Nat.le_refl _) (fun i k1 k2=>by dsimp only at k2;omega) ?_ ?_ ?_ (fun hk => ?_) ?_ (v6b ho) ?_
      ·rw [hsz]
      ·rw [hsz];omega
      ·rw [hsz];dsimp only;omega
      ·dsimp only at hk ⊢
       rw [h4 hk];rfl
      ·dsimp only
       omega
      ·rw [hsz]
       exact ih (a+n) ts' (by rw [List.length_drop];omega) hl
theorem u4c {s:List UInt8} {ts:List Tok} (h:a6b s 0 = .ok ts):Placed s 0 ts:=
 f5c s (s.length+1) 0 ts (by simp) (by simpa [a6b] using h)
theorem Placed.count {s:List UInt8} : ∀ {a:Nat} {ts:List Tok},Placed s a ts→ts.length≤s.length - a∧(ts.map fun t=>t.t.size).sum≤s.length - a
 | _,_,.nil _=>by simp
 | _,_,.cons h1 h2 h3 h4 h5 h6 h7 h8 rest=>by
  have:=rest.count
  simp only [List.length_cons,List.map_cons,List.sum_cons]
  omega
def a6d (a:Nat) (l:List UInt8):Nat:=l.foldl (fun a b=>a*10+(b.toNat - 48)) a
theorem o5d : ∀ (l:List UInt8) (a:Nat),a*10 ^ l.length≤a6d a l
 | [],a=>by simp [a6d]
 | b::l,a=>by
  have h:=o5d l (a*10+(b.toNat - 48))
  show _≤a6d (a*10+(b.toNat - 48)) l
  refine Nat.le_trans ?_ h
  rw [List.length_cons,Nat.pow_succ,Nat.add_mul]
  have:a*(10 ^ l.length*10)=a*10*10 ^ l.length:=by rw [Nat.mul_comm (10 ^ l.length) 10,Nat.mul_assoc]
  omega
theorem o6d (l:List UInt8) (a:Nat):a≤a6d a l:=
 Nat.le_trans (Nat.le_mul_of_pos_right a (Nat.pow_pos (by decide))) (o5d l a)
theorem v8e (l:List UInt8) : ∀ (a:Nat),(∀ b∈l,v1a b=true)→a≤18446744073709551615→Lib.parseUintM 18446744073709551615 a l=if a6d a l≤18446744073709551615 then .ok (a6d a l) else .range:=by
 induction l with
 | nil=>intro a _ ha;simp [Lib.parseUintM,a6d,ha]
 | cons b l ih=>
  intro a hd ha
  have hb:=hd b (by simp)
  simp only [v1a,Bool.and_eq_true,decide_eq_true_eq] at hb
  have h0:=o6d l (a*10+(b.toNat - 48))
  have e:a6d a (b::l)=a6d (a*10+(b.toNat - 48)) l:=rfl
  rw [Lib.parseUintM,if_pos ⟨hb.1,hb.2⟩,e]
  split
  ·rw [if_neg (by omega)]
  ·split
   ·rw [if_neg (by omega)]
   ·exact ih _ (fun x hx=>hd x (by simp [hx])) (by omega)
theorem v7e {l:List UInt8} (hl:l≠[]) (hd : ∀ b∈l,v1a b=true):Lib.parseIntB 64 l=if e2d l<9223372036854775808 then .ok (e2d l:Int) else .range:=by
 match l,hl with
 | b::r,_=>
  have hb:=hd b (by simp)
  simp only [v1a,Bool.and_eq_true,decide_eq_true_eq] at hb
  have e:e2d (b::r)=a6d 0 (b::r):=rfl
  have hu:Lib.parseUintB 64 (b::r)=if a6d 0 (b::r)≤18446744073709551615 then .ok (a6d 0 (b::r)) else .range:=by
   rw [Lib.parseUintB,if_neg (by simp)]
   exact v8e (b::r) 0 hd (by decide)
  have c2 : ¬ b.toNat=45:=by omega
  have c3:(if b.toNat=43∨b.toNat=45 then r else b::r)=b::r:=if_neg (by omega)
  rw [Lib.parseIntB,e]
  rw [c3,hu]
  by_cases h1:a6d 0 (b::r)≤18446744073709551615
  ·rw [if_pos h1]
   simp only
   rw [if_neg c2]
   by_cases h2:a6d 0 (b::r)<9223372036854775808
   ·rw [if_neg (by omega),if_neg (by omega),if_pos h2]
   ·rw [if_pos (by omega),if_neg h2]
  ·rw [if_neg h1,if_neg (by omega)]
theorem z5a {p:UInt8→Bool} : ∀ (l:List UInt8),∀ b∈l.takeWhile p,p b=true
 | [],_,h=>by simp at h
 | x::l,b,h=>by
  rw [List.takeWhile_cons] at h
  split at h
  ·rename_i hx
   rcases List.mem_cons.1 h with rfl | h
   ·exact hx
   ·exact z5a l b h
  ·simp at h
end Go.DM
