/- An expression out of words, and out of a text, by the document. -/
import Derived.Test.YtcdijoaabbjioaaGreatDoorDgP6x
set_option linter.unusedSimpArgs false
set_option linter.unusedVariables false
namespace Go.Proofs.DgT
open Go Go.DM
set_option maxRecDepth 100000
end Go.Proofs.DgT
namespace Go.Proofs.DgT
open Go Go.DM
set_option maxRecDepth 100000
theorem d3c {l:List UInt8} : (⟨l.toArray⟩:ByteArray).size=l.length:=List.size_toArray
theorem u3c {b:UInt8} {r:List UInt8} {k:Int} {n v:Nat} (h:j3a (b::r) = .ok (k,n,v)):(k=1→l6a ⟨((b::r).take n).toArray⟩=true)∧(k=2→v<9223372036854775808):=by
 unfold j3a at h
 dsimp only at h
 by_cases h1:v5b b=true
 ·rw [if_pos h1] at h
  by_cases h8:8<((b::r).takeWhile g6b).length
  ·rw [if_pos h8] at h;cases h
  ·rw [if_neg h8] at h
   cases h
   refine ⟨fun _ => ?_,fun e=>absurd e (by decide)⟩
   rw [takeWhile_take]
   have j6f:g6b b=true:=by unfold g6b;rw [h1];rfl
   have hpos:=z6a (r:=r) j6f
   unfold l6a
   rw [d3c,decide_eq_true (show 1≤_ from hpos),decide_eq_true (show _≤8 by omega),Bool.true_and,Bool.true_and]
   have e:(b::r).takeWhile g6b=b::r.takeWhile g6b:=by rw [List.takeWhile_cons,if_pos j6f]
   have h3:((⟨((b::r).takeWhile g6b).toArray⟩:ByteArray).data)[0]?.any c0c=true:=by
    rw [e]
    show (some b).any c0c=true
    exact h1
   rw [h3,Bool.true_and]
   show (((b::r).takeWhile g6b).toArray.toList).all _=true
   rw [List.toList_toArray,List.all_eq_true]
   intro x hx
   exact z5a _ x hx
 ·rw [if_neg h1] at h
  by_cases h2:v1a b=true
  ·rw [if_pos h2] at h
   split at h
   ·cases h
   ·split at h
    ·rename_i hv
     cases h
     exact ⟨fun e=>absurd e (by decide),fun _=>hv⟩
    ·cases h
  ·rw [if_neg h2] at h
   split at h
   ·cases h;exact ⟨fun e=>absurd e (by decide),fun e=>absurd e (by decide)⟩
   ·split at h
    ·cases h;exact ⟨fun e=>absurd e (by decide),fun e=>absurd e (by decide)⟩
    ·cases h
theorem g5b : ∀ (f:Nat) (l:List UInt8) (a:Nat) (ts:List Tok),q3a f l a = .ok ts → ∀ t∈ts,n6a t
 | 0,_,_,_,h=>by cases h;simp
 | _+1,[],_,_,h=>by cases h;simp
 | f+1,b::r,a,ts,h=>by
  unfold q3a at h
  split at h
  ·exact g5b f r (a+1) ts h
  ·cases ho:j3a (b::r) with
   | error e=>rw [ho] at h;cases h
   | ok x=>
    obtain ⟨k,n,v⟩:=x
    rw [ho] at h
    dsimp only at h
    cases hq:q3a f ((b::r).drop n) (a+n) with
    | error y=>rw [hq] at h;cases h
    | ok us=>
     rw [hq] at h
     cases h
     intro t ht
     rcases List.mem_cons.1 ht with rfl | ht
     ·obtain ⟨w1,w2⟩:=u3c ho
      refine ⟨v6b ho,w1,fun hk => ?_⟩
      have:=w2 hk
      exact ⟨⟨by dsimp only;omega,by dsimp only;omega⟩,by dsimp only;omega⟩
     ·exact g5b f _ _ us hq t ht
theorem z7c {s:ByteArray} {l:List Tok} (h:u1c s = .ok l) : ∀ t∈l,n6a t:=by
 unfold u1c at h
 split at h
 ·cases h
 ·exact g5b _ _ _ _ h
end Go.Proofs.DgT
