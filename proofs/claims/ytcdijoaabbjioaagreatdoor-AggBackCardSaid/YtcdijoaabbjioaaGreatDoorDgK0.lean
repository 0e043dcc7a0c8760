/- What is known of Go's library, as a run asks it. -/
import Derived.Test.YtcdijoaabbjioaaGreatDoorDgL1x
import Derived.Test.YtcdijoaabbjioaaGreatDoorDmRnx
set_option linter.unusedSimpArgs false
set_option linter.unusedVariables false
namespace Go.Proofs.DgT
open Go Go.DM
set_option maxRecDepth 100000
def strsOf:List D→Option (List ByteArray)
 | []=>some []
 | .str s::l=>(strsOf l).map (s :: ·)
 | _=>none
theorem y8b : ∀ {xs:List D} {l:List ByteArray},strsOf xs=some l→xs=l.map .str
 | [],l,h=>by simp [strsOf] at h;subst h;rfl
 | x::xs,l,h=>by
  cases x<;>simp only [strsOf,reduceCtorEq] at h
  rename_i s
  obtain ⟨m,hm,rfl⟩:=Option.map_eq_some_iff.1 h
  rw [y8b hm]
  rfl
def n5d:List D→Option D
 | [.sl _ 1 n xs,.str sep]=>match strsOf xs with | some l=>if n=l.length∧l.length≤140737488355328∧(d8b l sep).size≤140737488355328 then some (.str (d8b l sep)) else none | none=>none
 | _=>none
def m9c:List D→Option D
 | [.int .i64 n,.int .i64 10]=>if -9223372036854775808≤n∧n≤9223372036854775807 then some (.str (o9a n)) else none
 | _=>none
def z9c:List D→Option D
 | [.str s,.int .i64 10,.int .i64 64]=>if s.size<1000000 then match Lib.parseIntB 64 s.data.toList with | .ok n=>some (.tup [.int .i64 n,.u9a]) | _=>none else none
 | _=>none
def n4d:List D→Option D
 | [.str a,.str ⟨⟨[b]⟩⟩]=>if a=(⟨#[40,41,44,61,60,62,43,45,42,47,37]⟩:ByteArray) then some (.bool (decide (b∈e9d))) else none
 | _=>none
def z8c:List D→Option D
 | [.sl _ 1 n xs,.str x]=>match strsOf xs with | some l=>if n=l.length∧l.length<1000000 then some (.bool (Lib.containsS l x)) else none | none=>none
 | _=>none
def m8c:List D→Option D
 | [.str a]=>if a=(⟨#[33,61,32,60,61,32,62,61]⟩:ByteArray) then some (.sl none 1 3 (b6e.map .str)) else none
 | _=>none
def n6d:List (FuncId×(List D→Option D)):=[(52,n5d),(50,m9c),(153,z9c),(156,n4d),(154,z8c),(155,m8c)]
def x1d (f:FuncId):List (FuncId×(List D→Option D))→Option (List D→Option D)
 | []=>none
 | (g,h)::l=>match Nat.beq g f with | true=>some h | false=>x1d f l
def g6f (f:FuncId) (args:List D) (S:Mem):Option (D×Mem):=match x1d f n6d with | none=>none | some h=>(match h args with | some d=>some (d,S) | none=>none)
theorem y6c {f:FuncId} {h:List D→Option D} : ∀ {l:List (FuncId×(List D→Option D))},x1d f l=some h→(f,h)∈l
 | [],e=>by cases e
 | (g,h')::l,e=>by
  simp only [x1d] at e
  split at e
  ·rename_i q
   cases e
   rw [← Nat.eq_of_beq_eq_true q]
   exact List.mem_cons_self ..
  ·exact List.mem_cons_of_mem _ (y6c e)
theorem n7d {f:FuncId} {h:List D→Option D} (hm:(f,h)∈n6d) {args:List D} {d:D} (e:h args=some d) (S:Mem):a3a Tryz.prog O f args S fun d' S'=>S'=S∧d'=d:=by
 simp only [n6d,List.mem_cons,List.not_mem_nil,or_false,Prod.mk.injEq] at hm
 rcases hm with ⟨rfl,rfl⟩ | ⟨rfl,rfl⟩ | ⟨rfl,rfl⟩ | ⟨rfl,rfl⟩ | ⟨rfl,rfl⟩ | ⟨rfl,rfl⟩
 ·unfold n5d at e
  split at e
  ·split at e
   ·rename_i hl
    split at e
    ·rename_i hn;cases e
     obtain ⟨rfl,h2,h3⟩:=hn
     rw [y8b hl]
     exact join _ _ _ h2 h3 S
    ·cases e
   ·cases e
  ·cases e
 ·unfold m9c at e
  split at e
  ·split at e
   ·rename_i hn;cases e;exact u9b _ hn.1 hn.2 S
   ·cases e
  ·cases e
 ·unfold z9c at e
  split at e
  ·split at e
   ·rename_i hn
    split at e
    ·rename_i hp;cases e;exact w6b _ _ hn hp S
    ·cases e
   ·cases e
  ·cases e
 ·unfold n4d at e
  split at e
  ·split at e
   ·rename_i hn;cases e;subst hn;exact l1c _ S
   ·cases e
  ·cases e
 ·unfold z8c at e
  split at e
  ·split at e
   ·rename_i hl
    split at e
    ·rename_i hn;cases e
     obtain ⟨rfl,h2⟩:=hn
     rw [y8b hl]
     exact b2b _ _ _ h2 S
    ·cases e
   ·cases e
  ·cases e
 ·unfold m8c at e
  split at e
  ·split at e
   ·rename_i hn;cases e;subst hn;exact i8b S
   ·cases e
  ·cases e
theorem k5e (f:FuncId) (args:List D) (S:Mem) (v:D) (S1:Mem) (h:g6f f args S=some (v,S1)):a3a Tryz.prog O f args S fun d' S'=>d'=v∧S'=S1:=by
 unfold g6f at h
 split at h
 ·cases h
 ·rename_i g hg
  split at h
  ·rename_i d hd
   cases h
   exact (n7d (y6c hg) hd S).mono fun d' S' ⟨h1,h2⟩=>⟨h2,h1⟩
  ·cases h
end Go.Proofs.DgT
