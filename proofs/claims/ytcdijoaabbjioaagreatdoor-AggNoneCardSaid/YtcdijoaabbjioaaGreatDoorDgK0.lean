/- What is known of Go's library, as a run asks it. -/
import Derived.Test.YtcdijoaabbjioaaGreatDoorDgL1x
import Derived.Test.YtcdijoaabbjioaaGreatDoorDmRnx
set_option linter.unusedSimpArgs false
set_option linter.unusedVariables false
namespace Go.Proofs.DgT
open Go Go.DM
set_option maxRecDepth 100000
def strsOf:List D→Option (List ByteArray)
 | []=>some []
 | .str s::l=>(strsOf l).map (s :: ·)
 | _=>none
theorem strsOf_ok : ∀ {xs:List D} {l:List ByteArray},strsOf xs=some l→xs=l.map .str
 | [],l,h=>by simp [strsOf] at h;subst h;rfl
 | x::xs,l,h=>by
  cases x<;>simp only [strsOf,reduceCtorEq] at h
  rename_i s
  obtain ⟨m,hm,rfl⟩:=Option.map_eq_some_iff.1 h
  rw [strsOf_ok hm]
  rfl
def libJoin:List D→Option D
 | [.sl _ 1 n xs,.str sep]=>match strsOf xs with | some l=>if n=l.length∧l.length≤140737488355328∧(joinB l sep).size≤140737488355328 then some (.str (joinB l sep)) else none | none=>none
 | _=>none
def libFormat:List D→Option D
 | [.int .i64 n,.int .i64 10]=>if -9223372036854775808≤n∧n≤9223372036854775807 then some (.str (itoaB n)) else none
 | _=>none
def libParse:List D→Option D
 | [.str s,.int .i64 10,.int .i64 64]=>if s.size<1000000 then match Lib.parseIntB 64 s.data.toList with | .ok n=>some (.tup [.int .i64 n,.nili]) | _=>none else none
 | _=>none
def libCont:List D→Option D
 | [.str a,.str ⟨⟨[b]⟩⟩]=>if a=(⟨#[40,41,44,61,60,62,43,45,42,47,37]⟩:ByteArray) then some (.bool (decide (b∈sgnL))) else none
 | _=>none
def libContL:List D→Option D
 | [.sl _ 1 n xs,.str x]=>match strsOf xs with | some l=>if n=l.length∧l.length<1000000 then some (.bool (Lib.containsS l x)) else none | none=>none
 | _=>none
def libFields:List D→Option D
 | [.str a]=>if a=(⟨#[33,61,32,60,61,32,62,61]⟩:ByteArray) then some (.sl none 1 3 (twoL.map .str)) else none
 | _=>none
def libTab:List (FuncId×(List D→Option D)):=[(52,libJoin),(50,libFormat),(153,libParse),(156,libCont),(154,libContL),(155,libFields)]
def findT (f:FuncId):List (FuncId×(List D→Option D))→Option (List D→Option D)
 | []=>none
 | (g,h)::l=>match Nat.beq g f with | true=>some h | false=>findT f l
def libA (f:FuncId) (args:List D) (S:Mem):Option (D×Mem):=match findT f libTab with | none=>none | some h=>(match h args with | some d=>some (d,S) | none=>none)
theorem findT_ok {f:FuncId} {h:List D→Option D} : ∀ {l:List (FuncId×(List D→Option D))},findT f l=some h→(f,h)∈l
 | [],e=>by cases e
 | (g,h')::l,e=>by
  simp only [findT] at e
  split at e
  ·rename_i q
   cases e
   rw [← Nat.eq_of_beq_eq_true q]
   exact List.mem_cons_self ..
  ·exact List.mem_cons_of_mem _ (findT_ok e)
theorem libTab_ok {f:FuncId} {h:List D→Option D} (hm:(f,h)∈libTab) {args:List D} {d:D} (e:h args=some d) (S:Mem):CallD Tryz.prog O f args S fun d' S'=>S'=S∧d'=d:=by
 simp only [libTab,List.mem_cons,List.not_mem_nil,or_false,Prod.mk.injEq] at hm
 rcases hm with ⟨rfl,rfl⟩ | ⟨rfl,rfl⟩ | ⟨rfl,rfl⟩ | ⟨rfl,rfl⟩ | ⟨rfl,rfl⟩ | ⟨rfl,rfl⟩
 ·unfold libJoin at e
  split at e
  ·split at e
   ·rename_i hl
    split at e
    ·rename_i hn;cases e
     obtain ⟨rfl,h2,h3⟩:=hn
     rw [strsOf_ok hl]
     exact join _ _ _ h2 h3 S
    ·cases e
   ·cases e
  ·cases e
 ·unfold libFormat at e
  split at e
  ·split at e
   ·rename_i hn;cases e;exact formatInt _ hn.1 hn.2 S
   ·cases e
  ·cases e
 ·unfold libParse at e
  split at e
  ·split at e
   ·rename_i hn
    split at e
    ·rename_i hp;cases e;exact parseOk _ _ hn hp S
    ·cases e
   ·cases e
  ·cases e
 ·unfold libCont at e
  split at e
  ·split at e
   ·rename_i hn;cases e;subst hn;exact contains1 _ S
   ·cases e
  ·cases e
 ·unfold libContL at e
  split at e
  ·split at e
   ·rename_i hl
    split at e
    ·rename_i hn;cases e
     obtain ⟨rfl,h2⟩:=hn
     rw [strsOf_ok hl]
     exact containsL _ _ _ h2 S
    ·cases e
   ·cases e
  ·cases e
 ·unfold libFields at e
  split at e
  ·split at e
   ·rename_i hn;cases e;subst hn;exact fieldsTwo S
   ·cases e
  ·cases e
theorem libA_ok (f:FuncId) (args:List D) (S:Mem) (v:D) (S1:Mem) (h:libA f args S=some (v,S1)):CallD Tryz.prog O f args S fun d' S'=>d'=v∧S'=S1:=by
 unfold libA at h
 split at h
 ·cases h
 ·rename_i g hg
  split at h
  ·rename_i d hd
   cases h
   exact (libTab_ok (findT_ok hg) hd S).mono fun d' S' ⟨h1,h2⟩=>⟨h2,h1⟩
  ·cases h
end Go.Proofs.DgT
