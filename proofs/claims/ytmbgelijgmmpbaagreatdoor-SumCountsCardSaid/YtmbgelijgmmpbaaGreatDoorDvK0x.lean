/- What is known of Go's library, as a run asks it. -/
import Derived.Test.YtmbgelijgmmpbaaGreatDoorDvS33x
import Derived.Test.YtmbgelijgmmpbaaGreatDoorDmOx
set_option linter.unusedSimpArgs false
set_option linter.unusedVariables false
namespace Go.Proofs.DvT
open Go Go.DM Go.Proofs.DvF
set_option maxRecDepth 100000
def strsOf:List D→Option (List ByteArray)
 | []=>some []
 | .str s::l=>(strsOf l).map (s :: ·)
 | _=>none
theorem strsOf_ok : ∀ {xs:List D} {l:List ByteArray},strsOf xs=some l→xs=l.map .str
 | [],l,h=>by simp [strsOf] at h;subst h;rfl
 | x::xs,l,h=>by
  cases x<;>simp only [strsOf,reduceCtorEq] at h
  rename_i s
  obtain ⟨m,hm,rfl⟩:=Option.map_eq_some_iff.1 h
  rw [strsOf_ok hm]
  rfl
def libE (f:FuncId) (args:List D) (S:Mem):Option (D×Mem):=
 if f==196 then match args with | [.str s,.str p]=>some (.tup [.str (trimB s p),.bool (hasB s p)],S) | _=>none
 else if f==99 then match args with | [.int .i64 n,.int .i64 10]=>if -9223372036854775808≤n∧n≤9223372036854775807 then some (.str (decB n),S) else none | _=>none
 else if f==60 then match args with
  | [.sl own 1 n xs,.str sep]=>match strsOf xs with | some l=>if n=l.length∧l.length≤140737488355328∧(joinB l sep).size≤140737488355328 then some (.str (joinB l sep),S) else none | none=>none
  | _=>none
 else if f==197 then match args with
  | [.str s,.str sep]=>if s.size<4294967281∧1≤sep.size then some (.sl none 1 (piecesOf s sep).length ((piecesOf s sep).map .str),S) else none
  | _=>none
 else if f==82 then match args with
  | [.msl o 5 n,.int .i64 i,.sl own 5 1 new]=>match objAt S o with
   | some cells=>if 0≤i∧i≤n∧n≤1000000∧new.length=5∧cells.all D.one=true∧new.all D.one=true∧cells.length=n*5 then some (.msl S.length 5 (n+1),S.set o .dead++[.obj (putL cells (i.toNat*5) new)]) else none
   | none=>none
  | [.nils,.int .i64 0,.sl own 5 1 new]=>if new.length=5∧new.all D.one=true then some (.msl S.length 5 1,S++[.obj new]) else none
  | _=>none
 else none
theorem libE_ok (f:FuncId) (args:List D) (S:Mem) (v:D) (S1:Mem) (h:libE f args S=some (v,S1)):CallD Tryz.prog O f args S fun d' S'=>d'=v∧S'=S1:=by
 unfold libE at h
 split at h
 ·rename_i hf
  have hf:=eq_of_beq hf
  subst hf
  split at h
  ·cases h;exact (cutPrefix _ _ S).mono fun d' S' ⟨h1,h2⟩=>⟨h2,h1⟩
  ·cases h
 split at h
 ·rename_i hf
  have hf:=eq_of_beq hf
  subst hf
  split at h
  ·split at h
   ·rename_i hn;cases h;exact (formatInt _ hn.1 hn.2 S).mono fun d' S' ⟨h1,h2⟩=>⟨h2,h1⟩
   ·cases h
  ·cases h
 split at h
 ·rename_i hf
  have hf:=eq_of_beq hf
  subst hf
  split at h
  ·split at h
   ·rename_i hl
    split at h
    ·rename_i hn;cases h
     obtain ⟨rfl,h2,h3⟩:=hn
     rw [strsOf_ok hl]
     exact (join _ _ _ h2 h3 S).mono fun d' S' ⟨h1,h2⟩=>⟨h2,h1⟩
    ·cases h
   ·cases h
  ·cases h
 split at h
 ·rename_i hf
  have hf:=eq_of_beq hf
  subst hf
  split at h
  ·split at h
   ·rename_i hn;cases h;exact (split _ _ hn.1 hn.2 S).mono fun d' S' ⟨h1,h2⟩=>⟨h2,h1⟩
   ·cases h
  ·cases h
 split at h
 ·rename_i hf
  have hf:=eq_of_beq hf
  subst hf
  split at h
  ·rename_i o n i own new
   split at h
   ·rename_i cells hob
    split at h
    ·rename_i hn;cases h
     obtain ⟨h0,h1,h2,h3,h4,h5,h6⟩:=hn
     obtain ⟨k,rfl⟩:=Int.eq_ofNat_of_zero_le h0
     exact (insert h3 (by omega) h2 h4 h5 hob h6).mono fun d' S' ⟨h1,h2⟩=>⟨h2,h1⟩
    ·cases h
   ·cases h
  ·split at h
   ·rename_i hn;cases h
    exact (insert0 hn.1 hn.2).mono fun d' S' ⟨h1,h2⟩=>⟨h2,h1⟩
   ·cases h
  ·cases h
 ·cases h
end Go.Proofs.DvT
namespace Go.Proofs.DvT
open Go Go.DM Go.Proofs.DvF
def hints19:Hints:=⟨[(7,5,[0,1,2],5,none),(14,5,[5],13,none),(25,1,[1],5,none),(25,5,[2],8,none),(33,30,[11],15,none),(38,5,[4],10,none),(42,1,[1,3,8],12,some (11,[6,9])),(42,5,[1,3,7,16,20],24,none),(58,7,[4],7,none),(76,5,[2],7,none),(83,5,[1],9,none),(90,1,[6,8,11,13],14,none),(111,3,[],8,some (13,[8])),(139,4,[4,8],12,none),(139,5,[4],8,none),(202,6,[3,7,9],11,none)],
 [(29,3,0)],[(7,5,2),(7,3,3)],[19,13,37,9,14,77,22,25,16],libE⟩
theorem known19:CallD Tryz.prog O 7 [] [] fun d S'=>S'=[]∧d = .bool true:=
 CallD.runTrue dmx (hs:=hints19) libE_ok 100000 (by kernel_rfl)
end Go.Proofs.DvT
