/- A fold out of a text, by the document. -/
import Derived.Test.YtcdijoaabbjioaaGreatDoorDgG12x
import Derived.Test.YtcdijoaabbjioaaGreatDoorDgP9x
set_option linter.unusedSimpArgs false
set_option linter.unusedVariables false
namespace Go.Proofs.DgT
open Go Go.DM
set_option maxRecDepth 100000
theorem f9d.g7f {n:Nat} {w:D} {ws:List Cd} {E:Mem} (h:f9d n w ws E) (hl:ws.length<1000) (c:Cd) {S0:Mem} (h0:S0.length=n+2) :
  ∃ w' E',(∀ own,b4a Tryz.prog #[35,35] w (.sl own 9 1 (Cd.c c)) (S0++(E++[.own]))=some (w',S0++E'))∧f9d n w' (ws++[c]) E':=by
 have ha:=(h.acc h0).app [.own]
 rw [List.append_assoc] at ha
 obtain ⟨w',S',hap,hacc,hg⟩:=ha.append (P:=Tryz.prog) l8b (own:=none) (m:=1) (new:=Cd.c c) (by simp;omega) (by omega) ⟨by omega,by omega,by omega,by simp [Cd.c,Nd.one,D.one]⟩
 obtain ⟨E',hE⟩:=hg.pre (E++[.own]) S0 h0 rfl
 subst hE
 refine ⟨w',E',fun own=>n4a.trans hap,?_⟩
 rcases hacc with ⟨_,h2,_⟩ | ⟨_,h2,_⟩ | ⟨id,h1,h2,h3⟩
 ·omega
 ·omega
 ·refine .inr ⟨by simp,id - (n+2),?_,?_⟩
  ·rw [h2,show n+2+(id - (n+2))=id by omega]
   simp [i7a]
  ·rw [List.getElem?_append_right (by omega),h0] at h3
   exact h3
def m3 (S:Mem) (A:List D) (l:List Tok) (a b w:Int) (E:Mem):Mem:=S++(.obj zA :: .obj (rC l a 0 b w) :: .obj A::E)
variable {l:List Tok}
theorem u1e {i:Nat} {k:Int} {s:ByteArray} (h:isW l i k s=true):i<l.length:=by
 unfold isW at h
 cases hq:l[i]? with
 | none=>rw [hq] at h;cases h
 | some t=>exact (List.getElem?_eq_some_iff.1 hq).1
end Go.Proofs.DgT
