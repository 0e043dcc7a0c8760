/- A fold out of a text, by the document. -/
import Derived.Test.YtcdijoaabbjioaaGreatDoorDgG12x
import Derived.Test.YtcdijoaabbjioaaGreatDoorDgP9x
set_option linter.unusedSimpArgs false
set_option linter.unusedVariables false
namespace Go.Proofs.DgT
open Go Go.DM
set_option maxRecDepth 100000
theorem AccE.moreR {n:Nat} {w:D} {ws:List Cd} {E:Mem} (h:AccE n w ws E) (hl:ws.length<1000) (c:Cd) {S0:Mem} (h0:S0.length=n+2) :
  ∃ w' E',(∀ own,appendD Tryz.prog #[35,35] w (.sl own 9 1 (Cd.c c)) (S0++(E++[.own]))=some (w',S0++E'))∧AccE n w' (ws++[c]) E':=by
 have ha:=(h.acc h0).app [.own]
 rw [List.append_assoc] at ha
 obtain ⟨w',S',hap,hacc,hg⟩:=ha.append (P:=Tryz.prog) del35 (own:=none) (m:=1) (new:=Cd.c c) (by simp;omega) (by omega) ⟨by omega,by omega,by omega,by simp [Cd.c,Nd.one,D.one]⟩
 obtain ⟨E',hE⟩:=hg.pre (E++[.own]) S0 h0 rfl
 subst hE
 refine ⟨w',E',fun own=>append_own.trans hap,?_⟩
 rcases hacc with ⟨_,h2,_⟩ | ⟨_,h2,_⟩ | ⟨id,h1,h2,h3⟩
 ·omega
 ·omega
 ·refine .inr ⟨by simp,id - (n+2),?_,?_⟩
  ·rw [h2,show n+2+(id - (n+2))=id by omega]
   simp [cdsC]
  ·rw [List.getElem?_append_right (by omega),h0] at h3
   exact h3
variable {l:List Tok}
end Go.Proofs.DgT
