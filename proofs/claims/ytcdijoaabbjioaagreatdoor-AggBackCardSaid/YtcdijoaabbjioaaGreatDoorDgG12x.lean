/- What stands in a fold's brackets, by the document's reader. -/
import Derived.Test.YtcdijoaabbjioaaGreatDoorDgG10x
set_option linter.unusedSimpArgs false
set_option linter.unusedVariables false
namespace Go.Proofs.DgT
open Go Go.DM
set_option maxRecDepth 100000
end Go.Proofs.DgT
namespace Go.Proofs.DgT
open Go Go.DM
set_option maxRecDepth 100000
end Go.Proofs.DgT
namespace Go.Proofs.DgT
open Go Go.DM
set_option maxRecDepth 100000
variable {orc:c3a}
theorem l8e (s:ByteArray) (S:Mem):a3a Tryz.prog orc 33 [.str s] S fun d S'=>S'=S∧d = .bool (f6a s).2.2.2:=by
 refine a3a.e Tryz.func33 rfl Tryz.ntmps33 (by rfl) ?_
 repeat' (first|refine Go.a rfl ?_|refine Go.rg ?_|refine GoR.nil ?_|refine Go.ret ?_|refine Go.b rfl ?_|(refine GoR.o (by rfl) (by rfl) ?_;(conv=>arg 1;simp only [G,Z,Y,Gx,vV,simprocAttr,fb9]);show GoR ..)|refine Go.b0a rfl (fun hc => ?_) (fun hc => ?_))
 all_goals
  refine ⟨(by first | exact .inl rfl | exact .inr rfl),fin ?_⟩
  rw [a8a (fn:=Tryz.f33) rfl]
  simp only [a0a,a2a,a1a,G,Z,Y,Gx,vV,simprocAttr,fb9]
  refine ⟨_,[],by simp,Wk.of_low (.bool _),?_⟩
  simp_all [f6a]
theorem l9a {fn:ByteArray} (h:(f6a fn).2.2.2=true):fn=(⟨#[99,111,117,110,116]⟩:ByteArray)∨fn=(⟨#[102,105,114,115,116]⟩:ByteArray)∨fn=(⟨#[116,111,112]⟩:ByteArray)∨(fn≠(⟨#[99,111,117,110,116]⟩:ByteArray)∧fn≠(⟨#[116,111,112]⟩:ByteArray)∧fn≠(⟨#[102,105,114,115,116]⟩:ByteArray)∧f6a fn=(false,true,false,true)):=by
 by_cases h1:fn=(⟨#[99,111,117,110,116]⟩:ByteArray)
 ·exact .inl h1
 by_cases h2:fn=(⟨#[102,105,114,115,116]⟩:ByteArray)
 ·exact .inr (.inl h2)
 by_cases h3:fn=(⟨#[116,111,112]⟩:ByteArray)
 ·exact .inr (.inr (.inl h3))
 refine .inr (.inr (.inr ⟨h1,h3,h2,?_⟩))
 unfold f6a at h ⊢
 rw [if_neg h1,if_neg h2,if_neg h3] at h ⊢
 by_cases h4:fn=(⟨#[109,105,110]⟩:ByteArray)∨fn=(⟨#[109,97,120]⟩:ByteArray)∨fn=(⟨#[115,117,109]⟩:ByteArray)
 ·rw [if_pos h4]
 ·rw [if_neg h4] at h;cases h
end Go.Proofs.DgT
