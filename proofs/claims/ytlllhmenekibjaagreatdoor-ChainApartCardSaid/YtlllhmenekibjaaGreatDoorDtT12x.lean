/- The document's table: a row dropped, the least row. -/
import Derived.Test.YtlllhmenekibjaaGreatDoorDtT10x
set_option linter.unusedSimpArgs false
set_option linter.unusedVariables false
namespace Go.DM
open Go.AM
theorem Fr.grown' {F : List Nat} {b : Nat} {S S1 S2 : Mem} (x : Fr F S S1) (hb : S.length ≤ b) (hl : b ≤ S1.length) (g : Grown b S1 S2) : Fr F S S2 := by
  refine ⟨Nat.le_trans x.len g.len, fun o ho hF => ?_⟩
  have hl : (S1.take b).length = b := by rw [List.length_take]; omega
  obtain ⟨E', e⟩ := g.pre (S1.drop b) (S1.take b) hl (List.take_append_drop _ _).symm
  rw [e, List.getElem?_append_left (by omega), List.getElem?_take, if_pos (by omega)]
  exact x.at_ o ho hF
end Go.DM
namespace Go.Proofs.DtT
open Go Go.DM Go.Proofs.DtF
set_option maxRecDepth 100000
variable {orc : DOracle}

end Go.Proofs.DtT

/- The document's table: swept. -/
namespace Go.DM
open Go.AM
end Go.DM
namespace Go.Proofs.DtT
open Go Go.DM Go.Proofs.DtF
set_option maxRecDepth 100000
variable {orc : DOracle}

end Go.Proofs.DtT

/- The document's table: a row put. -/
namespace Go.DM
open Go.AM
end Go.DM
namespace Go.Proofs.DtT
open Go Go.DM Go.Proofs.DtF
set_option maxRecDepth 100000
variable {orc : DOracle}

end Go.Proofs.DtT

/- A table is the document's; two lists of texts. -/
namespace Go.Proofs.DtT
open Go Go.DM Go.Proofs.DtF
set_option maxRecDepth 100000
variable {orc : DOracle}

end Go.Proofs.DtT
