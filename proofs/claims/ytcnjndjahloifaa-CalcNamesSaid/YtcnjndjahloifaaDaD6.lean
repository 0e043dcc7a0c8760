/- Whether attributes may be: what the reference's check tells. -/
import Derived.Test.YtcnjndjahloifaaDaD5
import Derived.Test.YtcnjndjahloifaaDpA
set_option linter.unusedSimpArgs false
set_option linter.unusedVariables false
namespace Go.Proofs.DaT
open Go Go.DM
set_option maxRecDepth 100000

theorem intsAt {l : List Int} {i : Nat} (h : i < l.length) : ((0 ≤ (i : Int) ∧ (i : Int) < (l.length : Int)) = True) ∧ (intsD l)[i]? = some (.int .i64 l[i]) := ⟨ix_ok h, by simp [intsD, h]⟩
theorem pred_cast {i : Nat} (h : 0 < i) (h2 : i < 4611686018427387904) : IntKind.i64.wrap ((i : Int) - 1) = ((i - 1 : Nat) : Int) := by rw [wrap64 (by omega) (by omega)]; omega

end Go.Proofs.DaT
