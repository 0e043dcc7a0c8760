/- Words as a text, by both; a number, by the document. -/
import Derived.Test.YtpdnaoahghfaoaaGreatDoorDeL5
set_option linter.unusedSimpArgs false
set_option linter.unusedVariables false
namespace Go.Proofs.DeT
open Go Go.DM
set_option maxRecDepth 100000
variable {orc : DOracle}

theorem add_str {P : Program} {t : TypeId} {x y : Operand} {a b : ByteArray} (h : a.size + b.size < 4611686018427387904) : binD P .add t x y (.str a) (.str b) = some (.str (a ++ b)) :=
  bin_str (v := .string (a ++ b)) (by simp only [AM.strBin]; rw [if_neg]; show ¬ ((a.size + b.size : Nat) : Int) > 9223372036854775807; omega)
end Go.Proofs.DeT
