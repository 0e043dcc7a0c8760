/- Words as a text, by both; a number, by the document. -/
import Derived.Test.YtcdijoaabbjioaaGreatDoorDgL3x
set_option linter.unusedSimpArgs false
set_option linter.unusedVariables false
namespace Go.Proofs.DgT
open Go Go.DM
set_option maxRecDepth 100000
variable {orc:c3a}
theorem e4a {P:Program} {t:TypeId} {x y:Operand} {a b:ByteArray} (h:a.size+b.size<4611686018427387904):i6a P .add t x y (.str a) (.str b)=some (.str (a++b)):=
 f4b (v:=.string (a++b)) (by simp only [AM.b6d];rw [if_neg];show ¬ ((a.size+b.size:Nat):Int)>9223372036854775807;omega)
end Go.Proofs.DgT
namespace Go.Proofs.DgT
open Go Go.DM
set_option maxRecDepth 100000
variable {orc:c3a}
end Go.Proofs.DgT
namespace Go.Proofs.DgT
open Go Go.DM
set_option maxRecDepth 100000
variable {orc:c3a}
end Go.Proofs.DgT
