/- A fold out of a text, by the program. -/
import Derived.Test.YtcdijoaabbjioaaGreatDoorDgG8
import Derived.Test.YtcdijoaabbjioaaGreatDoorDgP9x
set_option linter.unusedSimpArgs false
set_option linter.unusedVariables false
namespace Go.Proofs.DgT
open Go Go.DM
set_option maxRecDepth 100000
end Go.Proofs.DgT
