/- The program's parser: products, sums, factors. -/
import Derived.Test.YtcdijoaabbjioaaGreatDoorDgP1x
import Derived.Test.YtcdijoaabbjioaaGreatDoorDgL6x
set_option linter.unusedSimpArgs false
set_option linter.unusedVariables false
namespace Go.Proofs.DgT
open Go Go.DM
set_option maxRecDepth 100000
end Go.Proofs.DgT
namespace Go.Proofs.DgT
open Go Go.DM
set_option maxRecDepth 100000
end Go.Proofs.DgT
