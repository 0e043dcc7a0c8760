/- The fold's parser, by the program: looking at a word, telling an error by a panic. -/
import Derived.Test.YtcdijoaabbjioaaGreatDoorDgP9x
import Derived.Test.YtcdijoaabbjioaaGreatDoorDpAx
set_option linter.unusedSimpArgs false
set_option linter.unusedVariables false
namespace Go.Proofs.DgT
open Go Go.DM
set_option maxRecDepth 100000
end Go.Proofs.DgT
namespace Go.Proofs.DgT
open Go Go.DM
set_option maxRecDepth 100000
end Go.Proofs.DgT
namespace Go.Proofs.DgT
open Go Go.DM
set_option maxRecDepth 100000
end Go.Proofs.DgT
