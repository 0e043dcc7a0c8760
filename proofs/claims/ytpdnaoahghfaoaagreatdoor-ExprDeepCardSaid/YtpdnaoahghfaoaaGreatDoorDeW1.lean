/- Which trees are whole: those that the document finds nothing wrong with. -/
import Derived.Test.YtpdnaoahghfaoaaGreatDoorDeP1
import Derived.Test.YtpdnaoahghfaoaaGreatDoorDeK1
set_option linter.unusedSimpArgs false
set_option linter.unusedVariables false
namespace Go.Proofs.DeT
open Go Go.DM
set_option maxRecDepth 10000
end Go.Proofs.DeT
