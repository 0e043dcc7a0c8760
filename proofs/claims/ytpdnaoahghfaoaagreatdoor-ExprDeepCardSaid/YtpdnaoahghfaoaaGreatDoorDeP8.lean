/- The document's reader: factors. -/
import Derived.Test.YtpdnaoahghfaoaaGreatDoorDeP7
set_option linter.unusedSimpArgs false
set_option linter.unusedVariables false
namespace Go.Proofs.DeT
open Go Go.DM
set_option maxRecDepth 100000

end Go.Proofs.DeT
