/- All words of a text, by the document. -/
import Derived.Test.YtpdnaoahghfaoaaGreatDoorDeL6
set_option linter.unusedSimpArgs false
set_option linter.unusedVariables false
namespace Go.Proofs.DeT
open Go Go.DM
set_option maxRecDepth 100000
variable {orc : DOracle}

end Go.Proofs.DeT
