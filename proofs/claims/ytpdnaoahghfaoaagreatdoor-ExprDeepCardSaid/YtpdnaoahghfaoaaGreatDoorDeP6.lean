/- The document's reader: what looks at a word, what counts a node, what notes an error; products and sums. -/
import Derived.Test.YtpdnaoahghfaoaaGreatDoorDeP5
set_option linter.unusedSimpArgs false
set_option linter.unusedVariables false
namespace Go.Proofs.DeT
open Go Go.DM
set_option maxRecDepth 100000

end Go.Proofs.DeT
