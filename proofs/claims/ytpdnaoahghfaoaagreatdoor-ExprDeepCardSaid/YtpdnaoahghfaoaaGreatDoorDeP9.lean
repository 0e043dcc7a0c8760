/- An expression out of words, and out of a text, by the document. -/
import Derived.Test.YtpdnaoahghfaoaaGreatDoorDeP8
set_option linter.unusedSimpArgs false
set_option linter.unusedVariables false
namespace Go.Proofs.DeT
open Go Go.DM
set_option maxRecDepth 100000

end Go.Proofs.DeT
