/- As many nodes as may be, in any shape; signs of one kind from the left: the laws. -/
import Derived.Test.YtpdnaoahghfaoaaGreatDoorDeK4
set_option linter.unusedSimpArgs false
set_option linter.unusedVariables false
namespace Go.Proofs.DeT
open Go Go.DM
set_option maxRecDepth 100000

end Go.Proofs.DeT
