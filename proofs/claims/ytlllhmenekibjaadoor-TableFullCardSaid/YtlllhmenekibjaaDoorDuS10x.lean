/- The document's own stamps: which may be, which is newer, in words. -/
import Derived.Test.YtlllhmenekibjaaDoorDuS1x
set_option linter.unusedSimpArgs false
set_option linter.unusedVariables false
namespace Go.Proofs.DuT
open Go Go.DM Go.Proofs.DuF
set_option maxRecDepth 100000
variable {orc : DOracle}

end Go.Proofs.DuT

/- The document's own stamps: which may be, which is newer. -/
namespace Go.Proofs.DuT
open Go Go.DM Go.Proofs.DuF
set_option maxRecDepth 100000
variable {orc : DOracle}

end Go.Proofs.DuT

/- A stamp in the document's words. -/
namespace Go.Proofs.DuT
open Go Go.DM Go.Proofs.DuF
set_option maxRecDepth 100000
variable {orc : DOracle}

end Go.Proofs.DuT
