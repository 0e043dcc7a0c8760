/- The document's table: looked at. -/
import Derived.Test.YtlllhmenekibjaaGreatDoorDtT8x
import Derived.Test.YtlllhmenekibjaaGreatDoorDmOx
set_option linter.unusedSimpArgs false
set_option linter.unusedVariables false
namespace Go.Proofs.DtT
open Go Go.DM Go.Proofs.DtF
set_option maxRecDepth 100000
variable {orc : DOracle}

end Go.Proofs.DtT

/- Few rows; what putting comes to, plainly. -/
namespace Go.Proofs.DtT
open Go Go.DM Go.Proofs.DtF
set_option maxRecDepth 100000
variable {orc : DOracle}

end Go.Proofs.DtT
