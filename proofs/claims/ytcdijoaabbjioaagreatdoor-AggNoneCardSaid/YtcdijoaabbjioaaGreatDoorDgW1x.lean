/- Which trees are whole: those that the document finds nothing wrong with. -/
import Derived.Test.YtcdijoaabbjioaaGreatDoorDgP1x
import Derived.Test.YtcdijoaabbjioaaGreatDoorDgK1x
set_option linter.unusedSimpArgs false
set_option linter.unusedVariables false
namespace Go.Proofs.DgT
open Go Go.DM
set_option maxRecDepth 10000
inductive In64:Nd→Prop
 | mk {op nm n ks} (h:in64 n) (hk : ∀ k∈ks,In64 k):In64 (.mk op nm n ks)
end Go.Proofs.DgT
namespace Go.Proofs.DgT
open Go Go.DM
set_option maxRecDepth 100000
variable {orc:DOracle}
end Go.Proofs.DgT
