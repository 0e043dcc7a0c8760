/- The document's reader: what looks at a word, what counts a node, what notes an error; products and sums. -/
import Derived.Test.YtcdijoaabbjioaaGreatDoorDgP4x
set_option linter.unusedSimpArgs false
set_option linter.unusedVariables false
namespace Go.Proofs.DgT
open Go Go.DM
set_option maxRecDepth 100000
def rC (l:List Tok) (a c b w:Int):List D:=[.sl none 4 l.length (t4a l),.int .i64 a,.int .i64 c,.int .i64 b,.int .i64 w]
end Go.Proofs.DgT
namespace Go.Proofs.DgT
open Go Go.DM
set_option maxRecDepth 100000
end Go.Proofs.DgT
namespace Go.Proofs.DgT
open Go Go.DM
set_option maxRecDepth 100000
end Go.Proofs.DgT
