/- The fold's parser, by the program: all of it, walked. -/
import Derived.Test.YtcdijoaabbjioaaGreatDoorDgG7
set_option linter.unusedSimpArgs false
set_option linter.unusedVariables false
namespace Go.Proofs.DgT
open Go Go.DM
set_option maxRecDepth 100000
def zA:List D:=[.str ⟨#[]⟩,.int .i64 0,.str ⟨#[]⟩,.str ⟨#[]⟩,.int .i64 0,.nils,.str ⟨#[]⟩,.str ⟨#[]⟩,.int .i64 0,.nils,.nils]
end Go.Proofs.DgT
