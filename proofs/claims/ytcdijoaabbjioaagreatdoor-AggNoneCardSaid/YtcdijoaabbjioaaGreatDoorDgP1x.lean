/- An expression out of words: the parser as a function; as many steps as there are words are enough. -/
import Derived.Test.YtcdijoaabbjioaaGreatDoorDgC5x
import Derived.Test.YtcdijoaabbjioaaGreatDoorDgL3x
import Derived.Test.YtcdijoaabbjioaaGreatDoorDgL1x
set_option linter.unusedSimpArgs false
set_option linter.unusedVariables false
namespace Go.Proofs.DgT
open Go Go.DM
set_option maxRecDepth 10000
def in64 (x:Int):Prop := -9223372036854775808≤x∧x≤9223372036854775807
end Go.Proofs.DgT
namespace Go.Proofs.DgT
open Go Go.DM
set_option maxRecDepth 100000
theorem CallD.ret2 {P:Program} {orc:DOracle} {f:FuncId} {args:List D} {S X:Mem} {Y:D} {Q:D→Mem→Prop} (h:CallD P orc f args S fun d S'=>S'=X∧d=Y) (hq:Q Y X):CallD P orc f args S Q:=h.mono (by rintro d S' ⟨rfl,rfl⟩;exact hq)
end Go.Proofs.DgT
namespace Go.Proofs.DgT
open Go Go.DM
set_option maxRecDepth 100000
end Go.Proofs.DgT
