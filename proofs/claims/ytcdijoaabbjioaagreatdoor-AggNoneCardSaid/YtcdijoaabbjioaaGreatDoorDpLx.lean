/- The words of the language as a Lean function, and what holds of them: where they stand, and that words with blanks between are those again. -/
import Derived.Lib.ParseIntB
import Derived.Test.YtcdijoaabbjioaaGreatDoorDpAx
set_option linter.unusedSimpArgs false
set_option linter.unusedVariables false
namespace Go.DM
open Go
def sgnL:List UInt8:=[40,41,44,61,60,62,43,45,42,47,37]
structure Tok where
 k:Int
 t:ByteArray
 n:Int
 a:Nat
end Go.DM
