/- What the package of Agg's laws knows: it is just run. -/
import Derived.Test.YtcdijoaabbjioaaGreatDoorDgK0
import Derived.Test.YtcdijoaabbjioaaGreatDoorDmRnx
set_option linter.unusedSimpArgs false
set_option linter.unusedVariables false
namespace Go.Proofs.DgT
open Go Go.DM
set_option maxRecDepth 100000
def j0e:Hints:=⟨[(9,3,[1,2],5,none),(17,9,[1],8,none),(17,16,[10,14],19,none),(18,2,[19],20,none),(29,7,[4],7,none),(30,22,[1],5,none),(84,1,[],8,some (13,[8])),(87,6,[1,2],6,none),(127,4,[4,8],12,none),(127,5,[4],8,none),(131,1,[4],8,none),(192,6,[1],4,none),(217,18,[3,7,9],11,none)],[(60,5,4)],[],[80,123,125,126,151,28,127,82,84,87,85,217,193,157,192,106,47,105,59,60,20,51,98,54,15,17,18,9,27,30],[9],[(60,9,[5],false)],[],g6f⟩
theorem b5b:a3a Tryz.prog O 8 [] [] fun d S'=>S'=[]∧d = .bool true:=
 a3a.a3e (C:=⟨Tryz.prog,j0e⟩) dmx k5e 100000 (by kernel_rfl)
end Go.Proofs.DgT
