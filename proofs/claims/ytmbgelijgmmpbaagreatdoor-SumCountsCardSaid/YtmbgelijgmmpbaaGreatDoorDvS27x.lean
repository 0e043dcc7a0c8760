/- Attributes told apart: a slice that may be written. -/
import Derived.Test.YtmbgelijgmmpbaaGreatDoorDvS23x
set_option linter.unusedSimpArgs false
set_option linter.unusedVariables false
namespace Go.DM
open Go.AM
section
variable {P:Program} {orc:DOracle} {fl sz:Nat} {ops:Array Oper} {loose:List Nat} {Inv:Mem→Prop} {F:Nat} {k:List AM.K} {ρ:DEnv} {H:Mem} {Q:AM.AExit→DEnv→Mem→Prop}
end
end Go.DM
namespace Go.Proofs.DvT
open Go Go.DM Go.Proofs.DvF
set_option maxRecDepth 100000
variable {orc:DOracle}
theorem len_msl {P:Program} {S:Mem} {at_:Array TypeId} {t e:Nat} (h:at_[0]?=some t) (hu:P.underlying t=some (.slice e)) {o n len:Nat} : builtinD P .len at_ [.msl o n len] S=some (.int .i64 len,S):=by simp [builtinD,h,hu]
end Go.Proofs.DvT
namespace Go.Proofs.DvT
open Go Go.DM Go.Proofs.DvF
set_option maxRecDepth 100000
variable {orc:DOracle}
theorem ix_msl {P:Program} {t e n:Nat} (hu:P.underlying t=some (.slice e)) (hs:AM.sizeA P e=some n) {o:Nat} {len:Nat} {k:IntKind} {i:Int} :
  indexAtD P t (.msl o n len) (.int k i)=if 0≤i∧i<len then some (.ptr o (i.toNat*n)) else none:=by
 simp only [indexAtD,hu,hs,and_true]
end Go.Proofs.DvT
namespace Go.Proofs.DvT
open Go Go.DM Go.Proofs.DvF
set_option maxRecDepth 100000
variable {orc:DOracle}
def attsD (l:List Att):D:=.sl none 5 l.length (attsC l)
end Go.Proofs.DvT
namespace Go.Proofs.DvT
open Go Go.DM Go.Proofs.DvF
set_option maxRecDepth 100000
variable {orc:DOracle}
end Go.Proofs.DvT
namespace Go.Proofs.DvT
open Go Go.DM Go.Proofs.DvF
set_option maxRecDepth 100000
variable {orc:DOracle}
end Go.Proofs.DvT
namespace Go.DM
open Go.AM
end Go.DM
namespace Go.Proofs.DvT
open Go Go.DM Go.Proofs.DvF
set_option maxRecDepth 100000
variable {orc:DOracle}
theorem attsD_low {n:Nat} (l:List Att):DLow n (attsD l):=.sl none 5 _ _ (fun id h=>by cases h) (atts_low l).get
end Go.Proofs.DvT
