/- A map of attributes, rising by their keys: where a key is. -/
import Derived.Test.YtmbgelijgmmpbaaGreatDoorDvS33x
import Derived.Test.YtmbgelijgmmpbaaGreatDoorDvS27x
import Derived.Test.YtmbgelijgmmpbaaGreatDoorDmOx
set_option linter.unusedSimpArgs false
set_option linter.unusedVariables false
namespace Go.DM
open Go.AM
end Go.DM
namespace Go.Proofs.DvT
open Go Go.DM Go.Proofs.DvF
set_option maxRecDepth 100000
variable {orc:DOracle}
def pairC (a:Att):List D:=a.c
def pairsC (l:List Att):List D:=l.flatMap pairC
theorem pair_len (r:Att):(pairC r).length=5:=rfl
theorem pairsAt {l:List Att} {i:Nat} (h:i<l.length) :
  ((0≤(i:Int)∧(i:Int)<(l.length:Int))=True)∧(pairsC l)[i*5]?=some (.str l[i].n)∧((i*5+1+4≤(pairsC l).length)=True)∧((pairsC l).drop (i*5+1)).take 4=l[i].v.c ∧
  ((i*5+5≤(pairsC l).length)=True)∧((pairsC l).drop (i*5)).take 5=pairC l[i]:=
 ⟨ix_ok h,flat_cell0 pair_len l i h (by omega),flat_fits pair_len l i h (by omega),flat_part pair_len l i h (by omega),flat_fits0 pair_len l i h,flat_all pair_len l i h⟩
def MapAt (S:Mem) (m a:Nat) (l:List Att):Prop:=(a=m∧l=[]∧objAt S m=some [.nils])∨(a≠m∧objAt S m=some [.msl a 5 l.length]∧objAt S a=some (pairsC l))
end Go.Proofs.DvT
namespace Go.Proofs.DvT
open Go Go.DM Go.Proofs.DvF
set_option maxRecDepth 100000
variable {orc:DOracle}
end Go.Proofs.DvT
