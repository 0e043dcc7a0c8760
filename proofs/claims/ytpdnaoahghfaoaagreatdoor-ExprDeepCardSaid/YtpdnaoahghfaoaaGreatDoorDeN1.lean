/- How many nodes a tree has, as the law counts them. -/
import Derived.Test.YtpdnaoahghfaoaaGreatDoorDeC8
set_option linter.unusedSimpArgs false
set_option linter.unusedVariables false
namespace Go.Proofs.DeT
open Go Go.DM
set_option maxRecDepth 100000
variable {orc : DOracle}

theorem add_cast {i j : Nat} (h : i + j < 4611686018427387904) : IntKind.i64.wrap ((i : Int) + (j : Int)) = ((i + j : Nat) : Int) := by rw [wrap64 (by omega) (by omega)]; omega
/-- How many nodes there are. -/
def cnt : Nd → Nat
  | .mk _ _ _ ks => 1 + (ks.attach.map fun ⟨k, _⟩ => cnt k).sum
termination_by n => SizeOf.sizeOf n
decreasing_by exact Nd.kid_lt ‹_›
def cnts (ks : List Nd) : Nat := (ks.map cnt).sum
theorem cnt_mk {op nm : ByteArray} {n : Int} {ks : List Nd} : cnt (.mk op nm n ks) = 1 + cnts ks := by
  rw [cnt, cnts]
  simp
theorem cnts_succ {ks : List Nd} {i : Nat} (h : i < ks.length) : cnts (ks.take (i + 1)) = cnts (ks.take i) + cnt ks[i] := by
  rw [← List.take_append_getElem h]
  simp only [cnts, List.map_append, List.sum_append, List.map_cons, List.map_nil, List.sum_cons, List.sum_nil, Nat.add_zero]

end Go.Proofs.DeT
