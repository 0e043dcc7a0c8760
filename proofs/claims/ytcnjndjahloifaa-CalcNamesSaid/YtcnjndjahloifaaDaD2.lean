/- What the helpers on attributes do: which are few, and as the document's. -/
import Derived.Test.YtcnjndjahloifaaDaD1
set_option linter.unusedSimpArgs false
set_option linter.unusedVariables false
namespace Go.Proofs.DaT
open Go Go.DM
set_option maxRecDepth 10000
variable {orc : DOracle}

theorem Att.len (a : Att) : a.c.length = 5 := rfl
theorem attsAt {l : List Att} {i : Nat} (h : i < l.length) :
    ((0 ≤ (i : Int) ∧ (i : Int) < (l.length : Int)) = True) ∧ (attsC l)[i * 5]? = some (.str l[i].n) ∧ ((i * 5 + 1 + 4 ≤ (attsC l).length) = True) ∧ ((attsC l).drop (i * 5 + 1)).take 4 = l[i].v.c ∧
    ((i * 5 + 5 ≤ (attsC l).length) = True) ∧ ((attsC l).drop (i * 5)).take 5 = l[i].c :=
  ⟨ix_ok h, flat_cell0 Att.len l i h (by omega), flat_fits Att.len l i h (by omega), flat_part Att.len l i h (by omega), flat_fits0 Att.len l i h, flat_all Att.len l i h⟩

def fewV (v : Val) : Bool := decide (v.s.size ≤ 200) && decide (v.l.length ≤ 40)
def fewA (a : Att) : Bool := decide (a.n.size ≤ 100) && fewV a.v
theorem att_low {n : Nat} (a : Att) : LowL n a.c := .cons (.str _) Val.low
theorem atts_low {n : Nat} (l : List Att) : LowL n (attsC l) := .of_mem (by
  intro x hx
  simp only [attsC, List.mem_flatMap] at hx
  obtain ⟨a, _, hx⟩ := hx
  obtain ⟨i, hi, rfl⟩ := List.mem_iff_getElem.1 hx
  exact (att_low a).get i hi)

end Go.Proofs.DaT
