/- Tables above a memory; what putting comes to; all attributes. -/
import Derived.Test.YtlllhmenekibjaaGreatDoorDtT6x
import Derived.KernelRfl
set_option linter.unusedSimpArgs false
set_option linter.unusedVariables false
namespace Go.Proofs.DtT
open Go Go.DM Go.Proofs.DtF
set_option maxRecDepth 100000
variable {orc : DOracle}

theorem OkT.nil : OkT [] := ⟨fun i h => by simp at h, by simp, by simp⟩
theorem putT_new {most : Int} {l : List Rw} {r : Rw} (h : chkR r = 0) (hq : lookK Rw.key l r.key = none) (hm : (l.length : Int) < most) : putT most l r = (putK Rw.key l r, 0) := by
  rw [putT, if_neg (by simp [h]), hq]
  dsimp only
  rw [if_neg (by omega)]
theorem OkT.putT {most : Int} {l : List Rw} (h : OkT l) (hl : l.length < 900000) {r : Rw} (hr : OkR r) : OkT (putT most l r).1 := by
  unfold DtT.putT
  split
  · exact h
  · split
    · split
      · exact h.put (by omega) hr
      · exact h
    · split
      · split
        · exact (h.drop _).put (by rw [lenK_drop h.rise]; split <;> omega) hr
        · exact h
      · exact h.put (by omega) hr
theorem keptL_sub {now age : Int} {keep : ByteArray} {l : List Rw} : (keptL now age keep l).Sublist l := List.filter_sublist
end Go.Proofs.DtT

/- What the package of Table's laws knows. -/
namespace Go.Proofs.DtT
open Go Go.DM Go.Proofs.DtF
set_option maxRecDepth 100000

def rowAt (k : ByteArray) (st : St) : Rw := ⟨k, st, []⟩
theorem rowAt_ok (k : ByteArray) (st : St) : OkR (rowAt k st) := ⟨by simp [rowAt], by simp [rowAt]⟩
theorem rowAt_few {k : ByteArray} {st : St} (h1 : k.size < 1000000) (h2 : st.org.size < 1000000) : FewR (rowAt k st) := ⟨h1, h2, by simp [rowAt], by simp [rowAt], by simp [rowAt]⟩
end Go.Proofs.DtT
