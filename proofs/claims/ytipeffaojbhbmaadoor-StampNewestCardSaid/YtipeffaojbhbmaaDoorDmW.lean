/- A machine over Go's operations in which slices are values: how a law's row is closed. -/
import Derived.Test.YtipeffaojbhbmaaDoorDmN
import Derived.Test.YtipeffaojbhbmaaDoorAmW
set_option linter.unusedSimpArgs false
set_option linter.unusedVariables false
namespace Go.DM
open Go Go.AM Go.RowKit

def noOrcD : DOracle := fun _ _ _ => False
/-- Nothing is kept beside. -/
def noBeside : Beside := fun _ _ _ => True
theorem noBeside_kept : Kept noBeside := fun _ _ _ _ _ _ _ _ => trivial
theorem noOrcD_sound {P : Program} {A : Beside} : DOrcSound P A noOrcD := fun _ _ _ h => h.elim

theorem srel_nil {r : Rl} (h : r.n = 0) : SRel r [] :=
  ⟨by simpa using h, fun o cells h => by simp [objAt] at h, fun id h => by simp at h, fun i j _ ⟨x, hx, _⟩ => by simp at hx⟩

/-- What this machine returns, the model does. -/
theorem callsD_true {P : Program} {A : Beside} (hA : Kept A) {orc : DOracle} (ho : DOrcSound P A orc) {f : FuncId} {ds : List D} {vs : List Value} {args' : Array Value} {r : Rl} {φ : Nat → AM.Place} {W : World} (hn : r.n = 0) (hs : SimA A φ r.H W)
    (hro : ∀ h b, hget r.H h = some b → b.rw = false) (hd : DL r ds vs) (hargs : LRel r.H.length φ vs args'.toList) (h : CallD P orc f ds [] fun d _ => d = .bool true) :
    Calls P f args' W fun e W' => e = .returned (.bool true) ∧ Below W.heap.size W W' := by
  obtain ⟨d, S', hb, rfl⟩ := h
  refine hb.sound hA ho r φ W (srel_nil hn) hs vs args' hd hargs _ fun r' u v' φ' w' le sr hst du hv => ?_
  cases du
  cases hv
  exact ⟨rfl, hst.below hro⟩
end Go.DM
