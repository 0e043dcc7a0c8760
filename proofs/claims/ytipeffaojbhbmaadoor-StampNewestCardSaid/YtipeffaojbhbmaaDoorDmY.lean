/- A machine over Go's operations in which slices are values: what the abstract machine shows of a call. -/
import Derived.Test.YtipeffaojbhbmaaDoorDmX
set_option linter.unusedSimpArgs false
set_option linter.unusedVariables false
namespace Go.DM
open Go Go.AM

/-- Calls on closed values that return so, by the abstract machine. -/
abbrev RunT := FuncId × List Value × Value
def runOrc (l : List RunT) : DOracle := fun f args d => ∃ vs v, (f, vs, v) ∈ l ∧ args = vs.map ofV ∧ d = ofV v
structure RunOk (P : Program) (x : RunT) : Prop where
  args : x.2.1.all closedV = true
  back : x.2.1.map (fun v => toV (ofV v)) = x.2.1.map some
  val : closedV x.2.2 = true
  run : Big P noOrc 0 (.call x.1 x.2.1) [] (.val x.2.2) []

theorem back_eq {r : Rl} : ∀ {us vs : List Value}, us.map (fun v => toV (ofV v)) = us.map some → DL r (us.map ofV) vs → vs = us
  | [], [], _, _ => rfl
  | [], _ :: _, _, h => by simp [DL] at h
  | _ :: _, [], _, h => by simp [DL] at h
  | u :: us, v :: vs, hb, h => by
    simp only [List.map_cons, List.cons.injEq] at hb
    have h0 : DRel r (ofV u) v := h.head
    rw [toV_eq h0 hb.1, back_eq hb.2 h.tail]

theorem runOrc_sound {P : Program} {A : Beside} {l : List RunT} (h : ∀ x ∈ l, RunOk P x) : DOrcSound P A (runOrc l) := by
  rintro f args d ⟨us, v, hv, rfl, rfl⟩ r φ w hs vs args' dl hargs
  obtain ⟨ha, hbk, hc, hb⟩ := h _ hv
  have hvs := back_eq hbk dl
  subst hvs
  have hb' : Big P noOrc 0 (.call f vs) r.H (.val v) r.H := .pure hb ha hc
  refine hb'.sound noOrc_sound φ w hs.1 args' hargs _ fun v' φ' w' hst hv => ?_
  exact ⟨r, v, v', φ', rfl, .refl r, fun S h => h, hst, .ofV v, hv⟩

theorem runOk_of {P : Program} {f : FuncId} {args : List Value} {v : Value} (hm : P.follows .mixedOrders = true) (n : Nat) (h : valOf (AM.run P 0 n (.call f args) []) = some v)
    (ha : args.all closedV = true) (hb : args.map (fun v => toV (ofV v)) = args.map some) (hc : closedV v = true) : RunOk P (f, args, v) := by
  refine ⟨ha, hb, hc, ?_⟩
  obtain ⟨v', H', hbig, rfl, rfl⟩ := CallA.runs (orc := noOrc) (base := 0) (H := []) hm n h ha hc
  exact hbig
theorem CallD.closed {P : Program} {l : List RunT} {f : FuncId} {us : List Value} {v : Value} {S : Mem} (h : (f, us, v) ∈ l) : CallD P (runOrc l) f (us.map ofV) S fun d S' => S' = S ∧ d = ofV v :=
  ⟨_, _, .orc ⟨us, v, h, rfl, rfl⟩, rfl, rfl⟩
end Go.DM
