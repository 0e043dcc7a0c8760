/- An abstract machine over Go's operations: how a law's row is closed. -/
import Derived.Test.YtipeffaojbhbmaaDoorAmV
import Derived.Test.YtipeffaojbhbmaaDoorAmR
import Derived.ProofKit
set_option linter.unusedSimpArgs false
set_option linter.unusedVariables false
namespace Go.AM
open Go Go.ChangeShapes Go.WideShapes Go.RowKit

def noOrc : Oracle := fun _ _ _ _ _ _ => False
theorem noOrc_sound {P : Program} : OrcSound P noOrc := fun _ _ _ _ _ _ h => h.elim

theorem Step.below {φ φ' H H' w w'} (s : Step 0 φ H w φ' H' w') (hro : ∀ h b, hget H h = some b → b.rw = false) : Below w.heap.size w w' :=
  ⟨s.os, s.tape, s.output, s.size, fun k hk => s.frame k hk fun h blk _ hg hr => by rw [hro h blk hg] at hr; cases hr⟩

/-- What the abstract machine returns, the model does. -/
theorem calls_true {P : Program} {orc : Oracle} (ho : OrcSound P orc) {f : FuncId} {args : List Value} {args' : Array Value} {H : Heap} {φ : Nat → Place} {W : World} (hs : Sim φ H W)
    (hro : ∀ h b, hget H h = some b → b.rw = false) (hargs : LRel H.length φ args args'.toList) (h : CallA P orc 0 f args H fun v _ => v = .bool true) :
    Calls P f args' W fun e W' => e = .returned (.bool true) ∧ Below W.heap.size W W' := by
  obtain ⟨v, H', hb, rfl⟩ := h
  refine hb.sound ho φ W hs args' hargs _ fun v' φ' w' hst hv => ?_
  cases hv
  exact ⟨rfl, hst.below hro⟩

section
variable {H : Type} {enc : TypeId × Value → H} {P : Program}

theorem trodAll_below (hl : laidOutB P = true) {W W' : World} (hb : Below W.heap.size W W') : ∀ {ts : List TypeId} {vs : List Value} {ds : List (DataW H)} {ps : List MemPlace}, (∀ t ∈ ts, P.readableRec t = true ∧ t < P.types.size) →
    DataW.TrodAll enc P W 0 (fun _ => true) true ts vs ds ps → (∀ x ∈ ps, x.block < W.heap.size) → DataW.TrodAll enc P W' 0 (fun b => decide (b < W.heap.size)) true ts vs ds ps
  | [], _, _, _, _, h, _ => by
    obtain ⟨rfl, rfl, rfl⟩ := trodAll_nil h
    exact rfl
  | t :: ts, _, _, _, hr, h, hlt => by
    obtain ⟨v, vs', d, ds', p, q, rfl, rfl, rfl, h1, h2⟩ := trodAll_cons h
    exact ⟨p, q, Below.trod hl (hr t (by simp)).1 (hr t (by simp)).2 h1 hb fun x hx => hlt x (by simp [hx]), trodAll_below hl hb (fun t ht => hr t (by simp [ht])) h2 fun x hx => hlt x (by simp [hx]), rfl⟩

/-- The end of a row 'for every input the law returns true'. -/
theorem post_true {f : Func} {s : ChangeSpec} {apart handsOn : Bool} {W W' : World} {args : Array Value} {ds gs : List (DataW H)} {before : List MemPlace} {tb : TypeId}
    (hW : DataW.Whole enc P f.params.toList s.vars apart W args.toList ds gs before) (hv : s.vars = []) (hfn : s.fn H (ds ++ gs) = { results := [.lit (.bool true)], args := ds })
    (hl : laidOutB P = true) (hrd : ∀ t ∈ f.params.toList, P.readableRec t = true ∧ t < P.types.size) (hr : f.resultTypes = #[tb]) (ht : P.underlying tb = some .bool) (hb : Below W.heap.size W W') :
    s.post enc P f apart true handsOn false W args (.bool true) W' := by
  have hlt := hW.lt
  have hW0 := hW
  obtain ⟨p, q, hA, hV, rfl, hfz, hnd⟩ := hW
  rw [hv] at hV
  obtain ⟨hg, hq⟩ := trodVars_none hV
  subst hq
  refine ⟨ds, gs, p ++ [], [], p, [], hW0, ?_, ?_, ?_, ?_, fun h => by cases h⟩
  · rw [hfn, hr]
    exact trodAll_mk1 ⟨1, by simp [DataW.trod, Value.cells, ht, Lit.wf]⟩
  · rw [hfn]
    exact trodAll_below hl hb hrd hA fun x hx => hlt x (by simpa using hx)
  · rw [hfn, hv]
    exact rfl
  · exact World.keptBut_mono (fun p h => h.elim) (hb.frame fun _ => False)
end
end Go.AM
