/- How a row of Table's laws is closed. -/
import Derived.Test.YtlllhmenekibjaaDoorDuT8x
import Derived.Test.YtlllhmenekibjaaDoorDmLx
import Derived.Test.YtlllhmenekibjaaDoorRows
import Derived.ProofKit
import Derived.OpenShut
import Derived.LaidMore
import Derived.LaidLaws
import Derived.Lay
import Derived.Stop.Joined
import Derived.Test.YtlllhmenekibjaaDoorDuG0x
import Derived.Test.YtlllhmenekibjaaDoorCards
import Derived.Test.YtlllhmenekibjaaDoorTie
import Derived.SevenTiedAt
set_option linter.unusedSimpArgs false
set_option linter.unusedVariables false
namespace Go.Proofs.DuT
open Go Go.DM Go.Proofs.DuF
set_option maxRecDepth 100000
end Go.Proofs.DuT
namespace Go.Proofs.YtlllhmenekibjaaDoor
open Go Go.AM Go.DM Go.ChangeShapes Go.WideShapes Go.ChangeAt Go.RowKit Go.ChangeMaps
theorem Tryd.own : ownKnob Tryd.prog.godebug = none := by kernel_rfl
theorem Tryd.laidOut : laidOutB Tryd.prog = true := by kernel_rfl
/-- The wrap, with the world's shape and the listed variables. -/
theorem wrap {H : Type} {enc : TypeId × Value → H} {a : Assume} {C : Checked} {os : Os} {f : FuncId} {fn : Func} {s : ChangeSpec} {conds : List PathCond} {apart fresh handsOn again : Bool} {X : World → Array Value → Prop}
    (hX : ∀ (w w' : World) (args : Array Value), w.heap = w'.heap → X w args → X w' args)
    (own : ownKnob C.prog.godebug = none) (started : os.Started) (noInit : C.prog.inits.idxOf? f = none) (hfn : C.prog.funcs[f]? = some fn)
    (witness : ∃ (w : World) (tape : Tape) (i : Input), w.os = os ∧ (w.forCall tape i).Shaped C.prog ∧ i.vars = [] ∧ Input.okWide C.prog (w.forCall tape i) .any w.heap.size f i ∧
      ((s.pre enc C.prog fn conds apart (w.forCall tape i).memory i.args ∧ X (w.forCall tape i).memory i.args) ∧ sizedMet enc C.prog fn (OpenSpec.ofChange s) apart (w.forCall tape i).memory i.args) ∧ a.holds C.prog (lone (Frame.enter C.prog f i.args .normal) [] (w.forCall tape i)))
    (contract : ∀ (W : World) (base : Nat) (args : Array Value) (ds gs : List (DataW H)) (before : List MemPlace),
      (∀ (j : Nat) t v, fn.params[j]? = some t → args[j]? = some v → Value.okWide C.prog W .any base t v) →
      DataW.Whole enc C.prog fn.params.toList s.vars apart W args.toList ds gs before → X W args → W.ShapedOpen C.prog →
      Calls C.prog f args W fun e W' => ∃ v, e = .returned v ∧ s.post enc C.prog fn apart fresh handsOn again W args v W') :
    ReturnsInHanded a C os f .any (fun w args => (s.pre enc C.prog fn conds apart w args ∧ X w args) ∧ sizedMet enc C.prog fn (OpenSpec.ofChange s) apart w args) (s.post enc C.prog fn apart fresh handsOn again) := by
  refine returnsInHanded_of_calls own started noInit witness ?_
  intro w tape i _ hsh _ hok hpre _
  obtain ⟨_, _, _, fn', hfn', _, _, _, _, hval⟩ := hok
  have e : fn' = fn := Option.some.inj (hfn'.symm.trans hfn)
  subst e
  obtain ⟨⟨⟨ds, gs, before, hw, _⟩, hx⟩, _⟩ := hpre
  have hw' := DataW.Whole.of_heap (w' := w.forCall tape i) (by rfl) hw
  refine (contract (w.forCall tape i) w.heap.size i.args ds gs before hval hw' (hX _ _ _ (by rfl) hx) hsh).mono fun e W' ⟨v, he, hp⟩ => ?_
  subst he
  exact ChangeSpec.post_blind hp
/-- The variables that the Table laws list. -/
def laid2 : List (String × DataW Unit) := [("unicode/utf8.acceptRanges", Rows.laid_unicode_utf8_acceptRanges), ("unicode/utf8.first", Rows.laid_unicode_utf8_first)]
theorem start_of {W : World} (hs : W.ShapedOpen Tryd.prog) : DuT.Start W := ⟨Tryd.laysM146.s1_3 W hs⟩
end Go.Proofs.YtlllhmenekibjaaDoor

/- Lists of small numbers, as a call is handed them. -/
namespace Go.Proofs.DuT
open Go Go.DM Go.Proofs.DuF
set_option maxRecDepth 100000
theorem u8_wf {n : Int} (h : (Lit.int .u8 n).wf = true) : 0 ≤ n ∧ n ≤ 255 := by
  simp only [Lit.wf, Bool.and_eq_true, decide_eq_true_eq] at h
  exact h
theorem bytesD_flat : ∀ (l : List Int), (l.map fun n => [D.int .u8 n]).flatten = bytesD l
  | [] => rfl
  | n :: l => by
    have := bytesD_flat l
    simp only [List.map_cons, List.flatten_cons, this]
    rfl
theorem wt_bytes {m : Nat} {x : List D} (h : WT Tryd.prog m 22 x) : ∃ l : List Int, x = [.sl none 1 l.length (bytesD l)] ∧ ∀ n ∈ l, 0 ≤ n ∧ n ≤ 255 := by
  obtain ⟨m', xss, rfl, rfl, _, hx⟩ := WT.slice Tryd.underlying22 dsz5 h
  obtain ⟨l, rfl, hl⟩ := list_of (c := fun n => [D.int .u8 n]) (p := fun n => 0 ≤ n ∧ n ≤ 255) fun y hy => by
    obtain ⟨n, rfl, hn⟩ := WT.int Tryd.underlying5 (hx y hy)
    exact ⟨n, rfl, u8_wf hn⟩
  refine ⟨l, ?_, hl⟩
  rw [bytesD_flat, List.length_map]
end Go.Proofs.DuT

/- The law TableFull is true for any room and ticks. -/
namespace Go.Proofs.YtlllhmenekibjaaDoor
open Go Go.AM Go.DM Go.ChangeShapes Go.WideShapes Go.ChangeAt Go.RowKit Go.ChangeMaps
set_option maxRecDepth 100000 in
theorem tableFull_lifted (os : Os) (started : os.Started) (H : Type) (enc : TypeId × Value → H) :
    ReturnsInHanded {} Tryd.checked os 3 .any (fun w args => (Rows.tableFullSpec.pre enc Tryd.prog Tryd.f3 Rows.tableFullRow.domain false w args ∧ laidMetH Tryd.prog laid2 w) ∧ sizedMet enc Tryd.prog Tryd.f3 (OpenSpec.ofChange Rows.tableFullSpec) false w args)
      (Rows.tableFullSpec.post enc Tryd.prog Tryd.f3 false true false false) := by
  refine wrap (C := Tryd.checked) (X := fun w _ => laidMetH Tryd.prog laid2 w) (fun _ _ _ hh h => h.of_heap hh) Tryd.own started (by kernel_rfl) Tryd.func3
    (ChangeSpec.witness_shaped (enc := enc) (C := Tryd.checked) (os := os) (X := fun w _ => laidMetH Tryd.prog laid2 w) false (World.laidAll Tryd.prog os laid2) #[.int .u8 0, .slice none 0 0] 8 (World.laidAll_os _ _ _)
      (World.shaped_of_ZipB (by kernel_rfl) (by kernel_rfl)) (by kernel_rfl) (by kernel_rfl) (by kernel_rfl)
      (by rw [MakeChecks.laidMetH_plain _ _ _ (by kernel_rfl)]; exact laidMet_laidAll _ (by kernel_rfl) (by kernel_rfl))) ?_
  intro W base args ds gs before hval0 hW hL hsh
  have hval : ∀ (j : Nat) t v, Tryd.f3.params[j]? = some t → args[j]? = some v → Value.okWide Tryd.prog W .any base t v := hval0
  have hW' := hW
  obtain ⟨p, q, hA0, hV, rfl, hfz, hnd⟩ := hW
  have hA : DataW.TrodAll enc Tryd.prog W 0 (fun _ => true) true Tryd.f3.params.toList args.toList ds p := hA0
  have hcalls := law_true (A := keepsB W) keepsB_kept (f := 3) (tys := Tryd.f3.params.toList) (ts := [5, 22]) (DuT.O_sound (start_of hsh)) (fun _ _ hb => keepsB_start hb) (by kernel_rfl) (by rw [Tryd.params3]; decide)
    (fun j t v a b => hval j t v (by simpa using a) (by simpa using b)) hA fun xss hx => by
      rw [Tryd.params3] at hx ⊢
      match xss, hx with
      | [x1, x2], hx =>
        obtain ⟨⟨m1, h1⟩, ⟨m2, h2⟩, _⟩ := hx
        obtain ⟨a, rfl, ha⟩ := WT.int Tryd.underlying5 h1
        obtain ⟨l, rfl, hl⟩ := DuT.wt_bytes h2
        exact (DuT.lawFull a (DuT.u8_wf ha) l hl []).mono fun d S' h => h.2
  rw [Tryd.params3] at hA hval
  obtain ⟨v0, v1, d0, d1, p0, p1, rfl, rfl, rfl, h0, h1⟩ := trodAll_two hA
  obtain ⟨rfl, rfl⟩ := trodVars_none hV
  refine hcalls.mono fun e W' ⟨he, hb⟩ => ?_
  subst he
  exact ⟨_, rfl, post_true (tb := 4) hW' rfl rfl Tryd.laidOut (of_decide_eq_true (by kernel_rfl)) (by kernel_rfl) (by kernel_rfl) hb⟩
theorem tableFull_holds : Rows.TableFullSaid :=
  OpenClaim.holds_of_wide 3 Tryd.f3 rfl rfl rfl rfl rfl rfl rfl ⟨rfl, rfl, rfl, rfl, rfl⟩ rfl rfl rfl rfl rfl (by kernel_rfl) Tryd.func3 (by kernel_rfl)
    (of_decide_eq_true (by kernel_rfl)) (by unfold Func.isWrapper; first | (rw [if_pos (by decide +kernel)]; kernel_rfl) | (rw [if_neg (by decide +kernel)]; exact ⟨rfl, rfl⟩))
    (fun os started H enc _ => tableFull_lifted os started H enc)
theorem tableFull_card : Rows.TableFullCardSaid :=
  Claim7.holds_tied_plain_at .later [] [.data, .pinned] true (true, "92c45004050ffbfd6f73fdb47418e00fc632161d367b475e98e3a1ec7e847a72") false
    tableFull_holds (fun _ h => by cases h) (by kernel_rfl) (fun _ h => by cases h) tableFull_row_tie rfl ⟨rfl, rfl⟩ (by kernel_rfl) rfl
    (fun f fn hf hfn => by
      obtain rfl : f = 3 := Option.some.inj ((show Tryd.prog.funcNamed "canton/cantonlaw13.TableFull" = some 3 by kernel_rfl).symm.trans hf) |>.symm
      obtain rfl : fn = Tryd.f3 := (Option.some.inj (Tryd.func3.symm.trans hfn)).symm
      exact ⟨by kernel_rfl, fun j t ht => by
        rw [Tryd.params3] at ht
        have hm : t ∈ [5, 22] := by
          have := Array.mem_of_getElem? ht
          simpa using this
        have hall : ([5, 22].all fun u => !Tryd.prog.wantsStandIn u) = true := by kernel_rfl
        exact (show Tryd.prog.wantsStandIn t = false by simpa using List.all_eq_true.1 hall t hm)⟩)
    (by kernel_rfl)
end Go.Proofs.YtlllhmenekibjaaDoor
