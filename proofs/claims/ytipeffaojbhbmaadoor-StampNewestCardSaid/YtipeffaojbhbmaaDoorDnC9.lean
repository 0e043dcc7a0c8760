/- The law StampNewest answers true for any stamps and any turn. -/
import Derived.Test.YtipeffaojbhbmaaDoorDnC7
import Derived.Test.YtipeffaojbhbmaaDoorCards
import Derived.Test.YtipeffaojbhbmaaDoorTie
import Derived.SevenTiedAt
set_option linter.unusedSimpArgs false
set_option linter.unusedVariables false
namespace Go.Proofs.YtipeffaojbhbmaaDoor
open Go Go.AM Go.DM Go.ChangeShapes Go.WideShapes Go.ChangeAt Go.RowKit Go.ChangeMaps
set_option maxRecDepth 100000 in
theorem stampNewest_lifted (os : Os) (started : os.Started) (H : Type) (enc : TypeId × Value → H) :
    ReturnsInHanded {} Tryd.checked os 5 .any (fun w args => (Rows.stampNewestSpec.pre enc Tryd.prog Tryd.f5 Rows.stampNewestRow.domain false w args ∧ laidMetH Tryd.prog laid5 w) ∧ sizedMet enc Tryd.prog Tryd.f5 (OpenSpec.ofChange Rows.stampNewestSpec) false w args)
      (Rows.stampNewestSpec.post enc Tryd.prog Tryd.f5 false true false false) := by
  refine wrap (C := Tryd.checked) (X := fun w _ => laidMetH Tryd.prog laid5 w) (fun _ _ _ hh h => h.of_heap hh) Tryd.own started (by kernel_rfl) Tryd.func5
    (ChangeSpec.witness_shaped (enc := enc) (C := Tryd.checked) (os := os) (X := fun w _ => laidMetH Tryd.prog laid5 w) false (World.laidAll Tryd.prog os laid5) #[.slice none 0 0, .int .u8 0] 8 (World.laidAll_os _ _ _)
      (World.shaped_of_ZipB (by kernel_rfl) (by kernel_rfl)) (by kernel_rfl) (by kernel_rfl) (by kernel_rfl)
      (by rw [MakeChecks.laidMetH_plain _ _ _ (by kernel_rfl)]; exact laidMet_laidAll _ (by kernel_rfl) (by kernel_rfl))) ?_
  intro W base args ds gs before hval0 hW hL hsh
  have hval : ∀ (j : Nat) t v, Tryd.f5.params[j]? = some t → args[j]? = some v → Value.okWide Tryd.prog W .any base t v := hval0
  have hW' := hW
  obtain ⟨p, q, hA0, hV, rfl, hfz, hnd⟩ := hW
  have hA : DataW.TrodAll enc Tryd.prog W 0 (fun _ => true) true Tryd.f5.params.toList args.toList ds p := hA0
  have hcalls := law_true (A := keepsB W) keepsB_kept (f := 5) (tys := Tryd.f5.params.toList) (ts := [36, 5, 23, 2, 9]) (DnT.O_sound (start_of hL hsh)) (fun _ _ hb => keepsB_start hb) (by kernel_rfl) (by rw [Tryd.params5]; decide)
    (fun j t v a b => hval j t v (by simpa using a) (by simpa using b)) hA fun xss hx => by
      rw [Tryd.params5] at hx ⊢
      match xss, hx with
      | [x1, x2], hx =>
        obtain ⟨⟨m1, h1⟩, ⟨m2, h2⟩, _⟩ := hx
        obtain ⟨m3, xss, rfl, rfl, _, hy⟩ := WT.slice Tryd.underlying36 DnT.dsz23 h1
        obtain ⟨l, rfl, hl⟩ := list_of (c := DnT.St.c) (p := DnT.In64) fun y hyy => DnT.wt_st (hy y hyy)
        obtain ⟨n, rfl, hn⟩ := WT.int Tryd.underlying5 h2
        have hn' : 0 ≤ n ∧ n < 256 := by
          simp only [Lit.wf, Bool.and_eq_true, decide_eq_true_eq] at hn
          have h1 : (0 : Int) ≤ n := hn.1
          have h2 : n ≤ 255 := hn.2
          omega
        rw [flat_map, List.length_map]
        have := DnT.lawNewest l n.toNat (by omega) []
        rw [show ((n.toNat : Nat) : Int) = n by omega] at this
        exact this.mono fun d S' h => h.2
  rw [Tryd.params5] at hA hval
  obtain ⟨v0, v1, d0, d1, p0, p1, rfl, rfl, rfl, h0, h1⟩ := trodAll_two hA
  obtain ⟨rfl, rfl⟩ := trodVars_none hV
  refine hcalls.mono fun e W' ⟨he, hb⟩ => ?_
  subst he
  exact ⟨_, rfl, post_true (tb := 4) hW' rfl rfl Tryd.laidOut (of_decide_eq_true (by kernel_rfl)) (by kernel_rfl) (by kernel_rfl) hb⟩
theorem stampNewest_holds : Rows.StampNewestSaid :=
  OpenClaim.holds_of_wide 5 Tryd.f5 rfl rfl rfl rfl rfl rfl rfl ⟨rfl, rfl, rfl, rfl, rfl⟩ rfl rfl rfl rfl rfl (by kernel_rfl) Tryd.func5 (by kernel_rfl)
    (of_decide_eq_true (by kernel_rfl)) (by unfold Func.isWrapper; first | (rw [if_pos (by decide +kernel)]; kernel_rfl) | (rw [if_neg (by decide +kernel)]; exact ⟨rfl, rfl⟩))
    (fun os started H enc _ => stampNewest_lifted os started H enc)
theorem stampNewest_card : Rows.StampNewestCardSaid :=
  Claim7.holds_tied_plain_at .later [] [.data, .data, .data, .data, .pinned] true (true, "638ff52e941bff5700422cbee2dbecb11b8ec7cf0641023e4f6a0a483b11efe6") false
    stampNewest_holds (fun _ h => by cases h) (by kernel_rfl) (fun _ h => by cases h) stampNewest_row_tie rfl ⟨rfl, rfl⟩ (by kernel_rfl) rfl
    (fun f fn hf hfn => by
      obtain rfl : f = 5 := Option.some.inj ((show Tryd.prog.funcNamed "canton/cantonlaw3.StampNewest" = some 5 by kernel_rfl).symm.trans hf) |>.symm
      obtain rfl : fn = Tryd.f5 := (Option.some.inj (Tryd.func5.symm.trans hfn)).symm
      exact ⟨by kernel_rfl, fun j t ht => by
        rw [Tryd.params5] at ht
        have hm : t ∈ [36, 5] := by
          have := Array.mem_of_getElem? ht
          simpa using this
        have hall : ([36, 5].all fun u => !Tryd.prog.wantsStandIn u) = true := by kernel_rfl
        exact (show Tryd.prog.wantsStandIn t = false by simpa using List.all_eq_true.1 hall t hm)⟩)
    (by kernel_rfl)
end Go.Proofs.YtipeffaojbhbmaaDoor
