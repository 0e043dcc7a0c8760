/- The law SumCounts is true for every rows and any place. -/
import Derived.Test.YtmbgelijgmmpbaaGreatDoorDvU5x
import Derived.Test.YtmbgelijgmmpbaaGreatDoorDvR0x
import Derived.Test.YtmbgelijgmmpbaaGreatDoorCards
import Derived.Test.YtmbgelijgmmpbaaGreatDoorTie
import Derived.SevenTiedAt
set_option linter.unusedSimpArgs false
set_option linter.unusedVariables false
namespace Go.Proofs.YtmbgelijgmmpbaaGreatDoor
open Go Go.AM Go.DM Go.ChangeShapes Go.WideShapes Go.ChangeAt Go.RowKit Go.ChangeMaps
set_option maxRecDepth 100000 in
theorem sumCounts_lifted (os:Os) (started:os.Started) (H:Type) (enc:TypeId×Value→H) :
  ReturnsInHanded {} Tryz.checked os 5 .any (fun w args=>(Rows.sumCountsSpec.pre enc Tryz.prog Tryz.f5 Rows.sumCountsRow.domain false w args∧laidMetH Tryz.prog laid5 w)∧sizedMet enc Tryz.prog Tryz.f5 (OpenSpec.ofChange Rows.sumCountsSpec) false w args)
   (Rows.sumCountsSpec.post enc Tryz.prog Tryz.f5 false true false false):=by
 refine wrap (C:=Tryz.checked) (X:=fun w _=>laidMetH Tryz.prog laid5 w) (fun _ _ _ hh h=>h.of_heap hh) Tryz.own started (by kernel_rfl) Tryz.func5
  (ChangeSpec.witness_shaped (enc:=enc) (C:=Tryz.checked) (os:=os) (X:=fun w _=>laidMetH Tryz.prog laid5 w) false (World.laidAll Tryz.prog os laid5) #[.slice none 0 0,.int .u8 0] 8 (World.laidAll_os _ _ _)
   (World.shaped_of_ZipB (by kernel_rfl) (by kernel_rfl)) (by kernel_rfl) (by kernel_rfl) (by kernel_rfl)
   (by rw [MakeChecks.laidMetH_plain _ _ _ (by kernel_rfl)];exact laidMet_laidAll _ (by kernel_rfl) (by kernel_rfl))) ?_
 intro W base args ds gs before hval0 hW hL hsh
 have hval : ∀ (j:Nat) t v,Tryz.f5.params[j]?=some t→args[j]?=some v→Value.okWide Tryz.prog W .any base t v:=hval0
 have hW':=hW
 obtain ⟨p,q,hA0,hV,rfl,hfz,hnd⟩:=hW
 have hA:DataW.TrodAll enc Tryz.prog W 0 (fun _=>true) true Tryz.f5.params.toList args.toList ds p:=hA0
 have hcalls:=law_true (A:=keepsB W) keepsB_kept (f:=5) (tys:=Tryz.f5.params.toList) (ts:=[22,5,63,61,33,59,53,51,2,3,9]) (DvT.O_sound (start_of hL hsh)) (fun _ _ hb=>keepsB_start hb) (by kernel_rfl) (by rw [Tryz.params5];decide)
  (fun j t v a b=>hval j t v (by simpa using a) (by simpa using b)) hA fun xss hx=>by
   rw [Tryz.params5] at hx ⊢
   match xss,hx with
   | [x1,x2],hx=>
    obtain ⟨⟨m1,h1⟩,⟨m2,h2⟩,_⟩:=hx
    obtain ⟨l,rfl,hl⟩:=DvT.wt_rows h1
    obtain ⟨k,rfl,hk⟩:=WT.int Tryz.underlying5 h2
    exact (DvT.lawCounts l hl k (by have h:=hk;simp only [Lit.wf,Bool.and_eq_true,decide_eq_true_eq] at h;exact h)).mono fun d S' h=>h.2
 rw [Tryz.params5] at hA hval
 obtain ⟨v0,v1,d0,d1,p0,p1,rfl,rfl,rfl,h0,h1⟩:=trodAll_two hA
 obtain ⟨rfl,rfl⟩:=trodVars_none hV
 refine hcalls.mono fun e W' ⟨he,hb⟩ => ?_
 subst he
 exact ⟨_,rfl,post_true (tb:=4) hW' rfl rfl Tryz.laidOut (of_decide_eq_true (by kernel_rfl)) (by kernel_rfl) (by kernel_rfl) hb⟩
theorem sumCounts_holds:Rows.SumCountsSaid:=
 OpenClaim.holds_of_wide 5 Tryz.f5 rfl rfl rfl rfl rfl rfl rfl ⟨rfl,rfl,rfl,rfl,rfl⟩ rfl rfl rfl rfl rfl (by kernel_rfl) Tryz.func5 (by kernel_rfl)
  (of_decide_eq_true (by kernel_rfl)) (by unfold Func.isWrapper;first | (rw [if_pos (by decide +kernel)];kernel_rfl) | (rw [if_neg (by decide +kernel)];exact ⟨rfl,rfl⟩))
  (fun os started H enc _=>sumCounts_lifted os started H enc)
theorem sumCounts_card:Rows.SumCountsCardSaid:=
 Claim7.holds_tied_plain_at .later [] [.data, .data, .data, .data, .pinned] true (true, "35c847a33f0d53a09f51aa3c49e2b0647afa1f216cffdf79613f4c36acf41ef6") false
  sumCounts_holds (fun _ h=>by cases h) (by kernel_rfl) (fun _ h=>by cases h) sumCounts_row_tie rfl ⟨rfl,rfl⟩ (by kernel_rfl) rfl
  (fun f fn hf hfn=>by
   obtain rfl : f = 5 := Option.some.inj ((show Tryz.prog.funcNamed "canton/cantonlaw19.SumCounts" = some 5 by kernel_rfl).symm.trans hf) |>.symm
   obtain rfl:fn=Tryz.f5:=(Option.some.inj (Tryz.func5.symm.trans hfn)).symm
   exact ⟨by kernel_rfl,fun j t ht=>by
    rw [Tryz.params5] at ht
    have hm:t∈[22,5]:=by
     have:=Array.mem_of_getElem? ht
     simpa using this
    have hall:([22,5].all fun u => !Tryz.prog.wantsStandIn u)=true:=by kernel_rfl
    exact (show Tryz.prog.wantsStandIn t=false by simpa using List.all_eq_true.1 hall t hm)⟩)
  (by kernel_rfl)
end Go.Proofs.YtmbgelijgmmpbaaGreatDoor
