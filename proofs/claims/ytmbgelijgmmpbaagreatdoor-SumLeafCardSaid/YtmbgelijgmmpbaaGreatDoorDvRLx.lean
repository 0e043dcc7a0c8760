/- How a Row law's row is closed. -/
import Derived.Test.YtmbgelijgmmpbaaGreatDoorDvS33x
import Derived.Test.YtmbgelijgmmpbaaGreatDoorDmLx
import Derived.Test.YtmbgelijgmmpbaaGreatDoorRows
import Derived.ProofKit
import Derived.OpenShut
import Derived.LaidMore
import Derived.LaidLaws
import Derived.Lay
import Derived.Stop.Joined
import Derived.Test.YtmbgelijgmmpbaaGreatDoorDvU3x
import Derived.Test.YtmbgelijgmmpbaaGreatDoorCards
import Derived.Test.YtmbgelijgmmpbaaGreatDoorTie
import Derived.SevenTiedAt
set_option linter.unusedSimpArgs false
set_option linter.unusedVariables false
namespace Go.Proofs.DvT
open Go Go.DM Go.Proofs.DvF
set_option maxRecDepth 100000
theorem in64_wf {n:Int} (h:(Lit.int .i64 n).wf=true):in64 n:=by
 simp only [Lit.wf,Bool.and_eq_true,decide_eq_true_eq] at h
 exact h
theorem intsD_flat : ∀ (l:List Int),(l.map fun n=>[D.int .i64 n]).flatten=intsD l
 | []=>rfl
 | n::l=>by
  have:=intsD_flat l
  simp only [List.map_cons,List.flatten_cons,this]
  rfl
theorem wt_ints {m:Nat} {x:List D} (h:WT Tryz.prog m 51 x) : ∃ l:List Int,x=[.sl none 1 l.length (intsD l)] ∧ ∀ n∈l,in64 n:=by
 obtain ⟨m',xss,rfl,rfl,_,hx⟩:=WT.slice Tryz.underlying51 dsz2 h
 obtain ⟨l,rfl,hl⟩:=list_of (c:=fun n=>[D.int .i64 n]) (p:=in64) fun y hy=>by
  obtain ⟨n,rfl,hn⟩:=WT.int Tryz.underlying2 (hx y hy)
  exact ⟨n,rfl,in64_wf hn⟩
 refine ⟨l,?_,hl⟩
 rw [intsD_flat,List.length_map]
theorem wt_val {m:Nat} {x:List D} (h:WT Tryz.prog m 53 x) : ∃ v:Val,x=v.c∧in64 v.i ∧ ∀ n∈v.l,in64 n:=by
 obtain ⟨m2,rfl,g⟩:=WT.struct Tryz.underlying53 h
 obtain ⟨x3,y3,rfl,h3,g⟩:=WTs.cons g
 obtain ⟨x4,y4,rfl,h4,g⟩:=WTs.cons g
 obtain ⟨x5,y5,rfl,h5,g⟩:=WTs.cons g
 obtain ⟨x6,y6,rfl,h6,g⟩:=WTs.cons g
 obtain rfl:=WTs.nil g
 obtain ⟨k,rfl,_⟩:=WT.int Tryz.underlying3 h3
 obtain ⟨i,rfl,hi⟩:=WT.int Tryz.underlying2 h4
 obtain ⟨s2,rfl,_⟩:=WT.str Tryz.underlying9 h5
 obtain ⟨l,rfl,hl⟩:=wt_ints h6
 exact ⟨⟨k,i,s2,l⟩,rfl,in64_wf hi,hl⟩
theorem wt_att {m:Nat} {x:List D} (h:WT Tryz.prog m 59 x) : ∃ a:Att,x=a.c∧in64 a.v.i ∧ ∀ n∈a.v.l,in64 n:=by
 obtain ⟨m',rfl,h⟩:=WT.struct Tryz.underlying59 h
 obtain ⟨x1,y1,rfl,h1,h⟩:=WTs.cons h
 obtain ⟨x2,y2,rfl,h2,h⟩:=WTs.cons h
 obtain rfl:=WTs.nil h
 obtain ⟨s,rfl,_⟩:=WT.str Tryz.underlying9 h1
 obtain ⟨v,rfl,hv⟩:=wt_val h2
 exact ⟨⟨s,v⟩,rfl,hv⟩
theorem wt_atts {m:Nat} {x:List D} (h:WT Tryz.prog m 33 x) : ∃ l:List Att,x=[.sl none 5 l.length (attsC l)] ∧ ∀ a∈l,in64 a.v.i ∧ ∀ n∈a.v.l,in64 n:=by
 obtain ⟨m',xss,rfl,rfl,_,hx⟩:=WT.slice Tryz.underlying33 dsz59 h
 obtain ⟨l,rfl,hl⟩:=list_of (c:=Att.c) (p:=fun a=>in64 a.v.i ∧ ∀ n∈a.v.l,in64 n) fun y hy=>wt_att (hx y hy)
 refine ⟨l,?_,hl⟩
 rw [List.length_map,attsC,List.flatMap_def]
end Go.Proofs.DvT
namespace Go.Proofs.YtmbgelijgmmpbaaGreatDoor
open Go Go.AM Go.DM Go.ChangeShapes Go.WideShapes Go.ChangeAt Go.RowKit Go.ChangeMaps
theorem Tryz.own:ownKnob Tryz.prog.godebug=none:=by kernel_rfl
theorem Tryz.laidOut:laidOutB Tryz.prog=true:=by kernel_rfl
theorem wrap {H:Type} {enc:TypeId×Value→H} {a:Assume} {C:Checked} {os:Os} {f:FuncId} {fn:Func} {s:ChangeSpec} {conds:List PathCond} {apart fresh handsOn again:Bool} {X:World→Array Value→Prop}
  (hX : ∀ (w w':World) (args:Array Value),w.heap=w'.heap→X w args→X w' args)
  (own:ownKnob C.prog.godebug=none) (started:os.Started) (noInit:C.prog.inits.idxOf? f=none) (hfn:C.prog.funcs[f]?=some fn)
  (witness : ∃ (w:World) (tape:Tape) (i:Input),w.os=os∧(w.forCall tape i).Shaped C.prog∧i.vars=[]∧Input.okWide C.prog (w.forCall tape i) .any w.heap.size f i ∧
   ((s.pre enc C.prog fn conds apart (w.forCall tape i).memory i.args∧X (w.forCall tape i).memory i.args)∧sizedMet enc C.prog fn (OpenSpec.ofChange s) apart (w.forCall tape i).memory i.args)∧a.holds C.prog (lone (Frame.enter C.prog f i.args .normal) [] (w.forCall tape i)))
  (contract : ∀ (W:World) (base:Nat) (args:Array Value) (ds gs:List (DataW H)) (before:List MemPlace),
   (∀ (j:Nat) t v,fn.params[j]?=some t→args[j]?=some v→Value.okWide C.prog W .any base t v) →
   DataW.Whole enc C.prog fn.params.toList s.vars apart W args.toList ds gs before→X W args→W.ShapedOpen C.prog →
   Calls C.prog f args W fun e W' => ∃ v,e = .returned v∧s.post enc C.prog fn apart fresh handsOn again W args v W') :
  ReturnsInHanded a C os f .any (fun w args=>(s.pre enc C.prog fn conds apart w args∧X w args)∧sizedMet enc C.prog fn (OpenSpec.ofChange s) apart w args) (s.post enc C.prog fn apart fresh handsOn again):=by
 refine returnsInHanded_of_calls own started noInit witness ?_
 intro w tape i _ hsh _ hok hpre _
 obtain ⟨_,_,_,fn',hfn',_,_,_,_,hval⟩:=hok
 have e:fn'=fn:=Option.some.inj (hfn'.symm.trans hfn)
 subst e
 obtain ⟨⟨⟨ds,gs,before,hw,_⟩,hx⟩,_⟩:=hpre
 have hw':=DataW.Whole.of_heap (w':=w.forCall tape i) (by rfl) hw
 refine (contract (w.forCall tape i) w.heap.size i.args ds gs before hval hw' (hX _ _ _ (by rfl) hx) hsh).mono fun e W' ⟨v,he,hp⟩ => ?_
 subst he
 exact ChangeSpec.post_blind hp
def laid5 : List (String × DataW Unit) := [("math/bits.deBruijn32tab", Rows.laid_math_bits_deBruijn32tab), ("math/bits.deBruijn64tab", Rows.laid_math_bits_deBruijn64tab), ("internal/strconv.uint64pow10", Rows.laid_internal_strconv_uint64pow10), ("unicode/utf8.acceptRanges", Rows.laid_unicode_utf8_acceptRanges), ("unicode/utf8.first", Rows.laid_unicode_utf8_first)]
theorem start_of {W:World} (h:laidMetH Tryz.prog laid5 W) (hs:W.ShapedOpen Tryz.prog):DvT.Start W:=by
 refine ⟨Tryz.laysM146.s1_3 W hs,?_⟩
 rw [MakeChecks.laidMetH_plain _ _ _ (by kernel_rfl)] at h
 obtain ⟨ps,⟨_,_,_,_,_,_,_,_,_,_,⟨_,_,_,_,_,_,_,_,_,_,⟨g,t,cs,fuel,p,q,hg,ht,hv,hd,_,_⟩,_⟩,_⟩,_,_⟩:=h
 have hty : ((Tryz.prog.globalNamed "internal/strconv.uint64pow10").bind fun g => (Tryz.prog.globals[g]?).map (·.type)) = some 259 := by kernel_rfl
 rw [hg,Option.bind_some,ht] at hty
 obtain rfl:=Option.some.inj hty
 show W.var? Tryz.prog "internal/strconv.uint64pow10" = _
 rw [hv,← Lib.cells_of_tab (k:=.u64) (zs:=Lib.pow10Tab) Tryz.underlying259 Tryz.underlying220 (by kernel_rfl) (by kernel_rfl) hd]
end Go.Proofs.YtmbgelijgmmpbaaGreatDoor
namespace Go.Proofs.YtmbgelijgmmpbaaGreatDoor
open Go Go.AM Go.DM Go.ChangeShapes Go.WideShapes Go.ChangeAt Go.RowKit Go.ChangeMaps
set_option maxRecDepth 100000 in
theorem sumLeaf_lifted (os:Os) (started:os.Started) (H:Type) (enc:TypeId×Value→H) :
  ReturnsInHanded {} Tryz.checked os 4 .any (fun w args=>(Rows.sumLeafSpec.pre enc Tryz.prog Tryz.f4 Rows.sumLeafRow.domain false w args∧laidMetH Tryz.prog laid5 w)∧sizedMet enc Tryz.prog Tryz.f4 (OpenSpec.ofChange Rows.sumLeafSpec) false w args)
   (Rows.sumLeafSpec.post enc Tryz.prog Tryz.f4 false true false false):=by
 refine wrap (C:=Tryz.checked) (X:=fun w _=>laidMetH Tryz.prog laid5 w) (fun _ _ _ hh h=>h.of_heap hh) Tryz.own started (by kernel_rfl) Tryz.func4
  (ChangeSpec.witness_shaped (enc:=enc) (C:=Tryz.checked) (os:=os) (X:=fun w _=>laidMetH Tryz.prog laid5 w) false (World.laidAll Tryz.prog os laid5) #[.string ⟨#[]⟩,.slice none 0 0,.int .i64 0] 8 (World.laidAll_os _ _ _)
   (World.shaped_of_ZipB (by kernel_rfl) (by kernel_rfl)) (by kernel_rfl) (by kernel_rfl) (by kernel_rfl)
   (by rw [MakeChecks.laidMetH_plain _ _ _ (by kernel_rfl)];exact laidMet_laidAll _ (by kernel_rfl) (by kernel_rfl))) ?_
 intro W base args ds gs before hval0 hW hL hsh
 have hval : ∀ (j:Nat) t v,Tryz.f4.params[j]?=some t→args[j]?=some v→Value.okWide Tryz.prog W .any base t v:=hval0
 have hW':=hW
 obtain ⟨p,q,hA0,hV,rfl,hfz,hnd⟩:=hW
 have hA:DataW.TrodAll enc Tryz.prog W 0 (fun _=>true) true Tryz.f4.params.toList args.toList ds p:=hA0
 have hcalls:=law_true (A:=keepsB W) keepsB_kept (f:=4) (tys:=Tryz.f4.params.toList) (ts:=[33,59,53,51,2,3,9]) (DvT.O_sound (start_of hL hsh)) (fun _ _ hb=>keepsB_start hb) (by kernel_rfl) (by rw [Tryz.params4];decide)
  (fun j t v a b=>hval j t v (by simpa using a) (by simpa using b)) hA fun xss hx=>by
   rw [Tryz.params4] at hx ⊢
   match xss,hx with
   | [x1,x2,x3],hx=>
    obtain ⟨⟨m1,h1⟩,⟨m2,h2⟩,⟨m3,h3⟩,_⟩:=hx
    obtain ⟨s,rfl,_⟩:=WT.str Tryz.underlying9 h1
    obtain ⟨l,rfl,_⟩:=DvT.wt_atts h2
    obtain ⟨k,rfl,_⟩:=WT.int Tryz.underlying2 h3
    exact (DvT.lawLeaf s l k).mono fun d S' h=>h.2
 rw [Tryz.params4] at hA hval
 obtain ⟨v0,v1,v2,d0,d1,d2,p0,p1,p2,rfl,rfl,rfl,h0,h1,h2⟩:=trodAll_three hA
 obtain ⟨rfl,rfl⟩:=trodVars_none hV
 refine hcalls.mono fun e W' ⟨he,hb⟩ => ?_
 subst he
 exact ⟨_,rfl,post_true (tb:=4) hW' rfl rfl Tryz.laidOut (of_decide_eq_true (by kernel_rfl)) (by kernel_rfl) (by kernel_rfl) hb⟩
theorem sumLeaf_holds:Rows.SumLeafSaid:=
 OpenClaim.holds_of_wide 4 Tryz.f4 rfl rfl rfl rfl rfl rfl rfl ⟨rfl,rfl,rfl,rfl,rfl⟩ rfl rfl rfl rfl rfl (by kernel_rfl) Tryz.func4 (by kernel_rfl)
  (of_decide_eq_true (by kernel_rfl)) (by unfold Func.isWrapper;first | (rw [if_pos (by decide +kernel)];kernel_rfl) | (rw [if_neg (by decide +kernel)];exact ⟨rfl,rfl⟩))
  (fun os started H enc _=>sumLeaf_lifted os started H enc)
theorem sumLeaf_card:Rows.SumLeafCardSaid:=
 Claim7.holds_tied_plain_at .later [] [.data, .data, .data, .data, .pinned] true (true, "35c847a33f0d53a09f51aa3c49e2b0647afa1f216cffdf79613f4c36acf41ef6") false
  sumLeaf_holds (fun _ h=>by cases h) (by kernel_rfl) (fun _ h=>by cases h) sumLeaf_row_tie rfl ⟨rfl,rfl⟩ (by kernel_rfl) rfl
  (fun f fn hf hfn=>by
   obtain rfl : f = 4 := Option.some.inj ((show Tryz.prog.funcNamed "canton/cantonlaw19.SumLeaf" = some 4 by kernel_rfl).symm.trans hf) |>.symm
   obtain rfl:fn=Tryz.f4:=(Option.some.inj (Tryz.func4.symm.trans hfn)).symm
   exact ⟨by kernel_rfl,fun j t ht=>by
    rw [Tryz.params4] at ht
    have hm:t∈[9,33,2]:=by
     have:=Array.mem_of_getElem? ht
     simpa using this
    have hall:([9,33,2].all fun u => !Tryz.prog.wantsStandIn u)=true:=by kernel_rfl
    exact (show Tryz.prog.wantsStandIn t=false by simpa using List.all_eq_true.1 hall t hm)⟩)
  (by kernel_rfl)
end Go.Proofs.YtmbgelijgmmpbaaGreatDoor
