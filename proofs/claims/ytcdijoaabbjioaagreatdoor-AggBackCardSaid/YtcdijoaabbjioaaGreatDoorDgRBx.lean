/- How an Agg law's row is closed. -/
import Derived.Test.YtcdijoaabbjioaaGreatDoorDgW1x
import Derived.Test.YtcdijoaabbjioaaGreatDoorDgG4x
import Derived.Test.YtcdijoaabbjioaaGreatDoorDmLx
import Derived.Test.YtcdijoaabbjioaaGreatDoorRows
import Derived.ProofKit
import Derived.OpenShut
import Derived.LaidMore
import Derived.LaidLaws
import Derived.Lay
import Derived.Stop.Joined
import Derived.Test.YtcdijoaabbjioaaGreatDoorDgG35
import Derived.Test.YtcdijoaabbjioaaGreatDoorCards
import Derived.Test.YtcdijoaabbjioaaGreatDoorTie
import Derived.SevenTiedAt
set_option linter.unusedSimpArgs false
set_option linter.unusedVariables false
namespace Go.Proofs.DgT
open Go Go.DM
theorem k9d {n:Int} (h:(Lit.int .i64 n).wf=true):d6d n:=by
 simp only [Lit.wf,Bool.and_eq_true,decide_eq_true_eq] at h
 exact h
set_option maxRecDepth 100000 in
theorem z4b : ∀ (m:Nat) {x:List D},WT Tryz.prog m 25 x → ∃ n:Nd,x=n.c∧In64 n
 | 0,_,h=>h.elim
 | 1,_,h=>by
  obtain ⟨m',hm,h⟩:=WT.struct Tryz.underlying25 h
  obtain rfl:m'=0:=by omega
  obtain ⟨x1,y1,rfl,h1,h⟩:=WTs.cons h
  exact h1.elim
 | m+2,_,h=>by
  obtain ⟨m',hm,h⟩:=WT.struct Tryz.underlying25 h
  obtain rfl:m'=m+1:=by omega
  obtain ⟨x1,y1,rfl,h1,h⟩:=WTs.cons h
  obtain ⟨x2,y2,rfl,h2,h⟩:=WTs.cons h
  obtain ⟨x3,y3,rfl,h3,h⟩:=WTs.cons h
  obtain ⟨x4,y4,rfl,h4,h⟩:=WTs.cons h
  obtain rfl:=WTs.nil h
  obtain ⟨op,rfl,_⟩:=WT.str Tryz.underlying9 h1
  obtain ⟨nm,rfl,_⟩:=WT.str Tryz.underlying9 h2
  obtain ⟨n,rfl,hn⟩:=WT.int Tryz.underlying2 h3
  obtain ⟨m2,xss,hm2,rfl,_,hx⟩:=WT.slice Tryz.underlying23 f8b h4
  obtain rfl:m2=m:=by omega
  obtain ⟨ks,rfl,hks⟩:=u5c (c:=Nd.c) (p:=In64) fun y hy=>z4b m2 (hx y hy)
  refine ⟨.mk op nm n ks,?_,.mk (k9d hn) hks⟩
  rw [Nd.k0a,y7c,List.length_map]
  rfl
end Go.Proofs.DgT
namespace Go.Proofs.YtcdijoaabbjioaaGreatDoor
open Go Go.AM Go.DM Go.ChangeShapes Go.WideShapes Go.ChangeAt Go.RowKit Go.ChangeMaps
theorem Tryz.own:ownKnob Tryz.prog.godebug=none:=by kernel_rfl
theorem Tryz.laidOut:laidOutB Tryz.prog=true:=by kernel_rfl
theorem wrap {H:Type} {enc:TypeId×Value→H} {a:Assume} {C:Checked} {os:Os} {f:FuncId} {fn:Func} {s:ChangeSpec} {conds:List PathCond} {apart fresh handsOn again:Bool} {X:World→Array Value→Prop}
  (hX : ∀ (w w':World) (args:Array Value),w.heap=w'.heap→X w args→X w' args)
  (own:ownKnob C.prog.godebug=none) (started:os.Started) (noInit:C.prog.inits.idxOf? f=none) (hfn:C.prog.funcs[f]?=some fn)
  (witness : ∃ (w:World) (tape:Tape) (i:Input),w.os=os∧(w.forCall tape i).Shaped C.prog∧i.vars=[]∧Input.okWide C.prog (w.forCall tape i) .any w.heap.size f i ∧
   ((s.pre enc C.prog fn conds apart (w.forCall tape i).memory i.args∧X (w.forCall tape i).memory i.args)∧sizedMet enc C.prog fn (OpenSpec.ofChange s) apart (w.forCall tape i).memory i.args)∧a.holds C.prog (lone (Frame.enter C.prog f i.args .normal) [] (w.forCall tape i)))
  (contract : ∀ (W:World) (base:Nat) (args:Array Value) (ds gs:List (DataW H)) (before:List MemPlace),
   (∀ (j:Nat) t v,fn.params[j]?=some t→args[j]?=some v→Value.okWide C.prog W .any base t v) →
   DataW.Whole enc C.prog fn.params.toList s.vars apart W args.toList ds gs before→X W args→W.ShapedOpen C.prog →
   Calls C.prog f args W fun e W' => ∃ v,e = .returned v∧s.post enc C.prog fn apart fresh handsOn again W args v W') :
  ReturnsInHanded a C os f .any (fun w args=>(s.pre enc C.prog fn conds apart w args∧X w args)∧sizedMet enc C.prog fn (OpenSpec.ofChange s) apart w args) (s.post enc C.prog fn apart fresh handsOn again):=by
 refine returnsInHanded_of_calls own started noInit witness ?_
 intro w tape i _ hsh _ hok hpre _
 obtain ⟨_,_,_,fn',hfn',_,_,_,_,hval⟩:=hok
 have e:fn'=fn:=Option.some.inj (hfn'.symm.trans hfn)
 subst e
 obtain ⟨⟨⟨ds,gs,before,hw,_⟩,hx⟩,_⟩:=hpre
 have hw':=DataW.Whole.of_heap (w':=w.forCall tape i) (by rfl) hw
 refine (contract (w.forCall tape i) w.heap.size i.args ds gs before hval hw' (hX _ _ _ (by rfl) hx) hsh).mono fun e W' ⟨v,he,hp⟩ => ?_
 subst he
 exact ChangeSpec.post_blind hp
def laid7 : List (String × DataW Unit) := [("math/bits.deBruijn32tab", Rows.laid_math_bits_deBruijn32tab), ("math/bits.deBruijn64tab", Rows.laid_math_bits_deBruijn64tab), ("internal/strconv.uint64pow10", Rows.laid_internal_strconv_uint64pow10), ("strconv.ErrRange", Rows.laid_strconv_ErrRange), ("strconv.ErrSyntax", Rows.laid_strconv_ErrSyntax), ("unicode.White_Space", Rows.laid_unicode_White_Space), ("strings.asciiSpace", Rows.laid_strings_asciiSpace)]
set_option maxRecDepth 100000 in
theorem a9e {W:World} (h:laidMetH Tryz.prog laid7 W):DgT.Start W:=by
 rw [MakeChecks.laidMetH_plain _ _ _ (by kernel_rfl)] at h
 obtain ⟨ps,⟨_,_,_,_,_,_,_,_,_,_,⟨_,_,_,_,_,_,_,_,_,_,⟨g3,t3,cs3,m3f,p3,q3,hg3,ht3,hv3,hd3,⟨g4,t4,cs4,m4f,p4,q4,hg4,ht4,hv4,hd4,⟨_,_,_,_,_,_,_,_,_,_,⟨_,_,_,_,_,_,_,_,_,_,⟨g,t,cs,fuel,p,q,hg,ht,hv,hd,_,_⟩,_⟩,_⟩,_⟩,_⟩,_⟩,_⟩,_,_⟩:=h
 refine ⟨?_,?_,?_⟩
 ·have hty : ((Tryz.prog.globalNamed "strings.asciiSpace").bind fun g => (Tryz.prog.globals[g]?).map (·.type)) = some 243 := by kernel_rfl
  rw [hg,Option.bind_some,ht] at hty
  obtain rfl:=Option.some.inj hty
  rw [show (Rows.laid_strings_asciiSpace:DataW Unit)=Lib.tabData .u8 Lib.asciiSpaceTab by kernel_rfl] at hd
  show W.var? Tryz.prog "strings.asciiSpace" = _
  rw [hv,← Lib.cells_of_tab (k:=.u8) (zs:=Lib.asciiSpaceTab) Tryz.underlying243 Tryz.underlying5 (by kernel_rfl) (by kernel_rfl) hd]
 ·have hty : ((Tryz.prog.globalNamed "internal/strconv.uint64pow10").bind fun g => (Tryz.prog.globals[g]?).map (·.type)) = some 223 := by kernel_rfl
  rw [hg3,Option.bind_some,ht3] at hty
  obtain rfl:=Option.some.inj hty
  show W.var? Tryz.prog "internal/strconv.uint64pow10" = _
  rw [hv3,← Lib.cells_of_tab (k:=.u64) (zs:=Lib.pow10Tab) Tryz.underlying223 Tryz.underlying188 (by kernel_rfl) (by kernel_rfl) hd3]
 ·have hty : ((Tryz.prog.globalNamed "strconv.ErrRange").bind fun g => (Tryz.prog.globals[g]?).map (·.type)) = some 170 := by kernel_rfl
  rw [hg4,Option.bind_some,ht4] at hty
  obtain rfl:=Option.some.inj hty
  obtain ⟨_,u,v,hcs,_⟩:=iface_of_trod Tryz.underlying170 hd4
  refine ⟨u,v,?_⟩
  rw [hv4]
  congr 1
  rw [← Array.toList_inj]
  exact hcs
end Go.Proofs.YtcdijoaabbjioaaGreatDoor
namespace Go.Proofs.DgT
open Go Go.DM
set_option maxRecDepth 100000
def InA (a:Ag):Prop:=d6d a.k∧In64 a.e∧In64 a.by_ ∧ ∀ c∈a.w,In64 c.a∧In64 c.b
theorem m7e {m:Nat} {x:List D} (h:WT Tryz.prog m 101 x) : ∃ c:Cd,x=Cd.c c∧In64 c.a∧In64 c.b:=by
 obtain ⟨m',rfl,h⟩:=WT.struct Tryz.underlying101 h
 obtain ⟨x1,y1,rfl,h1,h⟩:=WTs.cons h
 obtain ⟨x2,y2,rfl,h2,h⟩:=WTs.cons h
 obtain ⟨x3,y3,rfl,h3,h⟩:=WTs.cons h
 obtain rfl:=WTs.nil h
 obtain ⟨s,rfl,_⟩:=WT.str Tryz.underlying9 h1
 obtain ⟨a,rfl,ha⟩:=z4b _ h2
 obtain ⟨b,rfl,hb⟩:=z4b _ h3
 exact ⟨⟨s,a,b⟩,by simp [Cd.c],ha,hb⟩
theorem f4e {m:Nat} {x:List D} (h:WT Tryz.prog m 28 x) : ∃ a:Ag,x=Ag.c a∧InA a:=by
 obtain ⟨m',rfl,h⟩:=WT.struct Tryz.underlying28 h
 obtain ⟨x1,y1,rfl,h1,h⟩:=WTs.cons h
 obtain ⟨x2,y2,rfl,h2,h⟩:=WTs.cons h
 obtain ⟨x3,y3,rfl,h3,h⟩:=WTs.cons h
 obtain ⟨x4,y4,rfl,h4,h⟩:=WTs.cons h
 obtain ⟨x5,y5,rfl,h5,h⟩:=WTs.cons h
 obtain rfl:=WTs.nil h
 obtain ⟨s,rfl,_⟩:=WT.str Tryz.underlying9 h1
 obtain ⟨n,rfl,hn⟩:=WT.int Tryz.underlying2 h2
 obtain ⟨a,rfl,ha⟩:=z4b _ h3
 obtain ⟨b,rfl,hb⟩:=z4b _ h4
 obtain ⟨m2,xss,hm2,rfl,_,hx⟩:=WT.slice Tryz.underlying26 i5b h5
 obtain ⟨ks,rfl,hks⟩:=u5c (c:=Cd.c) (p:=fun c=>In64 c.a∧In64 c.b) fun y hy=>m7e (hx y hy)
 refine ⟨⟨s,n,a,b,ks⟩,?_,k9d hn,ha,hb,hks⟩
 rw [y7c,List.length_map]
 simp [Ag.c,i7a]
end Go.Proofs.DgT
namespace Go.Proofs.YtcdijoaabbjioaaGreatDoor
open Go Go.AM Go.DM Go.ChangeShapes Go.WideShapes Go.ChangeAt Go.RowKit Go.ChangeMaps
set_option maxRecDepth 100000 in
theorem z9b (os:Os) (started:os.Started) (H:Type) (enc:TypeId×Value→H) :
  ReturnsInHanded {} Tryz.checked os 4 .any (fun w args=>(Rows.aggBackSpec.pre enc Tryz.prog Tryz.f4 Rows.aggBackRow.domain false w args∧laidMetH Tryz.prog laid7 w)∧sizedMet enc Tryz.prog Tryz.f4 (OpenSpec.ofChange Rows.aggBackSpec) false w args)
   (Rows.aggBackSpec.post enc Tryz.prog Tryz.f4 false true false false):=by
 refine wrap (C:=Tryz.checked) (X:=fun w _=>laidMetH Tryz.prog laid7 w) (fun _ _ _ hh h=>h.of_heap hh) Tryz.own started (by kernel_rfl) Tryz.func4
  (ChangeSpec.witness_shaped (enc:=enc) (C:=Tryz.checked) (os:=os) (X:=fun w _=>laidMetH Tryz.prog laid7 w) false (World.laidAll Tryz.prog os laid7) #[.agg #[.string ⟨#[]⟩,.int .i64 0,.string ⟨#[]⟩,.string ⟨#[]⟩,.int .i64 0,.slice none 0 0,.string ⟨#[]⟩,.string ⟨#[]⟩,.int .i64 0,.slice none 0 0,.slice none 0 0],.agg #[.string ⟨#[]⟩,.int .i64 0,.string ⟨#[]⟩,.string ⟨#[]⟩,.int .i64 0,.slice none 0 0,.string ⟨#[]⟩,.string ⟨#[]⟩,.int .i64 0,.slice none 0 0,.slice none 0 0]] 8 (World.laidAll_os _ _ _)
   (World.shaped_of_ZipB (by kernel_rfl) (by kernel_rfl)) (by kernel_rfl) (by kernel_rfl) (by kernel_rfl)
   (by rw [MakeChecks.laidMetH_plain _ _ _ (by kernel_rfl)];exact laidMet_laidAll _ (by kernel_rfl) (by kernel_rfl))) ?_
 intro W base args ds gs before hval0 hW hL hsh
 have hval : ∀ (j:Nat) t v,Tryz.f4.params[j]?=some t→args[j]?=some v→Value.okWide Tryz.prog W .any base t v:=hval0
 have hW':=hW
 obtain ⟨p,q,hA0,hV,rfl,hfz,hnd⟩:=hW
 have hA:DataW.TrodAll enc Tryz.prog W 0 (fun _=>true) true Tryz.f4.params.toList args.toList ds p:=hA0
 have t3e:=law_true (A:=m4c W) t9c (f:=4) (tys:=Tryz.f4.params.toList) (ts:=[28,25,23,26,101,2,9]) (DgT.f7e (a9e hL)) (fun _ _ hb=>m5c hb) (by kernel_rfl) (by rw [Tryz.params4];decide)
  (fun j t v a b=>hval j t v (by simpa using a) (by simpa using b)) hA fun xss hx=>by
   rw [Tryz.params4] at hx ⊢
   match xss,hx with
   | [x1,x2],hx=>
    obtain ⟨⟨m1,h1⟩,⟨m2,h2⟩,_⟩:=hx
    obtain ⟨a,rfl,ha⟩:=DgT.f4e h1
    obtain ⟨b,rfl,hb⟩:=DgT.f4e h2
    exact (DgT.d7d a b ha hb).mono fun d S' h=>h.2
 rw [Tryz.params4] at hA hval
 obtain ⟨v0,v1,d0,d1,p0,p1,rfl,rfl,rfl,h0,h1⟩:=trodAll_two hA
 obtain ⟨rfl,rfl⟩:=trodVars_none hV
 refine t3e.mono fun e W' ⟨he,hb⟩ => ?_
 subst he
 exact ⟨_,rfl,q3d (tb:=4) hW' rfl rfl Tryz.laidOut (of_decide_eq_true (by kernel_rfl)) (by kernel_rfl) (by kernel_rfl) hb⟩
theorem d8c:Rows.AggBackSaid:=
 OpenClaim.holds_of_wide 4 Tryz.f4 rfl rfl rfl rfl rfl rfl rfl ⟨rfl,rfl,rfl,rfl,rfl⟩ rfl rfl rfl rfl rfl (by kernel_rfl) Tryz.func4 (by kernel_rfl)
  (of_decide_eq_true (by kernel_rfl)) (by unfold Func.isWrapper;first | (rw [if_pos (by decide +kernel)];kernel_rfl) | (rw [if_neg (by decide +kernel)];exact ⟨rfl,rfl⟩))
  (fun os started H enc _=>z9b os started H enc)
theorem aggBack_card:Rows.AggBackCardSaid:=
 Claim7.holds_tied_plain_at .later [] [.data, .data, .data, .sentinel, .sentinel, .listed, .data] true (true, "c682789716aafe89ab2db19cd3fc90fe7cbffc6bbd8b568a3f2664e31c3b928b") true
  d8c (fun _ h=>by cases h) (by kernel_rfl) (fun _ h=>by cases h) aggBack_row_tie rfl ⟨rfl,rfl⟩ (by kernel_rfl) rfl
  (fun f fn hf hfn=>by
   obtain rfl : f = 4 := Option.some.inj ((show Tryz.prog.funcNamed "canton/cantonlaw11.AggBack" = some 4 by kernel_rfl).symm.trans hf) |>.symm
   obtain rfl:fn=Tryz.f4:=(Option.some.inj (Tryz.func4.symm.trans hfn)).symm
   exact ⟨by kernel_rfl,fun j t ht=>by
    rw [Tryz.params4] at ht
    have hm:t∈[28]:=by
     have:=Array.mem_of_getElem? ht
     simpa using this
    have hall:([28].all fun u => !Tryz.prog.wantsStandIn u)=true:=by kernel_rfl
    exact (show Tryz.prog.wantsStandIn t=false by simpa using List.all_eq_true.1 hall t hm)⟩)
  (by kernel_rfl)
end Go.Proofs.YtcdijoaabbjioaaGreatDoor
