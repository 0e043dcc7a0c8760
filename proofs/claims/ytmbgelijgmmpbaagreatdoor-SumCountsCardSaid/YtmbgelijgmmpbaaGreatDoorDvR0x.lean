/- How a Row law's row is closed. -/
import Derived.Test.YtmbgelijgmmpbaaGreatDoorDvS33x
import Derived.Test.YtmbgelijgmmpbaaGreatDoorDmLx
import Derived.Test.YtmbgelijgmmpbaaGreatDoorRows
import Derived.ProofKit
import Derived.OpenShut
import Derived.LaidMore
import Derived.LaidLaws
import Derived.Lay
import Derived.Stop.Joined
set_option linter.unusedSimpArgs false
set_option linter.unusedVariables false
namespace Go.Proofs.DvT
open Go Go.DM Go.Proofs.DvF
set_option maxRecDepth 100000
structure InR (r:Rw):Prop where
 st:In64 r.st
 i : ∀ a∈r.at_,in64 a.v.i
 l : ∀ a∈r.at_,∀ x∈a.v.l,in64 x
theorem in64_wf {n:Int} (h:(Lit.int .i64 n).wf=true):in64 n:=by
 simp only [Lit.wf,Bool.and_eq_true,decide_eq_true_eq] at h
 exact h
theorem intsD_flat : ∀ (l:List Int),(l.map fun n=>[D.int .i64 n]).flatten=intsD l
 | []=>rfl
 | n::l=>by
  have:=intsD_flat l
  simp only [List.map_cons,List.flatten_cons,this]
  rfl
theorem wt_ints {m:Nat} {x:List D} (h:WT Tryz.prog m 51 x) : ∃ l:List Int,x=[.sl none 1 l.length (intsD l)] ∧ ∀ n∈l,in64 n:=by
 obtain ⟨m',xss,rfl,rfl,_,hx⟩:=WT.slice Tryz.underlying51 dsz2 h
 obtain ⟨l,rfl,hl⟩:=list_of (c:=fun n=>[D.int .i64 n]) (p:=in64) fun y hy=>by
  obtain ⟨n,rfl,hn⟩:=WT.int Tryz.underlying2 (hx y hy)
  exact ⟨n,rfl,in64_wf hn⟩
 refine ⟨l,?_,hl⟩
 rw [intsD_flat,List.length_map]
theorem wt_val {m:Nat} {x:List D} (h:WT Tryz.prog m 53 x) : ∃ v:Val,x=v.c∧in64 v.i ∧ ∀ n∈v.l,in64 n:=by
 obtain ⟨m2,rfl,g⟩:=WT.struct Tryz.underlying53 h
 obtain ⟨x3,y3,rfl,h3,g⟩:=WTs.cons g
 obtain ⟨x4,y4,rfl,h4,g⟩:=WTs.cons g
 obtain ⟨x5,y5,rfl,h5,g⟩:=WTs.cons g
 obtain ⟨x6,y6,rfl,h6,g⟩:=WTs.cons g
 obtain rfl:=WTs.nil g
 obtain ⟨k,rfl,_⟩:=WT.int Tryz.underlying3 h3
 obtain ⟨i,rfl,hi⟩:=WT.int Tryz.underlying2 h4
 obtain ⟨s2,rfl,_⟩:=WT.str Tryz.underlying9 h5
 obtain ⟨l,rfl,hl⟩:=wt_ints h6
 exact ⟨⟨k,i,s2,l⟩,rfl,in64_wf hi,hl⟩
theorem wt_att {m:Nat} {x:List D} (h:WT Tryz.prog m 59 x) : ∃ a:Att,x=a.c∧in64 a.v.i ∧ ∀ n∈a.v.l,in64 n:=by
 obtain ⟨m',rfl,h⟩:=WT.struct Tryz.underlying59 h
 obtain ⟨x1,y1,rfl,h1,h⟩:=WTs.cons h
 obtain ⟨x2,y2,rfl,h2,h⟩:=WTs.cons h
 obtain rfl:=WTs.nil h
 obtain ⟨s,rfl,_⟩:=WT.str Tryz.underlying9 h1
 obtain ⟨v,rfl,hv⟩:=wt_val h2
 exact ⟨⟨s,v⟩,rfl,hv⟩
theorem wt_atts {m:Nat} {x:List D} (h:WT Tryz.prog m 33 x) : ∃ l:List Att,x=[.sl none 5 l.length (attsC l)] ∧ ∀ a∈l,in64 a.v.i ∧ ∀ n∈a.v.l,in64 n:=by
 obtain ⟨m',xss,rfl,rfl,_,hx⟩:=WT.slice Tryz.underlying33 dsz59 h
 obtain ⟨l,rfl,hl⟩:=list_of (c:=Att.c) (p:=fun a=>in64 a.v.i ∧ ∀ n∈a.v.l,in64 n) fun y hy=>wt_att (hx y hy)
 refine ⟨l,?_,hl⟩
 rw [List.length_map,attsC,List.flatMap_def]
theorem wt_st {m:Nat} {x:List D} (h:WT Tryz.prog m 61 x) : ∃ s:St,x=s.c∧In64 s:=by
 obtain ⟨m',rfl,h⟩:=WT.struct Tryz.underlying61 h
 obtain ⟨x1,y1,rfl,h1,h⟩:=WTs.cons h
 obtain ⟨x2,y2,rfl,h2,h⟩:=WTs.cons h
 obtain ⟨x3,y3,rfl,h3,h⟩:=WTs.cons h
 obtain ⟨x4,y4,rfl,h4,h⟩:=WTs.cons h
 obtain rfl:=WTs.nil h
 obtain ⟨a,rfl,ha⟩:=WT.int Tryz.underlying2 h1
 obtain ⟨b,rfl,hb⟩:=WT.int Tryz.underlying2 h2
 obtain ⟨c,rfl,hc⟩:=WT.int Tryz.underlying2 h3
 obtain ⟨s,rfl,_⟩:=WT.str Tryz.underlying9 h4
 exact ⟨⟨a,b,c,s⟩,rfl,in64_wf ha,in64_wf hb,in64_wf hc⟩
theorem wt_row {m:Nat} {x:List D} (h:WT Tryz.prog m 63 x) : ∃ r:Rw,x=r.c∧InR r:=by
 obtain ⟨m',rfl,h⟩:=WT.struct Tryz.underlying63 h
 obtain ⟨x1,y1,rfl,h1,h⟩:=WTs.cons h
 obtain ⟨x2,y2,rfl,h2,h⟩:=WTs.cons h
 obtain ⟨x3,y3,rfl,h3,h⟩:=WTs.cons h
 obtain rfl:=WTs.nil h
 obtain ⟨s,rfl,_⟩:=WT.str Tryz.underlying9 h1
 obtain ⟨st,rfl,hst⟩:=wt_st h2
 obtain ⟨l,rfl,hl⟩:=wt_atts h3
 exact ⟨⟨s,st,l⟩,rfl,hst,fun a ha=>(hl a ha).1,fun a ha=>(hl a ha).2⟩
end Go.Proofs.DvT
namespace Go.Proofs.YtmbgelijgmmpbaaGreatDoor
open Go Go.AM Go.DM Go.ChangeShapes Go.WideShapes Go.ChangeAt Go.RowKit Go.ChangeMaps
theorem Tryz.own:ownKnob Tryz.prog.godebug=none:=by kernel_rfl
theorem Tryz.laidOut:laidOutB Tryz.prog=true:=by kernel_rfl
theorem wrap {H:Type} {enc:TypeId×Value→H} {a:Assume} {C:Checked} {os:Os} {f:FuncId} {fn:Func} {s:ChangeSpec} {conds:List PathCond} {apart fresh handsOn again:Bool} {X:World→Array Value→Prop}
  (hX : ∀ (w w':World) (args:Array Value),w.heap=w'.heap→X w args→X w' args)
  (own:ownKnob C.prog.godebug=none) (started:os.Started) (noInit:C.prog.inits.idxOf? f=none) (hfn:C.prog.funcs[f]?=some fn)
  (witness : ∃ (w:World) (tape:Tape) (i:Input),w.os=os∧(w.forCall tape i).Shaped C.prog∧i.vars=[]∧Input.okWide C.prog (w.forCall tape i) .any w.heap.size f i ∧
   ((s.pre enc C.prog fn conds apart (w.forCall tape i).memory i.args∧X (w.forCall tape i).memory i.args)∧sizedMet enc C.prog fn (OpenSpec.ofChange s) apart (w.forCall tape i).memory i.args)∧a.holds C.prog (lone (Frame.enter C.prog f i.args .normal) [] (w.forCall tape i)))
  (contract : ∀ (W:World) (base:Nat) (args:Array Value) (ds gs:List (DataW H)) (before:List MemPlace),
   (∀ (j:Nat) t v,fn.params[j]?=some t→args[j]?=some v→Value.okWide C.prog W .any base t v) →
   DataW.Whole enc C.prog fn.params.toList s.vars apart W args.toList ds gs before→X W args→W.ShapedOpen C.prog →
   Calls C.prog f args W fun e W' => ∃ v,e = .returned v∧s.post enc C.prog fn apart fresh handsOn again W args v W') :
  ReturnsInHanded a C os f .any (fun w args=>(s.pre enc C.prog fn conds apart w args∧X w args)∧sizedMet enc C.prog fn (OpenSpec.ofChange s) apart w args) (s.post enc C.prog fn apart fresh handsOn again):=by
 refine returnsInHanded_of_calls own started noInit witness ?_
 intro w tape i _ hsh _ hok hpre _
 obtain ⟨_,_,_,fn',hfn',_,_,_,_,hval⟩:=hok
 have e:fn'=fn:=Option.some.inj (hfn'.symm.trans hfn)
 subst e
 obtain ⟨⟨⟨ds,gs,before,hw,_⟩,hx⟩,_⟩:=hpre
 have hw':=DataW.Whole.of_heap (w':=w.forCall tape i) (by rfl) hw
 refine (contract (w.forCall tape i) w.heap.size i.args ds gs before hval hw' (hX _ _ _ (by rfl) hx) hsh).mono fun e W' ⟨v,he,hp⟩ => ?_
 subst he
 exact ChangeSpec.post_blind hp
def laid5 : List (String × DataW Unit) := [("math/bits.deBruijn32tab", Rows.laid_math_bits_deBruijn32tab), ("math/bits.deBruijn64tab", Rows.laid_math_bits_deBruijn64tab), ("internal/strconv.uint64pow10", Rows.laid_internal_strconv_uint64pow10), ("unicode/utf8.acceptRanges", Rows.laid_unicode_utf8_acceptRanges), ("unicode/utf8.first", Rows.laid_unicode_utf8_first)]
theorem start_of {W:World} (h:laidMetH Tryz.prog laid5 W) (hs:W.ShapedOpen Tryz.prog):DvT.Start W:=by
 refine ⟨Tryz.laysM146.s1_3 W hs,?_⟩
 rw [MakeChecks.laidMetH_plain _ _ _ (by kernel_rfl)] at h
 obtain ⟨ps,⟨_,_,_,_,_,_,_,_,_,_,⟨_,_,_,_,_,_,_,_,_,_,⟨g,t,cs,fuel,p,q,hg,ht,hv,hd,_,_⟩,_⟩,_⟩,_,_⟩:=h
 have hty : ((Tryz.prog.globalNamed "internal/strconv.uint64pow10").bind fun g => (Tryz.prog.globals[g]?).map (·.type)) = some 259 := by kernel_rfl
 rw [hg,Option.bind_some,ht] at hty
 obtain rfl:=Option.some.inj hty
 show W.var? Tryz.prog "internal/strconv.uint64pow10" = _
 rw [hv,← Lib.cells_of_tab (k:=.u64) (zs:=Lib.pow10Tab) Tryz.underlying259 Tryz.underlying220 (by kernel_rfl) (by kernel_rfl) hd]
end Go.Proofs.YtmbgelijgmmpbaaGreatDoor
