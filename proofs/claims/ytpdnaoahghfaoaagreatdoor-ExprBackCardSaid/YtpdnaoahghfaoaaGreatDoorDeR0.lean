/- How an Expr law's row is closed. -/
import Derived.Test.YtpdnaoahghfaoaaGreatDoorDeK4
import Derived.Test.YtpdnaoahghfaoaaGreatDoorDeW1
import Derived.Test.YtpdnaoahghfaoaaGreatDoorDmWx
import Derived.Test.YtpdnaoahghfaoaaGreatDoorRows
import Derived.ProofKit
import Derived.OpenShut
import Derived.LaidMore
import Derived.LaidLaws
import Derived.Lay
import Derived.Stop.Joined
set_option linter.unusedSimpArgs false
set_option linter.unusedVariables false
namespace Go.Proofs.DeT
open Go Go.DM
theorem u8_nat {n : Int} (h : (Lit.int .u8 n).wf = true) : ∃ k : Nat, n = (k : Int) ∧ k < 256 := by
  simp only [Lit.wf, Bool.and_eq_true, decide_eq_true_eq] at h
  obtain ⟨h1, h2⟩ := h
  have e1 : IntKind.u8.min = 0 := rfl
  have e2 : IntKind.u8.max = 255 := rfl
  exact ⟨n.toNat, by omega, by omega⟩
theorem in64_wf {n : Int} (h : (Lit.int .i64 n).wf = true) : in64 n := by
  simp only [Lit.wf, Bool.and_eq_true, decide_eq_true_eq] at h
  exact h
set_option maxRecDepth 100000 in
theorem wt_node : ∀ (m : Nat) {x : List D}, WT Tryz.prog m 75 x → ∃ n : Nd, x = n.c ∧ In64 n
  | 0, _, h => h.elim
  | 1, _, h => by
    obtain ⟨m', hm, h⟩ := WT.struct Tryz.underlying75 h
    obtain rfl : m' = 0 := by omega
    obtain ⟨x1, y1, rfl, h1, h⟩ := WTs.cons h
    exact h1.elim
  | m + 2, _, h => by
    obtain ⟨m', hm, h⟩ := WT.struct Tryz.underlying75 h
    obtain rfl : m' = m + 1 := by omega
    obtain ⟨x1, y1, rfl, h1, h⟩ := WTs.cons h
    obtain ⟨x2, y2, rfl, h2, h⟩ := WTs.cons h
    obtain ⟨x3, y3, rfl, h3, h⟩ := WTs.cons h
    obtain ⟨x4, y4, rfl, h4, h⟩ := WTs.cons h
    obtain rfl := WTs.nil h
    obtain ⟨op, rfl, _⟩ := WT.str Tryz.underlying9 h1
    obtain ⟨nm, rfl, _⟩ := WT.str Tryz.underlying9 h2
    obtain ⟨n, rfl, hn⟩ := WT.int Tryz.underlying2 h3
    obtain ⟨m2, xss, hm2, rfl, _, hx⟩ := WT.slice Tryz.underlying73 dsz75 h4
    obtain rfl : m2 = m := by omega
    obtain ⟨ks, rfl, hks⟩ := list_of (c := Nd.c) (p := In64) fun y hy => wt_node m2 (hx y hy)
    refine ⟨.mk op nm n ks, ?_, .mk (in64_wf hn) hks⟩
    rw [Nd.c_mk, flat_map, List.length_map]
    rfl
end Go.Proofs.DeT
namespace Go.Proofs.YtpdnaoahghfaoaaGreatDoor
open Go Go.AM Go.DM Go.ChangeShapes Go.WideShapes Go.ChangeAt Go.RowKit Go.ChangeMaps
theorem Tryz.own : ownKnob Tryz.prog.godebug = none := by kernel_rfl
theorem Tryz.laidOut : laidOutB Tryz.prog = true := by kernel_rfl
/-- The wrap, with the world's shape and the listed variables. -/
theorem wrap {H : Type} {enc : TypeId × Value → H} {a : Assume} {C : Checked} {os : Os} {f : FuncId} {fn : Func} {s : ChangeSpec} {conds : List PathCond} {apart fresh handsOn again : Bool} {X : World → Array Value → Prop}
    (hX : ∀ (w w' : World) (args : Array Value), w.heap = w'.heap → X w args → X w' args)
    (own : ownKnob C.prog.godebug = none) (started : os.Started) (noInit : C.prog.inits.idxOf? f = none) (hfn : C.prog.funcs[f]? = some fn)
    (witness : ∃ (w : World) (tape : Tape) (i : Input), w.os = os ∧ (w.forCall tape i).Shaped C.prog ∧ i.vars = [] ∧ Input.okWide C.prog (w.forCall tape i) .any w.heap.size f i ∧
      ((s.pre enc C.prog fn conds apart (w.forCall tape i).memory i.args ∧ X (w.forCall tape i).memory i.args) ∧ sizedMet enc C.prog fn (OpenSpec.ofChange s) apart (w.forCall tape i).memory i.args) ∧ a.holds C.prog (lone (Frame.enter C.prog f i.args .normal) [] (w.forCall tape i)))
    (contract : ∀ (W : World) (base : Nat) (args : Array Value) (ds gs : List (DataW H)) (before : List MemPlace),
      (∀ (j : Nat) t v, fn.params[j]? = some t → args[j]? = some v → Value.okWide C.prog W .any base t v) →
      DataW.Whole enc C.prog fn.params.toList s.vars apart W args.toList ds gs before → X W args → W.ShapedOpen C.prog →
      Calls C.prog f args W fun e W' => ∃ v, e = .returned v ∧ s.post enc C.prog fn apart fresh handsOn again W args v W') :
    ReturnsInHanded a C os f .any (fun w args => (s.pre enc C.prog fn conds apart w args ∧ X w args) ∧ sizedMet enc C.prog fn (OpenSpec.ofChange s) apart w args) (s.post enc C.prog fn apart fresh handsOn again) := by
  refine returnsInHanded_of_calls own started noInit witness ?_
  intro w tape i _ hsh _ hok hpre _
  obtain ⟨_, _, _, fn', hfn', _, _, _, _, hval⟩ := hok
  have e : fn' = fn := Option.some.inj (hfn'.symm.trans hfn)
  subst e
  obtain ⟨⟨⟨ds, gs, before, hw, _⟩, hx⟩, _⟩ := hpre
  have hw' := DataW.Whole.of_heap (w' := w.forCall tape i) (by rfl) hw
  refine (contract (w.forCall tape i) w.heap.size i.args ds gs before hval hw' (hX _ _ _ (by rfl) hx) hsh).mono fun e W' ⟨v, he, hp⟩ => ?_
  subst he
  exact ChangeSpec.post_blind hp
/-- The variables that the Lex laws list. -/
def laid7 : List (String × DataW Unit) := [("math/bits.deBruijn32tab", Rows.laid_math_bits_deBruijn32tab), ("math/bits.deBruijn64tab", Rows.laid_math_bits_deBruijn64tab), ("internal/strconv.uint64pow10", Rows.laid_internal_strconv_uint64pow10), ("strconv.ErrRange", Rows.laid_strconv_ErrRange), ("strconv.ErrSyntax", Rows.laid_strconv_ErrSyntax), ("unicode.White_Space", Rows.laid_unicode_White_Space), ("strings.asciiSpace", Rows.laid_strings_asciiSpace)]
set_option maxRecDepth 100000 in
theorem start_of {W : World} (h : laidMetH Tryz.prog laid7 W) : DeT.Start W := by
  rw [MakeChecks.laidMetH_plain _ _ _ (by kernel_rfl)] at h
  obtain ⟨ps, ⟨_, _, _, _, _, _, _, _, _, _, ⟨_, _, _, _, _, _, _, _, _, _, ⟨g3, t3, cs3, fuel3, p3, q3, hg3, ht3, hv3, hd3, ⟨g4, t4, cs4, fuel4, p4, q4, hg4, ht4, hv4, hd4, ⟨_, _, _, _, _, _, _, _, _, _, ⟨_, _, _, _, _, _, _, _, _, _, ⟨g, t, cs, fuel, p, q, hg, ht, hv, hd, _, _⟩, _⟩, _⟩, _⟩, _⟩, _⟩, _⟩, _, _⟩ := h
  refine ⟨?_, ?_, ?_⟩
  · have hty : ((Tryz.prog.globalNamed "strings.asciiSpace").bind fun g => (Tryz.prog.globals[g]?).map (·.type)) = some 246 := by kernel_rfl
    rw [hg, Option.bind_some, ht] at hty
    obtain rfl := Option.some.inj hty
    rw [show (Rows.laid_strings_asciiSpace : DataW Unit) = Lib.tabData .u8 Lib.asciiSpaceTab by kernel_rfl] at hd
    show W.var? Tryz.prog "strings.asciiSpace" = _
    rw [hv, ← Lib.cells_of_tab (k := .u8) (zs := Lib.asciiSpaceTab) Tryz.underlying246 Tryz.underlying5 (by kernel_rfl) (by kernel_rfl) hd]
  · have hty : ((Tryz.prog.globalNamed "internal/strconv.uint64pow10").bind fun g => (Tryz.prog.globals[g]?).map (·.type)) = some 233 := by kernel_rfl
    rw [hg3, Option.bind_some, ht3] at hty
    obtain rfl := Option.some.inj hty
    show W.var? Tryz.prog "internal/strconv.uint64pow10" = _
    rw [hv3, ← Lib.cells_of_tab (k := .u64) (zs := Lib.pow10Tab) Tryz.underlying233 Tryz.underlying191 (by kernel_rfl) (by kernel_rfl) hd3]
  · have hty : ((Tryz.prog.globalNamed "strconv.ErrRange").bind fun g => (Tryz.prog.globals[g]?).map (·.type)) = some 173 := by kernel_rfl
    rw [hg4, Option.bind_some, ht4] at hty
    obtain rfl := Option.some.inj hty
    obtain ⟨_, u, v, hcs, _⟩ := iface_of_trod Tryz.underlying173 hd4
    refine ⟨u, v, ?_⟩
    rw [hv4]
    congr 1
    rw [← Array.toList_inj]
    exact hcs
end Go.Proofs.YtpdnaoahghfaoaaGreatDoor
