/- The law CalcAny is true for every tree and any attributes. -/
import Derived.Test.YtipeffaojbhbmaaDmC10
import Derived.Test.YtipeffaojbhbmaaDmU
import Derived.Test.YtipeffaojbhbmaaRows
set_option linter.unusedSimpArgs false
set_option linter.unusedVariables false
namespace Go.Proofs.DmT
open Go Go.DM
set_option maxRecDepth 100000
theorem intsD_flat : ∀ (l : List Int), (l.map fun n => [D.int .i64 n]).flatten = intsD l
  | [] => rfl
  | n :: l => by
    have := intsD_flat l
    simp only [List.map_cons, List.flatten_cons, this]
    rfl
theorem in64_wf {n : Int} (h : (Lit.int .i64 n).wf = true) : in64 n := by
  simp only [Lit.wf, Bool.and_eq_true, decide_eq_true_eq] at h
  exact h
theorem wt_ints {m : Nat} {x : List D} (h : WT Try.prog m 43 x) : ∃ l : List Int, x = [.sl none 1 l.length (intsD l)] := by
  obtain ⟨m', xss, rfl, rfl, _, hx⟩ := WT.slice Try.underlying43 dsz2 h
  obtain ⟨l, rfl, _⟩ := list_of (c := fun n => [D.int .i64 n]) (p := fun _ => True) fun y hy => by
    obtain ⟨n, rfl, _⟩ := WT.int Try.underlying2 (hx y hy)
    exact ⟨n, rfl, trivial⟩
  refine ⟨l, ?_⟩
  rw [intsD_flat, List.length_map]
theorem wt_att {m : Nat} {x : List D} (h : WT Try.prog m 51 x) : ∃ a : Att, x = a.c ∧ in64 a.v.i := by
  obtain ⟨m', rfl, h⟩ := WT.struct Try.underlying51 h
  obtain ⟨x1, y1, rfl, h1, h⟩ := WTs.cons h
  obtain ⟨x2, y2, rfl, h2, h⟩ := WTs.cons h
  obtain rfl := WTs.nil h
  obtain ⟨s, rfl, _⟩ := WT.str Try.underlying9 h1
  clear h
  obtain ⟨m2, rfl, g⟩ := WT.struct Try.underlying49 h2
  obtain ⟨x3, y3, rfl, h3, g⟩ := WTs.cons g
  obtain ⟨x4, y4, rfl, h4, g⟩ := WTs.cons g
  obtain ⟨x5, y5, rfl, h5, g⟩ := WTs.cons g
  obtain ⟨x6, y6, rfl, h6, g⟩ := WTs.cons g
  obtain rfl := WTs.nil g
  obtain ⟨k, rfl, _⟩ := WT.int Try.underlying3 h3
  obtain ⟨i, rfl, hi⟩ := WT.int Try.underlying2 h4
  obtain ⟨s2, rfl, _⟩ := WT.str Try.underlying9 h5
  obtain ⟨l, rfl⟩ := wt_ints h6
  exact ⟨⟨s, ⟨k, i, s2, l⟩⟩, rfl, in64_wf hi⟩
theorem wt_node : ∀ (m : Nat) {x : List D}, WT Try.prog m 24 x → ∃ n : Nd, x = n.c ∧ In64 n
  | 0, _, h => h.elim
  | 1, _, h => by
    obtain ⟨m', hm, h⟩ := WT.struct Try.underlying24 h
    obtain rfl : m' = 0 := by omega
    obtain ⟨x1, y1, rfl, h1, h⟩ := WTs.cons h
    exact h1.elim
  | m + 2, _, h => by
    obtain ⟨m', hm, h⟩ := WT.struct Try.underlying24 h
    obtain rfl : m' = m + 1 := by omega
    obtain ⟨x1, y1, rfl, h1, h⟩ := WTs.cons h
    obtain ⟨x2, y2, rfl, h2, h⟩ := WTs.cons h
    obtain ⟨x3, y3, rfl, h3, h⟩ := WTs.cons h
    obtain ⟨x4, y4, rfl, h4, h⟩ := WTs.cons h
    obtain rfl := WTs.nil h
    obtain ⟨op, rfl, _⟩ := WT.str Try.underlying9 h1
    obtain ⟨nm, rfl, _⟩ := WT.str Try.underlying9 h2
    obtain ⟨n, rfl, hn⟩ := WT.int Try.underlying2 h3
    obtain ⟨m2, xss, hm2, rfl, _, hx⟩ := WT.slice Try.underlying22 dsz24 h4
    obtain rfl : m2 = m := by omega
    obtain ⟨ks, rfl, hks⟩ := list_of (c := Nd.c) (p := In64) fun y hy => wt_node m2 (hx y hy)
    refine ⟨.mk op nm n ks, ?_, .mk (in64_wf hn) hks⟩
    rw [Nd.c_mk, flat_map, List.length_map]
    rfl
end Go.Proofs.DmT
namespace Go.Proofs.Ytipeffaojbhbmaa
open Go Go.AM Go.DM Go.ChangeShapes Go.WideShapes Go.ChangeAt Go.RowKit Go.ChangeMaps
theorem Try.own : ownKnob Try.prog.godebug = none := by kernel_rfl
theorem Try.laidOut : laidOutB Try.prog = true := by kernel_rfl

set_option maxRecDepth 100000 in
theorem calcAny_lifted (os : Os) (started : os.Started) (H : Type) (enc : TypeId × Value → H) :
    ReturnsInHanded {} Try.checked os 3 .any (Rows.calcAnySpec.pre6 enc Try.prog Try.f3 Rows.calcAnyRow.domain false) (Rows.calcAnySpec.post enc Try.prog Try.f3 false true false false) := by
  refine returnsInHanded_of_change (C := Try.checked) Try.own started (by kernel_rfl) Try.func3
    (ChangeSpec.witness6 (enc := enc) (C := Try.checked) false ⟨#[], #[.agg #[.string ⟨#[]⟩, .string ⟨#[]⟩, .int .i64 0, .slice none 0 0], .slice none 0 0], []⟩ 8 (by kernel_rfl) (by kernel_rfl) (by kernel_rfl) (by kernel_rfl)) ?_
  intro W base args ds gs before hval0 hW hcnd _
  have hval : ∀ (j : Nat) t v, Try.f3.params[j]? = some t → args[j]? = some v → Value.okWide Try.prog W .any base t v := hval0
  have hW' := hW
  obtain ⟨p, q, hA0, hV, rfl, hfz, hnd⟩ := hW
  have hA : DataW.TrodAll enc Try.prog W 0 (fun _ => true) true Try.f3.params.toList args.toList ds p := hA0
  have hcalls := law_true (f := 3) (tys := Try.f3.params.toList) (ts := [24, 25, 51, 49, 22, 43, 2, 3, 9]) (A := noBeside) noBeside_kept (runOrc_sound DmT.theRuns_ok) (fun _ _ _ => trivial) (by kernel_rfl) (by rw [Try.params3]; decide)
    (fun j t v a b => hval j t v (by simpa using a) (by simpa using b)) hA fun xss hx => by
      rw [Try.params3] at hx ⊢
      match xss, hx with
      | [x1, x2], hx =>
        obtain ⟨⟨m1, h1⟩, ⟨m2, h2⟩, _⟩ := hx
        obtain ⟨n, rfl, hn⟩ := DmT.wt_node m1 h1
        obtain ⟨m3, xss, rfl, rfl, _, hy⟩ := WT.slice Try.underlying25 DmT.dsz51 h2
        obtain ⟨l, rfl, hl⟩ := list_of (c := DmT.Att.c) (p := fun a => DmT.in64 a.v.i) fun y hyy => DmT.wt_att (hy y hyy)
        rw [flat_map, List.length_map]
        exact (DmT.lawAny n l hn hl []).mono fun d S' h => h.2
  rw [Try.params3] at hA hval
  obtain ⟨v0, v1, d0, d1, p0, p1, rfl, rfl, rfl, h0, h1⟩ := trodAll_two hA
  obtain ⟨rfl, rfl⟩ := trodVars_none hV
  refine hcalls.mono fun e W' ⟨he, hb⟩ => ?_
  subst he
  exact ⟨_, rfl, post_true (tb := 4) hW' rfl rfl Try.laidOut (of_decide_eq_true (by kernel_rfl)) (by kernel_rfl) (by kernel_rfl) hb⟩

theorem calcAny_holds : Rows.CalcAnySaid :=
  OpenClaim.holds_of_wide 3 Try.f3 rfl rfl rfl rfl rfl rfl rfl ⟨rfl, rfl, rfl, rfl, rfl⟩ rfl rfl rfl rfl rfl (by kernel_rfl) Try.func3 (by kernel_rfl)
    (of_decide_eq_true (by kernel_rfl)) (by unfold Func.isWrapper; first | (rw [if_pos (by decide +kernel)]; kernel_rfl) | (rw [if_neg (by decide +kernel)]; exact ⟨rfl, rfl⟩))
    (fun os started H enc _ => calcAny_lifted os started H enc)
end Go.Proofs.Ytipeffaojbhbmaa
