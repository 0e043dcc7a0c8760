/- The law CalcNames is true for every tree, any numbers, any choice of names. -/
import Derived.Test.YtcnjndjahloifaaDaC6
import Derived.Test.YtcnjndjahloifaaDmWx
import Derived.Test.YtcnjndjahloifaaRows
set_option linter.unusedSimpArgs false
set_option linter.unusedVariables false
namespace Go.Proofs.DaT
open Go Go.DM
set_option maxRecDepth 100000
theorem intsD_flat : ∀ (l : List Int), (l.map fun n => [D.int .i64 n]).flatten = intsD l
  | [] => rfl
  | n :: l => by
    have := intsD_flat l
    simp only [List.map_cons, List.flatten_cons, this]
    rfl
theorem in64_wf {n : Int} (h : (Lit.int .i64 n).wf = true) : in64 n := by
  simp only [Lit.wf, Bool.and_eq_true, decide_eq_true_eq] at h
  exact h
theorem wt_ints {m : Nat} {x : List D} (h : WT Try.prog m 25 x) : ∃ l : List Int, x = [.sl none 1 l.length (intsD l)] ∧ ∀ n ∈ l, in64 n := by
  obtain ⟨m', xss, rfl, rfl, _, hx⟩ := WT.slice Try.underlying25 dsz2 h
  obtain ⟨l, rfl, hl⟩ := list_of (c := fun n => [D.int .i64 n]) (p := in64) fun y hy => by
    obtain ⟨n, rfl, hn⟩ := WT.int Try.underlying2 (hx y hy)
    exact ⟨n, rfl, in64_wf hn⟩
  refine ⟨l, ?_, hl⟩
  rw [intsD_flat, List.length_map]
theorem wt_node : ∀ (m : Nat) {x : List D}, WT Try.prog m 24 x → ∃ n : Nd, x = n.c ∧ In64 n
  | 0, _, h => h.elim
  | 1, _, h => by
    obtain ⟨m', hm, h⟩ := WT.struct Try.underlying24 h
    obtain rfl : m' = 0 := by omega
    obtain ⟨x1, y1, rfl, h1, h⟩ := WTs.cons h
    exact h1.elim
  | m + 2, _, h => by
    obtain ⟨m', hm, h⟩ := WT.struct Try.underlying24 h
    obtain rfl : m' = m + 1 := by omega
    obtain ⟨x1, y1, rfl, h1, h⟩ := WTs.cons h
    obtain ⟨x2, y2, rfl, h2, h⟩ := WTs.cons h
    obtain ⟨x3, y3, rfl, h3, h⟩ := WTs.cons h
    obtain ⟨x4, y4, rfl, h4, h⟩ := WTs.cons h
    obtain rfl := WTs.nil h
    obtain ⟨op, rfl, _⟩ := WT.str Try.underlying9 h1
    obtain ⟨nm, rfl, _⟩ := WT.str Try.underlying9 h2
    obtain ⟨n, rfl, hn⟩ := WT.int Try.underlying2 h3
    obtain ⟨m2, xss, hm2, rfl, _, hx⟩ := WT.slice Try.underlying22 dsz24 h4
    obtain rfl : m2 = m := by omega
    obtain ⟨ks, rfl, hks⟩ := list_of (c := Nd.c) (p := In64) fun y hy => wt_node m2 (hx y hy)
    refine ⟨.mk op nm n ks, ?_, .mk (in64_wf hn) hks⟩
    rw [Nd.c_mk, flat_map, List.length_map]
    rfl
end Go.Proofs.DaT
namespace Go.Proofs.Ytcnjndjahloifaa
open Go Go.AM Go.DM Go.ChangeShapes Go.WideShapes Go.ChangeAt Go.RowKit Go.ChangeMaps
theorem Try.own : ownKnob Try.prog.godebug = none := by kernel_rfl
theorem Try.laidOut : laidOutB Try.prog = true := by kernel_rfl

set_option maxRecDepth 100000 in
theorem calcNames_lifted (os : Os) (started : os.Started) (H : Type) (enc : TypeId × Value → H) :
    ReturnsInHanded {} Try.checked os 3 .any (Rows.calcNamesSpec.pre6 enc Try.prog Try.f3 Rows.calcNamesRow.domain false) (Rows.calcNamesSpec.post enc Try.prog Try.f3 false true false false) := by
  refine returnsInHanded_of_change (C := Try.checked) Try.own started (by kernel_rfl) Try.func3
    (ChangeSpec.witness6 (enc := enc) (C := Try.checked) false ⟨#[], #[.agg #[.string ⟨#[]⟩, .string ⟨#[]⟩, .int .i64 0, .slice none 0 0], .slice none 0 0, .int .u16 0], []⟩ 8 (by kernel_rfl) (by kernel_rfl) (by kernel_rfl) (by kernel_rfl)) ?_
  intro W base args ds gs before hval0 hW hcnd _
  have hval : ∀ (j : Nat) t v, Try.f3.params[j]? = some t → args[j]? = some v → Value.okWide Try.prog W .any base t v := hval0
  have hW' := hW
  obtain ⟨p, q, hA0, hV, rfl, hfz, hnd⟩ := hW
  have hA : DataW.TrodAll enc Try.prog W 0 (fun _ => true) true Try.f3.params.toList args.toList ds p := hA0
  have hcalls := law_true (f := 3) (tys := Try.f3.params.toList) (ts := [24, 22, 25, 2, 26, 9]) (A := noBeside) noBeside_kept DaT.O_sound (fun _ _ _ => trivial) (by kernel_rfl) (by rw [Try.params3]; decide)
    (fun j t v a b => hval j t v (by simpa using a) (by simpa using b)) hA fun xss hx => by
      rw [Try.params3] at hx ⊢
      match xss, hx with
      | [x1, x2, x3], hx =>
        obtain ⟨⟨m1, h1⟩, ⟨m2, h2⟩, ⟨m3, h3⟩, _⟩ := hx
        obtain ⟨n, rfl, hn⟩ := DaT.wt_node m1 h1
        obtain ⟨l, rfl, hl⟩ := DaT.wt_ints h2
        obtain ⟨there, rfl, _⟩ := WT.int Try.underlying26 h3
        exact (DaT.lawNames n l there hn hl []).mono fun d S' h => h.2
  rw [Try.params3] at hA hval
  obtain ⟨v0, v1, v2, d0, d1, d2, p0, p1, p2, rfl, rfl, rfl, h0, h1, h2⟩ := trodAll_three hA
  obtain ⟨rfl, rfl⟩ := trodVars_none hV
  refine hcalls.mono fun e W' ⟨he, hb⟩ => ?_
  subst he
  exact ⟨_, rfl, post_true (tb := 4) hW' rfl rfl Try.laidOut (of_decide_eq_true (by kernel_rfl)) (by kernel_rfl) (by kernel_rfl) hb⟩

theorem calcNames_holds : Rows.CalcNamesSaid :=
  OpenClaim.holds_of_wide 3 Try.f3 rfl rfl rfl rfl rfl rfl rfl ⟨rfl, rfl, rfl, rfl, rfl⟩ rfl rfl rfl rfl rfl (by kernel_rfl) Try.func3 (by kernel_rfl)
    (of_decide_eq_true (by kernel_rfl)) (by unfold Func.isWrapper; first | (rw [if_pos (by decide +kernel)]; kernel_rfl) | (rw [if_neg (by decide +kernel)]; exact ⟨rfl, rfl⟩))
    (fun os started H enc _ => calcNames_lifted os started H enc)
end Go.Proofs.Ytcnjndjahloifaa
