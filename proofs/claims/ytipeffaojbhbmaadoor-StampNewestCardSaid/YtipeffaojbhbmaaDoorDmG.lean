/- A machine over Go's operations in which slices are values: each operation stands to the abstract machine's. -/
import Derived.Test.YtipeffaojbhbmaaDoorDmF
set_option linter.unusedSimpArgs false
set_option linter.unusedVariables false
namespace Go.DM
open Go Go.AM

theorem opA_binV {P : Program} {base : Nat} {ρ : Env} {H : Heap} {op : BinOp} {t u : TypeId} {x y : Operand} : opA P base ρ (.binOp op t x y u) H = (binV P op t x y (evalA ρ x) (evalA ρ y)).map (·, H) := by
  simp only [opA, binV]
  cases binA P op t (evalA ρ x) (evalA ρ y) with
  | some v => rfl
  | none =>
    simp only
    generalize nilEq P t (evalA ρ x) (evalA ρ y) = q
    generalize eqA P op t x y (evalA ρ x) (evalA ρ y) = z
    have hz : (z.bind fun v => if closedV v then some (v, H) else none) = (z.bind fun v => if closedV v then some v else none).map (·, H) := by
      cases z with
      | none => rfl
      | some v => simp only [Option.bind_some]; split <;> rfl
    cases op <;> cases q <;> first | rfl | exact hz

theorem nil_rel {P : Program} {r : Rl} {t : TypeId} {a b : D} {u v : Value} (ha : DRel r a u) (hb : DRel r b v) {q : Bool} (h : nilEqD P t a b = some q) : (∀ op, binA P op t u v = none) ∧ nilEq P t u v = some q := by
  unfold nilEqD at h
  split at h <;> (try (cases h; done))
  all_goals
    rename_i hu
    cases h
    cases ha
    cases hb
    exact ⟨fun op => by cases op <;> rfl, by simp [nilEq, hu]⟩

theorem bin_rel {P : Program} {r : Rl} {op : BinOp} {t : TypeId} {x y : Operand} {a b d : D} {u v : Value} (ha : DRel r a u) (hb : DRel r b v) (h : binD P op t x y a b = some d) : ∃ w, binV P op t x y u v = some w ∧ DRel r d w := by
  unfold binD at h
  split at h
  · rename_i u' v' hu hv
    rw [toV_eq ha hu, toV_eq hb hv]
    simp only [Option.map_eq_some_iff] at h
    obtain ⟨w, hw, rfl⟩ := h
    exact ⟨w, hw, .ofV w⟩
  · split at h
    · rename_i q hq
      cases h
      obtain ⟨h1, h2⟩ := nil_rel ha hb hq
      exact ⟨.bool q, by simp [binV, h1, h2], .bool q⟩
    · rename_i q hq
      cases h
      obtain ⟨h1, h2⟩ := nil_rel ha hb hq
      exact ⟨.bool !q, by simp [binV, h1, h2], .bool _⟩
    · cases h

theorem u8s_rel {r : Rl} : ∀ {cells : List D} {vs : List Value} {ns : List Int}, DL r cells vs → u8sD cells = some ns → u8s vs = some ns
  | [], [], ns, _, h => h
  | [], _ :: _, _, h, _ => by simp [DL] at h
  | _ :: _, [], _, h, _ => by simp [DL] at h
  | c :: cells, v :: vs, ns, h, e => by
    unfold u8sD at e
    split at e
    · rename_i heq; cases heq
    · rename_i n rest heq
      cases heq
      simp only [Option.map_eq_some_iff] at e
      obtain ⟨ms, hm, rfl⟩ := e
      have h0 := h.head
      cases h0
      simp [u8s, u8s_rel h.tail hm]
    · cases e

theorem conv_rel {P : Program} {r : Rl} {S S' : Mem} (hS : SRel r S) {s t : TypeId} {x d : D} {x' : Value} (hx : DRel r x x') (h : convD P s t x S = some (d, S')) : Comes r S' d (convA P s t x' r.H) := by
  unfold convD at h
  split at h
  · rename_i k1 k k2 n hs ht
    cases h; cases hx
    exact .pure hS (by simp [convA, hs, ht]) (.int _ _)
  · rename_i a hs ht
    cases h; cases hx
    exact .pure hS (by simp [convA, hs, ht]) (.str _)
  · rename_i e a hs ht
    split at h
    · rename_i he
      cases h; cases hx
      have dl : DL r (a.data.toList.map fun b => D.int .u8 b.toNat) (a.data.toList.map fun b => Value.int .u8 b.toNat) := ⟨by simp, fun i h1 h2 => by simp only [List.getElem_map]; exact .int _ _⟩
      obtain ⟨le, sr, dr⟩ := new_own (sz := 1) (len := a.size) hS dl (by simp)
      exact ⟨_, _, _, by simp [convA, hs, ht, he, Rl.push], rfl, le, sr, dr⟩
    · cases h
  · rename_i e own sz n cells hs ht
    split at h
    · rename_i he
      split at h
      · rename_i h1
        subst h1
        simp only [Option.map_eq_some_iff, Prod.mk.injEq] at h
        obtain ⟨ns, hn, rfl, rfl⟩ := h
        cases hx with
        | sl _ _ _ _ vs hd o m b hk hg hz hr hm hl hcl ho hc =>
          have hvl : vs.length = n := by rw [← hl, hcl]; simp
          have hu := u8s_rel ⟨hl, hc⟩ hn
          rw [hvl] at hr
          refine .pure hS ?_ (.str _)
          simp only [convA, hs, ht, he, Option.bind_eq_bind, Option.bind_some]
          split
          · rename_i h0
            subst h0
            rw [List.eq_nil_of_length_eq_zero hvl] at hu
            simp [u8s] at hu
            subst hu
            rfl
          · simp [hr, hu]
        | slE _ v hv =>
          simp [u8sD] at hn
          subst hn
          refine .pure hS ?_ (.str _)
          rcases hv with rfl | rfl <;> simp [convA, hs, ht, he] <;> rfl
      · cases h
    · cases h
  · rename_i e hs ht
    split at h
    · rename_i he
      cases h; cases hx
      exact .pure hS (by simp [convA, hs, ht, he]) (.str _)
    · cases h
  · rename_i e hs ht
    split at h
    · rename_i he
      cases h
      cases hx with
      | sl0 v hv =>
        refine .pure hS ?_ (.str _)
        rcases hv with rfl | rfl <;> simp [convA, hs, ht, he]
    · cases h
  · cases h

theorem builtin_rel {P : Program} {r : Rl} {S S' : Mem} (hS : SRel r S) {b : Builtin} {at_ : Array TypeId} {xs : List D} {vs : List Value} (hx : DL r xs vs) {d : D} (h : builtinD P b at_ xs S = some (d, S')) : Comes r S' d (builtinA P 0 b at_ vs r.H) := by
  unfold builtinD at h
  split at h
  · rename_i x
    obtain ⟨v, rfl⟩ : ∃ v, vs = [v] := by have := hx.1; match vs, this with | [v], _ => exact ⟨v, rfl⟩
    have h0 := hx.head
    split at h
    · rename_i s hu; cases h; cases h0; exact .pure hS (by simp only [builtinA, hu]) (.int _ _)
    · rename_i e own sz n cells hu
      cases h
      cases h0 with
      | sl => exact .pure hS (by simp only [builtinA, hu]) (.int _ _)
      | slE _ v hv => rcases hv with rfl | rfl <;> exact .pure hS (by simp only [builtinA, hu]) (.int _ _)
    · rename_i e hu; cases h; cases h0; exact .pure hS (by simp only [builtinA, hu]; rfl) (.int _ _)
    · rename_i e hu
      cases h
      cases h0 with
      | sl0 v hv => rcases hv with rfl | rfl <;> exact .pure hS (by simp only [builtinA, hu]; rfl) (.int _ _)
    · rename_i e hu; cases h; cases h0; exact .pure hS (by simp only [builtinA, hu]; rfl) (.int _ _)
    · cases h
  · rename_i s x
    obtain ⟨u, v, rfl⟩ : ∃ u v, vs = [u, v] := by have := hx.1; match vs, this with | [u, v], _ => exact ⟨u, v, rfl⟩
    exact append_rel hS hx.head hx.tail.head h
  · rename_i k a k' b
    obtain ⟨u, v, rfl⟩ : ∃ u v, vs = [u, v] := by have := hx.1; match vs, this with | [u, v], _ => exact ⟨u, v, rfl⟩
    have h0 := hx.head
    have h1 := hx.tail.head
    cases h; cases h0; cases h1
    exact .pure hS rfl (.int _ _)
  · rename_i k a k' b
    obtain ⟨u, v, rfl⟩ : ∃ u v, vs = [u, v] := by have := hx.1; match vs, this with | [u, v], _ => exact ⟨u, v, rfl⟩
    have h0 := hx.head
    have h1 := hx.tail.head
    cases h; cases h0; cases h1
    exact .pure hS rfl (.int _ _)
  · cases h

theorem eval_rel {r : Rl} {ρ : DEnv} {ρA : Env} (h : ∀ t, DRel r (ρ t) (ρA t)) (x : Operand) : DRel r (evalD ρ x) (evalA ρA x) := by
  cases x with
  | tmp t => exact h t
  | const v => exact .ofV v
  | global g => exact .bot _
  | func f => exact .fn _ _ _ _ _ rfl (fun i h => by simp at h) rfl (fun i h => by simp at h)

theorem evals_rel {r : Rl} {ρ : DEnv} {ρA : Env} (h : ∀ t, DRel r (ρ t) (ρA t)) (xs : List Operand) : DL r (xs.map (evalD ρ)) (xs.map (evalA ρA)) :=
  ⟨by simp, fun i h1 h2 => by simp only [List.getElem_map]; exact eval_rel h _⟩
theorem parts_rel {r : Rl} {ρ : DEnv} {ρA : Env} (h : ∀ t, DRel r (ρ t) (ρA t)) (xs : List (Nat × Operand)) : PDL r (xs.map fun (i, x) => (i, evalD ρ x)) (xs.map fun (i, x) => (i, evalA ρA x)) :=
  ⟨by simp, fun i h1 h2 => by simp only [List.getElem_map]; exact ⟨trivial, eval_rel h _⟩⟩
theorem oeval_rel {r : Rl} {ρ : DEnv} {ρA : Env} (h : ∀ t, DRel r (ρ t) (ρA t)) (x : Option Operand) : ORel r (x.map (evalD ρ)) (x.map (evalA ρA)) := by
  cases x with
  | none => trivial
  | some x => exact eval_rel h x

/-- Each operation stands to the abstract machine's. -/
theorem op_rel {P : Program} {r : Rl} {S S' : Mem} (hS : SRel r S) {ρ : DEnv} {ρA : Env} (hρ : ∀ t, DRel r (ρ t) (ρA t)) {op : Op} {d : D} (h : opD P ρ op S = some (d, S')) : Comes r S' d (opA P 0 ρA op r.H) := by
  have ev := eval_rel hρ
  unfold opD at h
  split at h
  · rename_i x; cases h; exact .pure hS rfl (ev x)
  · rename_i x; cases h; exact .pure hS rfl (ev x)
  · rename_i c a b
    have hc := ev c
    split at h
    · rename_i t ht
      cases h
      rw [ht] at hc
      generalize hv : evalA ρA c = v at hc
      cases hc
      exact .pure hS (v := if t then evalA ρA a else evalA ρA b) (by simp only [opA, hv]) (by cases t <;> exact ev _)
    · cases h
  · rename_i t
    split at h
    · rename_i z hz
      split at h
      · rename_i hsc
        cases h
        obtain ⟨le, sr, dr⟩ := new_obj (sz := 1) hS (DL.map_ofS (r := r) z.cells.toList)
        exact ⟨_, _, _, by simp only [opA, hz, Option.bind_eq_bind, Option.bind_some, if_pos hsc]; rfl, rfl, le, sr, dr⟩
      · cases h
    · cases h
  · rename_i t x
    simp only [Option.map_eq_some_iff, Prod.mk.injEq] at h
    obtain ⟨cs, hcs, rfl, rfl⟩ := h
    obtain ⟨le, sr, dr⟩ := new_obj (sz := 1) hS (cellsD_rel (ev x) hcs)
    exact ⟨_, _, _, rfl, rfl, le, sr, dr⟩
  · rename_i t ps
    simp only [Option.map_eq_some_iff, Prod.mk.injEq] at h
    obtain ⟨d', hd, rfl, rfl⟩ := h
    obtain ⟨v, hv, hr⟩ := build_rel (parts_rel hρ ps.toList) hd
    exact .pure hS (by simp only [opA, hv, Option.map_some]) hr
  · rename_i t n ps
    exact buildSlice_rel hS (parts_rel hρ ps.toList) h
  · rename_i t a
    simp only [Option.map_eq_some_iff, Prod.mk.injEq] at h
    obtain ⟨d', hd, rfl, rfl⟩ := h
    obtain ⟨v, hv, hr⟩ := load_rel hS (ev a) hd
    exact .pure hS (by simp only [opA, hv, Option.map_some]) hr
  · rename_i t a x
    simp only [Option.map_eq_some_iff, Prod.mk.injEq] at h
    obtain ⟨S1, hd, rfl, rfl⟩ := h
    obtain ⟨H', hv, le, sr⟩ := store_rel hS (ev a) (ev x) hd
    exact ⟨_, _, _, by simp only [opA, hv, Option.map_some], rfl, le, sr, .undef⟩
  · rename_i x
    have hx := ev x
    split at h
    · rename_i o off e; cases h; rw [e] at hx; generalize hv : evalA ρA x = v at hx; cases hx with | ptr _ _ ho => exact .pure hS (by simp only [opA, hv]) (.ptr _ _ ho)
    · rename_i c off e; cases h; rw [e] at hx; generalize hv : evalA ρA x = v at hx; cases hx with | eptr _ _ vs hh o hk hr hl hc => exact .pure hS (by simp only [opA, hv]) (.eptr _ _ vs hh o hk hr hl hc)
    · rename_i f a b e; cases h; rw [e] at hx; generalize hv : evalA ρA x = v at hx; cases hx with | fn _ _ _ ys ds h1 h2 h3 h4 => exact .pure hS (by simp only [opA, hv]) (.fn _ _ _ ys ds h1 h2 h3 h4)
    · cases h
  · rename_i op t x y u
    simp only [Option.map_eq_some_iff, Prod.mk.injEq] at h
    obtain ⟨d', hd, rfl, rfl⟩ := h
    obtain ⟨w, hw, hr⟩ := bin_rel (ev x) (ev y) hd
    exact .pure hS (by rw [opA_binV, hw]; rfl) hr
  · rename_i op t x
    have hx := ev x
    split at h
    · rename_i b e; cases h; rw [e] at hx; generalize hv : evalA ρA x = v at hx; cases hx; exact .pure hS (by simp only [opA, hv]) (.bool _)
    · rename_i k n e; cases h; rw [e] at hx; generalize hv : evalA ρA x = v at hx; cases hx; exact .pure hS (by simp only [opA, hv]) (.int _ _)
    · rename_i k n e
      rw [e] at hx
      generalize hv : evalA ρA x = v at hx
      cases hx
      obtain ⟨w, hw, h⟩ := Option.bind_eq_some_iff.1 h
      split at h
      · rename_i hcl
        cases h
        exact .pure hS (by simp only [opA, hv, hw, Option.bind_some, if_pos hcl]) (.ofV w)
      · cases h
    · cases h
  · rename_i s t x; exact conv_rel hS (ev x) h
  · rename_i t x
    cases hu : P.underlying t with
    | none => simp [hu] at h
    | some u =>
      simp only [hu] at h
      cases u <;> first | (cases h; done) | (cases h; exact .pure hS (v := .iface t (evalA ρA x)) (by simp only [opA, hu]) (.iface _ _ _ (ev x)))
  · rename_i f a b
    cases h
    refine .pure hS rfl (.fn _ _ _ _ _ (by simp) (fun i h1 h2 => ?_) (by simp) (fun i h1 h2 => ?_))
    · simp only [List.getElem_map, Array.getElem_map, Array.getElem_toList]; exact ev _
    · simp only [List.getElem_map, Array.getElem_map, Array.getElem_toList]; exact ev _
  · rename_i t l c; exact makeSlice_rel hS (ev l) (ev c) h
  · rename_i t x lo hi mx
    simp only [Option.map_eq_some_iff, Prod.mk.injEq] at h
    obtain ⟨d', hd, rfl, rfl⟩ := h
    obtain ⟨v, hv, hr⟩ := slice_rel (ev x) (oeval_rel hρ lo) (oeval_rel hρ hi) (oeval_rel hρ mx) hd
    exact .pure hS (by simp only [opA, hv, Option.map_some]) hr
  · rename_i s x f
    simp only [Option.map_eq_some_iff, Prod.mk.injEq] at h
    obtain ⟨d', hd, rfl, rfl⟩ := h
    obtain ⟨v, hv, hr⟩ := field_rel (ev x) hd
    exact .pure hS (by simp only [opA, hv, Option.map_some]) hr
  · rename_i t x i
    simp only [Option.map_eq_some_iff, Prod.mk.injEq] at h
    obtain ⟨d', hd, rfl, rfl⟩ := h
    obtain ⟨v, hv, hr⟩ := index_rel (ev x) (ev i) hd
    exact .pure hS (by simp only [opA, hv, Option.map_some]) hr
  · rename_i t x i
    have hx := ev x
    have hi := ev i
    split at h
    · rename_i s k n hu e1 e2
      rw [e1] at hx
      rw [e2] at hi
      generalize hv : evalA ρA x = v at hx
      generalize hw : evalA ρA i = w at hi
      cases hx; cases hi
      split at h
      · rename_i h0
        simp only [Option.map_eq_some_iff, Prod.mk.injEq] at h
        obtain ⟨b, hb, rfl, rfl⟩ := h
        exact .pure hS (by simp only [opA, hu, hv, hw, if_pos h0, hb, Option.map_some]) (.int _ _)
      · cases h
    · cases h
  · rename_i x i
    have hx := ev x
    split at h
    · rename_i vs e
      rw [e] at hx
      generalize hv : evalA ρA x = v at hx
      simp only [Option.map_eq_some_iff, Prod.mk.injEq] at h
      obtain ⟨d', hd, rfl, rfl⟩ := h
      cases hx with
      | tup _ ys h1 h2 =>
        obtain ⟨hi, rfl⟩ := List.getElem?_eq_some_iff.1 hd
        exact .pure hS (v := ys[i]'(h1 ▸ hi)) (by simp only [opA, hv]; simp [h1 ▸ hi]) (h2 i hi _)
    · cases h
  · rename_i b args at_
    exact builtin_rel hS (evals_rel hρ args.toList) h
  · cases h
end Go.DM
