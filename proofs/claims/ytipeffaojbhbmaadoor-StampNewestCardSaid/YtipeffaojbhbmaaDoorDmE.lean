/- A machine over Go's operations in which slices are values: slicing, appending. -/
import Derived.Test.YtipeffaojbhbmaaDoorDmD
set_option linter.unusedSimpArgs false
set_option linter.unusedVariables false
namespace Go.DM
open Go Go.AM

def ORel (r : Rl) : Option D → Option Value → Prop
  | some d, some v => DRel r d v
  | none, none => True
  | _, _ => False
theorem optNat_rel' {r : Rl} {d : Option D} {v : Option Value} (h : ORel r d v) {n : Option Nat} (e : optNatD d = some n) : optNat v = some n := optNat_rel (by cases d <;> cases v <;> exact h) e

theorem slice_rel {P : Program} {r : Rl} {t : TypeId} {x d : D} {x' : Value} {lo hi mx : Option D} {lo' hi' mx' : Option Value} (hx : DRel r x x') (h1 : ORel r lo lo') (h2 : ORel r hi hi') (h3 : ORel r mx mx')
    (h : sliceD P t x lo hi mx = some d) : ∃ v, sliceA P t x' lo' hi' mx' r.H = some v ∧ DRel r d v := by
  unfold sliceD at h
  split at h
  · rename_i l hh m s e1 e2 e3 hu
    cases hx
    simp only [sliceA, optNat_rel' h1 e1, optNat_rel' h2 e2, optNat_rel' h3 e3, Option.bind_eq_bind, Option.bind_some, hu]
    simp only at h
    split at h
    · cases h
    · rename_i hm
      split at h
      · rename_i hc
        cases h
        simp only [hm, hc, and_self, if_true, if_false]
        exact ⟨_, rfl, .str _⟩
      · cases h
  · rename_i l hh m e own sz len cells e1 e2 e3 hu
    cases hx with
    | sl _ _ _ _ vs hd o M b hk hg hz hr hm hl hs ho hc =>
      simp only [sliceA, optNat_rel' h1 e1, optNat_rel' h2 e2, optNat_rel' h3 e3, Option.bind_eq_bind, Option.bind_some, hu]
      split at h
      · rename_i hsz
        obtain ⟨hsz, hmx⟩ := hsz
        simp only at h
        split at h
        · rename_i hb
          obtain ⟨b1, b2, b3⟩ := hb
          simp only [hsz, Option.bind_some]
          have hmx' : (m.isSome && hh.isNone) = false := by
            cases hq : (m.isSome && hh.isNone) with
            | false => rfl
            | true => exact absurd (by simpa using hq) hmx
          simp only [hmx', Bool.false_eq_true, if_false]
          obtain ⟨bb, gg, hlen, hvs⟩ := readA_some hr
          rw [hg] at gg
          cases gg
          have hM1 : hh.getD len ≤ m.getD M := by cases m <;> simp at b2 b3 ⊢ <;> omega
          have hM2 : m.getD M ≤ M := by cases m <;> simp at b2 b3 ⊢; omega
          have hvl : vs.length = len * sz := by rw [← hl]; exact hs
          have hmul : l.getD 0 * sz + (hh.getD len - l.getD 0) * sz = hh.getD len * sz := by rw [← Nat.add_mul]; congr 1; omega
          have hmul2 : hh.getD len * sz ≤ len * sz := Nat.mul_le_mul_right _ (by omega)
          have fin : ∀ o', o' = o + l.getD 0 * sz → DRel r (.sl (if hh.getD len = len then own else none) sz (hh.getD len - l.getD 0) ((cells.drop (l.getD 0 * sz)).take ((hh.getD len - l.getD 0) * sz)))
              (.slice (some ⟨hd, o', none⟩) (hh.getD len - l.getD 0) (m.getD M - l.getD 0)) := by
            intro o' ho'
            subst ho'
            have dl : DL r ((cells.drop (l.getD 0 * sz)).take ((hh.getD len - l.getD 0) * sz)) ((vs.drop (l.getD 0 * sz)).take ((hh.getD len - l.getD 0) * sz)) := (DL.drop ⟨hl, hc⟩ _).take _
            have hlen2 : ((vs.drop (l.getD 0 * sz)).take ((hh.getD len - l.getD 0) * sz)).length = (hh.getD len - l.getD 0) * sz := by simp; omega
            refine .sl _ sz _ _ _ hd (o + l.getD 0 * sz) _ b hk hg hz ?_ (by omega) dl.1 (dl.1.trans hlen2) ?_ dl.2
            · rw [hlen2, readA_mk hg (by omega)]
              congr 1
              have e0 : vs.drop (l.getD 0 * sz) = ((b.cells.drop o).take vs.length).drop (l.getD 0 * sz) := by rw [← hvs]
              rw [e0, List.drop_take, List.drop_drop, List.take_take, Nat.min_eq_left (by omega)]
            · intro id hid
              split at hid
              · rename_i heq
                obtain ⟨a1, a2, a3, a4⟩ := ho id hid
                refine ⟨a1, a2, ?_, ?_⟩
                · have : m.getD M = M := by cases m <;> simp at b2 b3 hM1 hM2 ⊢; omega
                  omega
                · rw [Nat.add_assoc, hmul, heq]; exact a4
              · cases hid
          have hcond : l.getD 0 ≤ hh.getD len ∧ hh.getD len ≤ m.getD M ∧ m.getD M ≤ M := ⟨b1, hM1, hM2⟩
          simp only [hcond, and_self, if_true]
          by_cases hfree : m.isSome = true ∧ m.getD len = l.getD 0
          · have hfree' : m.isSome = true ∧ m.getD M = l.getD 0 := by
              cases m with
              | none => simp at hfree
              | some m => simpa using hfree
            rw [if_pos hfree] at h
            rw [if_pos hfree']
            cases h
            exact ⟨_, rfl, .sl0 _ (.inr rfl)⟩
          have hfree' : ¬ (m.isSome = true ∧ m.getD M = l.getD 0) := by
            cases m with
            | none => simp
            | some m => simpa using hfree
          rw [if_neg hfree] at h
          rw [if_neg hfree']
          cases h
          by_cases hl0 : l.getD 0 = 0
          · simp only [hl0, if_true]
            refine ⟨_, rfl, ?_⟩
            have := fin o (by simp [hl0])
            simpa [hl0] using this
          · simp only [hl0, if_false, Option.isSome_none, Bool.false_eq_true, hg, hz, if_true]
            exact ⟨_, rfl, fin _ rfl⟩
        · cases h
      · cases h
    | slE _ v hv =>
      simp only [sliceA, optNat_rel' h1 e1, optNat_rel' h2 e2, optNat_rel' h3 e3, Option.bind_eq_bind, Option.bind_some, hu]
      split at h
      · rename_i hsz
        obtain ⟨hsz, hmx⟩ := hsz
        simp only at h
        split at h
        · rename_i hb
          obtain ⟨b1, b2, b3⟩ := hb
          have hmx' : (m.isSome && hh.isNone) = false := by
            cases hq : (m.isSome && hh.isNone) with
            | false => rfl
            | true => exact absurd (by simpa using hq) hmx
          have c1 : l.getD 0 = 0 := by omega
          have c2 : hh.getD 0 = 0 := by omega
          have c3 : m.getD 0 = 0 := by omega
          simp only [hsz, Option.bind_some, hmx', Bool.false_eq_true, if_false]
          have hd : ∀ u, EmpV u → DRel r d u := by
            intro u hu'
            split at h
            · cases h; exact .sl0 _ hu'
            · cases h; simp only [c1, c2, Nat.sub_self, ite_self]; simp; exact .slE _ _ hu'
          rcases hv with rfl | rfl
          · simp only [c1, c2, c3, Nat.le_refl, and_self, if_true, Nat.sub_self]
            exact ⟨.slice none 0 0, by simp [hsz], hd _ (.inl rfl)⟩
          · simp only [c1, c2, c3, Nat.le_refl, and_self, if_true, Nat.sub_self]
            refine ⟨.slice (some freeA) 0 0, ?_, hd _ (.inr rfl)⟩
            split <;> simp [hsz]
        · cases h
      · cases h
  · rename_i l hh m e e1 e2 e3 hu
    cases hx
    split at h
    · rename_i hc
      obtain ⟨c1, c2, c3, c4, c5⟩ := hc
      cases h
      have hmx' : (m.isSome && hh.isNone) = false := by
        cases hq : (m.isSome && hh.isNone) with
        | false => rfl
        | true => exact absurd (by simpa using hq) c4
      simp only [sliceA, optNat_rel' h1 e1, optNat_rel' h2 e2, optNat_rel' h3 e3, Option.bind_eq_bind, Option.bind_some, hu]
      cases hs : sizeA P e with
      | none => rw [hs] at c5; cases c5
      | some sz =>
        simp only [Option.bind_some, hmx', Bool.false_eq_true, if_false, c1, c2, c3, Nat.le_refl, and_self, if_true, Nat.sub_self]
        exact ⟨_, rfl, .nils⟩
    · cases h
  · rename_i l hh m e e1 e2 e3 hu
    cases hx with | sl0 v hv =>
    split at h
    · rename_i hc
      obtain ⟨c1, c2, c3, c4, c5⟩ := hc
      cases h
      have hmx' : (m.isSome && hh.isNone) = false := by
        cases hq : (m.isSome && hh.isNone) with
        | false => rfl
        | true => exact absurd (by simpa using hq) c4
      simp only [sliceA, optNat_rel' h1 e1, optNat_rel' h2 e2, optNat_rel' h3 e3, Option.bind_eq_bind, Option.bind_some, hu]
      cases hs : sizeA P e with
      | none => rw [hs] at c5; cases c5
      | some sz =>
        rcases hv with rfl | rfl
        · simp only [Option.bind_some, hmx', Bool.false_eq_true, if_false, c1, c2, c3, Nat.le_refl, and_self, if_true, Nat.sub_self]
          exact ⟨.slice none 0 0, by simp [hs], .sl0 _ (.inl rfl)⟩
        · simp only [Option.bind_some, hmx', Bool.false_eq_true, if_false, c1, c2, c3, Nat.le_refl, and_self, if_true, Nat.sub_self]
          refine ⟨.slice (some freeA) 0 0, ?_, .sl0 _ (.inr rfl)⟩
          split <;> simp [hs]
    · cases h
  · cases h

theorem elems_rel {r : Rl} {sz : Nat} {x : D} {x' : Value} (hx : DRel r x x') {n : Nat} {new : List D} (h : elemsD sz x = some (n, new)) :
    ∃ vs, lenA x' = some n ∧ firstA r.H sz n x' = some vs ∧ DL r new vs ∧ vs.length = n * sz := by
  cases hx with
  | nils => simp [elemsD] at h; obtain ⟨rfl, rfl⟩ := h; exact ⟨[], rfl, rfl, .nil, by simp⟩
  | sl0 v hv => simp [elemsD] at h; obtain ⟨rfl, rfl⟩ := h; rcases hv with rfl | rfl <;> exact ⟨[], rfl, by simp [firstA], .nil, by simp⟩
  | slx a m => simp [elemsD] at h; obtain ⟨rfl, rfl⟩ := h; exact ⟨[], rfl, by simp [firstA], .nil, by simp⟩
  | slE sz' v hv => simp [elemsD] at h; obtain ⟨_, rfl, rfl⟩ := h; rcases hv with rfl | rfl <;> exact ⟨[], rfl, by simp [firstA], .nil, by simp⟩
  | sl own sz' len cells vs hd o m b hk hg hz hr hm hl hs ho hc =>
    simp only [elemsD] at h
    split at h
    · rename_i e
      subst e
      simp only [Option.some.injEq, Prod.mk.injEq] at h
      obtain ⟨rfl, rfl⟩ := h
      have hvl : vs.length = len * sz' := by rw [← hl]; exact hs
      refine ⟨vs, rfl, ?_, ⟨hl, hc⟩, hvl⟩
      simp only [firstA]
      split
      · rename_i h0
        rw [h0] at hvl
        rw [List.eq_nil_of_length_eq_zero hvl]
      · rw [← hvl]; exact hr
    · cases h
  | str s =>
    simp only [elemsD] at h
    split at h
    · rename_i e
      subst e
      simp only [Option.some.injEq, Prod.mk.injEq] at h
      obtain ⟨rfl, rfl⟩ := h
      have e : s.extract 0 s.size = s := by simp
      refine ⟨s.data.toList.map fun b => .int .u8 b.toNat, rfl, by simp only [firstA, e], ⟨by simp, fun i h1 h2 => ?_⟩, by simp⟩
      simp only [List.getElem_map]
      exact .int _ _
    · cases h
  | _ => simp [elemsD] at h

/-- What one operation comes to, beside the abstract memory. -/
def Comes (r : Rl) (S' : Mem) (d : D) (x : Option (Value × Heap)) : Prop := ∃ v H' r', x = some (v, H') ∧ r'.H = H' ∧ r.Le r' ∧ SRel r' S' ∧ DRel r' d v
theorem Comes.pure {r : Rl} {S : Mem} {d : D} {v : Value} {x : Option (Value × Heap)} (hS : SRel r S) (hx : x = some (v, r.H)) (hd : DRel r d v) : Comes r S d x := ⟨v, r.H, r, hx, rfl, .refl r, hS, hd⟩

theorem append_rel {P : Program} {r : Rl} {S S' : Mem} (hS : SRel r S) {at_ : Array TypeId} {s x d : D} {s' x' : Value} (hs : DRel r s s') (hx : DRel r x x') (h : appendD P at_ s x S = some (d, S')) :
    Comes r S' d (appendA P 0 at_ s' x' r.H) := by
  simp only [appendD, Option.bind_eq_bind] at h
  cases h0 : at_[0]? with
  | none => rw [h0] at h; cases h
  | some st =>
  rw [h0] at h
  simp only [Option.bind_some] at h
  cases hu : P.underlying st with
  | none => rw [hu] at h; cases h
  | some q =>
  cases q <;> (try (simp [hu] at h; done))
  case slice e =>
  simp only [hu, Option.bind_some] at h
  cases h1 : at_[1]? with
  | none => rw [h1] at h; cases h
  | some xt =>
  simp only [h1, Option.bind_some] at h
  split at h
  · cases h
  rename_i hxt
  cases hi : P.info? e with
  | none => rw [hi] at h; cases h
  | some info =>
  simp only [hi, Option.bind_some] at h
  cases hz : info.zero with
  | none => rw [hz] at h; cases h
  | some z =>
  simp only [hz, Option.bind_some] at h
  split at h
  · cases h
  rename_i hzs
  have hsz : sizeA P e = some info.size := by simp [sizeA, hi]
  cases he : elemsD info.size x with
  | none => rw [he] at h; cases h
  | some p =>
  obtain ⟨n, new⟩ := p
  simp only [he, Option.bind_some] at h
  obtain ⟨nv, hn, hf, dl, hnl⟩ := elems_rel hx he
  have hnn : ¬ nv.length ≠ n * info.size := by simp [hnl]
  have hzs' : (z.cells.size ≠ info.size) = False := by simpa using hzs
  cases hs with
  | nils =>
    simp only at h
    split at h
    · rename_i hn0
      cases h
      refine .pure hS ?_ .nils
      subst hn0
      simp only [appendA, Option.bind_eq_bind, h0, hu, h1, hsz, hi, hz, hn, hf, Option.bind_some]
      refine Eq.trans (if_neg hxt) ?_
      simp only [hzs', if_false]
      simp [hnl]
    · rename_i hn0
      split at h
      · rename_i hb
        obtain ⟨b1, b2, b3, b4⟩ := hb
        cases h
        obtain ⟨le, sr, dr⟩ := new_own (sz := info.size) (len := n) hS dl (by rw [dl.1, hnl])
        refine ⟨_, _, _, ?_, rfl, le, sr, dr⟩
        have hcc : (nv.all Value.oneCell' = false) = False := by rw [all_one dl b4]; simp
        have hle : ¬ n ≤ 0 := by omega
        have hn' : ¬ info.bytes = 0 := by omega
        simp only [appendA, Option.bind_eq_bind, h0, hu, h1, hsz, hi, hz, hn, hf, Option.bind_some]
        refine Eq.trans (if_neg hxt) ?_
        simp only [hzs', if_false]
        simp only [hnn, if_false, Nat.zero_add, hle, b1, b2, b3, and_self, not_true_eq_false, hcc, or_self, if_true]
        rfl
      · cases h
  | sl0 v hv =>
    simp only at h
    split at h
    · rename_i hn0
      cases h
      refine .pure hS ?_ (.sl0 _ hv)
      subst hn0
      simp only [appendA, Option.bind_eq_bind, h0, hu, h1, hsz, hi, hz, hn, hf, Option.bind_some]
      refine Eq.trans (if_neg hxt) ?_
      simp only [hzs', if_false]
      rcases hv with rfl | rfl <;> simp [hnl]
    · rename_i hn0
      split at h
      · rename_i hb
        obtain ⟨b1, b2, b3, b4⟩ := hb
        cases h
        obtain ⟨le, sr, dr⟩ := new_own (sz := info.size) (len := n) hS dl (by rw [dl.1, hnl])
        refine ⟨_, _, _, ?_, rfl, le, sr, dr⟩
        have hcc : (nv.all Value.oneCell' = false) = False := by rw [all_one dl b4]; simp
        have hle : ¬ n ≤ 0 := by omega
        have hn' : ¬ info.bytes = 0 := by omega
        simp only [appendA, Option.bind_eq_bind, h0, hu, h1, hsz, hi, hz, hn, hf, Option.bind_some]
        refine Eq.trans (if_neg hxt) ?_
        simp only [hzs', if_false]
        rcases hv with rfl | rfl
        · simp only [hnn, if_false, Nat.zero_add, hle, b1, b2, b3, and_self, not_true_eq_false, hcc, or_self, if_true]
          rfl
        · simp only [hnn, if_false, Nat.zero_add, hle, b1, b2, b3, and_self, not_true_eq_false, hcc, or_self, if_true, freeA, Option.isSome_some]
          rfl
      · cases h
  | slE sz v hv =>
    simp only at h
    split at h
    · cases h
    split at h
    · rename_i hn0
      cases h
      refine .pure hS ?_ (.slE _ _ hv)
      subst hn0
      simp only [appendA, Option.bind_eq_bind, h0, hu, h1, hsz, hi, hz, hn, hf, Option.bind_some]
      refine Eq.trans (if_neg hxt) ?_
      simp only [hzs', if_false]
      rcases hv with rfl | rfl <;> simp [hnl]
    · split at h <;> cases h
  | sl own sz len cells vs hd o m b hk hg hbz hr hm hl hcl ho hc =>
    simp only at h
    split at h
    · cases h
    rename_i hszz
    have hszz : sz = info.size := by simpa using hszz
    subst hszz
    split at h
    · rename_i hn0
      cases h
      refine .pure (v := .slice (some ⟨hd, o, none⟩) len m) hS ?_ (.sl own info.size len cells vs hd o m b hk hg hbz hr hm hl hcl ho hc)
      subst hn0
      simp only [appendA, Option.bind_eq_bind, h0, hu, h1, hsz, hi, hz, hn, hf, Option.bind_some]
      refine Eq.trans (if_neg hxt) ?_
      simp only [hzs', if_false]
      simp [hnl, hm]
    · rename_i hn0
      split at h
      · rename_i hb
        obtain ⟨b1, b2, b3, b4⟩ := hb
        cases own with
        | none => simp at h
        | some id =>
          simp only at h
          split at h
          · rename_i hid
            cases h
            obtain ⟨a1, a2, a3, a4⟩ := ho id rfl
            subst a3
            obtain ⟨bb, gg, w, kk⟩ := hS.own id hid
            rw [a2, hg] at gg
            cases gg
            obtain ⟨bb, gg, hlen, hvs⟩ := readA_some hr
            rw [hg] at gg
            cases gg
            have hvl : vs.length = m * info.size := by rw [← hl]; exact hcl
            have hdrop : b.cells.drop o = vs := by
              rw [hvs, List.take_of_length_le]
              simp; omega
            obtain ⟨le, sr, dr⟩ := grow_own (sz := info.size) (len := m) (n := n) hS hid a2 hg hdrop ⟨hl, hc⟩ hcl dl (by rw [dl.1, hnl])
            refine ⟨_, _, _, ?_, rfl, le, sr, dr⟩
            have hcc : (nv.all Value.oneCell' = false) = False := by rw [all_one dl b4]; simp
            have hle : ¬ m + n ≤ m := by omega
            simp only [appendA, Option.bind_eq_bind, h0, hu, h1, hsz, hi, hz, hn, hf, Option.bind_some]
            refine Eq.trans (if_neg hxt) ?_
            simp only [hzs', if_false]
            simp only [hnn, if_false, hle, b1, b2, b3, and_self, not_true_eq_false, hcc, or_self, Option.isSome_none, Bool.false_eq_true, hg, Option.bind_eq_bind, Option.bind_some, w, hbz, a4, Nat.zero_le, if_true]
            rfl
          · cases h
      · cases h
  | _ => simp at h
end Go.DM
