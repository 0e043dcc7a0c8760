/- Setting and dropping, plainly. -/
import Derived.Test.YtpdnaoahghfaoaaGreatDoorDwS34
set_option linter.unusedSimpArgs false
set_option linter.unusedVariables false
namespace Go.Proofs.DwT
open Go Go.DM Go.Proofs.DeT
set_option maxRecDepth 100000

def ltA (a b : Att) : Prop := ltB a.n b.n = true
theorem rise_iff {l : List Att} : RiseB Att.n l ↔ l.Pairwise ltA := by
  rw [List.pairwise_iff_getElem]
  constructor
  · intro h i j hi hj hij
    exact h.lt hj hij
  · intro h i hi
    exact h i (i + 1) (by omega) hi (by omega)
/-- Attributes, split at a name. -/
structure Cut (l : List Att) (s : ByteArray) (x : List Att) (m : List Att) (y : List Att) : Prop where
  eq : l = x ++ (m ++ y)
  lo : ∀ b ∈ x, ltB b.n s = true
  hi : ∀ c ∈ y, ltB s c.n = true
  mid : (m = [] ∧ look l s = none) ∨ ∃ u, m = [⟨s, u⟩] ∧ look l s = some u
  set : ∀ v, setL l s v = x ++ ⟨s, v⟩ :: y
  drop : dropL l s = x ++ y
theorem posN_app {x z : List Att} {s : ByteArray} (hx : ∀ b ∈ x, ltB b.n s = true) (hz : ∀ c, z.head? = some c → ltB c.n s = false) : posN (x ++ z) s = x.length := by
  unfold posN
  rw [List.takeWhile_append_of_pos (by simpa using hx)]
  cases z with
  | nil => simp
  | cons c z =>
    have := hz c rfl
    simp [List.takeWhile_cons, this]
theorem cut_of {l : List Att} (hr : RiseB Att.n l) (s : ByteArray) : ∃ x m y, Cut l s x m y := by
  have hle := posN_le l s
  have h2 : ∀ k (h : k < l.length), k < posN l s → ltB l[k].n s = true := fun k h hk => posN_lt h hk
  have h3 : ∀ k (h : k < l.length), posN l s ≤ k → ltB l[k].n s = false := fun k h hk => by
    have hp := posN_ge (l := l) (s := s) (by omega)
    rcases Nat.lt_or_ge (posN l s) k with h4 | h4
    · cases hq : ltB l[k].n s with
      | false => rfl
      | true => rw [ltB_trans (hr.lt h h4) hq] at hp; cases hp
    · obtain rfl : k = posN l s := by omega
      exact hp
  have hlk := look_iff hr h2 h3
  have hlo : ∀ b ∈ l.take (posN l s), ltB b.n s = true := fun b hb => by
    obtain ⟨i, hi, rfl⟩ := List.mem_iff_getElem.1 hb
    rw [List.length_take] at hi
    rw [List.getElem_take]
    exact h2 i (by omega) (by omega)
  by_cases hs : ∃ h : posN l s < l.length, l[posN l s].n = s
  · obtain ⟨h, e⟩ := hs
    have hso := hlk.2 ⟨h, e⟩
    have hat := look_at hr h e
    refine ⟨l.take (posN l s), [l[posN l s]], l.drop (posN l s + 1), ⟨?_, hlo, fun c hc => ?_, .inr ⟨l[posN l s].v, ?_, hat⟩, fun v => ?_, ?_⟩⟩
    · rw [List.singleton_append, ← List.drop_eq_getElem_cons h, List.take_append_drop]
    · obtain ⟨i, hi, rfl⟩ := List.mem_iff_getElem.1 hc
      rw [List.length_drop] at hi
      rw [List.getElem_drop]
      have := hr.lt (i := posN l s) (j := posN l s + 1 + i) (by omega) (by omega)
      rwa [e] at this
    · have : l[posN l s] = ⟨l[posN l s].n, l[posN l s].v⟩ := rfl
      rw [this, e]
    · rw [setL, if_pos hso, List.set_eq_take_append_cons_drop, if_pos h]
    · rw [dropL, if_pos hso]
  · have hso : (look l s).isSome = false := by
      cases hq : (look l s).isSome with
      | false => rfl
      | true => exact absurd (hlk.1 hq) hs
    refine ⟨l.take (posN l s), [], l.drop (posN l s), ⟨by rw [List.nil_append, List.take_append_drop], hlo, fun c hc => ?_, .inl ⟨rfl, by simpa using hso⟩, fun v => by rw [setL, if_neg (by simp [hso])], by rw [dropL, if_neg (by simp [hso]), List.take_append_drop]⟩⟩
    obtain ⟨i, hi, rfl⟩ := List.mem_iff_getElem.1 hc
    rw [List.length_drop] at hi
    rw [List.getElem_drop]
    have hge := h3 (posN l s + i) (by omega) (by omega)
    rcases ltB_total l[posN l s + i].n s with h4 | h4 | h4
    · rw [h4] at hge; cases hge
    · exfalso
      rcases Nat.eq_zero_or_pos i with h0 | h0
      · subst h0
        exact hs ⟨by omega, h4⟩
      · have h5 := hr.lt (i := posN l s) (j := posN l s + i) (by omega) (by omega)
        rw [h4] at h5
        rw [posN_ge (l := l) (s := s) (by omega)] at h5
        cases h5
    · exact h4
theorem ne_of_lt {a b : ByteArray} (h : ltB a b = true) : ¬ a = b := by
  rintro rfl
  rw [ltB_irrefl] at h
  cases h
theorem lt_asym {a b : ByteArray} (h : ltB a b = true) : ltB b a = false := by
  cases hq : ltB b a with
  | false => rfl
  | true => have := ltB_trans h hq; rw [ltB_irrefl] at this; cases this
theorem Cut.rest {l x m y : List Att} {s : ByteArray} (c : Cut l s x m y) : restL l s = x ++ y := by
  unfold restL
  rw [c.eq, List.filter_append, List.filter_append]
  have e1 : x.filter (fun a => !decide (a.n = s)) = x := List.filter_eq_self.2 fun b hb => by simp [ne_of_lt (c.lo b hb)]
  have e2 : y.filter (fun a => !decide (a.n = s)) = y := List.filter_eq_self.2 fun b hb => by
    simp
    exact fun h => ne_of_lt (c.hi b hb) h.symm
  have e3 : m.filter (fun a => !decide (a.n = s)) = [] := by
    rcases c.mid with ⟨rfl, _⟩ | ⟨u, rfl, _⟩ <;> simp
  rw [e1, e2, e3, List.nil_append]
theorem rest_drop {l : List Att} (hr : RiseB Att.n l) (s : ByteArray) : restL l s = dropL l s := by
  obtain ⟨x, m, y, c⟩ := cut_of hr s
  rw [c.rest, c.drop]
theorem with_set {l : List Att} (hr : RiseB Att.n l) (s : ByteArray) (v : Val) : withL l s v = setL l s v := by
  obtain ⟨x, m, y, c⟩ := cut_of hr s
  unfold withL
  rw [c.rest, c.set, posN_app c.lo fun d hd => lt_asym (c.hi d (List.mem_of_mem_head? hd)), List.take_left, List.drop_left]
theorem setRD_eq {l : List Att} (hr : RiseB Att.n l) (s : ByteArray) (v : Val) : setRD l s v = setD l s v := by
  unfold setRD setD
  rw [with_set hr]
theorem rest_lt {l : List Att} (hr : RiseB Att.n l) (s : ByteArray) : decide ((restL l s).length < l.length) = (look l s).isSome := by
  obtain ⟨x, m, y, c⟩ := cut_of hr s
  rw [c.rest]
  conv => lhs; rw [c.eq]
  rcases c.mid with ⟨rfl, h⟩ | ⟨u, rfl, h⟩ <;> rw [h] <;> simp
theorem rise_set {l : List Att} (hr : RiseB Att.n l) (s : ByteArray) (v : Val) : RiseB Att.n (setL l s v) := by
  obtain ⟨x, m, y, c⟩ := cut_of hr s
  have hp := rise_iff.1 hr
  rw [c.eq, List.pairwise_append, List.pairwise_append] at hp
  obtain ⟨p1, ⟨_, p2, _⟩, p3⟩ := hp
  rw [c.set, rise_iff, List.pairwise_append, List.pairwise_cons]
  refine ⟨p1, ⟨fun a ha => c.hi a ha, p2⟩, fun a ha b hb => ?_⟩
  rcases List.mem_cons.1 hb with rfl | hb
  · exact c.lo a ha
  · exact p3 a ha b (List.mem_append_right _ hb)
theorem rise_drop {l : List Att} (hr : RiseB Att.n l) (s : ByteArray) : RiseB Att.n (dropL l s) := by
  obtain ⟨x, m, y, c⟩ := cut_of hr s
  have hp := rise_iff.1 hr
  rw [c.eq, List.pairwise_append, List.pairwise_append] at hp
  obtain ⟨p1, ⟨_, p2, _⟩, p3⟩ := hp
  rw [c.drop, rise_iff, List.pairwise_append]
  exact ⟨p1, p2, fun a ha b hb => p3 a ha b (List.mem_append_right _ hb)⟩
theorem mem_set {l : List Att} (hr : RiseB Att.n l) {s : ByteArray} {v : Val} {a : Att} (h : a ∈ setL l s v) : a ∈ l ∨ a = ⟨s, v⟩ := by
  obtain ⟨x, m, y, c⟩ := cut_of hr s
  rw [c.set] at h
  rw [c.eq]
  simp only [List.mem_append, List.mem_cons] at h ⊢
  rcases h with h | h | h
  · exact .inl (.inl h)
  · exact .inr h
  · exact .inl (.inr (.inr h))
theorem mem_drop {l : List Att} (hr : RiseB Att.n l) {s : ByteArray} {a : Att} (h : a ∈ dropL l s) : a ∈ l := by
  obtain ⟨x, m, y, c⟩ := cut_of hr s
  rw [c.drop] at h
  rw [c.eq]
  simp only [List.mem_append] at h ⊢
  rcases h with h | h
  · exact .inl h
  · exact .inr (.inr h)
theorem len_set {l : List Att} (hr : RiseB Att.n l) (s : ByteArray) (v : Val) : (setL l s v).length ≤ l.length + 1 ∧ ((look l s).isSome = true → (setL l s v).length = l.length) := by
  obtain ⟨x, m, y, c⟩ := cut_of hr s
  rw [c.set]
  conv => lhs; rhs; rw [c.eq]
  constructor
  · simp
    omega
  · intro h
    rcases c.mid with ⟨rfl, h1⟩ | ⟨u, rfl, h1⟩
    · rw [h1] at h; cases h
    · conv => rhs; rw [c.eq]
      simp
theorem len_drop {l : List Att} (hr : RiseB Att.n l) (s : ByteArray) : (dropL l s).length ≤ l.length := by
  rw [← rest_drop hr]
  exact restL_le l s
theorem look_app {x z : List Att} {t : ByteArray} : look (x ++ z) t = (look x t).or (look z t) := by
  unfold look
  rw [List.find?_append, Option.map_or]
theorem look_miss {x : List Att} {t : ByteArray} (h : ∀ a ∈ x, ¬ a.n = t) : look x t = none := look_none fun i hi => h _ (List.getElem_mem hi)
theorem look_cons {a : Att} {x : List Att} {t : ByteArray} : look (a :: x) t = if a.n = t then some a.v else look x t := by
  unfold look
  rw [List.find?_cons]
  by_cases h : a.n = t <;> simp [h]
theorem look_set {l : List Att} (hr : RiseB Att.n l) (s : ByteArray) (v : Val) : look (setL l s v) s = some v := by
  obtain ⟨x, m, y, c⟩ := cut_of hr s
  rw [c.set, look_app, look_miss fun a ha => ne_of_lt (c.lo a ha), look_cons, if_pos rfl]
  rfl
theorem look_set_ne {l : List Att} (hr : RiseB Att.n l) {s t : ByteArray} (v : Val) (h : ¬ s = t) : look (setL l s v) t = look l t := by
  obtain ⟨x, m, y, c⟩ := cut_of hr s
  rw [c.set]
  conv => rhs; rw [c.eq]
  rw [look_app, look_app, look_app, look_cons, if_neg h]
  rcases c.mid with ⟨rfl, _⟩ | ⟨u, rfl, _⟩
  · rfl
  · rw [look_cons, if_neg h]
    rfl
theorem drop_set {l : List Att} (hr : RiseB Att.n l) {s : ByteArray} (v : Val) (h : look l s = none) : dropL (setL l s v) s = l := by
  obtain ⟨x, m, y, c⟩ := cut_of hr s
  rw [← rest_drop (rise_set hr s v), c.set]
  unfold restL
  have e1 : x.filter (fun a => !decide (a.n = s)) = x := List.filter_eq_self.2 fun b hb => by simp [ne_of_lt (c.lo b hb)]
  have e2 : y.filter (fun a => !decide (a.n = s)) = y := List.filter_eq_self.2 fun b hb => by
    simp
    exact fun h => ne_of_lt (c.hi b hb) h.symm
  rw [List.filter_append, List.filter_cons, e1, e2]
  conv => rhs; rw [c.eq]
  rcases c.mid with ⟨rfl, _⟩ | ⟨u, rfl, h1⟩
  · simp
  · rw [h] at h1; cases h1
theorem cmpB_self (a : ByteArray) : cmpB a a = 0 := by simp [cmpB, ltB_irrefl]
theorem cmpI_self (a : Int) : cmpI a a = 0 := cmpI_zero.2 rfl
theorem cmpL_self : ∀ (l : List Int), cmpL l l = 0
  | [] => rfl
  | a :: l => by rw [cmpL, if_pos (cmpI_self a), cmpL_self l]
theorem cmpV_self (v : Val) : cmpV v v = 0 := by
  unfold cmpV
  rw [if_pos (cmpI_self _), cmpI_self, cmpB_self, cmpL_self]
  simp
theorem sameL_self : ∀ (l : List Att), sameL l l = true
  | [] => rfl
  | a :: l => by
    rw [sameL, sameL_self l, sameA, cmpV_self]
    simp
theorem sameR_self (r : Rw) : sameR r r = true := by
  unfold sameR cmpSt
  rw [sameL_self, cmpI_self, cmpI_self, cmpI_self, cmpB_self]
  simp [orI]
/-- Attributes that rise, and of which each may be. -/
theorem attsE_ok : ∀ {l : List Att} {p : Option ByteArray}, attsE p l = 0 ↔ (∀ a ∈ l, nameOk a.n = true ∧ chkV a.v = 0) ∧ l.Pairwise ltA ∧ (∀ q a, p = some q → l.head? = some a → ltB q a.n = true)
  | [], p => by simp [attsE]
  | a :: l, p => by
    rw [attsE]
    have ih := attsE_ok (l := l) (p := some a.n)
    by_cases h0 : attE p a = 0
    · rw [if_pos h0, ih]
      unfold attE at h0
      split at h0
      · cases h0
      · rename_i hn
        split at h0
        · cases h0
        · rename_i hq
          constructor
          · rintro ⟨g1, g2, g3⟩
            refine ⟨fun b hb => ?_, ?_, fun q b hp hb => ?_⟩
            · rcases List.mem_cons.1 hb with rfl | hb
              · exact ⟨by simpa using hn, h0⟩
              · exact g1 b hb
            · rw [List.pairwise_cons]
              refine ⟨fun b hb => ?_, g2⟩
              cases l with
              | nil => simp at hb
              | cons d l =>
                have hd := g3 a.n d rfl rfl
                rcases List.mem_cons.1 hb with rfl | hb
                · exact hd
                · exact ltB_trans hd ((List.pairwise_cons.1 g2).1 b hb)
            · subst hp
              simp only [List.head?_cons, Option.some.injEq] at hb
              subst hb
              simpa using hq
          · rintro ⟨g1, g2, g3⟩
            rw [List.pairwise_cons] at g2
            refine ⟨fun b hb => g1 b (List.mem_cons_of_mem _ hb), g2.2, fun q b hp hb => ?_⟩
            cases hp
            exact g2.1 b (List.mem_of_mem_head? hb)
    · rw [if_neg h0]
      constructor
      · intro h
        exact absurd h h0
      · rintro ⟨g1, g2, g3⟩
        exfalso
        apply h0
        obtain ⟨hn, hv⟩ := g1 a (by simp)
        rw [attE, if_neg (by simp [hn]), if_neg, hv]
        cases p with
        | none => simp
        | some q => have := g3 q a rfl rfl; simp [this]
theorem rowA_ok {l : List Att} (hk : chk ⟨0, 0, 0, (⟨#[47, 97]⟩ : ByteArray)⟩ = 0) : chkR (rowA l) = 0 ↔ l.length ≤ 32 ∧ (∀ a ∈ l, nameOk a.n = true ∧ chkV a.v = 0) ∧ RiseB Att.n l := by
  unfold chkR rowA
  rw [if_neg (show ¬ nameOk (⟨#[107]⟩ : ByteArray) = false by decide), if_pos hk]
  unfold attrsE
  by_cases h : 32 < l.length
  · rw [if_pos h]
    constructor
    · intro h; cases h
    · rintro ⟨h1, _⟩; omega
  · rw [if_neg h, attsE_ok, rise_iff]
    constructor
    · rintro ⟨g1, g2, _⟩
      exact ⟨by omega, g1, g2⟩
    · rintro ⟨_, g1, g2⟩
      exact ⟨g1, g2, fun q a hp => by cases hp⟩
end Go.Proofs.DwT
