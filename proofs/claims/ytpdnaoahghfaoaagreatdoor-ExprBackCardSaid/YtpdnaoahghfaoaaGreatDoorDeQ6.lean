/- Any two trees: whether they may be, in words and back, whether they are one, their names: the law. -/
import Derived.Test.YtpdnaoahghfaoaaGreatDoorDeK4
import Derived.Test.YtpdnaoahghfaoaaGreatDoorDeW1
import Derived.Test.YtpdnaoahghfaoaaGreatDoorDeQ5
set_option linter.unusedSimpArgs false
set_option linter.unusedVariables false
namespace Go.Proofs.DeT
open Go Go.DM
set_option maxRecDepth 100000

/-- Where a text belongs in texts that rise. -/
def posS (out : List ByteArray) (x : ByteArray) : Nat := (out.takeWhile fun y => ltB y x).length
def insS (out : List ByteArray) (x : ByteArray) : List ByteArray := if out[posS out x]? = some x then out else out.take (posS out x) ++ ([x] ++ out.drop (posS out x))
theorem pos_le (out : List ByteArray) (x : ByteArray) : posS out x ≤ out.length := by
  unfold posS
  induction out with
  | nil => simp
  | cons y out ih => rw [List.takeWhile_cons]; split <;> simp; exact ih
theorem pos_lt {out : List ByteArray} {x : ByteArray} : ∀ {j : Nat} (h : j < out.length), j < posS out x → ltB out[j] x = true := by
  induction out with
  | nil => intro j h; simp at h
  | cons y out ih =>
    intro j h hj
    unfold posS at hj
    rw [List.takeWhile_cons] at hj
    split at hj
    · rename_i hy
      cases j with
      | zero => exact hy
      | succ j => exact ih (by simpa using h) (by unfold posS; simpa using hj)
    · simp at hj
theorem pos_at {out : List ByteArray} {x : ByteArray} (h : posS out x < out.length) : ltB out[posS out x] x = false := by
  induction out with
  | nil => simp at h
  | cons y out ih =>
    by_cases hy : ltB y x = true
    · have e : posS (y :: out) x = posS out x + 1 := by unfold posS; rw [List.takeWhile_cons, if_pos hy]; rfl
      simp only [e, List.getElem_cons_succ]
      exact ih (by rw [e] at h; simpa using h)
    · have e : posS (y :: out) x = 0 := by unfold posS; rw [List.takeWhile_cons, if_neg hy]; rfl
      simp only [e, List.getElem_cons_zero]
      simpa using hy
theorem mem_ins {out : List ByteArray} {x y : ByteArray} : y ∈ insS out x ↔ y = x ∨ y ∈ out := by
  unfold insS
  split
  · rename_i h
    have : x ∈ out := List.mem_of_getElem? h
    constructor
    · exact .inr
    · rintro (rfl | h)
      · exact this
      · exact h
  · have e : y ∈ out ↔ y ∈ out.take (posS out x) ∨ y ∈ out.drop (posS out x) := by rw [← List.mem_append, List.take_append_drop]
    rw [e, List.mem_append, List.mem_append, List.mem_singleton]
    constructor
    · rintro (h | h | h)
      · exact .inr (.inl h)
      · exact .inl h
      · exact .inr (.inr h)
    · rintro (h | h | h)
      · exact .inr (.inl h)
      · exact .inl h
      · exact .inr (.inr h)
theorem ins_rise {out : List ByteArray} {x : ByteArray} (h : out.Pairwise fun a b => ltB a b = true) : (insS out x).Pairwise fun a b => ltB a b = true := by
  unfold insS
  split
  · exact h
  · rename_i hne
    have hle := pos_le out x
    have hb : ∀ a ∈ out.take (posS out x), ltB a x = true := fun a ha => by
      obtain ⟨j, hj, rfl⟩ := List.mem_iff_getElem.1 ha
      rw [List.length_take] at hj
      rw [List.getElem_take]
      exact pos_lt (by omega) (by omega)
    have hd : ∀ a ∈ out.drop (posS out x), ltB x a = true := fun a ha => by
      obtain ⟨j, hj, rfl⟩ := List.mem_iff_getElem.1 ha
      rw [List.length_drop] at hj
      rw [List.getElem_drop]
      have hp : posS out x < out.length := by omega
      have h0 : ltB x out[posS out x] = true := by
        rcases ltB_total x out[posS out x] with q | q | q
        · exact q
        · exact absurd (by rw [List.getElem?_eq_getElem hp, ← q]) hne
        · rw [pos_at hp] at q; cases q
      rcases Nat.eq_zero_or_pos j with hz | hz
      · subst hz
        exact h0
      · exact ltB_trans h0 (List.pairwise_iff_getElem.1 h _ _ hp (by omega) (by omega))
    rw [List.pairwise_append]
    refine ⟨h.sublist (List.take_sublist _ _), ?_, fun a ha b hb2 => ?_⟩
    · rw [List.singleton_append, List.pairwise_cons]
      exact ⟨hd, h.sublist (List.drop_sublist _ _)⟩
    · rw [List.singleton_append] at hb2
      rcases List.mem_cons.1 hb2 with rfl | hb2
      · exact hb a ha
      · exact ltB_trans (hb a ha) (hd b hb2)
theorem ins_length (out : List ByteArray) (x : ByteArray) : (insS out x).length ≤ out.length + 1 := by
  unfold insS
  split
  · omega
  · simp only [List.length_append, List.length_take, List.length_drop, List.length_cons, List.length_nil]
    omega
def insAll (l : List ByteArray) : List ByteArray := l.foldl insS []
theorem insAll_snoc (l : List ByteArray) (x : ByteArray) : insAll (l ++ [x]) = insS (insAll l) x := by unfold insAll; rw [List.foldl_append]; rfl
theorem insAll_facts (l : List ByteArray) : (∀ x, x ∈ insAll l ↔ x ∈ l) ∧ ((insAll l).Pairwise fun a b => ltB a b = true) ∧ (insAll l).length ≤ l.length := by
  have key : ∀ (k : Nat), k ≤ l.length → (∀ x, x ∈ insAll (l.take k) ↔ x ∈ l.take k) ∧ ((insAll (l.take k)).Pairwise fun a b => ltB a b = true) ∧ (insAll (l.take k)).length ≤ k := by
    intro k
    induction k with
    | zero => intro _; exact ⟨fun x => by simp [insAll], by simp [insAll], by simp [insAll]⟩
    | succ k ih =>
      intro hk
      obtain ⟨a1, a2, a3⟩ := ih (by omega)
      have e : l.take (k + 1) = l.take k ++ [l[k]] := (List.take_append_getElem (by omega)).symm
      rw [e, insAll_snoc]
      refine ⟨fun x => ?_, ins_rise a2, ?_⟩
      · rw [mem_ins, a1, List.mem_append, List.mem_singleton]
        exact Or.comm
      · have := ins_length (insAll (l.take k)) l[k]
        omega
  have := key l.length (Nat.le_refl _)
  rwa [List.take_length] at this
/-- All names of a tree's parts, put one by one where they belong. -/
theorem insAll_names {op nm : ByteArray} {n : Int} {ks : List Nd} (h : op ≠ nameP) : insAll ((ks.map namesR).flatten) = namesR (.mk op nm n ks) := by
  obtain ⟨a1, a2, _⟩ := insAll_facts ((ks.map namesR).flatten)
  refine (namesR_eq a2 fun x => ?_).symm
  rw [a1, namesL_mk, if_neg h, List.append_nil]
  simp only [List.mem_flatten, List.mem_map]
  constructor
  · rintro ⟨l, ⟨k, hk, rfl⟩, hx⟩
    exact ⟨_, ⟨k, hk, rfl⟩, mem_namesR.2 hx⟩
  · rintro ⟨l, ⟨k, hk, rfl⟩, hx⟩
    exact ⟨_, ⟨k, hk, rfl⟩, mem_namesR.1 hx⟩
theorem flatR_le : ∀ {ks : List Nd}, ((ks.map namesR).flatten).length ≤ cnts ks
  | [] => Nat.le_refl _
  | k :: ks => by
    have h1 := namesR_le k
    have h2 := flatR_le (ks := ks)
    simp only [List.map_cons, List.flatten_cons, List.length_append, cnts, List.sum_cons] at h2 ⊢
    omega

theorem accS {P : Program} {b t e bytes : Nat} {o : D} {xs ys : List ByteArray} {own : Option Nat} {S : Mem} (h : ElemT P t e 1 bytes) (ha : AccD b o 1 xs.length (strC xs) S) (hb : b ≤ S.length) (h0 : 0 < bytes) (hl : (xs.length + ys.length) * bytes ≤ 2 ^ 47) (hl2 : xs.length + ys.length < 2 ^ 62) :
    ∃ o' S', appendD P #[t, t] o (.sl own 1 ys.length (strC ys)) S = some (o', S') ∧ AccD b o' 1 (xs ++ ys).length (strC (xs ++ ys)) S' ∧ Grown b S S' := by
  by_cases hy : ys.length = 0
  · have : ys = [] := List.eq_nil_of_length_eq_zero hy
    subst this
    refine ⟨o, S, ?_, by simpa using ha, .refl⟩
    refine ap_zero h (by rfl) ?_
    rcases ha with ⟨rfl, _⟩ | ⟨rfl, _⟩ | ⟨id, _, rfl, _⟩
    · exact .inl rfl
    · exact .inr (.inl rfl)
    · exact .inr (.inr ⟨_, _, _, rfl⟩)
  · obtain ⟨o', S', h1, h2, h3⟩ := ha.append h (own := own) (m := ys.length) (new := strC ys) hb hy ⟨hl, hl2, h0, strC_one⟩
    refine ⟨o', S', h1, ?_, h3⟩
    rw [List.length_append, strC_app]
    exact h2
end Go.Proofs.DeT
