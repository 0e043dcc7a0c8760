/- Which names there are, in which order; when a tree is something. -/
import Derived.Test.YtpdnaoahghfaoaaGreatDoorDeN4
import Derived.Lib.Strings
set_option linter.unusedSimpArgs false
set_option linter.unusedVariables false
namespace Go.Proofs.DeT
open Go Go.DM
set_option maxRecDepth 100000

theorem bl_lt : ∀ (x y : List UInt8), Op.bytesLess x y = decide (x < y)
  | [], [] => by simp [Op.bytesLess]
  | _ :: _, [] => by simp [Op.bytesLess]
  | [], _ :: _ => by simp [Op.bytesLess]
  | a :: x, b :: y => by
    rw [Op.bytesLess, bl_lt x y]
    simp only [List.cons_lt_cons_iff]
    by_cases h1 : a < b <;> by_cases h2 : a = b <;> by_cases h3 : x < y <;> simp [h1, h2, h3]
def lt8 (x y : List UInt8) : Prop := Op.bytesLess x y = true
def le8 (x y : List UInt8) : Prop := Op.bytesLess y x = false
theorem le_bl (x y : List UInt8) : decide (x ≤ y) = !Op.bytesLess y x := by
  rw [bl_lt, ← decide_not]
  rfl
theorem le8_iff {x y : List UInt8} : decide (x ≤ y) = true ↔ le8 x y := by rw [le_bl]; simp [le8]
theorem le8_trans {x y z : List UInt8} (h : le8 x y) (k : le8 y z) : le8 x z := by
  unfold le8 at *
  cases hq : Op.bytesLess z x with
  | false => rfl
  | true =>
    rcases bl_total y z with h1 | h1 | h1
    · rw [bl_trans h1 hq] at h; cases h
    · subst h1; rw [hq] at h; cases h
    · rw [h1] at k; cases k
theorem lt_of_le {x y : List UInt8} (h : le8 x y) (hn : x ≠ y) : lt8 x y := by
  rcases bl_total x y with h1 | h1 | h1
  · exact h1
  · exact absurd h1 hn
  · unfold le8 at h; rw [h1] at h; cases h
theorem lt_of_le_lt {x y z : List UInt8} (h : le8 x y) (k : lt8 y z) : lt8 x z := by
  by_cases e : x = y
  · subst e; exact k
  · exact bl_trans (lt_of_le h e) k
theorem compact_law (d : Array (List UInt8)) (n : Nat) (hs : ∀ i j, i < j → j < n → le8 d[i]! d[j]!) : ∀ m, m ≤ n →
    (∀ x, x ∈ Lib.compactUpTo d m ↔ ∃ j, j < m ∧ d[j]! = x) ∧ (Lib.compactUpTo d m).Pairwise lt8
  | 0, _ => ⟨fun x => by simp [Lib.compactUpTo], by simp [Lib.compactUpTo]⟩
  | m + 1, hm => by
    obtain ⟨h1, h2⟩ := compact_law d n hs m (by omega)
    rw [Lib.compactUpTo_succ]
    by_cases hk : Lib.keeps d m = true
    · rw [if_pos hk]
      refine ⟨fun x => ?_, ?_⟩
      · rw [List.mem_append, h1, List.mem_singleton]
        constructor
        · rintro (⟨j, hj, e⟩ | rfl)
          · exact ⟨j, by omega, e⟩
          · exact ⟨m, by omega, rfl⟩
        · rintro ⟨j, hj, e⟩
          rcases Nat.lt_or_ge j m with h | h
          · exact .inl ⟨j, h, e⟩
          · have : j = m := by omega
            subst this
            exact .inr e.symm
      · rw [List.pairwise_append]
        refine ⟨h2, by simp, fun a ha b hb => ?_⟩
        rw [List.mem_singleton] at hb
        subst hb
        obtain ⟨j, hj, rfl⟩ := (h1 a).1 ha
        have hm0 : m ≠ 0 := by omega
        have hne : d[m]! ≠ d[m - 1]! := by simpa [Lib.keeps, hm0] using hk
        have hl : lt8 d[m - 1]! d[m]! := lt_of_le (hs (m - 1) m (by omega) (by omega)) (Ne.symm hne)
        by_cases hj2 : j = m - 1
        · rw [hj2]; exact hl
        · exact lt_of_le_lt (hs j (m - 1) (by omega) (by omega)) hl
    · rw [if_neg hk, List.append_nil]
      have hm0 : m ≠ 0 ∧ d[m]! = d[m - 1]! := by simpa [Lib.keeps] using hk
      refine ⟨fun x => ?_, h2⟩
      rw [h1]
      constructor
      · rintro ⟨j, hj, e⟩; exact ⟨j, by omega, e⟩
      · rintro ⟨j, hj, e⟩
        rcases Nat.lt_or_ge j m with h | h
        · exact ⟨j, h, e⟩
        · have : j = m := by omega
          subst this
          exact ⟨j - 1, by omega, by rw [← hm0.2]; exact e⟩
theorem bs_sb : ∀ {l : List (List UInt8)}, bs (sb l) = l
  | [] => rfl
  | x :: l => by
    show x.toArray.toList :: bs (sb l) = x :: l
    rw [bs_sb]
theorem compact_sort (l : List (List UInt8)) :
    (∀ x, x ∈ Lib.compact (l.mergeSort fun x y => decide (x ≤ y)) ↔ x ∈ l) ∧ (Lib.compact (l.mergeSort fun x y => decide (x ≤ y))).Pairwise lt8 := by
  have hp : (l.mergeSort fun x y => decide (x ≤ y)).Pairwise (fun x y => decide (x ≤ y) = true) :=
    List.pairwise_mergeSort (le := fun x y => decide (x ≤ y)) (fun a b c h k => le8_iff.2 (le8_trans (le8_iff.1 h) (le8_iff.1 k))) (fun a b => by
      show (decide (a ≤ b) || decide (b ≤ a)) = true
      rw [le_bl a b, le_bl b a]
      cases h : Op.bytesLess a b with
      | false => simp
      | true => simp [bl_asymm h]) l
  generalize hz : (l.mergeSort fun x y => decide (x ≤ y)) = z at hp ⊢
  have hs : ∀ i j, i < j → j < z.length → le8 z.toArray[i]! z.toArray[j]! := by
    intro i j hij hj
    have := List.pairwise_iff_getElem.1 hp i j (by omega) hj hij
    rw [getElem!_pos _ i (by simp; omega), getElem!_pos _ j (by simpa using hj)]
    simpa using le8_iff.1 this
  obtain ⟨h1, h2⟩ := compact_law z.toArray z.length hs z.length (Nat.le_refl _)
  refine ⟨fun x => ?_, h2⟩
  have hmem : x ∈ l ↔ x ∈ z := by rw [← hz]; exact List.mem_mergeSort.symm
  rw [hmem]
  show x ∈ Lib.compactUpTo z.toArray z.length ↔ _
  rw [h1, List.mem_iff_getElem]
  constructor
  · rintro ⟨j, hj, e⟩
    exact ⟨j, hj, by rw [← e, getElem!_pos _ j (by simpa using hj)]; simp⟩
  · rintro ⟨j, hj, e⟩
    exact ⟨j, hj, by rw [getElem!_pos _ j (by simpa using hj)]; simpa using e⟩

theorem mem_sb {l : List (List UInt8)} {x : ByteArray} : x ∈ sb l ↔ x.data.toList ∈ l := by
  simp only [sb, List.mem_map]
  constructor
  · rintro ⟨y, hy, rfl⟩; simpa using hy
  · intro h; exact ⟨_, h, rfl⟩
theorem mem_bs {l : List ByteArray} {x : ByteArray} : x.data.toList ∈ bs l ↔ x ∈ l := by
  rw [← mem_sb, sb_bs]
theorem mem_namesR {n : Nd} {x : ByteArray} : x ∈ namesR n ↔ x ∈ namesL n := by
  unfold namesR compactL sortL
  rw [mem_sb, bs_sb, (compact_sort _).1, mem_bs]
theorem namesR_pos {n : Nd} (h : namesL n ≠ []) : namesR n ≠ [] := by
  intro e
  obtain ⟨x, hx⟩ := List.exists_mem_of_ne_nil _ h
  have := mem_namesR.2 hx
  rw [e] at this
  cases this
theorem namesR_rise (n : Nd) : RiseB (fun x => x) (namesR n) := by
  intro i h
  have hp := (compact_sort (bs (namesL n))).2
  have e : bs (namesR n) = Lib.compact ((bs (namesL n)).mergeSort fun x y => decide (x ≤ y)) := by
    unfold namesR compactL sortL
    rw [bs_sb, bs_sb]
  rw [← e] at hp
  have hl : (bs (namesR n)).length = (namesR n).length := by simp [bs]
  have := List.pairwise_iff_getElem.1 hp i (i + 1) (by omega) (by omega) (by omega)
  simp only [bs, List.getElem_map, lt8] at this
  simp only [ltB, Lib.toList_data]
  exact this
theorem namesR_le (n : Nd) : (namesR n).length ≤ cnt n := by
  have h := Lib.compact_length_le (bs (sortL (namesL n)))
  have e : (namesR n).length = (Lib.compact (bs (sortL (namesL n)))).length := by simp [namesR, compactL, sb]
  have e2 : (bs (sortL (namesL n))).length = (namesL n).length := by simp [bs, sortL_length]
  have := names_le n
  omega

end Go.Proofs.DeT
