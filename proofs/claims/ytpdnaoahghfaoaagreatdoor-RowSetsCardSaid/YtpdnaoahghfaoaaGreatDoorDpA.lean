/- Texts in the order of their bytes. -/
import Derived.Test.YtpdnaoahghfaoaaGreatDoorDmWx
set_option linter.unusedSimpArgs false
set_option linter.unusedVariables false
namespace Go.DM
open Go Go.AM

theorem bl_irrefl : ∀ (x : List UInt8), Op.bytesLess x x = false
  | [] => rfl
  | a :: x => by
    simp only [Op.bytesLess, Bool.or_eq_false_iff, decide_eq_false_iff_not, beq_self_eq_true, Bool.true_and]
    exact ⟨by simp [UInt8.lt_iff_toNat_lt], bl_irrefl x⟩
theorem bl_trans : ∀ {x y z : List UInt8}, Op.bytesLess x y = true → Op.bytesLess y z = true → Op.bytesLess x z = true
  | _, [], _, h, _ => by simp [Op.bytesLess] at h
  | _, _ :: _, [], _, h => by simp [Op.bytesLess] at h
  | [], b :: y, c :: z, _, _ => rfl
  | a :: x, b :: y, c :: z, h1, h2 => by
    simp only [Op.bytesLess, Bool.or_eq_true, Bool.and_eq_true, decide_eq_true_eq, beq_iff_eq, UInt8.lt_iff_toNat_lt] at h1 h2 ⊢
    rcases h1 with h1 | ⟨rfl, h1⟩ <;> rcases h2 with h2 | ⟨rfl, h2⟩
    · exact .inl (by omega)
    · exact .inl h1
    · exact .inl h2
    · exact .inr ⟨rfl, bl_trans h1 h2⟩
theorem bl_total : ∀ (x y : List UInt8), Op.bytesLess x y = true ∨ x = y ∨ Op.bytesLess y x = true
  | [], [] => .inr (.inl rfl)
  | [], _ :: _ => .inl rfl
  | _ :: _, [] => .inr (.inr rfl)
  | a :: x, b :: y => by
    simp only [Op.bytesLess, Bool.or_eq_true, Bool.and_eq_true, decide_eq_true_eq, beq_iff_eq, UInt8.lt_iff_toNat_lt]
    rcases Nat.lt_trichotomy a.toNat b.toNat with h | h | h
    · exact .inl (.inl h)
    · have : a = b := UInt8.toNat_inj.1 h
      subst this
      rcases bl_total x y with h | h | h
      · exact .inl (.inr ⟨rfl, h⟩)
      · exact .inr (.inl (by rw [h]))
      · exact .inr (.inr (.inr ⟨rfl, h⟩))
    · exact .inr (.inr (.inl h))
theorem toList_inj {a b : ByteArray} (h : a.toList = b.toList) : a = b := by
  have := str_eq (x := a) (y := b)
  simpa [h] using this
def ltB (a b : ByteArray) : Bool := Op.bytesLess a.toList b.toList
theorem ltB_irrefl (a : ByteArray) : ltB a a = false := bl_irrefl _
theorem ltB_trans {a b c : ByteArray} (h : ltB a b = true) (k : ltB b c = true) : ltB a c = true := bl_trans h k
theorem ltB_total (a b : ByteArray) : ltB a b = true ∨ a = b ∨ ltB b a = true := by
  rcases bl_total a.toList b.toList with h | h | h
  · exact .inl h
  · exact .inr (.inl (toList_inj h))
  · exact .inr (.inr h)
/-- Which of two texts is ahead. -/
def cmpB (a b : ByteArray) : Int := if ltB a b then -1 else if a = b then 0 else 1
theorem cmpB_neg {a b : ByteArray} : cmpB a b < 0 ↔ ltB a b = true := by
  unfold cmpB
  split
  · simp_all
  · split <;> simp_all
theorem cmpB_zero {a b : ByteArray} : cmpB a b = 0 ↔ a = b := by
  unfold cmpB
  split
  · rename_i h
    constructor
    · intro h; cases h
    · rintro rfl; rw [ltB_irrefl] at h; cases h
  · split <;> simp_all

/-- Texts that rise. -/
def RiseB {α : Type} (f : α → ByteArray) (l : List α) : Prop := ∀ i (h : i + 1 < l.length), ltB (f l[i]) (f l[i + 1]) = true
theorem RiseB.lt {α : Type} {f : α → ByteArray} {l : List α} (h : RiseB f l) : ∀ {i j : Nat} (hj : j < l.length) (hij : i < j), ltB (f (l[i]'(by omega))) (f l[j]) = true
  | i, j + 1, hj, hij => by
    rcases Nat.lt_or_ge i j with h1 | h1
    · exact ltB_trans (h.lt (by omega) h1) (h j hj)
    · obtain rfl : i = j := by omega
      exact h i hj
theorem RiseB.inj {α : Type} {f : α → ByteArray} {l : List α} (h : RiseB f l) {i j : Nat} (hi : i < l.length) (hj : j < l.length) (e : f l[i] = f l[j]) : i = j := by
  rcases Nat.lt_trichotomy i j with h1 | h1 | h1
  · have := h.lt hj h1; rw [e, ltB_irrefl] at this; cases this
  · exact h1
  · have := h.lt hi h1; rw [e, ltB_irrefl] at this; cases this
end Go.DM
