/- The document's cutting of a path is Go's own splitting. -/
import Derived.Test.YtpdnaoahghfaoaaGreatDoorDwS3
import Derived.Lib.SplitLaws
set_option linter.unusedSimpArgs false
set_option linter.unusedVariables false
namespace Go.Proofs.DwT
open Go Go.DM Go.Proofs.DeT

def msplit : List UInt8 → List (List UInt8)
  | [] => [[]]
  | b :: l => if b = 47 then [] :: msplit l else match msplit l with | x :: xs => (b :: x) :: xs | [] => [[b]]
theorem msplit_ne : ∀ (l : List UInt8), msplit l ≠ []
  | [] => by simp [msplit]
  | b :: l => by
    unfold msplit
    split
    · simp
    · split <;> simp
theorem index_nil47 : Lib.index [] [47] = -1 := rfl
theorem index_hit47 (l : List UInt8) : Lib.index (47 :: l) [47] = 0 := by simp [Lib.index]
theorem index_miss47 {b : UInt8} (hb : b ≠ 47) (l : List UInt8) : Lib.index (b :: l) [47] = if Lib.index l [47] = -1 then -1 else Lib.index l [47] + 1 := by
  have : ¬ (47 : UInt8) = b := fun h => hb h.symm
  simp [Lib.index, this]
theorem split47 : ∀ (l : List UInt8), Lib.splitK [47] 0 (Lib.count l [47]) l = msplit l
  | [] => by
    rw [Lib.count_miss index_nil47]
    rfl
  | b :: l => by
    have ih := split47 l
    by_cases hb : b = 47
    · subst hb
      have hi := index_hit47 l
      rw [Lib.count_hit (i := 0) (by simp) hi]
      simp only [List.length_cons, List.length_nil, Nat.zero_add, List.drop_succ_cons, List.drop_zero]
      rw [Nat.add_comm, Lib.splitK, if_neg (by rw [hi]; decide), hi]
      simp only [Int.toNat_zero, Nat.zero_add, List.take_zero, List.length_cons, List.length_nil, List.drop_succ_cons, List.drop_zero, ih, msplit, if_true]
    · have hi := index_miss47 hb l
      have hge := Lib.index_ge l [47]
      by_cases hm : Lib.index l [47] = -1
      · rw [if_pos hm] at hi
        rw [Lib.count_miss hi]
        rw [Lib.count_miss hm] at ih
        simp only [Lib.splitK] at ih ⊢
        rw [msplit, if_neg hb, ← ih]
      · rw [if_neg hm] at hi
        obtain ⟨i, hn⟩ : ∃ i : Nat, Lib.index l [47] = i := ⟨(Lib.index l [47]).toNat, by omega⟩
        rw [hn] at hi
        have hi' : Lib.index (b :: l) [47] = ((i + 1 : Nat) : Int) := by rw [hi]; omega
        rw [Lib.count_hit (by simp) hn] at ih
        rw [Lib.count_hit (by simp) hi']
        simp only [List.length_cons, List.length_nil, Nat.zero_add, List.drop_succ_cons] at ih ⊢
        rw [Nat.add_comm 1] at ih ⊢
        rw [Lib.splitK, if_neg (by rw [hn]; rw [beq_iff_eq]; omega), hn] at ih
        rw [Lib.splitK, if_neg (by rw [hi']; rw [beq_iff_eq]; omega), hi']
        simp only [Int.toNat_natCast, Nat.add_zero, List.take_succ_cons, List.drop_succ_cons, List.length_cons, List.length_nil, Nat.zero_add] at ih ⊢
        rw [msplit, if_neg hb, ← ih]
def prep (q : List UInt8) : List (List UInt8) → List (List UInt8)
  | [] => []
  | x :: xs => (q ++ x) :: xs
theorem cut_msplit : ∀ (l : List UInt8) (acc : List ByteArray) (q : ByteArray),
    ((l.foldl AwT.stepC (acc, q)).1 ++ [(l.foldl AwT.stepC (acc, q)).2]).map (·.data.toList) = acc.map (·.data.toList) ++ prep q.data.toList (msplit l)
  | [], acc, q => by simp [msplit, prep]
  | b :: l, acc, q => by
    rw [List.foldl_cons]
    by_cases hb : b = 47
    · subst hb
      rw [show AwT.stepC (acc, q) 47 = (acc ++ [q], ⟨#[]⟩) from rfl, cut_msplit l, msplit, if_pos rfl]
      have := msplit_ne l
      cases h : msplit l with
      | nil => exact absurd h this
      | cons x xs => simp [prep]
    · rw [show AwT.stepC (acc, q) b = (acc, q ++ ⟨#[b]⟩) by simp [AwT.stepC, hb], cut_msplit l, msplit, if_neg hb]
      have := msplit_ne l
      cases h : msplit l with
      | nil => exact absurd h this
      | cons x xs => simp [prep]
theorem map_bytes_inj : ∀ {a b : List ByteArray}, a.map (·.data.toList) = b.map (·.data.toList) → a = b
  | [], [], _ => rfl
  | [], _ :: _, h => by simp at h
  | _ :: _, [], h => by simp at h
  | x :: a, y :: b, h => by
    simp only [List.map_cons, List.cons.injEq] at h
    rw [AM.bytes_ext h.1, map_bytes_inj h.2]
theorem pieces_cut (t : ByteArray) : piecesOf t ⟨#[47]⟩ = AwT.cutP t.data.toList := by
  refine map_bytes_inj ?_
  rw [piecesOf, Lib.splitB_data]
  show Lib.splitK [47] 0 (Lib.count t.data.toList [47]) t.data.toList = _
  rw [split47, AwT.cutP, AwT.cutL, cut_msplit]
  have := msplit_ne t.data.toList
  cases h : msplit t.data.toList with
  | nil => exact absurd h this
  | cons x xs => simp [prep]
theorem hasB47 (s : ByteArray) : hasB s ⟨#[47]⟩ = decide (s.data[0]? = some 47) := by
  unfold hasB Lib.hasPrefix
  rw [show s.data[0]? = s.data.toList[0]? by simp]
  cases s.data.toList with
  | nil => rfl
  | cons b l =>
    show ((47 : UInt8) == b && true) = decide (some b = some 47)
    rw [Bool.eq_iff_iff, Bool.and_true, beq_iff_eq, decide_eq_true_iff, Option.some.injEq]
    exact eq_comm
theorem trimB47 {s : ByteArray} (h : hasB s ⟨#[47]⟩ = true) : (trimB s ⟨#[47]⟩).data.toList = s.data.toList.drop 1 := by
  have h' : Lib.hasPrefix s.data.toList [47] = true := h
  show (Lib.trimPrefix s.data.toList [47]) = _
  rw [Lib.trimPrefix, if_pos h']
  rfl
end Go.Proofs.DwT
