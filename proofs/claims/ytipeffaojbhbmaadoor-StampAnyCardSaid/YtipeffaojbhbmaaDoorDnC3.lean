/- Which stamps may be; a stamp in words. -/
import Derived.Test.YtipeffaojbhbmaaDoorDnC2
set_option linter.unusedSimpArgs false
set_option linter.unusedVariables false
namespace Go.Proofs.DnT
open Go Go.DM
set_option maxRecDepth 100000
variable {orc : DOracle}

def lowB (b : UInt8) : Bool := decide (97 ≤ b.toNat) && decide (b.toNat ≤ 122)
def digB (b : UInt8) : Bool := decide (48 ≤ b.toNat) && decide (b.toNat ≤ 57)
def nameOk (s : ByteArray) : Bool := decide (1 ≤ s.size) && decide (s.size ≤ 8) && s.data[0]?.any lowB && s.data.toList.all (fun b => lowB b || digB b)
theorem bytes_false {p : UInt8 → Bool} {s : ByteArray} {i : Nat} (h : i < s.size) (hp : p (s.data[i]'h) = false) : s.data.toList.all p = false := by
  rw [List.all_eq_false]
  exact ⟨_, List.getElem_mem (l := s.data.toList) (by simpa using h), by simp [hp]⟩
theorem bytes_true {p : UInt8 → Bool} {s : ByteArray} (h : ∀ i (h : i < s.size), p (s.data[i]'h) = true) : s.data.toList.all p = true := by
  rw [List.all_eq_true]
  intro x hx
  obtain ⟨j, hj, rfl⟩ := List.mem_iff_getElem.1 hx
  simpa using h j (by simpa using hj)
theorem nameOk_eq {s : ByteArray} (h : 0 < s.size) : nameOk s = (decide (s.size ≤ 8) && lowB (s.data[0]'h) && s.data.toList.all (fun b => lowB b || digB b)) := by
  have : s.data[0]? = some (s.data[0]'h) := Array.getElem?_eq_getElem h
  rw [nameOk, this]
  simp only [Option.any_some, decide_eq_true (show 1 ≤ s.size from h), Bool.true_and]

def inOk (n : Int) : Bool := decide (0 ≤ n) && decide (n ≤ 1000000000)
theorem stIn (n : Int) (S : Mem) : CallD Tryd.prog orc 30 [.int .i64 n] S fun d S' => S' = S ∧ d = .bool (inOk n) := by
  refine CallD.drop ?_
  refine CallD.body Tryd.func30 rfl (by simp [Tryd.ntmps30]) ?_
  rw [Tryd.ntmps30]
  repeat' (first
    | refine Go.seq ?_
    | refine Go.rg ?_
    | refine GoR.nil ?_
    | refine Go.skip ?_
    | refine Go.ret ?_
    | refine Go.block ?_
    | refine Go.exit ?_
    | refine Go.blkX ?_
    | refine Go.blkN ?_
    | refine Go.passX ?_
    | refine Go.lpX ?_
    | (refine Go.blkE (by decide) ?_)
    | (refine Go.rgS dmx (by decide) ?_)
    | ((first | refine GoR.op (by decide) (by rfl) ?_ | refine GoR.opG (by decide) (by rfl) (by rfl) ?_)
       conv => arg 1; simp only [G, Z, Y, un_neg, Int.reduceEq, Int.reduceLE, cutD, Nat.reduceBEq, Nat.reduceAdd, Nat.reduceMul, Nat.reduceSub, Nat.reducePow, Nat.reduceLT, Nat.reduceGT, Nat.reduceLeDiff, Nat.reduceEqDiff, Int.reduceToNat, gt_iff_lt, if_true, if_false, beq_self_eq_true, reduceIte, decide_true, decide_false, fd2_0, fd2_1, fd2_2, fd2_3, fd2_4, fd2_5, fd2_6]
       show GoR _ _ _ _ _ _ _ _ _ _)
    | refine Go.condT (by rfl) ?_
    | refine Go.condF (by rfl) ?_
    | refine GoR.skipG (by decide) rfl rfl ?_
    | (refine GoR.splitG rfl (fun hc => ?_) (fun hc => ?_) <;> simp only [hc])
    | refine Go.condB rfl (fun hc => ?_) (fun hc => ?_))
  all_goals
    refine ⟨(by first | exact .inl rfl | exact .inr rfl), fin ?_⟩
    rw [resD_tmp (fn := Tryd.f30) rfl]
    simp only [optThen_some, resultD_tmp, resultD_cell, G, Z, Y, un_neg, Int.reduceEq, Int.reduceLE, cutD, Nat.reduceBEq, Nat.reduceAdd, Nat.reduceMul, Nat.reduceSub, Nat.reducePow, Nat.reduceLT, Nat.reduceGT, Nat.reduceLeDiff, Nat.reduceEqDiff, Int.reduceToNat, gt_iff_lt, if_true, if_false, beq_self_eq_true, reduceIte, decide_true, decide_false, fd2_0, fd2_1, fd2_2, fd2_3, fd2_4, fd2_5, fd2_6]
    refine ⟨_, [], by simp, .bool, ?_⟩
    first
      | (simp_all [inOk]; done)
      | (simp_all [inOk]; omega)
theorem stPart (s : ByteArray) (S : Mem) : CallD Tryd.prog orc 61 [.str s] S fun d S' => S' = S ∧ d = .bool (nameOk s) := by
  refine CallD.drop ?_
  refine CallD.body Tryd.func61 rfl (by simp [Tryd.ntmps61]) ?_
  rw [Tryd.ntmps61]
  by_cases h0 : s.size = 0
  · have hs : s = ⟨#[]⟩ := by
      obtain ⟨d⟩ := s
      simp only [ByteArray.size, Array.size_eq_zero_iff] at h0
      rw [h0]
    repeat' (first
      | refine Go.seq ?_
      | refine Go.rg ?_
      | refine GoR.nil ?_
      | refine Go.skip ?_
      | refine Go.ret ?_
      | refine Go.block ?_
      | refine Go.exit ?_
      | refine Go.blkX ?_
      | refine Go.blkN ?_
      | refine Go.passX ?_
      | refine Go.lpX ?_
      | (refine Go.blkE (by decide) ?_)
      | (refine Go.rgS dmx (by decide) ?_)
      | ((first | refine GoR.op (by decide) (by rfl) ?_ | refine GoR.opG (by decide) (by rfl) (by rfl) ?_)
         conv => arg 1; simp only [G, Z, Y, un_neg, Int.reduceEq, Int.reduceLE, cutD, Nat.reduceBEq, Nat.reduceAdd, Nat.reduceMul, Nat.reduceSub, Nat.reducePow, Nat.reduceLT, Nat.reduceGT, Nat.reduceLeDiff, Nat.reduceEqDiff, Int.reduceToNat, gt_iff_lt, if_true, if_false, beq_self_eq_true, reduceIte, decide_true, decide_false, fd3_0, fd3_1, fd3_2, fd3_3, fd3_4, fd3_5, fd3_6, fd5_0, fd5_1, fd5_2, fd5_3, fd5_4, fd5_5, fd5_6, fd9_0, fd9_1, fd9_2, fd9_3, fd9_4, fd9_5, fd9_6, fd9_7, hs]
         show GoR _ _ _ _ _ _ _ _ _ _)
      | refine Go.condT (by rfl) ?_
      | refine Go.condF (by rfl) ?_
      | refine GoR.skipG (by decide) rfl rfl ?_
      | (refine GoR.splitG rfl (fun hc => ?_) (fun hc => ?_) <;> simp only [hc])
      | refine Go.condB rfl (fun hc => ?_) (fun hc => ?_))
    refine ⟨(by first | exact .inl rfl | exact .inr rfl), fin ?_⟩
    rw [resD_tmp (fn := Tryd.f61) rfl]
    simp only [optThen_some, resultD_tmp, resultD_cell, G, Z, Y, un_neg, Int.reduceEq, Int.reduceLE, cutD, Nat.reduceBEq, Nat.reduceAdd, Nat.reduceMul, Nat.reduceSub, Nat.reducePow, Nat.reduceLT, Nat.reduceGT, Nat.reduceLeDiff, Nat.reduceEqDiff, Int.reduceToNat, gt_iff_lt, if_true, if_false, beq_self_eq_true, reduceIte, decide_true, decide_false, fd3_0, fd3_1, fd3_2, fd3_3, fd3_4, fd3_5, fd3_6, fd5_0, fd5_1, fd5_2, fd5_3, fd5_4, fd5_5, fd5_6, fd9_0, fd9_1, fd9_2, fd9_3, fd9_4, fd9_5, fd9_6, fd9_7]
    exact ⟨_, [], by simp, .bool, by rw [hs]; rfl⟩
  · have h1 : 0 < s.size := by omega
    have hne : decide (s = (⟨#[]⟩ : ByteArray)) = false := by
      rw [decide_eq_false_iff_not]
      rintro rfl
      exact h0 rfl
    repeat' (first
      | refine Go.seq ?_
      | refine Go.rg ?_
      | refine GoR.nil ?_
      | refine Go.skip ?_
      | refine Go.ret ?_
      | refine Go.block ?_
      | refine Go.exit ?_
      | refine Go.blkX ?_
      | refine Go.blkN ?_
      | refine Go.passX ?_
      | refine Go.lpX ?_
      | (refine Go.blkE (by decide) ?_)
      | (refine Go.rgS dmx (by decide) ?_)
      | ((first | refine GoR.op (by decide) (by rfl) ?_ | refine GoR.opG (by decide) (by rfl) (by rfl) ?_)
         conv => arg 1; simp only [G, Z, Y, un_neg, Int.reduceEq, Int.reduceLE, cutD, Nat.reduceBEq, Nat.reduceAdd, Nat.reduceMul, Nat.reduceSub, Nat.reducePow, Nat.reduceLT, Nat.reduceGT, Nat.reduceLeDiff, Nat.reduceEqDiff, Int.reduceToNat, gt_iff_lt, if_true, if_false, beq_self_eq_true, reduceIte, decide_true, decide_false, fd3_0, fd3_1, fd3_2, fd3_3, fd3_4, fd3_5, fd3_6, fd5_0, fd5_1, fd5_2, fd5_3, fd5_4, fd5_5, fd5_6, fd9_0, fd9_1, fd9_2, fd9_3, fd9_4, fd9_5, fd9_6, fd9_7, hne, indexStr_zero h1]
         show GoR _ _ _ _ _ _ _ _ _ _)
      | refine Go.condT (by rfl) ?_
      | refine Go.condF (by rfl) ?_
      | refine GoR.skipG (by decide) rfl rfl ?_
      | (refine GoR.splitG rfl (fun hc => ?_) (fun hc => ?_) <;> simp only [hc])
      | refine Go.condB rfl (fun hc => ?_) (fun hc => ?_))
    · refine ⟨(by first | exact .inl rfl | exact .inr rfl), fin ?_⟩
      rw [resD_tmp (fn := Tryd.f61) rfl]
      simp only [optThen_some, resultD_tmp, resultD_cell, G, Z, Y, un_neg, Int.reduceEq, Int.reduceLE, cutD, Nat.reduceBEq, Nat.reduceAdd, Nat.reduceMul, Nat.reduceSub, Nat.reducePow, Nat.reduceLT, Nat.reduceGT, Nat.reduceLeDiff, Nat.reduceEqDiff, Int.reduceToNat, gt_iff_lt, if_true, if_false, beq_self_eq_true, reduceIte, decide_true, decide_false, fd3_0, fd3_1, fd3_2, fd3_3, fd3_4, fd3_5, fd3_6, fd5_0, fd5_1, fd5_2, fd5_3, fd5_4, fd5_5, fd5_6, fd9_0, fd9_1, fd9_2, fd9_3, fd9_4, fd9_5, fd9_6, fd9_7]
      refine ⟨_, [], by simp, .bool, ?_⟩
      rw [nameOk_eq h1, decide_eq_false (by simp at hc; omega), Bool.false_and, Bool.false_and]
    · refine ⟨(by first | exact .inl rfl | exact .inr rfl), fin ?_⟩
      rw [resD_tmp (fn := Tryd.f61) rfl]
      simp only [optThen_some, resultD_tmp, resultD_cell, G, Z, Y, un_neg, Int.reduceEq, Int.reduceLE, cutD, Nat.reduceBEq, Nat.reduceAdd, Nat.reduceMul, Nat.reduceSub, Nat.reducePow, Nat.reduceLT, Nat.reduceGT, Nat.reduceLeDiff, Nat.reduceEqDiff, Int.reduceToNat, gt_iff_lt, if_true, if_false, beq_self_eq_true, reduceIte, decide_true, decide_false, fd3_0, fd3_1, fd3_2, fd3_3, fd3_4, fd3_5, fd3_6, fd5_0, fd5_1, fd5_2, fd5_3, fd5_4, fd5_5, fd5_6, fd9_0, fd9_1, fd9_2, fd9_3, fd9_4, fd9_5, fd9_6, fd9_7]
      refine ⟨_, [], by simp, .bool, ?_⟩
      have : lowB (s.data[0]'h1) = false := by simp [lowB] at *; omega
      rw [nameOk_eq h1, this, Bool.and_false, Bool.false_and]
    · rename_i hc8
      have h8 : s.size ≤ 8 := by simp at hc8; omega
      have hlo : 97 ≤ (s.data[0]'h1).toNat := by simp at hc; omega
      refine Go.keep [(0, .str s), (17, .int .i64 (s.size : Int)), (18, .int .i64 ((0 : Nat) : Int))] (.cons .refl (.cons .refl (.cons .refl (.nil)))) ?_
      refine Go.while (α := Nat) (fun i => s.size - i) (fun i => [(0, .str s), (17, .int .i64 (s.size : Int)), (18, .int .i64 (i : Int))]) (fun _ => S) (fun i => i ≤ s.size ∧ ∀ j (h : j < s.size), j < i → (lowB (s.data[j]'h) || digB (s.data[j]'h)) = true) ?_ 0 ⟨Nat.zero_le _, by simp⟩
      rintro i ⟨hi, hk⟩ next
      clear hc hc8
      repeat' (first
        | refine Go.seq ?_
        | refine Go.rg ?_
        | refine GoR.nil ?_
        | refine Go.skip ?_
        | refine Go.ret ?_
        | refine Go.block ?_
        | refine Go.exit ?_
        | refine Go.blkX ?_
        | refine Go.blkN ?_
        | refine Go.passX ?_
        | refine Go.lpX ?_
        | (refine Go.blkE (by decide) ?_)
        | (refine Go.rgS dmx (by decide) ?_)
        | ((first | refine GoR.op (by decide) (by rfl) ?_ | refine GoR.opG (by decide) (by rfl) (by rfl) ?_)
           conv => arg 1; simp only [G, Z, Y, un_neg, Int.reduceEq, Int.reduceLE, cutD, Nat.reduceBEq, Nat.reduceAdd, Nat.reduceMul, Nat.reduceSub, Nat.reducePow, Nat.reduceLT, Nat.reduceGT, Nat.reduceLeDiff, Nat.reduceEqDiff, Int.reduceToNat, gt_iff_lt, if_true, if_false, beq_self_eq_true, reduceIte, decide_true, decide_false, fd3_0, fd3_1, fd3_2, fd3_3, fd3_4, fd3_5, fd3_6, fd5_0, fd5_1, fd5_2, fd5_3, fd5_4, fd5_5, fd5_6, fd9_0, fd9_1, fd9_2, fd9_3, fd9_4, fd9_5, fd9_6, fd9_7]
           show GoR _ _ _ _ _ _ _ _ _ _)
        | refine Go.condT (by rfl) ?_
        | refine Go.condF (by rfl) ?_
        | refine GoR.skipG (by decide) rfl rfl ?_
        | (refine GoR.splitG rfl (fun hc => ?_) (fun hc => ?_) <;> simp only [hc])
        | refine Go.condB rfl (fun hc => ?_) (fun hc => ?_))
      · have h2 : i < s.size := by simpa using hc
        repeat' (first
          | refine Go.seq ?_
          | refine Go.rg ?_
          | refine GoR.nil ?_
          | refine Go.skip ?_
          | refine Go.ret ?_
          | refine Go.block ?_
          | refine Go.exit ?_
          | refine Go.blkX ?_
          | refine Go.blkN ?_
          | refine Go.passX ?_
          | refine Go.lpX ?_
          | (refine Go.blkE (by decide) ?_)
          | (refine Go.rgS dmx (by decide) ?_)
          | ((first | refine GoR.op (by decide) (by rfl) ?_ | refine GoR.opG (by decide) (by rfl) (by rfl) ?_)
             conv => arg 1; simp only [G, Z, Y, un_neg, Int.reduceEq, Int.reduceLE, cutD, Nat.reduceBEq, Nat.reduceAdd, Nat.reduceMul, Nat.reduceSub, Nat.reducePow, Nat.reduceLT, Nat.reduceGT, Nat.reduceLeDiff, Nat.reduceEqDiff, Int.reduceToNat, gt_iff_lt, if_true, if_false, beq_self_eq_true, reduceIte, decide_true, decide_false, fd3_0, fd3_1, fd3_2, fd3_3, fd3_4, fd3_5, fd3_6, fd5_0, fd5_1, fd5_2, fd5_3, fd5_4, fd5_5, fd5_6, fd9_0, fd9_1, fd9_2, fd9_3, fd9_4, fd9_5, fd9_6, fd9_7, indexStr_cast h2, wrap_succ (show i < 4611686018427387904 by omega)]
             show GoR _ _ _ _ _ _ _ _ _ _)
          | refine Go.condT (by rfl) ?_
          | refine Go.condF (by rfl) ?_
          | refine GoR.skipG (by decide) rfl rfl ?_
          | (refine GoR.splitG rfl (fun hc => ?_) (fun hc => ?_) <;> simp only [hc])
          | refine Go.condB rfl (fun hc => ?_) (fun hc => ?_))
        all_goals first
          | (refine Go.lpN ?_
             refine Go.keep [(0, .str s), (17, .int .i64 (s.size : Int)), (18, .int .i64 ((i + 1 : Nat) : Int))] (.cons .refl (.cons .refl (.cons .refl (.nil)))) ?_
             refine next (i + 1) (by omega) ⟨h2, fun j hj hlt => ?_⟩
             clear next
             rcases Nat.lt_or_ge j i with h | h
             · exact hk j hj h
             · obtain rfl : j = i := by omega
               clear hk
               simp [lowB, digB] at *
               omega)
          | (clear next
             refine ⟨(by first | exact .inl rfl | exact .inr rfl), fin ?_⟩
             rw [resD_tmp (fn := Tryd.f61) rfl]
             simp only [optThen_some, resultD_tmp, resultD_cell, G, Z, Y, un_neg, Int.reduceEq, Int.reduceLE, cutD, Nat.reduceBEq, Nat.reduceAdd, Nat.reduceMul, Nat.reduceSub, Nat.reducePow, Nat.reduceLT, Nat.reduceGT, Nat.reduceLeDiff, Nat.reduceEqDiff, Int.reduceToNat, gt_iff_lt, if_true, if_false, beq_self_eq_true, reduceIte, decide_true, decide_false, fd3_0, fd3_1, fd3_2, fd3_3, fd3_4, fd3_5, fd3_6, fd5_0, fd5_1, fd5_2, fd5_3, fd5_4, fd5_5, fd5_6, fd9_0, fd9_1, fd9_2, fd9_3, fd9_4, fd9_5, fd9_6, fd9_7]
             refine ⟨_, [], by simp, .bool, ?_⟩
             have hp : (fun b => lowB b || digB b) (s.data[i]'h2) = false := by
               clear hk
               simp [lowB, digB] at *
               omega
             simp only [nameOk, bytes_false (p := fun b => lowB b || digB b) h2 hp, Bool.and_false])
      · clear next
        refine ⟨(by first | exact .inl rfl | exact .inr rfl), fin ?_⟩
        rw [resD_tmp (fn := Tryd.f61) rfl]
        simp only [optThen_some, resultD_tmp, resultD_cell, G, Z, Y, un_neg, Int.reduceEq, Int.reduceLE, cutD, Nat.reduceBEq, Nat.reduceAdd, Nat.reduceMul, Nat.reduceSub, Nat.reducePow, Nat.reduceLT, Nat.reduceGT, Nat.reduceLeDiff, Nat.reduceEqDiff, Int.reduceToNat, gt_iff_lt, if_true, if_false, beq_self_eq_true, reduceIte, decide_true, decide_false, fd3_0, fd3_1, fd3_2, fd3_3, fd3_4, fd3_5, fd3_6, fd5_0, fd5_1, fd5_2, fd5_3, fd5_4, fd5_5, fd5_6, fd9_0, fd9_1, fd9_2, fd9_3, fd9_4, fd9_5, fd9_6, fd9_7]
        refine ⟨_, [], by simp, .bool, ?_⟩
        have hall := bytes_true (p := fun b => lowB b || digB b) fun j hj => hk j hj (by simp at hc; omega)
        have h00 := hk 0 h1 (by simp at hc; omega)
        have : lowB (s.data[0]'h1) = true := by
          simp only [lowB, digB, Bool.or_eq_true, Bool.and_eq_true, decide_eq_true_eq] at h00 ⊢
          omega
        rw [nameOk_eq h1, hall, this, decide_eq_true h8]
        rfl
def pathOk (s : ByteArray) : Bool := hasB s ⟨#[47]⟩ && (piecesOf (trimB s ⟨#[47]⟩) ⟨#[47]⟩).all nameOk && decide ((piecesOf (trimB s ⟨#[47]⟩) ⟨#[47]⟩).length ≤ 4)
theorem strsAt {l : List ByteArray} {i : Nat} (h : i < l.length) : ((0 ≤ (i : Int) ∧ (i : Int) < (l.length : Int)) = True) ∧ (l.map D.str)[i]? = some (.str l[i]) := ⟨ix_ok h, by simp [h]⟩
theorem trimB_size (s p : ByteArray) : (trimB s p).size ≤ s.size := by
  unfold trimB Lib.trimPrefix
  split
  · show (List.drop _ s.data.toList).toArray.size ≤ s.data.size
    rw [List.size_toArray, List.length_drop, Array.length_toList]
    omega
  · show s.data.toList.toArray.size ≤ s.data.size
    rw [List.size_toArray, Array.length_toList]
    exact Nat.le_refl _
theorem piecesOf_le {s sep : ByteArray} (h : 1 ≤ sep.size) : (piecesOf s sep).length ≤ s.size + 1 := by
  rw [piecesOf_length h]
  have := Lib.countB_le sep h _ s (Nat.le_refl _)
  omega
theorem stPath (s : ByteArray) (hs : s.size < 1000000) (S : Mem) : CallD Tryd.prog O 31 [.str s] S fun d S' => S' = S ∧ d = .bool (pathOk s) := by
  refine CallD.drop ?_
  refine CallD.body Tryd.func31 rfl (by simp [Tryd.ntmps31]) ?_
  rw [Tryd.ntmps31]
  have ht := trimB_size s ⟨#[47]⟩
  generalize hl : piecesOf (trimB s ⟨#[47]⟩) ⟨#[47]⟩ = l
  have hll : l.length ≤ (trimB s ⟨#[47]⟩).size + 1 := by rw [← hl]; exact piecesOf_le (by decide)
  cases hh : hasB s ⟨#[47]⟩ with
  | false =>
    repeat' (first
      | refine Go.seq ?_
      | refine Go.rg ?_
      | refine GoR.nil ?_
      | refine Go.skip ?_
      | refine Go.ret ?_
      | refine Go.block ?_
      | refine Go.exit ?_
      | refine Go.blkX ?_
      | refine Go.blkN ?_
      | refine Go.passX ?_
      | refine Go.lpX ?_
      | (refine Go.blkE (by decide) ?_)
      | (refine Go.rgS dmx (by decide) ?_)
      | ((first | refine GoR.op (by decide) (by rfl) ?_ | refine GoR.opG (by decide) (by rfl) (by rfl) ?_)
         conv => arg 1; simp only [G, Z, Y, un_neg, Int.reduceEq, Int.reduceLE, cutD, Nat.reduceBEq, Nat.reduceAdd, Nat.reduceMul, Nat.reduceSub, Nat.reducePow, Nat.reduceLT, Nat.reduceGT, Nat.reduceLeDiff, Nat.reduceEqDiff, Int.reduceToNat, gt_iff_lt, if_true, if_false, beq_self_eq_true, reduceIte, decide_true, decide_false, fd3_0, fd3_1, fd3_2, fd3_3, fd3_4, fd3_5, fd3_6, fd9_0, fd9_1, fd9_2, fd9_3, fd9_4, fd9_5, fd9_6, fd9_7, fd51_0, fd51_1, fd51_2, fd51_3, fd51_4, fd51_5, fd51_6, fd51_7, fd51_8, fd51_9, fd51_10, fd51_11, fd51_12, fd51_13, fd51_14, fd51_15, fd51_16, fd51_17, fd51_18, fd51_19, fd51_20, fd51_21, fd51_22, fd51_23, hh]
         show GoR _ _ _ _ _ _ _ _ _ _)
      | ((first | refine GoR.call (f := 59) (by decide) (by rfl) rfl Tryd.func59 (by decide) (by rfl) ?_ | refine GoR.callG (f := 59) (by decide) (by rfl) (by rfl) rfl Tryd.func59 (by decide) (by rfl) ?_)
         (refine (cutPrefix _ _ _).ret ?_))
      | refine Go.condT (by rfl) ?_
      | refine Go.condF (by rfl) ?_
      | refine GoR.skipG (by decide) rfl rfl ?_
      | (refine GoR.splitG rfl (fun hc => ?_) (fun hc => ?_) <;> simp only [hc])
      | refine Go.condB rfl (fun hc => ?_) (fun hc => ?_))
    refine ⟨(by first | exact .inl rfl | exact .inr rfl), fin ?_⟩
    rw [resD_tmp (fn := Tryd.f31) rfl]
    simp only [optThen_some, resultD_tmp, resultD_cell, G, Z, Y, un_neg, Int.reduceEq, Int.reduceLE, cutD, Nat.reduceBEq, Nat.reduceAdd, Nat.reduceMul, Nat.reduceSub, Nat.reducePow, Nat.reduceLT, Nat.reduceGT, Nat.reduceLeDiff, Nat.reduceEqDiff, Int.reduceToNat, gt_iff_lt, if_true, if_false, beq_self_eq_true, reduceIte, decide_true, decide_false, fd3_0, fd3_1, fd3_2, fd3_3, fd3_4, fd3_5, fd3_6, fd9_0, fd9_1, fd9_2, fd9_3, fd9_4, fd9_5, fd9_6, fd9_7, fd51_0, fd51_1, fd51_2, fd51_3, fd51_4, fd51_5, fd51_6, fd51_7, fd51_8, fd51_9, fd51_10, fd51_11, fd51_12, fd51_13, fd51_14, fd51_15, fd51_16, fd51_17, fd51_18, fd51_19, fd51_20, fd51_21, fd51_22, fd51_23]
    exact ⟨_, [], by simp, .bool, by simp [pathOk, hh]⟩
  | true =>
    repeat' (first
      | refine Go.seq ?_
      | refine Go.rg ?_
      | refine GoR.nil ?_
      | refine Go.skip ?_
      | refine Go.ret ?_
      | refine Go.block ?_
      | refine Go.exit ?_
      | refine Go.blkX ?_
      | refine Go.blkN ?_
      | refine Go.passX ?_
      | refine Go.lpX ?_
      | (refine Go.blkE (by decide) ?_)
      | (refine Go.rgS dmx (by decide) ?_)
      | ((first | refine GoR.op (by decide) (by rfl) ?_ | refine GoR.opG (by decide) (by rfl) (by rfl) ?_)
         conv => arg 1; simp only [G, Z, Y, un_neg, Int.reduceEq, Int.reduceLE, cutD, Nat.reduceBEq, Nat.reduceAdd, Nat.reduceMul, Nat.reduceSub, Nat.reducePow, Nat.reduceLT, Nat.reduceGT, Nat.reduceLeDiff, Nat.reduceEqDiff, Int.reduceToNat, gt_iff_lt, if_true, if_false, beq_self_eq_true, reduceIte, decide_true, decide_false, fd3_0, fd3_1, fd3_2, fd3_3, fd3_4, fd3_5, fd3_6, fd9_0, fd9_1, fd9_2, fd9_3, fd9_4, fd9_5, fd9_6, fd9_7, fd51_0, fd51_1, fd51_2, fd51_3, fd51_4, fd51_5, fd51_6, fd51_7, fd51_8, fd51_9, fd51_10, fd51_11, fd51_12, fd51_13, fd51_14, fd51_15, fd51_16, fd51_17, fd51_18, fd51_19, fd51_20, fd51_21, fd51_22, fd51_23, hh, hl]
         show GoR _ _ _ _ _ _ _ _ _ _)
      | ((first | refine GoR.call (f := 59) (by decide) (by rfl) rfl Tryd.func59 (by decide) (by rfl) ?_ | refine GoR.callG (f := 59) (by decide) (by rfl) (by rfl) rfl Tryd.func59 (by decide) (by rfl) ?_)
         (refine (cutPrefix _ _ _).ret ?_))
      | ((first | refine GoR.call (f := 60) (by decide) (by rfl) rfl Tryd.func60 (by decide) (by rfl) ?_ | refine GoR.callG (f := 60) (by decide) (by rfl) (by rfl) rfl Tryd.func60 (by decide) (by rfl) ?_)
         (refine (split _ _ (by omega) (by decide) _).ret ?_))
      | refine Go.condT (by rfl) ?_
      | refine Go.condF (by rfl) ?_
      | refine GoR.skipG (by decide) rfl rfl ?_
      | (refine GoR.splitG rfl (fun hc => ?_) (fun hc => ?_) <;> simp only [hc])
      | refine Go.condB rfl (fun hc => ?_) (fun hc => ?_))
    refine Go.keep [(5, .sl none 1 l.length (l.map .str)), (17, .sl none 1 l.length (l.map .str)), (18, .int .i64 (l.length : Int)), (19, .int .i64 ((0 : Nat) : Int))] (.cons .refl (.cons .refl (.cons .refl (.cons .refl (.nil))))) ?_
    refine Go.while (α := Nat) (fun i => l.length - i) (fun i => [(5, .sl none 1 l.length (l.map .str)), (17, .sl none 1 l.length (l.map .str)), (18, .int .i64 (l.length : Int)), (19, .int .i64 (i : Int))]) (fun _ => S) (fun i => i ≤ l.length ∧ ∀ j (h : j < l.length), j < i → nameOk l[j] = true) ?_ 0 ⟨Nat.zero_le _, by simp⟩
    rintro i ⟨hi, hk⟩ next
    repeat' (first
      | refine Go.seq ?_
      | refine Go.rg ?_
      | refine GoR.nil ?_
      | refine Go.skip ?_
      | refine Go.ret ?_
      | refine Go.block ?_
      | refine Go.exit ?_
      | refine Go.blkX ?_
      | refine Go.blkN ?_
      | refine Go.passX ?_
      | refine Go.lpX ?_
      | (refine Go.blkE (by decide) ?_)
      | (refine Go.rgS dmx (by decide) ?_)
      | ((first | refine GoR.op (by decide) (by rfl) ?_ | refine GoR.opG (by decide) (by rfl) (by rfl) ?_)
         conv => arg 1; simp only [G, Z, Y, un_neg, Int.reduceEq, Int.reduceLE, cutD, Nat.reduceBEq, Nat.reduceAdd, Nat.reduceMul, Nat.reduceSub, Nat.reducePow, Nat.reduceLT, Nat.reduceGT, Nat.reduceLeDiff, Nat.reduceEqDiff, Int.reduceToNat, gt_iff_lt, if_true, if_false, beq_self_eq_true, reduceIte, decide_true, decide_false, fd3_0, fd3_1, fd3_2, fd3_3, fd3_4, fd3_5, fd3_6, fd9_0, fd9_1, fd9_2, fd9_3, fd9_4, fd9_5, fd9_6, fd9_7, fd51_0, fd51_1, fd51_2, fd51_3, fd51_4, fd51_5, fd51_6, fd51_7, fd51_8, fd51_9, fd51_10, fd51_11, fd51_12, fd51_13, fd51_14, fd51_15, fd51_16, fd51_17, fd51_18, fd51_19, fd51_20, fd51_21, fd51_22, fd51_23]
         show GoR _ _ _ _ _ _ _ _ _ _)
      | refine Go.condT (by rfl) ?_
      | refine Go.condF (by rfl) ?_
      | refine GoR.skipG (by decide) rfl rfl ?_
      | (refine GoR.splitG rfl (fun hc => ?_) (fun hc => ?_) <;> simp only [hc])
      | refine Go.condB rfl (fun hc => ?_) (fun hc => ?_))
    · have h1 : i < l.length := by simpa using hc
      cases hn : nameOk l[i] with
      | true =>
        repeat' (first
          | refine Go.seq ?_
          | refine Go.rg ?_
          | refine GoR.nil ?_
          | refine Go.skip ?_
          | refine Go.ret ?_
          | refine Go.block ?_
          | refine Go.exit ?_
          | refine Go.blkX ?_
          | refine Go.blkN ?_
          | refine Go.passX ?_
          | refine Go.lpX ?_
          | (refine Go.blkE (by decide) ?_)
          | (refine Go.rgS dmx (by decide) ?_)
          | ((first | refine GoR.op (by decide) (by rfl) ?_ | refine GoR.opG (by decide) (by rfl) (by rfl) ?_)
             conv => arg 1; simp only [G, Z, Y, un_neg, Int.reduceEq, Int.reduceLE, cutD, Nat.reduceBEq, Nat.reduceAdd, Nat.reduceMul, Nat.reduceSub, Nat.reducePow, Nat.reduceLT, Nat.reduceGT, Nat.reduceLeDiff, Nat.reduceEqDiff, Int.reduceToNat, gt_iff_lt, if_true, if_false, beq_self_eq_true, reduceIte, decide_true, decide_false, fd3_0, fd3_1, fd3_2, fd3_3, fd3_4, fd3_5, fd3_6, fd9_0, fd9_1, fd9_2, fd9_3, fd9_4, fd9_5, fd9_6, fd9_7, fd51_0, fd51_1, fd51_2, fd51_3, fd51_4, fd51_5, fd51_6, fd51_7, fd51_8, fd51_9, fd51_10, fd51_11, fd51_12, fd51_13, fd51_14, fd51_15, fd51_16, fd51_17, fd51_18, fd51_19, fd51_20, fd51_21, fd51_22, fd51_23, strsAt h1, wrap_succ (show i < 4611686018427387904 by omega), hn]
             show GoR _ _ _ _ _ _ _ _ _ _)
          | ((first | refine GoR.call (f := 61) (by decide) (by rfl) rfl Tryd.func61 (by decide) (by rfl) ?_ | refine GoR.callG (f := 61) (by decide) (by rfl) (by rfl) rfl Tryd.func61 (by decide) (by rfl) ?_)
             (refine (stPart _ _).ret ?_))
          | refine Go.condT (by rfl) ?_
          | refine Go.condF (by rfl) ?_
          | refine GoR.skipG (by decide) rfl rfl ?_
          | (refine GoR.splitG rfl (fun hc => ?_) (fun hc => ?_) <;> simp only [hc])
          | refine Go.condB rfl (fun hc => ?_) (fun hc => ?_))
        refine Go.lpN ?_
        refine Go.keep [(5, .sl none 1 l.length (l.map .str)), (17, .sl none 1 l.length (l.map .str)), (18, .int .i64 (l.length : Int)), (19, .int .i64 ((i + 1 : Nat) : Int))] (.cons .refl (.cons .refl (.cons .refl (.cons .refl (.nil))))) ?_
        refine next (i + 1) (by omega) ⟨h1, fun j hj hlt => ?_⟩
        rcases Nat.lt_or_ge j i with h | h
        · exact hk j hj h
        · obtain rfl : j = i := by omega
          exact hn
      | false =>
        repeat' (first
          | refine Go.seq ?_
          | refine Go.rg ?_
          | refine GoR.nil ?_
          | refine Go.skip ?_
          | refine Go.ret ?_
          | refine Go.block ?_
          | refine Go.exit ?_
          | refine Go.blkX ?_
          | refine Go.blkN ?_
          | refine Go.passX ?_
          | refine Go.lpX ?_
          | (refine Go.blkE (by decide) ?_)
          | (refine Go.rgS dmx (by decide) ?_)
          | ((first | refine GoR.op (by decide) (by rfl) ?_ | refine GoR.opG (by decide) (by rfl) (by rfl) ?_)
             conv => arg 1; simp only [G, Z, Y, un_neg, Int.reduceEq, Int.reduceLE, cutD, Nat.reduceBEq, Nat.reduceAdd, Nat.reduceMul, Nat.reduceSub, Nat.reducePow, Nat.reduceLT, Nat.reduceGT, Nat.reduceLeDiff, Nat.reduceEqDiff, Int.reduceToNat, gt_iff_lt, if_true, if_false, beq_self_eq_true, reduceIte, decide_true, decide_false, fd3_0, fd3_1, fd3_2, fd3_3, fd3_4, fd3_5, fd3_6, fd9_0, fd9_1, fd9_2, fd9_3, fd9_4, fd9_5, fd9_6, fd9_7, fd51_0, fd51_1, fd51_2, fd51_3, fd51_4, fd51_5, fd51_6, fd51_7, fd51_8, fd51_9, fd51_10, fd51_11, fd51_12, fd51_13, fd51_14, fd51_15, fd51_16, fd51_17, fd51_18, fd51_19, fd51_20, fd51_21, fd51_22, fd51_23, strsAt h1, wrap_succ (show i < 4611686018427387904 by omega), hn]
             show GoR _ _ _ _ _ _ _ _ _ _)
          | ((first | refine GoR.call (f := 61) (by decide) (by rfl) rfl Tryd.func61 (by decide) (by rfl) ?_ | refine GoR.callG (f := 61) (by decide) (by rfl) (by rfl) rfl Tryd.func61 (by decide) (by rfl) ?_)
             (refine (stPart _ _).ret ?_))
          | refine Go.condT (by rfl) ?_
          | refine Go.condF (by rfl) ?_
          | refine GoR.skipG (by decide) rfl rfl ?_
          | (refine GoR.splitG rfl (fun hc => ?_) (fun hc => ?_) <;> simp only [hc])
          | refine Go.condB rfl (fun hc => ?_) (fun hc => ?_))
        clear next
        refine ⟨(by first | exact .inl rfl | exact .inr rfl), fin ?_⟩
        rw [resD_tmp (fn := Tryd.f31) rfl]
        simp only [optThen_some, resultD_tmp, resultD_cell, G, Z, Y, un_neg, Int.reduceEq, Int.reduceLE, cutD, Nat.reduceBEq, Nat.reduceAdd, Nat.reduceMul, Nat.reduceSub, Nat.reducePow, Nat.reduceLT, Nat.reduceGT, Nat.reduceLeDiff, Nat.reduceEqDiff, Int.reduceToNat, gt_iff_lt, if_true, if_false, beq_self_eq_true, reduceIte, decide_true, decide_false, fd3_0, fd3_1, fd3_2, fd3_3, fd3_4, fd3_5, fd3_6, fd9_0, fd9_1, fd9_2, fd9_3, fd9_4, fd9_5, fd9_6, fd9_7, fd51_0, fd51_1, fd51_2, fd51_3, fd51_4, fd51_5, fd51_6, fd51_7, fd51_8, fd51_9, fd51_10, fd51_11, fd51_12, fd51_13, fd51_14, fd51_15, fd51_16, fd51_17, fd51_18, fd51_19, fd51_20, fd51_21, fd51_22, fd51_23]
        refine ⟨_, [], by simp, .bool, ?_⟩
        have : l.all nameOk = false := List.all_eq_false.2 ⟨_, List.getElem_mem h1, by simp [hn]⟩
        simp [pathOk, hl, this]
    · clear next
      repeat' (first
        | refine Go.seq ?_
        | refine Go.rg ?_
        | refine GoR.nil ?_
        | refine Go.skip ?_
        | refine Go.ret ?_
        | refine Go.block ?_
        | refine Go.exit ?_
        | refine Go.blkX ?_
        | refine Go.blkN ?_
        | refine Go.passX ?_
        | refine Go.lpX ?_
        | (refine Go.blkE (by decide) ?_)
        | (refine Go.rgS dmx (by decide) ?_)
        | ((first | refine GoR.op (by decide) (by rfl) ?_ | refine GoR.opG (by decide) (by rfl) (by rfl) ?_)
           conv => arg 1; simp only [G, Z, Y, un_neg, Int.reduceEq, Int.reduceLE, cutD, Nat.reduceBEq, Nat.reduceAdd, Nat.reduceMul, Nat.reduceSub, Nat.reducePow, Nat.reduceLT, Nat.reduceGT, Nat.reduceLeDiff, Nat.reduceEqDiff, Int.reduceToNat, gt_iff_lt, if_true, if_false, beq_self_eq_true, reduceIte, decide_true, decide_false, fd3_0, fd3_1, fd3_2, fd3_3, fd3_4, fd3_5, fd3_6, fd9_0, fd9_1, fd9_2, fd9_3, fd9_4, fd9_5, fd9_6, fd9_7, fd51_0, fd51_1, fd51_2, fd51_3, fd51_4, fd51_5, fd51_6, fd51_7, fd51_8, fd51_9, fd51_10, fd51_11, fd51_12, fd51_13, fd51_14, fd51_15, fd51_16, fd51_17, fd51_18, fd51_19, fd51_20, fd51_21, fd51_22, fd51_23]
           show GoR _ _ _ _ _ _ _ _ _ _)
        | refine Go.condT (by rfl) ?_
        | refine Go.condF (by rfl) ?_
        | refine GoR.skipG (by decide) rfl rfl ?_
        | (refine GoR.splitG rfl (fun hc => ?_) (fun hc => ?_) <;> simp only [hc])
        | refine Go.condB rfl (fun hc => ?_) (fun hc => ?_))
      refine ⟨(by first | exact .inl rfl | exact .inr rfl), fin ?_⟩
      rw [resD_tmp (fn := Tryd.f31) rfl]
      simp only [optThen_some, resultD_tmp, resultD_cell, G, Z, Y, un_neg, Int.reduceEq, Int.reduceLE, cutD, Nat.reduceBEq, Nat.reduceAdd, Nat.reduceMul, Nat.reduceSub, Nat.reducePow, Nat.reduceLT, Nat.reduceGT, Nat.reduceLeDiff, Nat.reduceEqDiff, Int.reduceToNat, gt_iff_lt, if_true, if_false, beq_self_eq_true, reduceIte, decide_true, decide_false, fd3_0, fd3_1, fd3_2, fd3_3, fd3_4, fd3_5, fd3_6, fd9_0, fd9_1, fd9_2, fd9_3, fd9_4, fd9_5, fd9_6, fd9_7, fd51_0, fd51_1, fd51_2, fd51_3, fd51_4, fd51_5, fd51_6, fd51_7, fd51_8, fd51_9, fd51_10, fd51_11, fd51_12, fd51_13, fd51_14, fd51_15, fd51_16, fd51_17, fd51_18, fd51_19, fd51_20, fd51_21, fd51_22, fd51_23]
      refine ⟨_, [], by simp, .bool, ?_⟩
      have : l.all nameOk = true := by
        rw [List.all_eq_true]
        intro x hx
        obtain ⟨j, hj, rfl⟩ := List.mem_iff_getElem.1 hx
        exact hk j hj (by simp at hc; omega)
      simp only [pathOk, hl, hh, this, Bool.true_and, D.bool.injEq]
      rw [Bool.eq_iff_iff, decide_eq_true_iff, decide_eq_true_iff]
      omega
def chk (s : St) : Int := if inOk s.tick && inOk s.inc && inOk s.seq then (if pathOk s.org then 0 else 5) else 1
theorem stCheck (s : St) (hs : s.org.size < 1000000) (S : Mem) : CallD Tryd.prog O 12 [.agg s.c] S fun d S' => S' = S ∧ d = .int .i64 (chk s) := by
  obtain ⟨a, b, c, o⟩ := s
  have e1 := stIn (orc := O) a
  have e2 := stIn (orc := O) b
  have e3 := stIn (orc := O) c
  simp only [St.c, chk]
  refine CallD.drop ?_
  refine CallD.body Tryd.func12 rfl (by simp [Tryd.ntmps12]) ?_
  rw [Tryd.ntmps12]
  cases h1 : inOk a <;> cases h2 : inOk b <;> cases h3 : inOk c <;> cases h4 : pathOk o
  all_goals
    repeat' (first
      | refine Go.seq ?_
      | refine Go.rg ?_
      | refine GoR.nil ?_
      | refine Go.skip ?_
      | refine Go.ret ?_
      | refine Go.block ?_
      | refine Go.exit ?_
      | refine Go.blkX ?_
      | refine Go.blkN ?_
      | refine Go.passX ?_
      | refine Go.lpX ?_
      | (refine Go.blkE (by decide) ?_)
      | (refine Go.rgS dmx (by decide) ?_)
      | ((first | refine GoR.op (by decide) (by rfl) ?_ | refine GoR.opG (by decide) (by rfl) (by rfl) ?_)
         conv => arg 1; simp only [G, Z, Y, un_neg, Int.reduceEq, Int.reduceLE, cutD, Nat.reduceBEq, Nat.reduceAdd, Nat.reduceMul, Nat.reduceSub, Nat.reducePow, Nat.reduceLT, Nat.reduceGT, Nat.reduceLeDiff, Nat.reduceEqDiff, Int.reduceToNat, gt_iff_lt, if_true, if_false, beq_self_eq_true, reduceIte, decide_true, decide_false, fd2_0, fd2_1, fd2_2, fd2_3, fd2_4, fd2_5, fd2_6, fd9_0, fd9_1, fd9_2, fd9_3, fd9_4, fd9_5, fd9_6, fd9_7, fd23_0, fd23_1, fd23_2, fd23_3, fd23_4, fd23_5, fd23_6, fd23_7, fd23_8, fd23_9, fd23_10, fd23_11, h1, h2, h3, h4]
         show GoR _ _ _ _ _ _ _ _ _ _)
      | ((first | refine GoR.call (f := 30) (by decide) (by rfl) rfl Tryd.func30 (by decide) (by rfl) ?_ | refine GoR.callG (f := 30) (by decide) (by rfl) (by rfl) rfl Tryd.func30 (by decide) (by rfl) ?_)
         (first | (refine (e1 _).ret ?_) | (refine (e2 _).ret ?_) | (refine (e3 _).ret ?_)))
      | ((first | refine GoR.call (f := 31) (by decide) (by rfl) rfl Tryd.func31 (by decide) (by rfl) ?_ | refine GoR.callG (f := 31) (by decide) (by rfl) (by rfl) rfl Tryd.func31 (by decide) (by rfl) ?_)
         (refine (stPath _ hs _).ret ?_))
      | refine Go.condT (by rfl) ?_
      | refine Go.condF (by rfl) ?_
      | refine GoR.skipG (by decide) rfl rfl ?_
      | (refine GoR.splitG rfl (fun hc => ?_) (fun hc => ?_) <;> simp only [hc])
      | refine Go.condB rfl (fun hc => ?_) (fun hc => ?_))
    refine ⟨(by first | exact .inl rfl | exact .inr rfl), fin ?_⟩
    rw [resD_tmp (fn := Tryd.f12) rfl]
    simp only [optThen_some, resultD_tmp, resultD_cell, G, Z, Y, un_neg, Int.reduceEq, Int.reduceLE, cutD, Nat.reduceBEq, Nat.reduceAdd, Nat.reduceMul, Nat.reduceSub, Nat.reducePow, Nat.reduceLT, Nat.reduceGT, Nat.reduceLeDiff, Nat.reduceEqDiff, Int.reduceToNat, gt_iff_lt, if_true, if_false, beq_self_eq_true, reduceIte, decide_true, decide_false, fd2_0, fd2_1, fd2_2, fd2_3, fd2_4, fd2_5, fd2_6, fd9_0, fd9_1, fd9_2, fd9_3, fd9_4, fd9_5, fd9_6, fd9_7, fd23_0, fd23_1, fd23_2, fd23_3, fd23_4, fd23_5, fd23_6, fd23_7, fd23_8, fd23_9, fd23_10, fd23_11]
    exact ⟨_, _, rfl, .int, by simp⟩
end Go.Proofs.DnT
