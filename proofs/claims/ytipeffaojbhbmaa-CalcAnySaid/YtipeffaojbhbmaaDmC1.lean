/- What the law's own helpers on values do. -/
import Derived.Test.YtipeffaojbhbmaaDmFacts
set_option linter.unusedSimpArgs false
set_option linter.unusedVariables false
namespace Go.Proofs.DmT
open Go Go.DM
set_option maxRecDepth 10000
variable {orc : DOracle}

/-- A value; an attribute. -/
structure Val where
  k : Int
  i : Int
  s : ByteArray
  l : List Int
def intsD (l : List Int) : List D := l.map (.int .i64 ·)
theorem intsD_low {n : Nat} {l : List Int} : LowL n (intsD l) := .of_mem (by simp [intsD]; intros; constructor)
def Val.c (v : Val) : List D := [.int .i64 v.k, .int .i64 v.i, .str v.s, .sl none 1 v.l.length (intsD v.l)]
structure Att where
  n : ByteArray
  v : Val
def Att.c (a : Att) : List D := [.str a.n, .int .i64 a.v.k, .int .i64 a.v.i, .str a.v.s, .sl none 1 a.v.l.length (intsD a.v.l)]
def attsC (l : List Att) : List D := l.flatMap Att.c
theorem Val.low {n : Nat} {k i : Int} {s : ByteArray} {m : Nat} {l : List Int} : LowL n [.int .i64 k, .int .i64 i, .str s, .sl none 1 m (intsD l)] := .cons (.int _ _) (.cons (.int _ _) (.cons (.str _) (.cons (.sl' intsD_low) .nil)))

theorem few2 (v : Val) (S : Mem) : CallD Try.prog orc 43 [.agg v.c] S fun d S' => S' = S ∧ d = .bool (decide (v.s.size ≤ 200) && decide (v.l.length ≤ 40)) := by
  obtain ⟨k, i, s, l⟩ := v
  simp only [Val.c]
  refine CallD.drop ?_
  refine CallD.body Try.func43 rfl (by simp [Try.ntmps43]) ?_
  rw [Try.ntmps43]
  repeat' (first
    | refine Go.seq ?_
    | refine Go.rg ?_
    | refine GoR.nil ?_
    | refine Go.skip ?_
    | refine Go.ret ?_
    | refine Go.block ?_
    | refine Go.exit ?_
    | refine Go.blkX ?_
    | refine Go.blkN ?_
    | refine Go.passX ?_
    | refine Go.lpX ?_
    | (refine Go.blkE (by decide) ?_)
    | (refine Go.rgS dmx (by decide) ?_)
    | ((first | refine GoR.op (by decide) (by rfl) ?_ | refine GoR.opG (by decide) (by rfl) (by rfl) ?_)
       conv => arg 1; simp only [G, Z, Y, un_neg, Int.reduceEq, Int.reduceLE, cutD, Nat.reduceBEq, Nat.reduceAdd, Nat.reduceMul, Nat.reduceSub, Nat.reducePow, Nat.reduceLT, Nat.reduceGT, Nat.reduceLeDiff, Nat.reduceEqDiff, Int.reduceToNat, gt_iff_lt, if_true, if_false, beq_self_eq_true, reduceIte, decide_true, decide_false, fd2_0, fd2_1, fd2_2, fd2_3, fd2_4, fd2_5, fd2_6, fd2_7, fd2_8, fd2_9, fd3_0, fd3_1, fd3_2, fd3_3, fd3_4, fd3_5, fd3_6, fd3_7, fd3_8, fd3_9, fd9_0, fd9_1, fd9_2, fd9_3, fd9_4, fd9_5, fd9_6, fd9_7, fd43_0, fd43_1, fd43_2, fd43_3, fd43_4, fd43_5, fd43_6, fd43_7, fd43_8, fd43_9, fd43_10, fd43_11, fd43_12, fd43_13, fd43_14, fd43_15, fd43_16, fd43_17, fd43_18, fd43_19, fd43_20, fd43_21, fd43_22, fd43_23, fd49_0, fd49_1, fd49_2, fd49_3, fd49_4, fd49_5, fd49_6, fd49_7, fd49_8, fd49_9, fd49_10, fd49_11]
       show GoR _ _ _ _ _ _ _ _ _ _)
    | refine Go.condT (by rfl) ?_
    | refine Go.condF (by rfl) ?_
    | refine GoR.skipG (by decide) rfl rfl ?_
    | (refine GoR.splitG rfl (fun hc => ?_) (fun hc => ?_) <;> simp only [hc])
    | refine Go.condB rfl (fun hc => ?_) (fun hc => ?_))
  · refine ⟨(by first | exact .inl rfl | exact .inr rfl), fin ?_⟩
    rw [resD_tmp (fn := Try.f43) rfl]
    simp only [optThen_some, resultD_tmp, resultD_cell, G, Z, Y, un_neg, Int.reduceEq, Int.reduceLE, cutD, Nat.reduceBEq, Nat.reduceAdd, Nat.reduceMul, Nat.reduceSub, Nat.reducePow, Nat.reduceLT, Nat.reduceGT, Nat.reduceLeDiff, Nat.reduceEqDiff, Int.reduceToNat, gt_iff_lt, if_true, if_false, beq_self_eq_true, reduceIte, decide_true, decide_false, fd2_0, fd2_1, fd2_2, fd2_3, fd2_4, fd2_5, fd2_6, fd2_7, fd2_8, fd2_9, fd3_0, fd3_1, fd3_2, fd3_3, fd3_4, fd3_5, fd3_6, fd3_7, fd3_8, fd3_9, fd9_0, fd9_1, fd9_2, fd9_3, fd9_4, fd9_5, fd9_6, fd9_7, fd43_0, fd43_1, fd43_2, fd43_3, fd43_4, fd43_5, fd43_6, fd43_7, fd43_8, fd43_9, fd43_10, fd43_11, fd43_12, fd43_13, fd43_14, fd43_15, fd43_16, fd43_17, fd43_18, fd43_19, fd43_20, fd43_21, fd43_22, fd43_23, fd49_0, fd49_1, fd49_2, fd49_3, fd49_4, fd49_5, fd49_6, fd49_7, fd49_8, fd49_9, fd49_10, fd49_11]
    refine ⟨_, _, rfl, .bool, ?_⟩
    simp at hc
    congr 1
    rw [Bool.eq_iff_iff]
    simp
    omega
  · refine ⟨(by first | exact .inl rfl | exact .inr rfl), fin ?_⟩
    rw [resD_tmp (fn := Try.f43) rfl]
    simp only [optThen_some, resultD_tmp, resultD_cell, G, Z, Y, un_neg, Int.reduceEq, Int.reduceLE, cutD, Nat.reduceBEq, Nat.reduceAdd, Nat.reduceMul, Nat.reduceSub, Nat.reducePow, Nat.reduceLT, Nat.reduceGT, Nat.reduceLeDiff, Nat.reduceEqDiff, Int.reduceToNat, gt_iff_lt, if_true, if_false, beq_self_eq_true, reduceIte, decide_true, decide_false, fd2_0, fd2_1, fd2_2, fd2_3, fd2_4, fd2_5, fd2_6, fd2_7, fd2_8, fd2_9, fd3_0, fd3_1, fd3_2, fd3_3, fd3_4, fd3_5, fd3_6, fd3_7, fd3_8, fd3_9, fd9_0, fd9_1, fd9_2, fd9_3, fd9_4, fd9_5, fd9_6, fd9_7, fd43_0, fd43_1, fd43_2, fd43_3, fd43_4, fd43_5, fd43_6, fd43_7, fd43_8, fd43_9, fd43_10, fd43_11, fd43_12, fd43_13, fd43_14, fd43_15, fd43_16, fd43_17, fd43_18, fd43_19, fd43_20, fd43_21, fd43_22, fd43_23, fd49_0, fd49_1, fd49_2, fd49_3, fd49_4, fd49_5, fd49_6, fd49_7, fd49_8, fd49_9, fd49_10, fd49_11]
    refine ⟨_, _, rfl, .bool, ?_⟩
    simp at hc
    congr 1
    rw [Bool.eq_iff_iff]
    simp
    omega

theorem of2 (v : Val) (S : Mem) : CallD Try.prog orc 34 [.agg v.c] S fun d S' => S' = S ∧ d = .agg v.c := by
  obtain ⟨k, i, s, l⟩ := v
  simp only [Val.c]
  refine CallD.drop ?_
  refine CallD.body Try.func34 rfl (by simp [Try.ntmps34]) ?_
  rw [Try.ntmps34]
  repeat' (first
    | refine Go.seq ?_
    | refine Go.rg ?_
    | refine GoR.nil ?_
    | refine Go.skip ?_
    | refine Go.ret ?_
    | refine Go.block ?_
    | refine Go.exit ?_
    | refine Go.blkX ?_
    | refine Go.blkN ?_
    | refine Go.passX ?_
    | refine Go.lpX ?_
    | (refine Go.blkE (by decide) ?_)
    | (refine Go.rgS dmx (by decide) ?_)
    | ((first | refine GoR.op (by decide) (by rfl) ?_ | refine GoR.opG (by decide) (by rfl) (by rfl) ?_)
       conv => arg 1; simp only [G, Z, Y, un_neg, Int.reduceEq, Int.reduceLE, cutD, Nat.reduceBEq, Nat.reduceAdd, Nat.reduceMul, Nat.reduceSub, Nat.reducePow, Nat.reduceLT, Nat.reduceGT, Nat.reduceLeDiff, Nat.reduceEqDiff, Int.reduceToNat, gt_iff_lt, if_true, if_false, beq_self_eq_true, reduceIte, decide_true, decide_false, fd2_0, fd2_1, fd2_2, fd2_3, fd2_4, fd2_5, fd2_6, fd2_7, fd2_8, fd2_9, fd3_0, fd3_1, fd3_2, fd3_3, fd3_4, fd3_5, fd3_6, fd3_7, fd3_8, fd3_9, fd9_0, fd9_1, fd9_2, fd9_3, fd9_4, fd9_5, fd9_6, fd9_7, fd43_0, fd43_1, fd43_2, fd43_3, fd43_4, fd43_5, fd43_6, fd43_7, fd43_8, fd43_9, fd43_10, fd43_11, fd43_12, fd43_13, fd43_14, fd43_15, fd43_16, fd43_17, fd43_18, fd43_19, fd43_20, fd43_21, fd43_22, fd43_23, fd49_0, fd49_1, fd49_2, fd49_3, fd49_4, fd49_5, fd49_6, fd49_7, fd49_8, fd49_9, fd49_10, fd49_11, fd68_0, fd68_1, fd68_2, fd68_3, fd68_4, fd68_5, fd68_6, fd68_7, fd68_8, fd68_9, fd68_10, fd68_11]
       show GoR _ _ _ _ _ _ _ _ _ _)
    | refine Go.condT (by rfl) ?_
    | refine Go.condF (by rfl) ?_
    | refine GoR.skipG (by decide) rfl rfl ?_
    | (refine GoR.splitG rfl (fun hc => ?_) (fun hc => ?_) <;> simp only [hc])
    | refine Go.condB rfl (fun hc => ?_) (fun hc => ?_))
  refine ⟨(by first | exact .inl rfl | exact .inr rfl), fin ?_⟩
  rw [resD_cell (fn := Try.f34) rfl]
  simp only [optThen_some, resultD_tmp, resultD_cell, G, Z, Y, un_neg, Int.reduceEq, Int.reduceLE, cutD, Nat.reduceBEq, Nat.reduceAdd, Nat.reduceMul, Nat.reduceSub, Nat.reducePow, Nat.reduceLT, Nat.reduceGT, Nat.reduceLeDiff, Nat.reduceEqDiff, Int.reduceToNat, gt_iff_lt, if_true, if_false, beq_self_eq_true, reduceIte, decide_true, decide_false, fd2_0, fd2_1, fd2_2, fd2_3, fd2_4, fd2_5, fd2_6, fd2_7, fd2_8, fd2_9, fd3_0, fd3_1, fd3_2, fd3_3, fd3_4, fd3_5, fd3_6, fd3_7, fd3_8, fd3_9, fd9_0, fd9_1, fd9_2, fd9_3, fd9_4, fd9_5, fd9_6, fd9_7, fd43_0, fd43_1, fd43_2, fd43_3, fd43_4, fd43_5, fd43_6, fd43_7, fd43_8, fd43_9, fd43_10, fd43_11, fd43_12, fd43_13, fd43_14, fd43_15, fd43_16, fd43_17, fd43_18, fd43_19, fd43_20, fd43_21, fd43_22, fd43_23, fd49_0, fd49_1, fd49_2, fd49_3, fd49_4, fd49_5, fd49_6, fd49_7, fd49_8, fd49_9, fd49_10, fd49_11, fd68_0, fd68_1, fd68_2, fd68_3, fd68_4, fd68_5, fd68_6, fd68_7, fd68_8, fd68_9, fd68_10, fd68_11]
  exact ⟨_, _, rfl, .of_low (.agg' Val.low), rfl⟩

theorem clip1 (own : Option Nat) (l : List Int) (S : Mem) : CallD Try.prog orc 76 [.sl own 1 l.length (intsD l)] S fun d S' => S' = S ∧ d = .sl none 1 l.length (intsD l) := by
  refine CallD.drop ?_
  refine CallD.body Try.func76 rfl (by simp [Try.ntmps76]) ?_
  rw [Try.ntmps76]
  cases l with
  | nil =>
    repeat' (first
      | refine Go.seq ?_
      | refine Go.rg ?_
      | refine GoR.nil ?_
      | refine Go.skip ?_
      | refine Go.ret ?_
      | refine Go.block ?_
      | refine Go.exit ?_
      | refine Go.blkX ?_
      | refine Go.blkN ?_
      | refine Go.passX ?_
      | refine Go.lpX ?_
      | (refine Go.blkE (by decide) ?_)
      | (refine Go.rgS dmx (by decide) ?_)
      | ((first | refine GoR.op (by decide) (by rfl) ?_ | refine GoR.opG (by decide) (by rfl) (by rfl) ?_)
         conv => arg 1; simp only [G, Z, Y, un_neg, Int.reduceEq, Int.reduceLE, cutD, Nat.reduceBEq, Nat.reduceAdd, Nat.reduceMul, Nat.reduceSub, Nat.reducePow, Nat.reduceLT, Nat.reduceGT, Nat.reduceLeDiff, Nat.reduceEqDiff, Int.reduceToNat, gt_iff_lt, if_true, if_false, beq_self_eq_true, reduceIte, decide_true, decide_false, fd43_0, fd43_1, fd43_2, fd43_3, fd43_4, fd43_5, fd43_6, fd43_7, fd43_8, fd43_9, fd43_10, fd43_11, fd43_12, fd43_13, fd43_14, fd43_15, fd43_16, fd43_17, fd43_18, fd43_19, fd43_20, fd43_21, fd43_22, fd43_23, List.length_nil, Int.natCast_zero, Int.ofNat_zero, Int.toNat_zero, Int.cast_ofNat_Int]
         show GoR _ _ _ _ _ _ _ _ _ _)
      | refine Go.condT (by rfl) ?_
      | refine Go.condF (by rfl) ?_
      | refine GoR.skipG (by decide) rfl rfl ?_
      | (refine GoR.splitG rfl (fun hc => ?_) (fun hc => ?_) <;> simp only [hc])
      | refine Go.condB rfl (fun hc => ?_) (fun hc => ?_))
    refine ⟨(by first | exact .inl rfl | exact .inr rfl), fin ?_⟩
    rw [resD_tmp (fn := Try.f76) rfl]
    simp only [optThen_some, resultD_tmp, resultD_cell, G, Z, Y, un_neg, Int.reduceEq, Int.reduceLE, cutD, Nat.reduceBEq, Nat.reduceAdd, Nat.reduceMul, Nat.reduceSub, Nat.reducePow, Nat.reduceLT, Nat.reduceGT, Nat.reduceLeDiff, Nat.reduceEqDiff, Int.reduceToNat, gt_iff_lt, if_true, if_false, beq_self_eq_true, reduceIte, decide_true, decide_false, fd43_0, fd43_1, fd43_2, fd43_3, fd43_4, fd43_5, fd43_6, fd43_7, fd43_8, fd43_9, fd43_10, fd43_11, fd43_12, fd43_13, fd43_14, fd43_15, fd43_16, fd43_17, fd43_18, fd43_19, fd43_20, fd43_21, fd43_22, fd43_23]
    exact ⟨_, [], by simp, .sl0E, rfl⟩
  | cons x l =>
    repeat' (first
      | refine Go.seq ?_
      | refine Go.rg ?_
      | refine GoR.nil ?_
      | refine Go.skip ?_
      | refine Go.ret ?_
      | refine Go.block ?_
      | refine Go.exit ?_
      | refine Go.blkX ?_
      | refine Go.blkN ?_
      | refine Go.passX ?_
      | refine Go.lpX ?_
      | (refine Go.blkE (by decide) ?_)
      | (refine Go.rgS dmx (by decide) ?_)
      | ((first | refine GoR.op (by decide) (by rfl) ?_ | refine GoR.opG (by decide) (by rfl) (by rfl) ?_)
         conv => arg 1; simp only [G, Z, Y, un_neg, Int.reduceEq, Int.reduceLE, cutD, Nat.reduceBEq, Nat.reduceAdd, Nat.reduceMul, Nat.reduceSub, Nat.reducePow, Nat.reduceLT, Nat.reduceGT, Nat.reduceLeDiff, Nat.reduceEqDiff, Int.reduceToNat, gt_iff_lt, if_true, if_false, beq_self_eq_true, reduceIte, decide_true, decide_false, fd43_0, fd43_1, fd43_2, fd43_3, fd43_4, fd43_5, fd43_6, fd43_7, fd43_8, fd43_9, fd43_10, fd43_11, fd43_12, fd43_13, fd43_14, fd43_15, fd43_16, fd43_17, fd43_18, fd43_19, fd43_20, fd43_21, fd43_22, fd43_23, show (l.length + 1 = 0) = False by simp, Nat.reduceAdd]
         show GoR _ _ _ _ _ _ _ _ _ _)
      | refine Go.condT (by rfl) ?_
      | refine Go.condF (by rfl) ?_
      | refine GoR.skipG (by decide) rfl rfl ?_
      | (refine GoR.splitG rfl (fun hc => ?_) (fun hc => ?_) <;> simp only [hc])
      | refine Go.condB rfl (fun hc => ?_) (fun hc => ?_))
    refine ⟨(by first | exact .inl rfl | exact .inr rfl), fin ?_⟩
    rw [resD_tmp (fn := Try.f76) rfl]
    simp only [optThen_some, resultD_tmp, resultD_cell, G, Z, Y, un_neg, Int.reduceEq, Int.reduceLE, cutD, Nat.reduceBEq, Nat.reduceAdd, Nat.reduceMul, Nat.reduceSub, Nat.reducePow, Nat.reduceLT, Nat.reduceGT, Nat.reduceLeDiff, Nat.reduceEqDiff, Int.reduceToNat, gt_iff_lt, if_true, if_false, beq_self_eq_true, reduceIte, decide_true, decide_false, fd43_0, fd43_1, fd43_2, fd43_3, fd43_4, fd43_5, fd43_6, fd43_7, fd43_8, fd43_9, fd43_10, fd43_11, fd43_12, fd43_13, fd43_14, fd43_15, fd43_16, fd43_17, fd43_18, fd43_19, fd43_20, fd43_21, fd43_22, fd43_23]
    have e : List.take (l.length + 1) (intsD (x :: l)) = intsD (x :: l) := List.take_of_length_le (by simp [intsD])
    simp only [e]
    exact ⟨_, [], by simp, .disown intsD_low.get, rfl⟩

theorem cut (b : Bool) (S : Mem) : CallD Try.prog orc 47 [.bool b] S fun d S' => S' = S ∧ d = .int .i64 (if b then -9223372036854775808 else 9223372036854775807) := by
  refine CallD.drop ?_
  refine CallD.body Try.func47 rfl (by simp [Try.ntmps47]) ?_
  rw [Try.ntmps47]
  repeat' (first
    | refine Go.seq ?_
    | refine Go.rg ?_
    | refine GoR.nil ?_
    | refine Go.skip ?_
    | refine Go.ret ?_
    | refine Go.block ?_
    | refine Go.exit ?_
    | refine Go.blkX ?_
    | refine Go.blkN ?_
    | refine Go.passX ?_
    | refine Go.lpX ?_
    | (refine Go.blkE (by decide) ?_)
    | (refine Go.rgS dmx (by decide) ?_)
    | ((first | refine GoR.op (by decide) (by rfl) ?_ | refine GoR.opG (by decide) (by rfl) (by rfl) ?_)
       conv => arg 1; simp only [G, Z, Y, un_neg, Int.reduceEq, Int.reduceLE, cutD, Nat.reduceBEq, Nat.reduceAdd, Nat.reduceMul, Nat.reduceSub, Nat.reducePow, Nat.reduceLT, Nat.reduceGT, Nat.reduceLeDiff, Nat.reduceEqDiff, Int.reduceToNat, gt_iff_lt, if_true, if_false, beq_self_eq_true, reduceIte, decide_true, decide_false]
       show GoR _ _ _ _ _ _ _ _ _ _)
    | refine Go.condT (by rfl) ?_
    | refine Go.condF (by rfl) ?_
    | refine GoR.skipG (by decide) rfl rfl ?_
    | (refine GoR.splitG rfl (fun hc => ?_) (fun hc => ?_) <;> simp only [hc])
    | refine Go.condB rfl (fun hc => ?_) (fun hc => ?_))
  all_goals
    refine ⟨(by first | exact .inl rfl | exact .inr rfl), fin ?_⟩
    rw [resD_tmp (fn := Try.f47) rfl]
    simp only [optThen_some, resultD_tmp, resultD_cell, G, Z, Y, un_neg, Int.reduceEq, Int.reduceLE, cutD, Nat.reduceBEq, Nat.reduceAdd, Nat.reduceMul, Nat.reduceSub, Nat.reducePow, Nat.reduceLT, Nat.reduceGT, Nat.reduceLeDiff, Nat.reduceEqDiff, Int.reduceToNat, gt_iff_lt, if_true, if_false, beq_self_eq_true, reduceIte, decide_true, decide_false]
    exact ⟨_, [], by simp, .int, by simp [hc]⟩
end Go.Proofs.DmT
