/- What the law's own helpers on values do. -/
import Derived.Test.YtcnjndjahloifaaDaFacts
set_option linter.unusedSimpArgs false
set_option linter.unusedVariables false
namespace Go.Proofs.DaT
open Go Go.DM
set_option maxRecDepth 10000
variable {orc : DOracle}

/-- A value; an attribute. -/
structure Val where
  k : Int
  i : Int
  s : ByteArray
  l : List Int
def intsD (l : List Int) : List D := l.map (.int .i64 ·)
theorem intsD_low {n : Nat} {l : List Int} : LowL n (intsD l) := .of_mem (by simp [intsD]; intros; constructor)
def Val.c (v : Val) : List D := [.int .i64 v.k, .int .i64 v.i, .str v.s, .sl none 1 v.l.length (intsD v.l)]
structure Att where
  n : ByteArray
  v : Val
def Att.c (a : Att) : List D := [.str a.n, .int .i64 a.v.k, .int .i64 a.v.i, .str a.v.s, .sl none 1 a.v.l.length (intsD a.v.l)]
def attsC (l : List Att) : List D := l.flatMap Att.c
theorem Val.low {n : Nat} {k i : Int} {s : ByteArray} {m : Nat} {l : List Int} : LowL n [.int .i64 k, .int .i64 i, .str s, .sl none 1 m (intsD l)] := .cons (.int _ _) (.cons (.int _ _) (.cons (.str _) (.cons (.sl' intsD_low) .nil)))

theorem clip1 (own : Option Nat) (l : List Int) (S : Mem) : CallD Try.prog orc 61 [.sl own 1 l.length (intsD l)] S fun d S' => S' = S ∧ d = .sl none 1 l.length (intsD l) := by
  refine CallD.drop ?_
  refine CallD.body Try.func61 rfl (by simp [Try.ntmps61]) ?_
  rw [Try.ntmps61]
  cases l with
  | nil =>
    repeat' (first
      | refine Go.seq ?_
      | refine Go.rg ?_
      | refine GoR.nil ?_
      | refine Go.skip ?_
      | refine Go.ret ?_
      | refine Go.block ?_
      | refine Go.exit ?_
      | refine Go.blkX ?_
      | refine Go.blkN ?_
      | refine Go.passX ?_
      | refine Go.lpX ?_
      | (refine Go.blkE (by decide) ?_)
      | (refine Go.rgS dmx (by decide) ?_)
      | ((first | refine GoR.op (by decide) (by rfl) ?_ | refine GoR.opG (by decide) (by rfl) (by rfl) ?_)
         conv => arg 1; simp only [G, Z, Y, un_neg, Int.reduceEq, Int.reduceLE, cutD, Nat.reduceBEq, Nat.reduceAdd, Nat.reduceMul, Nat.reduceSub, Nat.reducePow, Nat.reduceLT, Nat.reduceGT, Nat.reduceLeDiff, Nat.reduceEqDiff, Int.reduceToNat, gt_iff_lt, if_true, if_false, beq_self_eq_true, reduceIte, decide_true, decide_false, fd25_0, fd25_1, fd25_2, fd25_3, fd25_4, fd25_5, fd25_6, fd25_7, fd25_8, fd25_9, fd25_10, fd25_11, fd25_12, fd25_13, fd25_14, fd25_15, fd25_16, fd25_17, fd25_18, fd25_19, fd25_20, fd25_21, fd25_22, fd25_23, List.length_nil, Int.natCast_zero, Int.ofNat_zero, Int.toNat_zero, Int.cast_ofNat_Int]
         show GoR _ _ _ _ _ _ _ _ _ _)
      | refine Go.condT (by rfl) ?_
      | refine Go.condF (by rfl) ?_
      | refine GoR.skipG (by decide) rfl rfl ?_
      | (refine GoR.splitG rfl (fun hc => ?_) (fun hc => ?_) <;> simp only [hc])
      | refine Go.condB rfl (fun hc => ?_) (fun hc => ?_))
    refine ⟨(by first | exact .inl rfl | exact .inr rfl), fin ?_⟩
    rw [resD_tmp (fn := Try.f61) rfl]
    simp only [optThen_some, resultD_tmp, resultD_cell, G, Z, Y, un_neg, Int.reduceEq, Int.reduceLE, cutD, Nat.reduceBEq, Nat.reduceAdd, Nat.reduceMul, Nat.reduceSub, Nat.reducePow, Nat.reduceLT, Nat.reduceGT, Nat.reduceLeDiff, Nat.reduceEqDiff, Int.reduceToNat, gt_iff_lt, if_true, if_false, beq_self_eq_true, reduceIte, decide_true, decide_false, fd25_0, fd25_1, fd25_2, fd25_3, fd25_4, fd25_5, fd25_6, fd25_7, fd25_8, fd25_9, fd25_10, fd25_11, fd25_12, fd25_13, fd25_14, fd25_15, fd25_16, fd25_17, fd25_18, fd25_19, fd25_20, fd25_21, fd25_22, fd25_23]
    exact ⟨_, [], by simp, .sl0E, rfl⟩
  | cons x l =>
    repeat' (first
      | refine Go.seq ?_
      | refine Go.rg ?_
      | refine GoR.nil ?_
      | refine Go.skip ?_
      | refine Go.ret ?_
      | refine Go.block ?_
      | refine Go.exit ?_
      | refine Go.blkX ?_
      | refine Go.blkN ?_
      | refine Go.passX ?_
      | refine Go.lpX ?_
      | (refine Go.blkE (by decide) ?_)
      | (refine Go.rgS dmx (by decide) ?_)
      | ((first | refine GoR.op (by decide) (by rfl) ?_ | refine GoR.opG (by decide) (by rfl) (by rfl) ?_)
         conv => arg 1; simp only [G, Z, Y, un_neg, Int.reduceEq, Int.reduceLE, cutD, Nat.reduceBEq, Nat.reduceAdd, Nat.reduceMul, Nat.reduceSub, Nat.reducePow, Nat.reduceLT, Nat.reduceGT, Nat.reduceLeDiff, Nat.reduceEqDiff, Int.reduceToNat, gt_iff_lt, if_true, if_false, beq_self_eq_true, reduceIte, decide_true, decide_false, fd25_0, fd25_1, fd25_2, fd25_3, fd25_4, fd25_5, fd25_6, fd25_7, fd25_8, fd25_9, fd25_10, fd25_11, fd25_12, fd25_13, fd25_14, fd25_15, fd25_16, fd25_17, fd25_18, fd25_19, fd25_20, fd25_21, fd25_22, fd25_23, show (l.length + 1 = 0) = False by simp, Nat.reduceAdd]
         show GoR _ _ _ _ _ _ _ _ _ _)
      | refine Go.condT (by rfl) ?_
      | refine Go.condF (by rfl) ?_
      | refine GoR.skipG (by decide) rfl rfl ?_
      | (refine GoR.splitG rfl (fun hc => ?_) (fun hc => ?_) <;> simp only [hc])
      | refine Go.condB rfl (fun hc => ?_) (fun hc => ?_))
    refine ⟨(by first | exact .inl rfl | exact .inr rfl), fin ?_⟩
    rw [resD_tmp (fn := Try.f61) rfl]
    simp only [optThen_some, resultD_tmp, resultD_cell, G, Z, Y, un_neg, Int.reduceEq, Int.reduceLE, cutD, Nat.reduceBEq, Nat.reduceAdd, Nat.reduceMul, Nat.reduceSub, Nat.reducePow, Nat.reduceLT, Nat.reduceGT, Nat.reduceLeDiff, Nat.reduceEqDiff, Int.reduceToNat, gt_iff_lt, if_true, if_false, beq_self_eq_true, reduceIte, decide_true, decide_false, fd25_0, fd25_1, fd25_2, fd25_3, fd25_4, fd25_5, fd25_6, fd25_7, fd25_8, fd25_9, fd25_10, fd25_11, fd25_12, fd25_13, fd25_14, fd25_15, fd25_16, fd25_17, fd25_18, fd25_19, fd25_20, fd25_21, fd25_22, fd25_23]
    have e : List.take (l.length + 1) (intsD (x :: l)) = intsD (x :: l) := List.take_of_length_le (by simp [intsD])
    simp only [e]
    exact ⟨_, [], by simp, .disown intsD_low.get, rfl⟩

theorem cut (b : Bool) (S : Mem) : CallD Try.prog orc 32 [.bool b] S fun d S' => S' = S ∧ d = .int .i64 (if b then -9223372036854775808 else 9223372036854775807) := by
  refine CallD.drop ?_
  refine CallD.body Try.func32 rfl (by simp [Try.ntmps32]) ?_
  rw [Try.ntmps32]
  repeat' (first
    | refine Go.seq ?_
    | refine Go.rg ?_
    | refine GoR.nil ?_
    | refine Go.skip ?_
    | refine Go.ret ?_
    | refine Go.block ?_
    | refine Go.exit ?_
    | refine Go.blkX ?_
    | refine Go.blkN ?_
    | refine Go.passX ?_
    | refine Go.lpX ?_
    | (refine Go.blkE (by decide) ?_)
    | (refine Go.rgS dmx (by decide) ?_)
    | ((first | refine GoR.op (by decide) (by rfl) ?_ | refine GoR.opG (by decide) (by rfl) (by rfl) ?_)
       conv => arg 1; simp only [G, Z, Y, un_neg, Int.reduceEq, Int.reduceLE, cutD, Nat.reduceBEq, Nat.reduceAdd, Nat.reduceMul, Nat.reduceSub, Nat.reducePow, Nat.reduceLT, Nat.reduceGT, Nat.reduceLeDiff, Nat.reduceEqDiff, Int.reduceToNat, gt_iff_lt, if_true, if_false, beq_self_eq_true, reduceIte, decide_true, decide_false]
       show GoR _ _ _ _ _ _ _ _ _ _)
    | refine Go.condT (by rfl) ?_
    | refine Go.condF (by rfl) ?_
    | refine GoR.skipG (by decide) rfl rfl ?_
    | (refine GoR.splitG rfl (fun hc => ?_) (fun hc => ?_) <;> simp only [hc])
    | refine Go.condB rfl (fun hc => ?_) (fun hc => ?_))
  all_goals
    refine ⟨(by first | exact .inl rfl | exact .inr rfl), fin ?_⟩
    rw [resD_tmp (fn := Try.f32) rfl]
    simp only [optThen_some, resultD_tmp, resultD_cell, G, Z, Y, un_neg, Int.reduceEq, Int.reduceLE, cutD, Nat.reduceBEq, Nat.reduceAdd, Nat.reduceMul, Nat.reduceSub, Nat.reducePow, Nat.reduceLT, Nat.reduceGT, Nat.reduceLeDiff, Nat.reduceEqDiff, Int.reduceToNat, gt_iff_lt, if_true, if_false, beq_self_eq_true, reduceIte, decide_true, decide_false]
    exact ⟨_, [], by simp, .int, by simp [hc]⟩
end Go.Proofs.DaT
