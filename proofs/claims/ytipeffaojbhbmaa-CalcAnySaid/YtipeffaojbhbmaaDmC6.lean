/- Whether attributes may be: what the reference's check tells. -/
import Derived.Test.YtipeffaojbhbmaaDmC5
import Derived.Test.YtipeffaojbhbmaaDpA
set_option linter.unusedSimpArgs false
set_option linter.unusedVariables false
namespace Go.Proofs.DmT
open Go Go.DM
set_option maxRecDepth 100000

/-- Calls that are run once. -/
def theRuns : List RunT := [(6, [], .bool true), (56, [.string (⟨#[47, 97]⟩ : ByteArray)], .bool true)]
theorem theRuns_ok : ∀ x ∈ theRuns, RunOk Try.prog x := by
  intro x hx
  simp only [theRuns, List.mem_cons, List.not_mem_nil, or_false] at hx
  rcases hx with rfl | rfl
  · exact runOk_of dmx 100000 (by kernel_rfl) rfl rfl rfl
  · exact runOk_of dmx 100000 (by kernel_rfl) rfl rfl rfl
abbrev O : DOracle := runOrc theRuns
theorem theKnown (S : Mem) : CallD Try.prog O 6 [] S fun d S' => S' = S ∧ d = .bool true := CallD.closed (us := []) (v := .bool true) (by simp [theRuns])
theorem nodeA (S : Mem) : CallD Try.prog O 56 [.str (⟨#[47, 97]⟩ : ByteArray)] S fun d S' => S' = S ∧ d = .bool true := CallD.closed (us := [.string (⟨#[47, 97]⟩ : ByteArray)]) (v := .bool true) (by simp [theRuns])

theorem refIn (n : Int) (S : Mem) : CallD Try.prog O 55 [.int .i64 n] S fun d S' => S' = S ∧ d = .bool (decide (0 ≤ n) && decide (n ≤ 1000000000)) := by
  refine CallD.drop ?_
  refine CallD.body Try.func55 rfl (by simp [Try.ntmps55]) ?_
  rw [Try.ntmps55]
  repeat' (first
    | refine Go.seq ?_
    | refine Go.rg ?_
    | refine GoR.nil ?_
    | refine Go.skip ?_
    | refine Go.ret ?_
    | refine Go.block ?_
    | refine Go.exit ?_
    | refine Go.blkX ?_
    | refine Go.blkN ?_
    | refine Go.passX ?_
    | refine Go.lpX ?_
    | (refine Go.blkE (by decide) ?_)
    | (refine Go.rgS dmx (by decide) ?_)
    | ((first | refine GoR.op (by decide) (by rfl) ?_ | refine GoR.opG (by decide) (by rfl) (by rfl) ?_)
       conv => arg 1; simp only [G, Z, Y, un_neg, Int.reduceEq, Int.reduceLE, cutD, Nat.reduceBEq, Nat.reduceAdd, Nat.reduceMul, Nat.reduceSub, Nat.reducePow, Nat.reduceLT, Nat.reduceGT, Nat.reduceLeDiff, Nat.reduceEqDiff, Int.reduceToNat, gt_iff_lt, if_true, if_false, beq_self_eq_true, reduceIte, decide_true, decide_false, fd2_0, fd2_1, fd2_2, fd2_3, fd2_4, fd2_5, fd2_6, fd2_7, fd2_8, fd2_9]
       show GoR _ _ _ _ _ _ _ _ _ _)
    | refine Go.condT (by rfl) ?_
    | refine Go.condF (by rfl) ?_
    | refine GoR.skipG (by decide) rfl rfl ?_
    | (refine GoR.splitG rfl (fun hc => ?_) (fun hc => ?_) <;> simp only [hc])
    | refine Go.condB rfl (fun hc => ?_) (fun hc => ?_))
  all_goals
    refine ⟨(by first | exact .inl rfl | exact .inr rfl), fin ?_⟩
    rw [resD_tmp (fn := Try.f55) rfl]
    simp only [optThen_some, resultD_tmp, resultD_cell, G, Z, Y, un_neg, Int.reduceEq, Int.reduceLE, cutD, Nat.reduceBEq, Nat.reduceAdd, Nat.reduceMul, Nat.reduceSub, Nat.reducePow, Nat.reduceLT, Nat.reduceGT, Nat.reduceLeDiff, Nat.reduceEqDiff, Int.reduceToNat, gt_iff_lt, if_true, if_false, beq_self_eq_true, reduceIte, decide_true, decide_false, fd2_0, fd2_1, fd2_2, fd2_3, fd2_4, fd2_5, fd2_6, fd2_7, fd2_8, fd2_9]
    refine ⟨_, [], by simp, .bool, ?_⟩
    congr 1 <;> simp_all

theorem checkStampA (S : Mem) : CallD Try.prog O 44 [.agg [.int .i64 0, .int .i64 0, .int .i64 0, .str (⟨#[47, 97]⟩ : ByteArray)]] S fun d S' => S' = S ∧ d = .int .i64 0 := by
  refine CallD.drop ?_
  refine CallD.body Try.func44 rfl (by simp [Try.ntmps44]) ?_
  rw [Try.ntmps44]
  repeat' (first
    | refine Go.seq ?_
    | refine Go.rg ?_
    | refine GoR.nil ?_
    | refine Go.skip ?_
    | refine Go.ret ?_
    | refine Go.block ?_
    | refine Go.exit ?_
    | refine Go.blkX ?_
    | refine Go.blkN ?_
    | refine Go.passX ?_
    | refine Go.lpX ?_
    | (refine Go.blkE (by decide) ?_)
    | (refine Go.rgS dmx (by decide) ?_)
    | ((first | refine GoR.op (by decide) (by rfl) ?_ | refine GoR.opG (by decide) (by rfl) (by rfl) ?_)
       conv => arg 1; simp only [G, Z, Y, un_neg, Int.reduceEq, Int.reduceLE, cutD, Nat.reduceBEq, Nat.reduceAdd, Nat.reduceMul, Nat.reduceSub, Nat.reducePow, Nat.reduceLT, Nat.reduceGT, Nat.reduceLeDiff, Nat.reduceEqDiff, Int.reduceToNat, gt_iff_lt, if_true, if_false, beq_self_eq_true, reduceIte, decide_true, decide_false, fd2_0, fd2_1, fd2_2, fd2_3, fd2_4, fd2_5, fd2_6, fd2_7, fd2_8, fd2_9, fd9_0, fd9_1, fd9_2, fd9_3, fd9_4, fd9_5, fd9_6, fd9_7, fd57_0, fd57_1, fd57_2, fd57_3, fd57_4, fd57_5, fd57_6, fd57_7, fd57_8, fd57_9, fd57_10, fd57_11, show (decide ((0:Int) ≤ 0) && decide ((0:Int) ≤ 1000000000)) = true by decide]
       show GoR _ _ _ _ _ _ _ _ _ _)
    | ((first | refine GoR.call (f := 55) (by decide) (by rfl) rfl Try.func55 (by decide) (by rfl) ?_ | refine GoR.callG (f := 55) (by decide) (by rfl) (by rfl) rfl Try.func55 (by decide) (by rfl) ?_)
       (refine (refIn _ _).ret ?_))
    | ((first | refine GoR.call (f := 56) (by decide) (by rfl) rfl Try.func56 (by decide) (by rfl) ?_ | refine GoR.callG (f := 56) (by decide) (by rfl) (by rfl) rfl Try.func56 (by decide) (by rfl) ?_)
       (refine (nodeA _).ret ?_))
    | refine Go.condT (by rfl) ?_
    | refine Go.condF (by rfl) ?_
    | refine GoR.skipG (by decide) rfl rfl ?_
    | (refine GoR.splitG rfl (fun hc => ?_) (fun hc => ?_) <;> simp only [hc])
    | refine Go.condB rfl (fun hc => ?_) (fun hc => ?_))
  refine ⟨(by first | exact .inl rfl | exact .inr rfl), fin ?_⟩
  rw [resD_tmp (fn := Try.f44) rfl]
  simp only [optThen_some, resultD_tmp, resultD_cell, G, Z, Y, un_neg, Int.reduceEq, Int.reduceLE, cutD, Nat.reduceBEq, Nat.reduceAdd, Nat.reduceMul, Nat.reduceSub, Nat.reducePow, Nat.reduceLT, Nat.reduceGT, Nat.reduceLeDiff, Nat.reduceEqDiff, Int.reduceToNat, gt_iff_lt, if_true, if_false, beq_self_eq_true, reduceIte, decide_true, decide_false, fd2_0, fd2_1, fd2_2, fd2_3, fd2_4, fd2_5, fd2_6, fd2_7, fd2_8, fd2_9, fd9_0, fd9_1, fd9_2, fd9_3, fd9_4, fd9_5, fd9_6, fd9_7, fd57_0, fd57_1, fd57_2, fd57_3, fd57_4, fd57_5, fd57_6, fd57_7, fd57_8, fd57_9, fd57_10, fd57_11]
  exact ⟨_, _, rfl, .int, rfl⟩

theorem intsAt {l : List Int} {i : Nat} (h : i < l.length) : ((0 ≤ (i : Int) ∧ (i : Int) < (l.length : Int)) = True) ∧ (intsD l)[i]? = some (.int .i64 l[i]) := ⟨ix_ok h, by simp [intsD, h]⟩
theorem pred_cast {i : Nat} (h : 0 < i) (h2 : i < 4611686018427387904) : IntKind.i64.wrap ((i : Int) - 1) = ((i - 1 : Nat) : Int) := by rw [wrap64 (by omega) (by omega)]; omega

theorem checkValue (v : Val) (hs : v.s.size < 4611686018427387904) (hl : v.l.length < 4611686018427387904) (S : Mem) : CallD Try.prog O 45 [.agg v.c] S fun d S' => S' = S ∧ ∃ e, d = .int .i64 e := by
  obtain ⟨k, i, s, l⟩ := v
  simp only [Val.c]
  refine CallD.drop ?_
  refine CallD.body Try.func45 rfl (by simp [Try.ntmps45]) ?_
  rw [Try.ntmps45]
  repeat' (first
    | refine Go.seq ?_
    | refine Go.rg ?_
    | refine GoR.nil ?_
    | refine Go.skip ?_
    | refine Go.ret ?_
    | refine Go.block ?_
    | refine Go.exit ?_
    | refine Go.blkX ?_
    | refine Go.blkN ?_
    | refine Go.passX ?_
    | refine Go.lpX ?_
    | (refine Go.blkE (by decide) ?_)
    | (refine Go.rgS dmx (by decide) ?_)
    | ((first | refine GoR.op (by decide) (by rfl) ?_ | refine GoR.opG (by decide) (by rfl) (by rfl) ?_)
       conv => arg 1; simp only [G, Z, Y, un_neg, Int.reduceEq, Int.reduceLE, cutD, Nat.reduceBEq, Nat.reduceAdd, Nat.reduceMul, Nat.reduceSub, Nat.reducePow, Nat.reduceLT, Nat.reduceGT, Nat.reduceLeDiff, Nat.reduceEqDiff, Int.reduceToNat, gt_iff_lt, if_true, if_false, beq_self_eq_true, reduceIte, decide_true, decide_false, fd2_0, fd2_1, fd2_2, fd2_3, fd2_4, fd2_5, fd2_6, fd2_7, fd2_8, fd2_9, fd3_0, fd3_1, fd3_2, fd3_3, fd3_4, fd3_5, fd3_6, fd3_7, fd3_8, fd3_9, fd5_0, fd5_1, fd5_2, fd5_3, fd5_4, fd5_5, fd5_6, fd5_7, fd5_8, fd5_9, fd9_0, fd9_1, fd9_2, fd9_3, fd9_4, fd9_5, fd9_6, fd9_7, fd43_0, fd43_1, fd43_2, fd43_3, fd43_4, fd43_5, fd43_6, fd43_7, fd43_8, fd43_9, fd43_10, fd43_11, fd43_12, fd43_13, fd43_14, fd43_15, fd43_16, fd43_17, fd43_18, fd43_19, fd43_20, fd43_21, fd43_22, fd43_23, fd68_0, fd68_1, fd68_2, fd68_3, fd68_4, fd68_5, fd68_6, fd68_7, fd68_8, fd68_9, fd68_10, fd68_11]
       show GoR _ _ _ _ _ _ _ _ _ _)
    | refine Go.condT (by rfl) ?_
    | refine Go.condF (by rfl) ?_
    | refine GoR.skipG (by decide) rfl rfl ?_
    | (refine GoR.splitG rfl (fun hc => ?_) (fun hc => ?_) <;> simp only [hc])
    | refine Go.condB rfl (fun hc => ?_) (fun hc => ?_))
  all_goals first
    | (skip
       refine ⟨(by first | exact .inl rfl | exact .inr rfl), fin ?_⟩
       rw [resD_tmp (fn := Try.f45) rfl]
       simp only [optThen_some, resultD_tmp, resultD_cell, G, Z, Y, un_neg, Int.reduceEq, Int.reduceLE, cutD, Nat.reduceBEq, Nat.reduceAdd, Nat.reduceMul, Nat.reduceSub, Nat.reducePow, Nat.reduceLT, Nat.reduceGT, Nat.reduceLeDiff, Nat.reduceEqDiff, Int.reduceToNat, gt_iff_lt, if_true, if_false, beq_self_eq_true, reduceIte, decide_true, decide_false, fd2_0, fd2_1, fd2_2, fd2_3, fd2_4, fd2_5, fd2_6, fd2_7, fd2_8, fd2_9, fd3_0, fd3_1, fd3_2, fd3_3, fd3_4, fd3_5, fd3_6, fd3_7, fd3_8, fd3_9, fd5_0, fd5_1, fd5_2, fd5_3, fd5_4, fd5_5, fd5_6, fd5_7, fd5_8, fd5_9, fd9_0, fd9_1, fd9_2, fd9_3, fd9_4, fd9_5, fd9_6, fd9_7, fd43_0, fd43_1, fd43_2, fd43_3, fd43_4, fd43_5, fd43_6, fd43_7, fd43_8, fd43_9, fd43_10, fd43_11, fd43_12, fd43_13, fd43_14, fd43_15, fd43_16, fd43_17, fd43_18, fd43_19, fd43_20, fd43_21, fd43_22, fd43_23, fd68_0, fd68_1, fd68_2, fd68_3, fd68_4, fd68_5, fd68_6, fd68_7, fd68_8, fd68_9, fd68_10, fd68_11]
       exact ⟨_, _, rfl, .int, _, rfl⟩)
    | skip
  · refine Go.keep [(1, .ptr S.length 0), (3, .int .i64 ((0 : Nat) : Int))] (.cons .refl (.cons .refl (.nil))) ?_
    refine Go.while (α := Nat) (fun i => s.size - i) (fun j => [(1, .ptr S.length 0), (3, .int .i64 (j : Int))]) (fun _ => S ++ [.obj [.int .i64 k, .int .i64 i, .str s, .sl none 1 l.length (intsD l)]]) (fun i => i ≤ s.size) ?_ 0 (Nat.zero_le _)
    intro j hj next
    repeat' (first
      | refine Go.seq ?_
      | refine Go.rg ?_
      | refine GoR.nil ?_
      | refine Go.skip ?_
      | refine Go.ret ?_
      | refine Go.block ?_
      | refine Go.exit ?_
      | refine Go.blkX ?_
      | refine Go.blkN ?_
      | refine Go.passX ?_
      | refine Go.lpX ?_
      | (refine Go.blkE (by decide) ?_)
      | (refine Go.rgS dmx (by decide) ?_)
      | ((first | refine GoR.op (by decide) (by rfl) ?_ | refine GoR.opG (by decide) (by rfl) (by rfl) ?_)
         conv => arg 1; simp only [G, Z, Y, un_neg, Int.reduceEq, Int.reduceLE, cutD, Nat.reduceBEq, Nat.reduceAdd, Nat.reduceMul, Nat.reduceSub, Nat.reducePow, Nat.reduceLT, Nat.reduceGT, Nat.reduceLeDiff, Nat.reduceEqDiff, Int.reduceToNat, gt_iff_lt, if_true, if_false, beq_self_eq_true, reduceIte, decide_true, decide_false, fd2_0, fd2_1, fd2_2, fd2_3, fd2_4, fd2_5, fd2_6, fd2_7, fd2_8, fd2_9, fd3_0, fd3_1, fd3_2, fd3_3, fd3_4, fd3_5, fd3_6, fd3_7, fd3_8, fd3_9, fd5_0, fd5_1, fd5_2, fd5_3, fd5_4, fd5_5, fd5_6, fd5_7, fd5_8, fd5_9, fd9_0, fd9_1, fd9_2, fd9_3, fd9_4, fd9_5, fd9_6, fd9_7, fd43_0, fd43_1, fd43_2, fd43_3, fd43_4, fd43_5, fd43_6, fd43_7, fd43_8, fd43_9, fd43_10, fd43_11, fd43_12, fd43_13, fd43_14, fd43_15, fd43_16, fd43_17, fd43_18, fd43_19, fd43_20, fd43_21, fd43_22, fd43_23, fd68_0, fd68_1, fd68_2, fd68_3, fd68_4, fd68_5, fd68_6, fd68_7, fd68_8, fd68_9, fd68_10, fd68_11]
         show GoR _ _ _ _ _ _ _ _ _ _)
      | refine Go.condT (by rfl) ?_
      | refine Go.condF (by rfl) ?_
      | refine GoR.skipG (by decide) rfl rfl ?_
      | (refine GoR.splitG rfl (fun hc => ?_) (fun hc => ?_) <;> simp only [hc])
      | refine Go.condB rfl (fun hc => ?_) (fun hc => ?_))
    · have h2 : j < s.size := by simpa using hc
      repeat' (first
        | refine Go.seq ?_
        | refine Go.rg ?_
        | refine GoR.nil ?_
        | refine Go.skip ?_
        | refine Go.ret ?_
        | refine Go.block ?_
        | refine Go.exit ?_
        | refine Go.blkX ?_
        | refine Go.blkN ?_
        | refine Go.passX ?_
        | refine Go.lpX ?_
        | (refine Go.blkE (by decide) ?_)
        | (refine Go.rgS dmx (by decide) ?_)
        | ((first | refine GoR.op (by decide) (by rfl) ?_ | refine GoR.opG (by decide) (by rfl) (by rfl) ?_)
           conv => arg 1; simp only [G, Z, Y, un_neg, Int.reduceEq, Int.reduceLE, cutD, Nat.reduceBEq, Nat.reduceAdd, Nat.reduceMul, Nat.reduceSub, Nat.reducePow, Nat.reduceLT, Nat.reduceGT, Nat.reduceLeDiff, Nat.reduceEqDiff, Int.reduceToNat, gt_iff_lt, if_true, if_false, beq_self_eq_true, reduceIte, decide_true, decide_false, fd2_0, fd2_1, fd2_2, fd2_3, fd2_4, fd2_5, fd2_6, fd2_7, fd2_8, fd2_9, fd3_0, fd3_1, fd3_2, fd3_3, fd3_4, fd3_5, fd3_6, fd3_7, fd3_8, fd3_9, fd5_0, fd5_1, fd5_2, fd5_3, fd5_4, fd5_5, fd5_6, fd5_7, fd5_8, fd5_9, fd9_0, fd9_1, fd9_2, fd9_3, fd9_4, fd9_5, fd9_6, fd9_7, fd43_0, fd43_1, fd43_2, fd43_3, fd43_4, fd43_5, fd43_6, fd43_7, fd43_8, fd43_9, fd43_10, fd43_11, fd43_12, fd43_13, fd43_14, fd43_15, fd43_16, fd43_17, fd43_18, fd43_19, fd43_20, fd43_21, fd43_22, fd43_23, fd68_0, fd68_1, fd68_2, fd68_3, fd68_4, fd68_5, fd68_6, fd68_7, fd68_8, fd68_9, fd68_10, fd68_11, indexStr_cast h2, wrap_succ (show j < 4611686018427387904 by simp at hs; omega)]
           show GoR _ _ _ _ _ _ _ _ _ _)
        | refine Go.condT (by rfl) ?_
        | refine Go.condF (by rfl) ?_
        | refine GoR.skipG (by decide) rfl rfl ?_
        | (refine GoR.splitG rfl (fun hc => ?_) (fun hc => ?_) <;> simp only [hc])
        | refine Go.condB rfl (fun hc => ?_) (fun hc => ?_))
      all_goals first
        | (refine Go.lpN ?_
           refine Go.keep [(1, .ptr S.length 0), (3, .int .i64 ((j + 1 : Nat) : Int))] (.cons .refl (.cons .refl (.nil))) ?_
           exact next (j + 1) (by omega) h2)
        | (clear next
           refine ⟨(by first | exact .inl rfl | exact .inr rfl), fin ?_⟩
           rw [resD_tmp (fn := Try.f45) rfl]
           simp only [optThen_some, resultD_tmp, resultD_cell, G, Z, Y, un_neg, Int.reduceEq, Int.reduceLE, cutD, Nat.reduceBEq, Nat.reduceAdd, Nat.reduceMul, Nat.reduceSub, Nat.reducePow, Nat.reduceLT, Nat.reduceGT, Nat.reduceLeDiff, Nat.reduceEqDiff, Int.reduceToNat, gt_iff_lt, if_true, if_false, beq_self_eq_true, reduceIte, decide_true, decide_false, fd2_0, fd2_1, fd2_2, fd2_3, fd2_4, fd2_5, fd2_6, fd2_7, fd2_8, fd2_9, fd3_0, fd3_1, fd3_2, fd3_3, fd3_4, fd3_5, fd3_6, fd3_7, fd3_8, fd3_9, fd5_0, fd5_1, fd5_2, fd5_3, fd5_4, fd5_5, fd5_6, fd5_7, fd5_8, fd5_9, fd9_0, fd9_1, fd9_2, fd9_3, fd9_4, fd9_5, fd9_6, fd9_7, fd43_0, fd43_1, fd43_2, fd43_3, fd43_4, fd43_5, fd43_6, fd43_7, fd43_8, fd43_9, fd43_10, fd43_11, fd43_12, fd43_13, fd43_14, fd43_15, fd43_16, fd43_17, fd43_18, fd43_19, fd43_20, fd43_21, fd43_22, fd43_23, fd68_0, fd68_1, fd68_2, fd68_3, fd68_4, fd68_5, fd68_6, fd68_7, fd68_8, fd68_9, fd68_10, fd68_11]
           exact ⟨_, _, rfl, .int, _, rfl⟩)
    · clear next
      refine ⟨(by first | exact .inl rfl | exact .inr rfl), fin ?_⟩
      rw [resD_tmp (fn := Try.f45) rfl]
      simp only [optThen_some, resultD_tmp, resultD_cell, G, Z, Y, un_neg, Int.reduceEq, Int.reduceLE, cutD, Nat.reduceBEq, Nat.reduceAdd, Nat.reduceMul, Nat.reduceSub, Nat.reducePow, Nat.reduceLT, Nat.reduceGT, Nat.reduceLeDiff, Nat.reduceEqDiff, Int.reduceToNat, gt_iff_lt, if_true, if_false, beq_self_eq_true, reduceIte, decide_true, decide_false, fd2_0, fd2_1, fd2_2, fd2_3, fd2_4, fd2_5, fd2_6, fd2_7, fd2_8, fd2_9, fd3_0, fd3_1, fd3_2, fd3_3, fd3_4, fd3_5, fd3_6, fd3_7, fd3_8, fd3_9, fd5_0, fd5_1, fd5_2, fd5_3, fd5_4, fd5_5, fd5_6, fd5_7, fd5_8, fd5_9, fd9_0, fd9_1, fd9_2, fd9_3, fd9_4, fd9_5, fd9_6, fd9_7, fd43_0, fd43_1, fd43_2, fd43_3, fd43_4, fd43_5, fd43_6, fd43_7, fd43_8, fd43_9, fd43_10, fd43_11, fd43_12, fd43_13, fd43_14, fd43_15, fd43_16, fd43_17, fd43_18, fd43_19, fd43_20, fd43_21, fd43_22, fd43_23, fd68_0, fd68_1, fd68_2, fd68_3, fd68_4, fd68_5, fd68_6, fd68_7, fd68_8, fd68_9, fd68_10, fd68_11]
      exact ⟨_, _, rfl, .int, _, rfl⟩
  · refine Go.keep [(1, .ptr S.length 0), (4, .int .i64 ((1 : Nat) : Int))] (.cons .refl (.cons .refl (.nil))) ?_
    refine Go.while (α := Nat) (fun i => l.length - i) (fun j => [(1, .ptr S.length 0), (4, .int .i64 (j : Int))]) (fun _ => S ++ [.obj [.int .i64 k, .int .i64 i, .str s, .sl none 1 l.length (intsD l)]]) (fun i => 1 ≤ i) ?_ 1 (Nat.le_refl _)
    intro j hj next
    repeat' (first
      | refine Go.seq ?_
      | refine Go.rg ?_
      | refine GoR.nil ?_
      | refine Go.skip ?_
      | refine Go.ret ?_
      | refine Go.block ?_
      | refine Go.exit ?_
      | refine Go.blkX ?_
      | refine Go.blkN ?_
      | refine Go.passX ?_
      | refine Go.lpX ?_
      | (refine Go.blkE (by decide) ?_)
      | (refine Go.rgS dmx (by decide) ?_)
      | ((first | refine GoR.op (by decide) (by rfl) ?_ | refine GoR.opG (by decide) (by rfl) (by rfl) ?_)
         conv => arg 1; simp only [G, Z, Y, un_neg, Int.reduceEq, Int.reduceLE, cutD, Nat.reduceBEq, Nat.reduceAdd, Nat.reduceMul, Nat.reduceSub, Nat.reducePow, Nat.reduceLT, Nat.reduceGT, Nat.reduceLeDiff, Nat.reduceEqDiff, Int.reduceToNat, gt_iff_lt, if_true, if_false, beq_self_eq_true, reduceIte, decide_true, decide_false, fd2_0, fd2_1, fd2_2, fd2_3, fd2_4, fd2_5, fd2_6, fd2_7, fd2_8, fd2_9, fd3_0, fd3_1, fd3_2, fd3_3, fd3_4, fd3_5, fd3_6, fd3_7, fd3_8, fd3_9, fd5_0, fd5_1, fd5_2, fd5_3, fd5_4, fd5_5, fd5_6, fd5_7, fd5_8, fd5_9, fd9_0, fd9_1, fd9_2, fd9_3, fd9_4, fd9_5, fd9_6, fd9_7, fd43_0, fd43_1, fd43_2, fd43_3, fd43_4, fd43_5, fd43_6, fd43_7, fd43_8, fd43_9, fd43_10, fd43_11, fd43_12, fd43_13, fd43_14, fd43_15, fd43_16, fd43_17, fd43_18, fd43_19, fd43_20, fd43_21, fd43_22, fd43_23, fd68_0, fd68_1, fd68_2, fd68_3, fd68_4, fd68_5, fd68_6, fd68_7, fd68_8, fd68_9, fd68_10, fd68_11]
         show GoR _ _ _ _ _ _ _ _ _ _)
      | refine Go.condT (by rfl) ?_
      | refine Go.condF (by rfl) ?_
      | refine GoR.skipG (by decide) rfl rfl ?_
      | (refine GoR.splitG rfl (fun hc => ?_) (fun hc => ?_) <;> simp only [hc])
      | refine Go.condB rfl (fun hc => ?_) (fun hc => ?_))
    · have h2 : j < l.length := by simpa using hc
      have h3 : j < 4611686018427387904 := by simp at hl; omega
      repeat' (first
        | refine Go.seq ?_
        | refine Go.rg ?_
        | refine GoR.nil ?_
        | refine Go.skip ?_
        | refine Go.ret ?_
        | refine Go.block ?_
        | refine Go.exit ?_
        | refine Go.blkX ?_
        | refine Go.blkN ?_
        | refine Go.passX ?_
        | refine Go.lpX ?_
        | (refine Go.blkE (by decide) ?_)
        | (refine Go.rgS dmx (by decide) ?_)
        | ((first | refine GoR.op (by decide) (by rfl) ?_ | refine GoR.opG (by decide) (by rfl) (by rfl) ?_)
           conv => arg 1; simp only [G, Z, Y, un_neg, Int.reduceEq, Int.reduceLE, cutD, Nat.reduceBEq, Nat.reduceAdd, Nat.reduceMul, Nat.reduceSub, Nat.reducePow, Nat.reduceLT, Nat.reduceGT, Nat.reduceLeDiff, Nat.reduceEqDiff, Int.reduceToNat, gt_iff_lt, if_true, if_false, beq_self_eq_true, reduceIte, decide_true, decide_false, fd2_0, fd2_1, fd2_2, fd2_3, fd2_4, fd2_5, fd2_6, fd2_7, fd2_8, fd2_9, fd3_0, fd3_1, fd3_2, fd3_3, fd3_4, fd3_5, fd3_6, fd3_7, fd3_8, fd3_9, fd5_0, fd5_1, fd5_2, fd5_3, fd5_4, fd5_5, fd5_6, fd5_7, fd5_8, fd5_9, fd9_0, fd9_1, fd9_2, fd9_3, fd9_4, fd9_5, fd9_6, fd9_7, fd43_0, fd43_1, fd43_2, fd43_3, fd43_4, fd43_5, fd43_6, fd43_7, fd43_8, fd43_9, fd43_10, fd43_11, fd43_12, fd43_13, fd43_14, fd43_15, fd43_16, fd43_17, fd43_18, fd43_19, fd43_20, fd43_21, fd43_22, fd43_23, fd68_0, fd68_1, fd68_2, fd68_3, fd68_4, fd68_5, fd68_6, fd68_7, fd68_8, fd68_9, fd68_10, fd68_11, intsAt h2, intsAt (show j - 1 < l.length by omega), pred_cast hj h3, wrap_succ h3]
           show GoR _ _ _ _ _ _ _ _ _ _)
        | refine Go.condT (by rfl) ?_
        | refine Go.condF (by rfl) ?_
        | refine GoR.skipG (by decide) rfl rfl ?_
        | (refine GoR.splitG rfl (fun hc => ?_) (fun hc => ?_) <;> simp only [hc])
        | refine Go.condB rfl (fun hc => ?_) (fun hc => ?_))
      all_goals first
        | (refine Go.lpN ?_
           refine Go.keep [(1, .ptr S.length 0), (4, .int .i64 ((j + 1 : Nat) : Int))] (.cons .refl (.cons .refl (.nil))) ?_
           exact next (j + 1) (by omega) (by omega))
        | (clear next
           refine ⟨(by first | exact .inl rfl | exact .inr rfl), fin ?_⟩
           rw [resD_tmp (fn := Try.f45) rfl]
           simp only [optThen_some, resultD_tmp, resultD_cell, G, Z, Y, un_neg, Int.reduceEq, Int.reduceLE, cutD, Nat.reduceBEq, Nat.reduceAdd, Nat.reduceMul, Nat.reduceSub, Nat.reducePow, Nat.reduceLT, Nat.reduceGT, Nat.reduceLeDiff, Nat.reduceEqDiff, Int.reduceToNat, gt_iff_lt, if_true, if_false, beq_self_eq_true, reduceIte, decide_true, decide_false, fd2_0, fd2_1, fd2_2, fd2_3, fd2_4, fd2_5, fd2_6, fd2_7, fd2_8, fd2_9, fd3_0, fd3_1, fd3_2, fd3_3, fd3_4, fd3_5, fd3_6, fd3_7, fd3_8, fd3_9, fd5_0, fd5_1, fd5_2, fd5_3, fd5_4, fd5_5, fd5_6, fd5_7, fd5_8, fd5_9, fd9_0, fd9_1, fd9_2, fd9_3, fd9_4, fd9_5, fd9_6, fd9_7, fd43_0, fd43_1, fd43_2, fd43_3, fd43_4, fd43_5, fd43_6, fd43_7, fd43_8, fd43_9, fd43_10, fd43_11, fd43_12, fd43_13, fd43_14, fd43_15, fd43_16, fd43_17, fd43_18, fd43_19, fd43_20, fd43_21, fd43_22, fd43_23, fd68_0, fd68_1, fd68_2, fd68_3, fd68_4, fd68_5, fd68_6, fd68_7, fd68_8, fd68_9, fd68_10, fd68_11]
           exact ⟨_, _, rfl, .int, _, rfl⟩)
    · clear next
      refine ⟨(by first | exact .inl rfl | exact .inr rfl), fin ?_⟩
      rw [resD_tmp (fn := Try.f45) rfl]
      simp only [optThen_some, resultD_tmp, resultD_cell, G, Z, Y, un_neg, Int.reduceEq, Int.reduceLE, cutD, Nat.reduceBEq, Nat.reduceAdd, Nat.reduceMul, Nat.reduceSub, Nat.reducePow, Nat.reduceLT, Nat.reduceGT, Nat.reduceLeDiff, Nat.reduceEqDiff, Int.reduceToNat, gt_iff_lt, if_true, if_false, beq_self_eq_true, reduceIte, decide_true, decide_false, fd2_0, fd2_1, fd2_2, fd2_3, fd2_4, fd2_5, fd2_6, fd2_7, fd2_8, fd2_9, fd3_0, fd3_1, fd3_2, fd3_3, fd3_4, fd3_5, fd3_6, fd3_7, fd3_8, fd3_9, fd5_0, fd5_1, fd5_2, fd5_3, fd5_4, fd5_5, fd5_6, fd5_7, fd5_8, fd5_9, fd9_0, fd9_1, fd9_2, fd9_3, fd9_4, fd9_5, fd9_6, fd9_7, fd43_0, fd43_1, fd43_2, fd43_3, fd43_4, fd43_5, fd43_6, fd43_7, fd43_8, fd43_9, fd43_10, fd43_11, fd43_12, fd43_13, fd43_14, fd43_15, fd43_16, fd43_17, fd43_18, fd43_19, fd43_20, fd43_21, fd43_22, fd43_23, fd68_0, fd68_1, fd68_2, fd68_3, fd68_4, fd68_5, fd68_6, fd68_7, fd68_8, fd68_9, fd68_10, fd68_11]
      exact ⟨_, _, rfl, .int, _, rfl⟩

def rowC (l : List Att) : List D := [.str (⟨#[107]⟩ : ByteArray), .int .i64 0, .int .i64 0, .int .i64 0, .str (⟨#[47, 97]⟩ : ByteArray), .sl none 5 l.length (attsC l)]
theorem refCheck (l : List Att) (hl : ∀ a ∈ l, a.n.size < 1000 ∧ a.v.s.size < 1000 ∧ a.v.l.length < 1000) (h40 : l.length ≤ 1000) (S : Mem) :
    CallD Try.prog O 22 [.agg (rowC l)] S fun d S' => S' = S ∧ ∃ e, d = .int .i64 e ∧ (e = 0 → l.length ≤ 32 ∧ RiseB Att.n l) := by
  simp only [rowC]
  refine CallD.drop ?_
  refine CallD.body Try.func22 rfl (by simp [Try.ntmps22]) ?_
  rw [Try.ntmps22]
  repeat' (first
    | refine Go.seq ?_
    | refine Go.rg ?_
    | refine GoR.nil ?_
    | refine Go.skip ?_
    | refine Go.ret ?_
    | refine Go.block ?_
    | refine Go.exit ?_
    | refine Go.blkX ?_
    | refine Go.blkN ?_
    | refine Go.passX ?_
    | refine Go.lpX ?_
    | (refine Go.blkE (by decide) ?_)
    | (refine Go.rgS dmx (by decide) ?_)
    | ((first | refine GoR.op (by decide) (by rfl) ?_ | refine GoR.opG (by decide) (by rfl) (by rfl) ?_)
       conv => arg 1; simp only [G, Z, Y, un_neg, Int.reduceEq, Int.reduceLE, cutD, Nat.reduceBEq, Nat.reduceAdd, Nat.reduceMul, Nat.reduceSub, Nat.reducePow, Nat.reduceLT, Nat.reduceGT, Nat.reduceLeDiff, Nat.reduceEqDiff, Int.reduceToNat, gt_iff_lt, if_true, if_false, beq_self_eq_true, reduceIte, decide_true, decide_false, fd2_0, fd2_1, fd2_2, fd2_3, fd2_4, fd2_5, fd2_6, fd2_7, fd2_8, fd2_9, fd3_0, fd3_1, fd3_2, fd3_3, fd3_4, fd3_5, fd3_6, fd3_7, fd3_8, fd3_9, fd9_0, fd9_1, fd9_2, fd9_3, fd9_4, fd9_5, fd9_6, fd9_7, fd37_0, fd37_1, fd37_2, fd37_3, fd37_4, fd37_5, fd37_6, fd37_7, fd37_8, fd37_9, fd37_10, fd37_11, fd37_12, fd37_13, fd37_14, fd37_15, fd37_16, fd37_17, fd37_18, fd37_19, fd37_20, fd37_21, fd37_22, fd37_23, fd43_0, fd43_1, fd43_2, fd43_3, fd43_4, fd43_5, fd43_6, fd43_7, fd43_8, fd43_9, fd43_10, fd43_11, fd43_12, fd43_13, fd43_14, fd43_15, fd43_16, fd43_17, fd43_18, fd43_19, fd43_20, fd43_21, fd43_22, fd43_23, fd57_0, fd57_1, fd57_2, fd57_3, fd57_4, fd57_5, fd57_6, fd57_7, fd57_8, fd57_9, fd57_10, fd57_11, fd59_0, fd59_1, fd59_2, fd59_3, fd59_4, fd59_5, fd59_6, fd59_7, fd59_8, fd59_9, fd68_0, fd68_1, fd68_2, fd68_3, fd68_4, fd68_5, fd68_6, fd68_7, fd68_8, fd68_9, fd68_10, fd68_11, fd74_0, fd74_1, fd74_2, fd74_3, fd74_4, fd74_5, fd74_6, fd74_7, show nameOk (⟨#[107]⟩ : ByteArray) = true by decide]
       show GoR _ _ _ _ _ _ _ _ _ _)
    | ((first | refine GoR.call (f := 42) (by decide) (by rfl) rfl Try.func42 (by decide) (by rfl) ?_ | refine GoR.callG (f := 42) (by decide) (by rfl) (by rfl) rfl Try.func42 (by decide) (by rfl) ?_)
       (refine (refName _ (by decide) _).ret ?_))
    | ((first | refine GoR.call (f := 44) (by decide) (by rfl) rfl Try.func44 (by decide) (by rfl) ?_ | refine GoR.callG (f := 44) (by decide) (by rfl) (by rfl) rfl Try.func44 (by decide) (by rfl) ?_)
       (refine (checkStampA _).ret ?_))
    | refine Go.condT (by rfl) ?_
    | refine Go.condF (by rfl) ?_
    | refine GoR.skipG (by decide) rfl rfl ?_
    | (refine GoR.splitG rfl (fun hc => ?_) (fun hc => ?_) <;> simp only [hc])
    | refine Go.condB rfl (fun hc => ?_) (fun hc => ?_))
  · refine ⟨(by first | exact .inl rfl | exact .inr rfl), fin ?_⟩
    rw [resD_tmp (fn := Try.f22) rfl]
    simp only [optThen_some, resultD_tmp, resultD_cell, G, Z, Y, un_neg, Int.reduceEq, Int.reduceLE, cutD, Nat.reduceBEq, Nat.reduceAdd, Nat.reduceMul, Nat.reduceSub, Nat.reducePow, Nat.reduceLT, Nat.reduceGT, Nat.reduceLeDiff, Nat.reduceEqDiff, Int.reduceToNat, gt_iff_lt, if_true, if_false, beq_self_eq_true, reduceIte, decide_true, decide_false, fd2_0, fd2_1, fd2_2, fd2_3, fd2_4, fd2_5, fd2_6, fd2_7, fd2_8, fd2_9, fd3_0, fd3_1, fd3_2, fd3_3, fd3_4, fd3_5, fd3_6, fd3_7, fd3_8, fd3_9, fd9_0, fd9_1, fd9_2, fd9_3, fd9_4, fd9_5, fd9_6, fd9_7, fd37_0, fd37_1, fd37_2, fd37_3, fd37_4, fd37_5, fd37_6, fd37_7, fd37_8, fd37_9, fd37_10, fd37_11, fd37_12, fd37_13, fd37_14, fd37_15, fd37_16, fd37_17, fd37_18, fd37_19, fd37_20, fd37_21, fd37_22, fd37_23, fd43_0, fd43_1, fd43_2, fd43_3, fd43_4, fd43_5, fd43_6, fd43_7, fd43_8, fd43_9, fd43_10, fd43_11, fd43_12, fd43_13, fd43_14, fd43_15, fd43_16, fd43_17, fd43_18, fd43_19, fd43_20, fd43_21, fd43_22, fd43_23, fd57_0, fd57_1, fd57_2, fd57_3, fd57_4, fd57_5, fd57_6, fd57_7, fd57_8, fd57_9, fd57_10, fd57_11, fd59_0, fd59_1, fd59_2, fd59_3, fd59_4, fd59_5, fd59_6, fd59_7, fd59_8, fd59_9, fd68_0, fd68_1, fd68_2, fd68_3, fd68_4, fd68_5, fd68_6, fd68_7, fd68_8, fd68_9, fd68_10, fd68_11, fd74_0, fd74_1, fd74_2, fd74_3, fd74_4, fd74_5, fd74_6, fd74_7]
    exact ⟨_, _, rfl, .int, _, rfl, by omega⟩
  · have h32 : l.length ≤ 32 := by simp at hc; omega
    refine Go.keep [(1, .ptr S.length 0), (4, .int .i64 ((0 : Nat) : Int))] (.cons .refl (.cons .refl (.nil))) ?_
    refine Go.while (α := Nat) (fun i => l.length - i) (fun j => [(1, .ptr S.length 0), (4, .int .i64 (j : Int))]) (fun _ => S ++ [.obj (rowC l)]) (fun i => i ≤ l.length ∧ ∀ j (h : j < l.length), j < i → ∀ h0 : 0 < j, ltB (l[j - 1]'(by omega)).n l[j].n = true) ?_ 0 ⟨Nat.zero_le _, by simp⟩
    rintro i ⟨hi, hk⟩ next
    simp only [rowC]
    repeat' (first
      | refine Go.seq ?_
      | refine Go.rg ?_
      | refine GoR.nil ?_
      | refine Go.skip ?_
      | refine Go.ret ?_
      | refine Go.block ?_
      | refine Go.exit ?_
      | refine Go.blkX ?_
      | refine Go.blkN ?_
      | refine Go.passX ?_
      | refine Go.lpX ?_
      | (refine Go.blkE (by decide) ?_)
      | (refine Go.rgS dmx (by decide) ?_)
      | ((first | refine GoR.op (by decide) (by rfl) ?_ | refine GoR.opG (by decide) (by rfl) (by rfl) ?_)
         conv => arg 1; simp only [G, Z, Y, un_neg, Int.reduceEq, Int.reduceLE, cutD, Nat.reduceBEq, Nat.reduceAdd, Nat.reduceMul, Nat.reduceSub, Nat.reducePow, Nat.reduceLT, Nat.reduceGT, Nat.reduceLeDiff, Nat.reduceEqDiff, Int.reduceToNat, gt_iff_lt, if_true, if_false, beq_self_eq_true, reduceIte, decide_true, decide_false, fd2_0, fd2_1, fd2_2, fd2_3, fd2_4, fd2_5, fd2_6, fd2_7, fd2_8, fd2_9, fd3_0, fd3_1, fd3_2, fd3_3, fd3_4, fd3_5, fd3_6, fd3_7, fd3_8, fd3_9, fd9_0, fd9_1, fd9_2, fd9_3, fd9_4, fd9_5, fd9_6, fd9_7, fd37_0, fd37_1, fd37_2, fd37_3, fd37_4, fd37_5, fd37_6, fd37_7, fd37_8, fd37_9, fd37_10, fd37_11, fd37_12, fd37_13, fd37_14, fd37_15, fd37_16, fd37_17, fd37_18, fd37_19, fd37_20, fd37_21, fd37_22, fd37_23, fd43_0, fd43_1, fd43_2, fd43_3, fd43_4, fd43_5, fd43_6, fd43_7, fd43_8, fd43_9, fd43_10, fd43_11, fd43_12, fd43_13, fd43_14, fd43_15, fd43_16, fd43_17, fd43_18, fd43_19, fd43_20, fd43_21, fd43_22, fd43_23, fd57_0, fd57_1, fd57_2, fd57_3, fd57_4, fd57_5, fd57_6, fd57_7, fd57_8, fd57_9, fd57_10, fd57_11, fd59_0, fd59_1, fd59_2, fd59_3, fd59_4, fd59_5, fd59_6, fd59_7, fd59_8, fd59_9, fd68_0, fd68_1, fd68_2, fd68_3, fd68_4, fd68_5, fd68_6, fd68_7, fd68_8, fd68_9, fd68_10, fd68_11, fd74_0, fd74_1, fd74_2, fd74_3, fd74_4, fd74_5, fd74_6, fd74_7]
         show GoR _ _ _ _ _ _ _ _ _ _)
      | refine Go.condT (by rfl) ?_
      | refine Go.condF (by rfl) ?_
      | refine GoR.skipG (by decide) rfl rfl ?_
      | (refine GoR.splitG rfl (fun hc => ?_) (fun hc => ?_) <;> simp only [hc])
      | refine Go.condB rfl (fun hc => ?_) (fun hc => ?_))
    · have h2 : i < l.length := by simpa using hc
      obtain ⟨b1, b2, b3⟩ := hl l[i] (List.getElem_mem _)
      by_cases h0 : i = 0
      · repeat' (first
          | refine Go.seq ?_
          | refine Go.rg ?_
          | refine GoR.nil ?_
          | refine Go.skip ?_
          | refine Go.ret ?_
          | refine Go.block ?_
          | refine Go.exit ?_
          | refine Go.blkX ?_
          | refine Go.blkN ?_
          | refine Go.passX ?_
          | refine Go.lpX ?_
          | (refine Go.blkE (by decide) ?_)
          | (refine Go.rgS dmx (by decide) ?_)
          | ((first | refine GoR.op (by decide) (by rfl) ?_ | refine GoR.opG (by decide) (by rfl) (by rfl) ?_)
             conv => arg 1; simp only [G, Z, Y, un_neg, Int.reduceEq, Int.reduceLE, cutD, Nat.reduceBEq, Nat.reduceAdd, Nat.reduceMul, Nat.reduceSub, Nat.reducePow, Nat.reduceLT, Nat.reduceGT, Nat.reduceLeDiff, Nat.reduceEqDiff, Int.reduceToNat, gt_iff_lt, if_true, if_false, beq_self_eq_true, reduceIte, decide_true, decide_false, fd2_0, fd2_1, fd2_2, fd2_3, fd2_4, fd2_5, fd2_6, fd2_7, fd2_8, fd2_9, fd3_0, fd3_1, fd3_2, fd3_3, fd3_4, fd3_5, fd3_6, fd3_7, fd3_8, fd3_9, fd9_0, fd9_1, fd9_2, fd9_3, fd9_4, fd9_5, fd9_6, fd9_7, fd37_0, fd37_1, fd37_2, fd37_3, fd37_4, fd37_5, fd37_6, fd37_7, fd37_8, fd37_9, fd37_10, fd37_11, fd37_12, fd37_13, fd37_14, fd37_15, fd37_16, fd37_17, fd37_18, fd37_19, fd37_20, fd37_21, fd37_22, fd37_23, fd43_0, fd43_1, fd43_2, fd43_3, fd43_4, fd43_5, fd43_6, fd43_7, fd43_8, fd43_9, fd43_10, fd43_11, fd43_12, fd43_13, fd43_14, fd43_15, fd43_16, fd43_17, fd43_18, fd43_19, fd43_20, fd43_21, fd43_22, fd43_23, fd57_0, fd57_1, fd57_2, fd57_3, fd57_4, fd57_5, fd57_6, fd57_7, fd57_8, fd57_9, fd57_10, fd57_11, fd59_0, fd59_1, fd59_2, fd59_3, fd59_4, fd59_5, fd59_6, fd59_7, fd59_8, fd59_9, fd68_0, fd68_1, fd68_2, fd68_3, fd68_4, fd68_5, fd68_6, fd68_7, fd68_8, fd68_9, fd68_10, fd68_11, fd74_0, fd74_1, fd74_2, fd74_3, fd74_4, fd74_5, fd74_6, fd74_7, attsAt h2, wrap_succ (show i < 4611686018427387904 by omega), show (decide (0 < (i : Int))) = false by simp [h0]]
             show GoR _ _ _ _ _ _ _ _ _ _)
          | ((first | refine GoR.call (f := 45) (by decide) (by rfl) rfl Try.func45 (by decide) (by rfl) ?_ | refine GoR.callG (f := 45) (by decide) (by rfl) (by rfl) rfl Try.func45 (by decide) (by rfl) ?_)
             (refine (checkValue _ (by omega) (by omega) _).retE ?_; rintro _ ⟨e, rfl⟩))
          | ((first | refine GoR.call (f := 42) (by decide) (by rfl) rfl Try.func42 (by decide) (by rfl) ?_ | refine GoR.callG (f := 42) (by decide) (by rfl) (by rfl) rfl Try.func42 (by decide) (by rfl) ?_)
             (refine (refName _ (by omega) _).ret ?_))
          | refine Go.condT (by rfl) ?_
          | refine Go.condF (by rfl) ?_
          | refine GoR.skipG (by decide) rfl rfl ?_
          | (refine GoR.splitG rfl (fun hc => ?_) (fun hc => ?_) <;> simp only [hc])
          | refine Go.condB rfl (fun hc => ?_) (fun hc => ?_))
        all_goals first
          | (refine Go.lpN ?_
             refine Go.keep [(1, .ptr S.length 0), (4, .int .i64 ((i + 1 : Nat) : Int))] (.cons .refl (.cons .refl (.nil))) ?_
             exact next (i + 1) (by omega) ⟨h2, fun j hj hlt hj0 => by omega⟩)
          | (clear next
             refine ⟨(by first | exact .inl rfl | exact .inr rfl), fin ?_⟩
             rw [resD_tmp (fn := Try.f22) rfl]
             simp only [optThen_some, resultD_tmp, resultD_cell, G, Z, Y, un_neg, Int.reduceEq, Int.reduceLE, cutD, Nat.reduceBEq, Nat.reduceAdd, Nat.reduceMul, Nat.reduceSub, Nat.reducePow, Nat.reduceLT, Nat.reduceGT, Nat.reduceLeDiff, Nat.reduceEqDiff, Int.reduceToNat, gt_iff_lt, if_true, if_false, beq_self_eq_true, reduceIte, decide_true, decide_false, fd2_0, fd2_1, fd2_2, fd2_3, fd2_4, fd2_5, fd2_6, fd2_7, fd2_8, fd2_9, fd3_0, fd3_1, fd3_2, fd3_3, fd3_4, fd3_5, fd3_6, fd3_7, fd3_8, fd3_9, fd9_0, fd9_1, fd9_2, fd9_3, fd9_4, fd9_5, fd9_6, fd9_7, fd37_0, fd37_1, fd37_2, fd37_3, fd37_4, fd37_5, fd37_6, fd37_7, fd37_8, fd37_9, fd37_10, fd37_11, fd37_12, fd37_13, fd37_14, fd37_15, fd37_16, fd37_17, fd37_18, fd37_19, fd37_20, fd37_21, fd37_22, fd37_23, fd43_0, fd43_1, fd43_2, fd43_3, fd43_4, fd43_5, fd43_6, fd43_7, fd43_8, fd43_9, fd43_10, fd43_11, fd43_12, fd43_13, fd43_14, fd43_15, fd43_16, fd43_17, fd43_18, fd43_19, fd43_20, fd43_21, fd43_22, fd43_23, fd57_0, fd57_1, fd57_2, fd57_3, fd57_4, fd57_5, fd57_6, fd57_7, fd57_8, fd57_9, fd57_10, fd57_11, fd59_0, fd59_1, fd59_2, fd59_3, fd59_4, fd59_5, fd59_6, fd59_7, fd59_8, fd59_9, fd68_0, fd68_1, fd68_2, fd68_3, fd68_4, fd68_5, fd68_6, fd68_7, fd68_8, fd68_9, fd68_10, fd68_11, fd74_0, fd74_1, fd74_2, fd74_3, fd74_4, fd74_5, fd74_6, fd74_7]
             refine ⟨_, _, rfl, .int, _, rfl, ?_⟩
             intro he
             simp_all)
      · repeat' (first
          | refine Go.seq ?_
          | refine Go.rg ?_
          | refine GoR.nil ?_
          | refine Go.skip ?_
          | refine Go.ret ?_
          | refine Go.block ?_
          | refine Go.exit ?_
          | refine Go.blkX ?_
          | refine Go.blkN ?_
          | refine Go.passX ?_
          | refine Go.lpX ?_
          | (refine Go.blkE (by decide) ?_)
          | (refine Go.rgS dmx (by decide) ?_)
          | ((first | refine GoR.op (by decide) (by rfl) ?_ | refine GoR.opG (by decide) (by rfl) (by rfl) ?_)
             conv => arg 1; simp only [G, Z, Y, un_neg, Int.reduceEq, Int.reduceLE, cutD, Nat.reduceBEq, Nat.reduceAdd, Nat.reduceMul, Nat.reduceSub, Nat.reducePow, Nat.reduceLT, Nat.reduceGT, Nat.reduceLeDiff, Nat.reduceEqDiff, Int.reduceToNat, gt_iff_lt, if_true, if_false, beq_self_eq_true, reduceIte, decide_true, decide_false, fd2_0, fd2_1, fd2_2, fd2_3, fd2_4, fd2_5, fd2_6, fd2_7, fd2_8, fd2_9, fd3_0, fd3_1, fd3_2, fd3_3, fd3_4, fd3_5, fd3_6, fd3_7, fd3_8, fd3_9, fd9_0, fd9_1, fd9_2, fd9_3, fd9_4, fd9_5, fd9_6, fd9_7, fd37_0, fd37_1, fd37_2, fd37_3, fd37_4, fd37_5, fd37_6, fd37_7, fd37_8, fd37_9, fd37_10, fd37_11, fd37_12, fd37_13, fd37_14, fd37_15, fd37_16, fd37_17, fd37_18, fd37_19, fd37_20, fd37_21, fd37_22, fd37_23, fd43_0, fd43_1, fd43_2, fd43_3, fd43_4, fd43_5, fd43_6, fd43_7, fd43_8, fd43_9, fd43_10, fd43_11, fd43_12, fd43_13, fd43_14, fd43_15, fd43_16, fd43_17, fd43_18, fd43_19, fd43_20, fd43_21, fd43_22, fd43_23, fd57_0, fd57_1, fd57_2, fd57_3, fd57_4, fd57_5, fd57_6, fd57_7, fd57_8, fd57_9, fd57_10, fd57_11, fd59_0, fd59_1, fd59_2, fd59_3, fd59_4, fd59_5, fd59_6, fd59_7, fd59_8, fd59_9, fd68_0, fd68_1, fd68_2, fd68_3, fd68_4, fd68_5, fd68_6, fd68_7, fd68_8, fd68_9, fd68_10, fd68_11, fd74_0, fd74_1, fd74_2, fd74_3, fd74_4, fd74_5, fd74_6, fd74_7, attsAt h2, attsAt (show i - 1 < l.length by omega), pred_cast (show 0 < i by omega) (show i < 4611686018427387904 by omega), wrap_succ (show i < 4611686018427387904 by omega), show (decide (0 < (i : Int))) = true by simp; omega]
             show GoR _ _ _ _ _ _ _ _ _ _)
          | ((first | refine GoR.call (f := 45) (by decide) (by rfl) rfl Try.func45 (by decide) (by rfl) ?_ | refine GoR.callG (f := 45) (by decide) (by rfl) (by rfl) rfl Try.func45 (by decide) (by rfl) ?_)
             (refine (checkValue _ (by omega) (by omega) _).retE ?_; rintro _ ⟨e, rfl⟩))
          | ((first | refine GoR.call (f := 42) (by decide) (by rfl) rfl Try.func42 (by decide) (by rfl) ?_ | refine GoR.callG (f := 42) (by decide) (by rfl) (by rfl) rfl Try.func42 (by decide) (by rfl) ?_)
             (refine (refName _ (by omega) _).ret ?_))
          | refine Go.condT (by rfl) ?_
          | refine Go.condF (by rfl) ?_
          | refine GoR.skipG (by decide) rfl rfl ?_
          | (refine GoR.splitG rfl (fun hc => ?_) (fun hc => ?_) <;> simp only [hc])
          | refine Go.condB rfl (fun hc => ?_) (fun hc => ?_))
        all_goals first
          | (refine Go.lpN ?_
             refine Go.keep [(1, .ptr S.length 0), (4, .int .i64 ((i + 1 : Nat) : Int))] (.cons .refl (.cons .refl (.nil))) ?_
             refine next (i + 1) (by omega) ⟨h2, fun j hj hlt hj0 => ?_⟩
             clear next
             rcases Nat.lt_or_ge j i with h | h
             · exact hk j hj h hj0
             · obtain rfl : j = i := by omega
               clear hk
               unfold ltB
               simp_all)
          | (clear next
             refine ⟨(by first | exact .inl rfl | exact .inr rfl), fin ?_⟩
             rw [resD_tmp (fn := Try.f22) rfl]
             simp only [optThen_some, resultD_tmp, resultD_cell, G, Z, Y, un_neg, Int.reduceEq, Int.reduceLE, cutD, Nat.reduceBEq, Nat.reduceAdd, Nat.reduceMul, Nat.reduceSub, Nat.reducePow, Nat.reduceLT, Nat.reduceGT, Nat.reduceLeDiff, Nat.reduceEqDiff, Int.reduceToNat, gt_iff_lt, if_true, if_false, beq_self_eq_true, reduceIte, decide_true, decide_false, fd2_0, fd2_1, fd2_2, fd2_3, fd2_4, fd2_5, fd2_6, fd2_7, fd2_8, fd2_9, fd3_0, fd3_1, fd3_2, fd3_3, fd3_4, fd3_5, fd3_6, fd3_7, fd3_8, fd3_9, fd9_0, fd9_1, fd9_2, fd9_3, fd9_4, fd9_5, fd9_6, fd9_7, fd37_0, fd37_1, fd37_2, fd37_3, fd37_4, fd37_5, fd37_6, fd37_7, fd37_8, fd37_9, fd37_10, fd37_11, fd37_12, fd37_13, fd37_14, fd37_15, fd37_16, fd37_17, fd37_18, fd37_19, fd37_20, fd37_21, fd37_22, fd37_23, fd43_0, fd43_1, fd43_2, fd43_3, fd43_4, fd43_5, fd43_6, fd43_7, fd43_8, fd43_9, fd43_10, fd43_11, fd43_12, fd43_13, fd43_14, fd43_15, fd43_16, fd43_17, fd43_18, fd43_19, fd43_20, fd43_21, fd43_22, fd43_23, fd57_0, fd57_1, fd57_2, fd57_3, fd57_4, fd57_5, fd57_6, fd57_7, fd57_8, fd57_9, fd57_10, fd57_11, fd59_0, fd59_1, fd59_2, fd59_3, fd59_4, fd59_5, fd59_6, fd59_7, fd59_8, fd59_9, fd68_0, fd68_1, fd68_2, fd68_3, fd68_4, fd68_5, fd68_6, fd68_7, fd68_8, fd68_9, fd68_10, fd68_11, fd74_0, fd74_1, fd74_2, fd74_3, fd74_4, fd74_5, fd74_6, fd74_7]
             refine ⟨_, _, rfl, .int, _, rfl, ?_⟩
             intro he
             clear hk
             simp_all)
    · clear next
      refine ⟨(by first | exact .inl rfl | exact .inr rfl), fin ?_⟩
      rw [resD_tmp (fn := Try.f22) rfl]
      simp only [optThen_some, resultD_tmp, resultD_cell, G, Z, Y, un_neg, Int.reduceEq, Int.reduceLE, cutD, Nat.reduceBEq, Nat.reduceAdd, Nat.reduceMul, Nat.reduceSub, Nat.reducePow, Nat.reduceLT, Nat.reduceGT, Nat.reduceLeDiff, Nat.reduceEqDiff, Int.reduceToNat, gt_iff_lt, if_true, if_false, beq_self_eq_true, reduceIte, decide_true, decide_false, fd2_0, fd2_1, fd2_2, fd2_3, fd2_4, fd2_5, fd2_6, fd2_7, fd2_8, fd2_9, fd3_0, fd3_1, fd3_2, fd3_3, fd3_4, fd3_5, fd3_6, fd3_7, fd3_8, fd3_9, fd9_0, fd9_1, fd9_2, fd9_3, fd9_4, fd9_5, fd9_6, fd9_7, fd37_0, fd37_1, fd37_2, fd37_3, fd37_4, fd37_5, fd37_6, fd37_7, fd37_8, fd37_9, fd37_10, fd37_11, fd37_12, fd37_13, fd37_14, fd37_15, fd37_16, fd37_17, fd37_18, fd37_19, fd37_20, fd37_21, fd37_22, fd37_23, fd43_0, fd43_1, fd43_2, fd43_3, fd43_4, fd43_5, fd43_6, fd43_7, fd43_8, fd43_9, fd43_10, fd43_11, fd43_12, fd43_13, fd43_14, fd43_15, fd43_16, fd43_17, fd43_18, fd43_19, fd43_20, fd43_21, fd43_22, fd43_23, fd57_0, fd57_1, fd57_2, fd57_3, fd57_4, fd57_5, fd57_6, fd57_7, fd57_8, fd57_9, fd57_10, fd57_11, fd59_0, fd59_1, fd59_2, fd59_3, fd59_4, fd59_5, fd59_6, fd59_7, fd59_8, fd59_9, fd68_0, fd68_1, fd68_2, fd68_3, fd68_4, fd68_5, fd68_6, fd68_7, fd68_8, fd68_9, fd68_10, fd68_11, fd74_0, fd74_1, fd74_2, fd74_3, fd74_4, fd74_5, fd74_6, fd74_7]
      refine ⟨_, _, rfl, .int, _, rfl, fun _ => ⟨h32, fun j hj => ?_⟩⟩
      have := hk (j + 1) hj (by simp at hc; omega) (by omega)
      simpa using this

theorem good (l : List Att) (S : Mem) : CallD Try.prog O 10 [.sl none 5 l.length (attsC l)] S fun d S' => S' = S ∧ ∃ b, d = .bool b ∧ (b = true → l.length ≤ 32 ∧ RiseB Att.n l ∧ ∀ a ∈ l, a.v.l.length < 1000000) := by
  refine CallD.drop ?_
  refine CallD.body Try.func10 rfl (by simp [Try.ntmps10]) ?_
  rw [Try.ntmps10]
  by_cases hf : (decide (l.length ≤ 40) && l.all fewA) = true
  · have hf2 := hf
    simp only [Bool.and_eq_true, decide_eq_true_eq, List.all_eq_true] at hf2
    obtain ⟨h40, hall⟩ := hf2
    have hl : ∀ a ∈ l, a.n.size < 1000 ∧ a.v.s.size < 1000 ∧ a.v.l.length < 1000 := by
      intro a ha
      have := hall a ha
      simp [fewA, fewV] at this
      omega
    repeat' (first
      | refine Go.seq ?_
      | refine Go.rg ?_
      | refine GoR.nil ?_
      | refine Go.skip ?_
      | refine Go.ret ?_
      | refine Go.block ?_
      | refine Go.exit ?_
      | refine Go.blkX ?_
      | refine Go.blkN ?_
      | refine Go.passX ?_
      | refine Go.lpX ?_
      | (refine Go.blkE (by decide) ?_)
      | (refine Go.rgS dmx (by decide) ?_)
      | ((first | refine GoR.op (by decide) (by rfl) ?_ | refine GoR.opG (by decide) (by rfl) (by rfl) ?_)
         conv => arg 1; simp only [G, Z, Y, un_neg, Int.reduceEq, Int.reduceLE, cutD, Nat.reduceBEq, Nat.reduceAdd, Nat.reduceMul, Nat.reduceSub, Nat.reducePow, Nat.reduceLT, Nat.reduceGT, Nat.reduceLeDiff, Nat.reduceEqDiff, Int.reduceToNat, gt_iff_lt, if_true, if_false, beq_self_eq_true, reduceIte, decide_true, decide_false, fd2_0, fd2_1, fd2_2, fd2_3, fd2_4, fd2_5, fd2_6, fd2_7, fd2_8, fd2_9, fd3_0, fd3_1, fd3_2, fd3_3, fd3_4, fd3_5, fd3_6, fd3_7, fd3_8, fd3_9, fd9_0, fd9_1, fd9_2, fd9_3, fd9_4, fd9_5, fd9_6, fd9_7, fd37_0, fd37_1, fd37_2, fd37_3, fd37_4, fd37_5, fd37_6, fd37_7, fd37_8, fd37_9, fd37_10, fd37_11, fd37_12, fd37_13, fd37_14, fd37_15, fd37_16, fd37_17, fd37_18, fd37_19, fd37_20, fd37_21, fd37_22, fd37_23, fd57_0, fd57_1, fd57_2, fd57_3, fd57_4, fd57_5, fd57_6, fd57_7, fd57_8, fd57_9, fd57_10, fd57_11, fd59_0, fd59_1, fd59_2, fd59_3, fd59_4, fd59_5, fd59_6, fd59_7, fd59_8, fd59_9, hf]
         show GoR _ _ _ _ _ _ _ _ _ _)
      | ((first | refine GoR.call (f := 21) (by decide) (by rfl) rfl Try.func21 (by decide) (by rfl) ?_ | refine GoR.callG (f := 21) (by decide) (by rfl) (by rfl) rfl Try.func21 (by decide) (by rfl) ?_)
         (refine (fewAttrs _ _).ret ?_))
      | ((first | refine GoR.call (f := 13) (by decide) (by rfl) rfl Try.func13 (by decide) (by rfl) ?_ | refine GoR.callG (f := 13) (by decide) (by rfl) (by rfl) rfl Try.func13 (by decide) (by rfl) ?_)
         (refine (ofAttrs _ (by omega) _).ret ?_))
      | ((first | refine GoR.call (f := 22) (by decide) (by rfl) rfl Try.func22 (by decide) (by rfl) ?_ | refine GoR.callG (f := 22) (by decide) (by rfl) (by rfl) rfl Try.func22 (by decide) (by rfl) ?_)
         (refine (refCheck l hl (by omega) _).retE ?_; rintro _ ⟨e, rfl, he⟩))
      | refine Go.condT (by rfl) ?_
      | refine Go.condF (by rfl) ?_
      | refine GoR.skipG (by decide) rfl rfl ?_
      | (refine GoR.splitG rfl (fun hc => ?_) (fun hc => ?_) <;> simp only [hc])
      | refine Go.condB rfl (fun hc => ?_) (fun hc => ?_))
    refine ⟨(by first | exact .inl rfl | exact .inr rfl), fin ?_⟩
    rw [resD_tmp (fn := Try.f10) rfl]
    simp only [optThen_some, resultD_tmp, resultD_cell, G, Z, Y, un_neg, Int.reduceEq, Int.reduceLE, cutD, Nat.reduceBEq, Nat.reduceAdd, Nat.reduceMul, Nat.reduceSub, Nat.reducePow, Nat.reduceLT, Nat.reduceGT, Nat.reduceLeDiff, Nat.reduceEqDiff, Int.reduceToNat, gt_iff_lt, if_true, if_false, beq_self_eq_true, reduceIte, decide_true, decide_false, fd2_0, fd2_1, fd2_2, fd2_3, fd2_4, fd2_5, fd2_6, fd2_7, fd2_8, fd2_9, fd3_0, fd3_1, fd3_2, fd3_3, fd3_4, fd3_5, fd3_6, fd3_7, fd3_8, fd3_9, fd9_0, fd9_1, fd9_2, fd9_3, fd9_4, fd9_5, fd9_6, fd9_7, fd37_0, fd37_1, fd37_2, fd37_3, fd37_4, fd37_5, fd37_6, fd37_7, fd37_8, fd37_9, fd37_10, fd37_11, fd37_12, fd37_13, fd37_14, fd37_15, fd37_16, fd37_17, fd37_18, fd37_19, fd37_20, fd37_21, fd37_22, fd37_23, fd57_0, fd57_1, fd57_2, fd57_3, fd57_4, fd57_5, fd57_6, fd57_7, fd57_8, fd57_9, fd57_10, fd57_11, fd59_0, fd59_1, fd59_2, fd59_3, fd59_4, fd59_5, fd59_6, fd59_7, fd59_8, fd59_9]
    refine ⟨_, [], by simp, .bool, _, rfl, fun h => ?_⟩
    obtain ⟨h1, h2⟩ := he (by simpa using h)
    exact ⟨h1, h2, fun a ha => by have := hl a ha; omega⟩
  · have hf3 : (decide (l.length ≤ 40) && l.all fewA) = false := by simpa using hf
    repeat' (first
      | refine Go.seq ?_
      | refine Go.rg ?_
      | refine GoR.nil ?_
      | refine Go.skip ?_
      | refine Go.ret ?_
      | refine Go.block ?_
      | refine Go.exit ?_
      | refine Go.blkX ?_
      | refine Go.blkN ?_
      | refine Go.passX ?_
      | refine Go.lpX ?_
      | (refine Go.blkE (by decide) ?_)
      | (refine Go.rgS dmx (by decide) ?_)
      | ((first | refine GoR.op (by decide) (by rfl) ?_ | refine GoR.opG (by decide) (by rfl) (by rfl) ?_)
         conv => arg 1; simp only [G, Z, Y, un_neg, Int.reduceEq, Int.reduceLE, cutD, Nat.reduceBEq, Nat.reduceAdd, Nat.reduceMul, Nat.reduceSub, Nat.reducePow, Nat.reduceLT, Nat.reduceGT, Nat.reduceLeDiff, Nat.reduceEqDiff, Int.reduceToNat, gt_iff_lt, if_true, if_false, beq_self_eq_true, reduceIte, decide_true, decide_false, fd2_0, fd2_1, fd2_2, fd2_3, fd2_4, fd2_5, fd2_6, fd2_7, fd2_8, fd2_9, fd3_0, fd3_1, fd3_2, fd3_3, fd3_4, fd3_5, fd3_6, fd3_7, fd3_8, fd3_9, fd9_0, fd9_1, fd9_2, fd9_3, fd9_4, fd9_5, fd9_6, fd9_7, fd37_0, fd37_1, fd37_2, fd37_3, fd37_4, fd37_5, fd37_6, fd37_7, fd37_8, fd37_9, fd37_10, fd37_11, fd37_12, fd37_13, fd37_14, fd37_15, fd37_16, fd37_17, fd37_18, fd37_19, fd37_20, fd37_21, fd37_22, fd37_23, fd57_0, fd57_1, fd57_2, fd57_3, fd57_4, fd57_5, fd57_6, fd57_7, fd57_8, fd57_9, fd57_10, fd57_11, fd59_0, fd59_1, fd59_2, fd59_3, fd59_4, fd59_5, fd59_6, fd59_7, fd59_8, fd59_9, hf3]
         show GoR _ _ _ _ _ _ _ _ _ _)
      | ((first | refine GoR.call (f := 21) (by decide) (by rfl) rfl Try.func21 (by decide) (by rfl) ?_ | refine GoR.callG (f := 21) (by decide) (by rfl) (by rfl) rfl Try.func21 (by decide) (by rfl) ?_)
         (refine (fewAttrs _ _).ret ?_))
      | refine Go.condT (by rfl) ?_
      | refine Go.condF (by rfl) ?_
      | refine GoR.skipG (by decide) rfl rfl ?_
      | (refine GoR.splitG rfl (fun hc => ?_) (fun hc => ?_) <;> simp only [hc])
      | refine Go.condB rfl (fun hc => ?_) (fun hc => ?_))
    refine ⟨(by first | exact .inl rfl | exact .inr rfl), fin ?_⟩
    rw [resD_tmp (fn := Try.f10) rfl]
    simp only [optThen_some, resultD_tmp, resultD_cell, G, Z, Y, un_neg, Int.reduceEq, Int.reduceLE, cutD, Nat.reduceBEq, Nat.reduceAdd, Nat.reduceMul, Nat.reduceSub, Nat.reducePow, Nat.reduceLT, Nat.reduceGT, Nat.reduceLeDiff, Nat.reduceEqDiff, Int.reduceToNat, gt_iff_lt, if_true, if_false, beq_self_eq_true, reduceIte, decide_true, decide_false, fd2_0, fd2_1, fd2_2, fd2_3, fd2_4, fd2_5, fd2_6, fd2_7, fd2_8, fd2_9, fd3_0, fd3_1, fd3_2, fd3_3, fd3_4, fd3_5, fd3_6, fd3_7, fd3_8, fd3_9, fd9_0, fd9_1, fd9_2, fd9_3, fd9_4, fd9_5, fd9_6, fd9_7, fd37_0, fd37_1, fd37_2, fd37_3, fd37_4, fd37_5, fd37_6, fd37_7, fd37_8, fd37_9, fd37_10, fd37_11, fd37_12, fd37_13, fd37_14, fd37_15, fd37_16, fd37_17, fd37_18, fd37_19, fd37_20, fd37_21, fd37_22, fd37_23, fd57_0, fd57_1, fd57_2, fd57_3, fd57_4, fd57_5, fd57_6, fd57_7, fd57_8, fd57_9, fd57_10, fd57_11, fd59_0, fd59_1, fd59_2, fd59_3, fd59_4, fd59_5, fd59_6, fd59_7, fd59_8, fd59_9]
    exact ⟨_, [], by simp, .bool, _, rfl, by simp⟩
end Go.Proofs.DmT
