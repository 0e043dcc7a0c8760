/- Attributes are searched and looked up. -/
import Derived.Test.YtcnjndjahloifaaDaD6
set_option linter.unusedSimpArgs false
set_option linter.unusedVariables false
namespace Go.Proofs.DaT
open Go Go.DM
set_option maxRecDepth 100000
variable {orc : DOracle}

theorem isNaNS (a : ByteArray) (S : Mem) : CallD Try.prog orc 57 [.str a] S fun d S' => S' = S ∧ d = .bool false := by
  refine CallD.drop ?_
  refine CallD.body Try.func57 rfl (by simp [Try.ntmps57]) ?_
  rw [Try.ntmps57]
  repeat' (first
    | refine Go.seq ?_
    | refine Go.rg ?_
    | refine GoR.nil ?_
    | refine Go.skip ?_
    | refine Go.ret ?_
    | refine Go.block ?_
    | refine Go.exit ?_
    | refine Go.blkX ?_
    | refine Go.blkN ?_
    | refine Go.passX ?_
    | refine Go.lpX ?_
    | (refine Go.blkE (by decide) ?_)
    | (refine Go.rgS dmx (by decide) ?_)
    | ((first | refine GoR.op (by decide) (by rfl) ?_ | refine GoR.opG (by decide) (by rfl) (by rfl) ?_)
       conv => arg 1; simp only [G, Z, Y, un_neg, Int.reduceEq, Int.reduceLE, cutD, Nat.reduceBEq, Nat.reduceAdd, Nat.reduceMul, Nat.reduceSub, Nat.reducePow, Nat.reduceLT, Nat.reduceGT, Nat.reduceLeDiff, Nat.reduceEqDiff, Int.reduceToNat, gt_iff_lt, if_true, if_false, beq_self_eq_true, reduceIte, decide_true, decide_false, fd9_0, fd9_1, fd9_2, fd9_3, fd9_4, fd9_5, fd9_6, fd9_7]
       show GoR _ _ _ _ _ _ _ _ _ _)
    | refine Go.condT (by rfl) ?_
    | refine Go.condF (by rfl) ?_
    | refine GoR.skipG (by decide) rfl rfl ?_
    | (refine GoR.splitG rfl (fun hc => ?_) (fun hc => ?_) <;> simp only [hc])
    | refine Go.condB rfl (fun hc => ?_) (fun hc => ?_))
  all_goals
    refine ⟨(by first | exact .inl rfl | exact .inr rfl), fin ?_⟩
    rw [resD_tmp (fn := Try.f57) rfl]
    simp only [optThen_some, resultD_tmp, resultD_cell, G, Z, Y, un_neg, Int.reduceEq, Int.reduceLE, cutD, Nat.reduceBEq, Nat.reduceAdd, Nat.reduceMul, Nat.reduceSub, Nat.reducePow, Nat.reduceLT, Nat.reduceGT, Nat.reduceLeDiff, Nat.reduceEqDiff, Int.reduceToNat, gt_iff_lt, if_true, if_false, beq_self_eq_true, reduceIte, decide_true, decide_false, fd9_0, fd9_1, fd9_2, fd9_3, fd9_4, fd9_5, fd9_6, fd9_7]
    refine ⟨_, [], by simp, .bool, ?_⟩
    simp
theorem compareS (a b : ByteArray) (S : Mem) : CallD Try.prog orc 60 [.str a, .str b] S fun d S' => S' = S ∧ d = .int .i64 (cmpB a b) := by
  refine CallD.drop ?_
  refine CallD.body Try.func60 rfl (by simp [Try.ntmps60]) ?_
  rw [Try.ntmps60]
  repeat' (first
    | refine Go.seq ?_
    | refine Go.rg ?_
    | refine GoR.nil ?_
    | refine Go.skip ?_
    | refine Go.ret ?_
    | refine Go.block ?_
    | refine Go.exit ?_
    | refine Go.blkX ?_
    | refine Go.blkN ?_
    | refine Go.passX ?_
    | refine Go.lpX ?_
    | (refine Go.blkE (by decide) ?_)
    | (refine Go.rgS dmx (by decide) ?_)
    | ((first | refine GoR.op (by decide) (by rfl) ?_ | refine GoR.opG (by decide) (by rfl) (by rfl) ?_)
       conv => arg 1; simp only [G, Z, Y, un_neg, Int.reduceEq, Int.reduceLE, cutD, Nat.reduceBEq, Nat.reduceAdd, Nat.reduceMul, Nat.reduceSub, Nat.reducePow, Nat.reduceLT, Nat.reduceGT, Nat.reduceLeDiff, Nat.reduceEqDiff, Int.reduceToNat, gt_iff_lt, if_true, if_false, beq_self_eq_true, reduceIte, decide_true, decide_false, fd9_0, fd9_1, fd9_2, fd9_3, fd9_4, fd9_5, fd9_6, fd9_7]
       show GoR _ _ _ _ _ _ _ _ _ _)
    | ((first | refine GoR.call (f := 57) (by decide) (by rfl) rfl Try.func57 (by decide) (by rfl) ?_ | refine GoR.callG (f := 57) (by decide) (by rfl) (by rfl) rfl Try.func57 (by decide) (by rfl) ?_)
       (refine (isNaNS _ _).ret ?_))
    | refine Go.condT (by rfl) ?_
    | refine Go.condF (by rfl) ?_
    | refine GoR.skipG (by decide) rfl rfl ?_
    | (refine GoR.splitG rfl (fun hc => ?_) (fun hc => ?_) <;> simp only [hc])
    | refine Go.condB rfl (fun hc => ?_) (fun hc => ?_))
  all_goals
    refine ⟨(by first | exact .inl rfl | exact .inr rfl), fin ?_⟩
    rw [resD_tmp (fn := Try.f60) rfl]
    simp only [optThen_some, resultD_tmp, resultD_cell, G, Z, Y, un_neg, Int.reduceEq, Int.reduceLE, cutD, Nat.reduceBEq, Nat.reduceAdd, Nat.reduceMul, Nat.reduceSub, Nat.reducePow, Nat.reduceLT, Nat.reduceGT, Nat.reduceLeDiff, Nat.reduceEqDiff, Int.reduceToNat, gt_iff_lt, if_true, if_false, beq_self_eq_true, reduceIte, decide_true, decide_false, fd9_0, fd9_1, fd9_2, fd9_3, fd9_4, fd9_5, fd9_6, fd9_7]
    refine ⟨_, [], by simp, .int, ?_⟩
    unfold cmpB ltB
    simp_all
theorem find1 (a : Att) (s : ByteArray) (S : Mem) : CallD Try.prog orc 59 [.agg a.c, .str s] S fun d S' => S' = S ∧ d = .int .i64 (cmpB a.n s) := by
  obtain ⟨n, v⟩ := a
  simp only [Att.c]
  refine CallD.drop ?_
  refine CallD.body Try.func59 rfl (by simp [Try.ntmps59]) ?_
  rw [Try.ntmps59]
  repeat' (first
    | refine Go.seq ?_
    | refine Go.rg ?_
    | refine GoR.nil ?_
    | refine Go.skip ?_
    | refine Go.ret ?_
    | refine Go.block ?_
    | refine Go.exit ?_
    | refine Go.blkX ?_
    | refine Go.blkN ?_
    | refine Go.passX ?_
    | refine Go.lpX ?_
    | (refine Go.blkE (by decide) ?_)
    | (refine Go.rgS dmx (by decide) ?_)
    | ((first | refine GoR.op (by decide) (by rfl) ?_ | refine GoR.opG (by decide) (by rfl) (by rfl) ?_)
       conv => arg 1; simp only [G, Z, Y, un_neg, Int.reduceEq, Int.reduceLE, cutD, Nat.reduceBEq, Nat.reduceAdd, Nat.reduceMul, Nat.reduceSub, Nat.reducePow, Nat.reduceLT, Nat.reduceGT, Nat.reduceLeDiff, Nat.reduceEqDiff, Int.reduceToNat, gt_iff_lt, if_true, if_false, beq_self_eq_true, reduceIte, decide_true, decide_false, fd9_0, fd9_1, fd9_2, fd9_3, fd9_4, fd9_5, fd9_6, fd9_7, fd39_0, fd39_1, fd39_2, fd39_3, fd39_4, fd39_5, fd39_6, fd39_7, fd39_8, fd39_9, fd39_10, fd39_11, fd41_0, fd41_1, fd41_2, fd41_3, fd41_4, fd41_5, fd41_6, fd41_7]
       show GoR _ _ _ _ _ _ _ _ _ _)
    | ((first | refine GoR.call (f := 60) (by decide) (by rfl) rfl Try.func60 (by decide) (by rfl) ?_ | refine GoR.callG (f := 60) (by decide) (by rfl) (by rfl) rfl Try.func60 (by decide) (by rfl) ?_)
       (refine (compareS _ _ _).ret ?_))
    | refine Go.condT (by rfl) ?_
    | refine Go.condF (by rfl) ?_
    | refine GoR.skipG (by decide) rfl rfl ?_
    | (refine GoR.splitG rfl (fun hc => ?_) (fun hc => ?_) <;> simp only [hc])
    | refine Go.condB rfl (fun hc => ?_) (fun hc => ?_))
  refine ⟨(by first | exact .inl rfl | exact .inr rfl), fin ?_⟩
  rw [resD_tmp (fn := Try.f59) rfl]
  simp only [optThen_some, resultD_tmp, resultD_cell, G, Z, Y, un_neg, Int.reduceEq, Int.reduceLE, cutD, Nat.reduceBEq, Nat.reduceAdd, Nat.reduceMul, Nat.reduceSub, Nat.reducePow, Nat.reduceLT, Nat.reduceGT, Nat.reduceLeDiff, Nat.reduceEqDiff, Int.reduceToNat, gt_iff_lt, if_true, if_false, beq_self_eq_true, reduceIte, decide_true, decide_false, fd9_0, fd9_1, fd9_2, fd9_3, fd9_4, fd9_5, fd9_6, fd9_7, fd39_0, fd39_1, fd39_2, fd39_3, fd39_4, fd39_5, fd39_6, fd39_7, fd39_8, fd39_9, fd39_10, fd39_11, fd41_0, fd41_1, fd41_2, fd41_3, fd41_4, fd41_5, fd41_6, fd41_7]
  exact ⟨_, _, rfl, .int, rfl⟩

theorem shr1 (n : Nat) : (n : Int).fdiv (2 ^ (min (1 : Nat) IntKind.u64.bits)) = ((n / 2 : Nat) : Int) := by
  rw [show (2 : Int) ^ (min (1 : Nat) IntKind.u64.bits) = ((2 : Nat) : Int) from rfl, Int.fdiv_eq_ediv_of_nonneg _ (by omega)]
  omega
theorem add_cast {i j : Nat} (h : i + j < 4611686018427387904) : IntKind.i64.wrap ((i : Int) + (j : Int)) = ((i + j : Nat) : Int) := by rw [wrap64 (by omega) (by omega)]; omega
theorem i64_cast {i : Nat} (h : i < 4611686018427387904) : IntKind.i64.wrap (i : Int) = (i : Int) := wrap64 (by omega) (by omega)
theorem u64_cast {i : Nat} (h : i < 4611686018427387904) : IntKind.u64.wrap (i : Int) = (i : Int) := wrapu64 (by omega) (by omega)

theorem search (l : List Att) (s : ByteArray) (hr : RiseB Att.n l) (hl : l.length < 1000000) (S : Mem) :
    CallD Try.prog orc 58 [.sl none 5 l.length (attsC l), .str s, .fn (.func 59) [] []] S
      fun d S' => S' = S ∧ ∃ i b, d = .tup [.int .i64 ((i : Nat) : Int), .bool b] ∧ i ≤ l.length ∧ (∀ k (h : k < l.length), k < i → ltB l[k].n s = true) ∧ (∀ k (h : k < l.length), i ≤ k → ltB l[k].n s = false) ∧ (b = true ↔ ∃ h : i < l.length, l[i].n = s) := by
  refine CallD.drop ?_
  refine CallD.body Try.func58 rfl (by simp [Try.ntmps58]) ?_
  rw [Try.ntmps58]
  repeat' (first
    | refine Go.seq ?_
    | refine Go.rg ?_
    | refine GoR.nil ?_
    | refine Go.skip ?_
    | refine Go.ret ?_
    | refine Go.block ?_
    | refine Go.exit ?_
    | refine Go.blkX ?_
    | refine Go.blkN ?_
    | refine Go.passX ?_
    | refine Go.lpX ?_
    | (refine Go.blkE (by decide) ?_)
    | (refine Go.rgS dmx (by decide) ?_)
    | ((first | refine GoR.op (by decide) (by rfl) ?_ | refine GoR.opG (by decide) (by rfl) (by rfl) ?_)
       conv => arg 1; simp only [G, Z, Y, un_neg, Int.reduceEq, Int.reduceLE, cutD, Nat.reduceBEq, Nat.reduceAdd, Nat.reduceMul, Nat.reduceSub, Nat.reducePow, Nat.reduceLT, Nat.reduceGT, Nat.reduceLeDiff, Nat.reduceEqDiff, Int.reduceToNat, gt_iff_lt, if_true, if_false, beq_self_eq_true, reduceIte, decide_true, decide_false, fd3_0, fd3_1, fd3_2, fd3_3, fd3_4, fd3_5, fd3_6, fd3_7, fd3_8, fd3_9, fd9_0, fd9_1, fd9_2, fd9_3, fd9_4, fd9_5, fd9_6, fd9_7, fd36_0, fd36_1, fd36_2, fd36_3, fd36_4, fd36_5, fd36_6, fd36_7, fd36_8, fd36_9, fd36_10, fd36_11, fd36_12, fd36_13, fd36_14, fd36_15, fd36_16, fd36_17, fd36_18, fd36_19, fd36_20, fd36_21, fd36_22, fd36_23, fd37_0, fd37_1, fd37_2, fd37_3, fd37_4, fd37_5, fd37_6, fd37_7, fd37_8, fd37_9, fd39_0, fd39_1, fd39_2, fd39_3, fd39_4, fd39_5, fd39_6, fd39_7, fd39_8, fd39_9, fd39_10, fd39_11, fd41_0, fd41_1, fd41_2, fd41_3, fd41_4, fd41_5, fd41_6, fd41_7]
       show GoR _ _ _ _ _ _ _ _ _ _)
    | refine Go.condT (by rfl) ?_
    | refine Go.condF (by rfl) ?_
    | refine GoR.skipG (by decide) rfl rfl ?_
    | (refine GoR.splitG rfl (fun hc => ?_) (fun hc => ?_) <;> simp only [hc])
    | refine Go.condB rfl (fun hc => ?_) (fun hc => ?_))
  refine Go.keep [(0, .sl none 5 l.length (attsC l)), (1, .str s), (2, .fn (.func 59) [] []), (8, .int .i64 (l.length : Int)), (9, .int .i64 ((0 : Nat) : Int)), (10, .int .i64 (l.length : Int))] (.cons .refl (.cons .refl (.cons .refl (.cons .refl (.cons .refl (.cons .refl (.nil))))))) ?_
  refine Go.while (α := Nat × Nat) (fun a => a.2 - a.1) (fun a => [(0, .sl none 5 l.length (attsC l)), (1, .str s), (2, .fn (.func 59) [] []), (8, .int .i64 (l.length : Int)), (9, .int .i64 (a.1 : Int)), (10, .int .i64 (a.2 : Int))]) (fun _ => S)
    (fun a => a.1 ≤ a.2 ∧ a.2 ≤ l.length ∧ (∀ k (h : k < l.length), k < a.1 → ltB l[k].n s = true) ∧ (∀ k (h : k < l.length), a.2 ≤ k → ltB l[k].n s = false)) ?_ (0, l.length) ⟨Nat.zero_le _, Nat.le_refl _, by simp, fun k h h2 => absurd h (by dsimp only at h2; omega)⟩
  rintro ⟨i, j⟩ ⟨hij, hj, hlo, hhi⟩ next
  dsimp only at hij hj hlo hhi next
  repeat' (first
    | refine Go.seq ?_
    | refine Go.rg ?_
    | refine GoR.nil ?_
    | refine Go.skip ?_
    | refine Go.ret ?_
    | refine Go.block ?_
    | refine Go.exit ?_
    | refine Go.blkX ?_
    | refine Go.blkN ?_
    | refine Go.passX ?_
    | refine Go.lpX ?_
    | (refine Go.blkE (by decide) ?_)
    | (refine Go.rgS dmx (by decide) ?_)
    | ((first | refine GoR.op (by decide) (by rfl) ?_ | refine GoR.opG (by decide) (by rfl) (by rfl) ?_)
       conv => arg 1; simp only [G, Z, Y, un_neg, Int.reduceEq, Int.reduceLE, cutD, Nat.reduceBEq, Nat.reduceAdd, Nat.reduceMul, Nat.reduceSub, Nat.reducePow, Nat.reduceLT, Nat.reduceGT, Nat.reduceLeDiff, Nat.reduceEqDiff, Int.reduceToNat, gt_iff_lt, if_true, if_false, beq_self_eq_true, reduceIte, decide_true, decide_false, fd3_0, fd3_1, fd3_2, fd3_3, fd3_4, fd3_5, fd3_6, fd3_7, fd3_8, fd3_9, fd9_0, fd9_1, fd9_2, fd9_3, fd9_4, fd9_5, fd9_6, fd9_7, fd36_0, fd36_1, fd36_2, fd36_3, fd36_4, fd36_5, fd36_6, fd36_7, fd36_8, fd36_9, fd36_10, fd36_11, fd36_12, fd36_13, fd36_14, fd36_15, fd36_16, fd36_17, fd36_18, fd36_19, fd36_20, fd36_21, fd36_22, fd36_23, fd37_0, fd37_1, fd37_2, fd37_3, fd37_4, fd37_5, fd37_6, fd37_7, fd37_8, fd37_9, fd39_0, fd39_1, fd39_2, fd39_3, fd39_4, fd39_5, fd39_6, fd39_7, fd39_8, fd39_9, fd39_10, fd39_11, fd41_0, fd41_1, fd41_2, fd41_3, fd41_4, fd41_5, fd41_6, fd41_7]
       show GoR _ _ _ _ _ _ _ _ _ _)
    | refine Go.condT (by rfl) ?_
    | refine Go.condF (by rfl) ?_
    | refine GoR.skipG (by decide) rfl rfl ?_
    | (refine GoR.splitG rfl (fun hc => ?_) (fun hc => ?_) <;> simp only [hc])
    | refine Go.condB rfl (fun hc => ?_) (fun hc => ?_))
  · have h1 : i < j := by simpa using hc
    have hh : (i + j) / 2 < l.length := by omega
    repeat' (first
      | refine Go.seq ?_
      | refine Go.rg ?_
      | refine GoR.nil ?_
      | refine Go.skip ?_
      | refine Go.ret ?_
      | refine Go.block ?_
      | refine Go.exit ?_
      | refine Go.blkX ?_
      | refine Go.blkN ?_
      | refine Go.passX ?_
      | refine Go.lpX ?_
      | (refine Go.blkE (by decide) ?_)
      | (refine Go.rgS dmx (by decide) ?_)
      | ((first | refine GoR.op (by decide) (by rfl) ?_ | refine GoR.opG (by decide) (by rfl) (by rfl) ?_)
         conv => arg 1; simp only [G, Z, Y, un_neg, Int.reduceEq, Int.reduceLE, cutD, Nat.reduceBEq, Nat.reduceAdd, Nat.reduceMul, Nat.reduceSub, Nat.reducePow, Nat.reduceLT, Nat.reduceGT, Nat.reduceLeDiff, Nat.reduceEqDiff, Int.reduceToNat, gt_iff_lt, if_true, if_false, beq_self_eq_true, reduceIte, decide_true, decide_false, fd3_0, fd3_1, fd3_2, fd3_3, fd3_4, fd3_5, fd3_6, fd3_7, fd3_8, fd3_9, fd9_0, fd9_1, fd9_2, fd9_3, fd9_4, fd9_5, fd9_6, fd9_7, fd36_0, fd36_1, fd36_2, fd36_3, fd36_4, fd36_5, fd36_6, fd36_7, fd36_8, fd36_9, fd36_10, fd36_11, fd36_12, fd36_13, fd36_14, fd36_15, fd36_16, fd36_17, fd36_18, fd36_19, fd36_20, fd36_21, fd36_22, fd36_23, fd37_0, fd37_1, fd37_2, fd37_3, fd37_4, fd37_5, fd37_6, fd37_7, fd37_8, fd37_9, fd39_0, fd39_1, fd39_2, fd39_3, fd39_4, fd39_5, fd39_6, fd39_7, fd39_8, fd39_9, fd39_10, fd39_11, fd41_0, fd41_1, fd41_2, fd41_3, fd41_4, fd41_5, fd41_6, fd41_7, add_cast (show i + j < 4611686018427387904 by omega), u64_cast (show i + j < 4611686018427387904 by omega), shr1, i64_cast (show (i + j) / 2 < 4611686018427387904 by omega), attsAt hh, wrap_succ (show (i + j) / 2 < 4611686018427387904 by omega)]
         show GoR _ _ _ _ _ _ _ _ _ _)
      | ((first | refine GoR.call (f := 59) (by decide) (by rfl) rfl Try.func59 (by decide) (by rfl) ?_ | refine GoR.callG (f := 59) (by decide) (by rfl) (by rfl) rfl Try.func59 (by decide) (by rfl) ?_)
         (refine (find1 _ _ _).ret ?_))
      | refine Go.condT (by rfl) ?_
      | refine Go.condF (by rfl) ?_
      | refine GoR.skipG (by decide) rfl rfl ?_
      | (refine GoR.splitG rfl (fun hc => ?_) (fun hc => ?_) <;> simp only [hc])
      | refine Go.condB rfl (fun hc => ?_) (fun hc => ?_))
    · refine Go.lpN ?_
      refine Go.keep [(0, .sl none 5 l.length (attsC l)), (1, .str s), (2, .fn (.func 59) [] []), (8, .int .i64 (l.length : Int)), (9, .int .i64 (((i + j) / 2 + 1 : Nat) : Int)), (10, .int .i64 (j : Int))] (.cons .refl (.cons .refl (.cons .refl (.cons .refl (.cons .refl (.cons .refl (.nil))))))) ?_
      have hlt := cmpB_neg.1 (of_decide_eq_true hc)
      refine next ((i + j) / 2 + 1, j) (by dsimp only; omega) ⟨by dsimp only; omega, hj, fun k hk hk2 => ?_, hhi⟩
      dsimp only at hk2
      rcases Nat.lt_or_ge k ((i + j) / 2) with h | h
      · exact ltB_trans (hr.lt hh h) hlt
      · obtain rfl : k = (i + j) / 2 := by omega
        exact hlt
    · refine Go.lpN ?_
      refine Go.keep [(0, .sl none 5 l.length (attsC l)), (1, .str s), (2, .fn (.func 59) [] []), (8, .int .i64 (l.length : Int)), (9, .int .i64 (i : Int)), (10, .int .i64 (((i + j) / 2 : Nat) : Int))] (.cons .refl (.cons .refl (.cons .refl (.cons .refl (.cons .refl (.cons .refl (.nil))))))) ?_
      have hge : ltB l[(i + j) / 2].n s = false := by
        cases hq : ltB l[(i + j) / 2].n s with
        | false => rfl
        | true => exact absurd (cmpB_neg.2 hq) (of_decide_eq_false hc)
      refine next (i, (i + j) / 2) (by dsimp only; omega) ⟨by dsimp only; omega, by dsimp only; omega, hlo, fun k hk hk2 => ?_⟩
      dsimp only at hk2
      rcases Nat.lt_or_ge ((i + j) / 2) k with h | h
      · cases hq : ltB l[k].n s with
        | false => rfl
        | true => rw [ltB_trans (hr.lt hk h) hq] at hge; cases hge
      · obtain rfl : k = (i + j) / 2 := by omega
        exact hge
  · clear next
    rename_i h0
    have hi : i = j := by have : j ≤ i := by simpa using h0
                          omega
    subst hi
    have hn : i < l.length := by simpa using hc
    repeat' (first
      | refine Go.seq ?_
      | refine Go.rg ?_
      | refine GoR.nil ?_
      | refine Go.skip ?_
      | refine Go.ret ?_
      | refine Go.block ?_
      | refine Go.exit ?_
      | refine Go.blkX ?_
      | refine Go.blkN ?_
      | refine Go.passX ?_
      | refine Go.lpX ?_
      | (refine Go.blkE (by decide) ?_)
      | (refine Go.rgS dmx (by decide) ?_)
      | ((first | refine GoR.op (by decide) (by rfl) ?_ | refine GoR.opG (by decide) (by rfl) (by rfl) ?_)
         conv => arg 1; simp only [G, Z, Y, un_neg, Int.reduceEq, Int.reduceLE, cutD, Nat.reduceBEq, Nat.reduceAdd, Nat.reduceMul, Nat.reduceSub, Nat.reducePow, Nat.reduceLT, Nat.reduceGT, Nat.reduceLeDiff, Nat.reduceEqDiff, Int.reduceToNat, gt_iff_lt, if_true, if_false, beq_self_eq_true, reduceIte, decide_true, decide_false, fd3_0, fd3_1, fd3_2, fd3_3, fd3_4, fd3_5, fd3_6, fd3_7, fd3_8, fd3_9, fd9_0, fd9_1, fd9_2, fd9_3, fd9_4, fd9_5, fd9_6, fd9_7, fd36_0, fd36_1, fd36_2, fd36_3, fd36_4, fd36_5, fd36_6, fd36_7, fd36_8, fd36_9, fd36_10, fd36_11, fd36_12, fd36_13, fd36_14, fd36_15, fd36_16, fd36_17, fd36_18, fd36_19, fd36_20, fd36_21, fd36_22, fd36_23, fd37_0, fd37_1, fd37_2, fd37_3, fd37_4, fd37_5, fd37_6, fd37_7, fd37_8, fd37_9, fd39_0, fd39_1, fd39_2, fd39_3, fd39_4, fd39_5, fd39_6, fd39_7, fd39_8, fd39_9, fd39_10, fd39_11, fd41_0, fd41_1, fd41_2, fd41_3, fd41_4, fd41_5, fd41_6, fd41_7, attsAt hn]
         show GoR _ _ _ _ _ _ _ _ _ _)
      | ((first | refine GoR.call (f := 59) (by decide) (by rfl) rfl Try.func59 (by decide) (by rfl) ?_ | refine GoR.callG (f := 59) (by decide) (by rfl) (by rfl) rfl Try.func59 (by decide) (by rfl) ?_)
         (refine (find1 _ _ _).ret ?_))
      | refine Go.condT (by rfl) ?_
      | refine Go.condF (by rfl) ?_
      | refine GoR.skipG (by decide) rfl rfl ?_
      | (refine GoR.splitG rfl (fun hc => ?_) (fun hc => ?_) <;> simp only [hc])
      | refine Go.condB rfl (fun hc => ?_) (fun hc => ?_))
    refine ⟨(by first | exact .inl rfl | exact .inr rfl), fin ?_⟩
    rw [resD_two (fn := Try.f58) rfl]
    simp only [optThen_some, resultD_tmp, resultD_cell, G, Z, Y, un_neg, Int.reduceEq, Int.reduceLE, cutD, Nat.reduceBEq, Nat.reduceAdd, Nat.reduceMul, Nat.reduceSub, Nat.reducePow, Nat.reduceLT, Nat.reduceGT, Nat.reduceLeDiff, Nat.reduceEqDiff, Int.reduceToNat, gt_iff_lt, if_true, if_false, beq_self_eq_true, reduceIte, decide_true, decide_false, fd3_0, fd3_1, fd3_2, fd3_3, fd3_4, fd3_5, fd3_6, fd3_7, fd3_8, fd3_9, fd9_0, fd9_1, fd9_2, fd9_3, fd9_4, fd9_5, fd9_6, fd9_7, fd36_0, fd36_1, fd36_2, fd36_3, fd36_4, fd36_5, fd36_6, fd36_7, fd36_8, fd36_9, fd36_10, fd36_11, fd36_12, fd36_13, fd36_14, fd36_15, fd36_16, fd36_17, fd36_18, fd36_19, fd36_20, fd36_21, fd36_22, fd36_23, fd37_0, fd37_1, fd37_2, fd37_3, fd37_4, fd37_5, fd37_6, fd37_7, fd37_8, fd37_9, fd39_0, fd39_1, fd39_2, fd39_3, fd39_4, fd39_5, fd39_6, fd39_7, fd39_8, fd39_9, fd39_10, fd39_11, fd41_0, fd41_1, fd41_2, fd41_3, fd41_4, fd41_5, fd41_6, fd41_7]
    exact ⟨_, [], by simp, .of_low (.tup' (.cons (.int _ _) (.cons (.bool _) .nil))), i, _, rfl, hj, hlo, hhi, by simp [cmpB_zero, hn]⟩
  · clear next
    rename_i h0
    have hi : i = j := by have : j ≤ i := by simpa using h0
                          omega
    subst hi
    have hn : ¬ i < l.length := by simpa using hc
    refine ⟨(by first | exact .inl rfl | exact .inr rfl), fin ?_⟩
    rw [resD_two (fn := Try.f58) rfl]
    simp only [optThen_some, resultD_tmp, resultD_cell, G, Z, Y, un_neg, Int.reduceEq, Int.reduceLE, cutD, Nat.reduceBEq, Nat.reduceAdd, Nat.reduceMul, Nat.reduceSub, Nat.reducePow, Nat.reduceLT, Nat.reduceGT, Nat.reduceLeDiff, Nat.reduceEqDiff, Int.reduceToNat, gt_iff_lt, if_true, if_false, beq_self_eq_true, reduceIte, decide_true, decide_false, fd3_0, fd3_1, fd3_2, fd3_3, fd3_4, fd3_5, fd3_6, fd3_7, fd3_8, fd3_9, fd9_0, fd9_1, fd9_2, fd9_3, fd9_4, fd9_5, fd9_6, fd9_7, fd36_0, fd36_1, fd36_2, fd36_3, fd36_4, fd36_5, fd36_6, fd36_7, fd36_8, fd36_9, fd36_10, fd36_11, fd36_12, fd36_13, fd36_14, fd36_15, fd36_16, fd36_17, fd36_18, fd36_19, fd36_20, fd36_21, fd36_22, fd36_23, fd37_0, fd37_1, fd37_2, fd37_3, fd37_4, fd37_5, fd37_6, fd37_7, fd37_8, fd37_9, fd39_0, fd39_1, fd39_2, fd39_3, fd39_4, fd39_5, fd39_6, fd39_7, fd39_8, fd39_9, fd39_10, fd39_11, fd41_0, fd41_1, fd41_2, fd41_3, fd41_4, fd41_5, fd41_6, fd41_7]
    exact ⟨_, [], by simp, .of_low (.tup' (.cons (.int _ _) (.cons (.bool _) .nil))), i, _, rfl, hj, hlo, hhi, by simp [hn]⟩

/-- What an attribute is. -/
def look (l : List Att) (s : ByteArray) : Option Val := (l.find? fun a => decide (a.n = s)).map (·.v)

theorem rowFind (l : List Att) (s : ByteArray) (hr : RiseB Att.n l) (hl : l.length < 1000000) (S : Mem) :
    CallD Try.prog orc 48 [.sl none 5 l.length (attsC l), .str s] S
      fun d S' => S' = S ∧ ∃ i b, d = .tup [.int .i64 ((i : Nat) : Int), .bool b] ∧ i ≤ l.length ∧ (∀ k (h : k < l.length), k < i → ltB l[k].n s = true) ∧ (∀ k (h : k < l.length), i ≤ k → ltB l[k].n s = false) ∧ (b = true ↔ ∃ h : i < l.length, l[i].n = s) := by
  refine CallD.drop ?_
  refine CallD.body Try.func48 rfl (by simp [Try.ntmps48]) ?_
  rw [Try.ntmps48]
  repeat' (first
    | refine Go.seq ?_
    | refine Go.rg ?_
    | refine GoR.nil ?_
    | refine Go.skip ?_
    | refine Go.ret ?_
    | refine Go.block ?_
    | refine Go.exit ?_
    | refine Go.blkX ?_
    | refine Go.blkN ?_
    | refine Go.passX ?_
    | refine Go.lpX ?_
    | (refine Go.blkE (by decide) ?_)
    | (refine Go.rgS dmx (by decide) ?_)
    | ((first | refine GoR.op (by decide) (by rfl) ?_ | refine GoR.opG (by decide) (by rfl) (by rfl) ?_)
       conv => arg 1; simp only [G, Z, Y, un_neg, Int.reduceEq, Int.reduceLE, cutD, Nat.reduceBEq, Nat.reduceAdd, Nat.reduceMul, Nat.reduceSub, Nat.reducePow, Nat.reduceLT, Nat.reduceGT, Nat.reduceLeDiff, Nat.reduceEqDiff, Int.reduceToNat, gt_iff_lt, if_true, if_false, beq_self_eq_true, reduceIte, decide_true, decide_false]
       show GoR _ _ _ _ _ _ _ _ _ _)
    | ((first | refine GoR.call (f := 58) (by decide) (by rfl) rfl Try.func58 (by decide) (by rfl) ?_ | refine GoR.callG (f := 58) (by decide) (by rfl) (by rfl) rfl Try.func58 (by decide) (by rfl) ?_)
       (refine (search l s hr hl _).retE ?_; rintro _ ⟨i, b, rfl, h1, h2, h3, h4⟩))
    | refine Go.condT (by rfl) ?_
    | refine Go.condF (by rfl) ?_
    | refine GoR.skipG (by decide) rfl rfl ?_
    | (refine GoR.splitG rfl (fun hc => ?_) (fun hc => ?_) <;> simp only [hc])
    | refine Go.condB rfl (fun hc => ?_) (fun hc => ?_))
  refine ⟨(by first | exact .inl rfl | exact .inr rfl), fin ?_⟩
  rw [resD_two (fn := Try.f48) rfl]
  simp only [optThen_some, resultD_tmp, resultD_cell, G, Z, Y, un_neg, Int.reduceEq, Int.reduceLE, cutD, Nat.reduceBEq, Nat.reduceAdd, Nat.reduceMul, Nat.reduceSub, Nat.reducePow, Nat.reduceLT, Nat.reduceGT, Nat.reduceLeDiff, Nat.reduceEqDiff, Int.reduceToNat, gt_iff_lt, if_true, if_false, beq_self_eq_true, reduceIte, decide_true, decide_false]
  exact ⟨_, [], by simp, .of_low (.tup' (.cons (.int _ _) (.cons (.bool _) .nil))), i, b, rfl, h1, h2, h3, h4⟩

theorem clone1 (l : List Int) (hl : l.length < 1000000) (S : Mem) : CallD Try.prog orc 62 [.sl none 1 l.length (intsD l)] S fun d S' => S' = S ∧ d = .sl none 1 l.length (intsD l) := by
  cases l with
  | nil =>
    refine CallD.nilOr (pre := []) (post := []) ?_ ?_
    · refine CallD.drop ?_
      refine CallD.body Try.func62 rfl (by simp [Try.ntmps62]) ?_
      rw [Try.ntmps62]
      repeat' (first
        | refine Go.seq ?_
        | refine Go.rg ?_
        | refine GoR.nil ?_
        | refine Go.skip ?_
        | refine Go.ret ?_
        | refine Go.block ?_
        | refine Go.exit ?_
        | refine Go.blkX ?_
        | refine Go.blkN ?_
        | refine Go.passX ?_
        | refine Go.lpX ?_
        | (refine Go.blkE (by decide) ?_)
        | (refine Go.rgS dmx (by decide) ?_)
        | ((first | refine GoR.op (by decide) (by rfl) ?_ | refine GoR.opG (by decide) (by rfl) (by rfl) ?_)
           conv => arg 1; simp only [G, Z, Y, un_neg, Int.reduceEq, Int.reduceLE, cutD, Nat.reduceBEq, Nat.reduceAdd, Nat.reduceMul, Nat.reduceSub, Nat.reducePow, Nat.reduceLT, Nat.reduceGT, Nat.reduceLeDiff, Nat.reduceEqDiff, Int.reduceToNat, gt_iff_lt, if_true, if_false, beq_self_eq_true, reduceIte, decide_true, decide_false, fd25_0, fd25_1, fd25_2, fd25_3, fd25_4, fd25_5, fd25_6, fd25_7, fd25_8, fd25_9, fd25_10, fd25_11, fd25_12, fd25_13, fd25_14, fd25_15, fd25_16, fd25_17, fd25_18, fd25_19, fd25_20, fd25_21, fd25_22, fd25_23]
           show GoR _ _ _ _ _ _ _ _ _ _)
        | refine Go.condT (by rfl) ?_
        | refine Go.condF (by rfl) ?_
        | refine GoR.skipG (by decide) rfl rfl ?_
        | (refine GoR.splitG rfl (fun hc => ?_) (fun hc => ?_) <;> simp only [hc])
        | refine Go.condB rfl (fun hc => ?_) (fun hc => ?_))
      refine ⟨(by first | exact .inl rfl | exact .inr rfl), fin ?_⟩
      rw [resD_tmp (fn := Try.f62) rfl]
      simp only [optThen_some, resultD_tmp, resultD_cell, G, Z, Y, un_neg, Int.reduceEq, Int.reduceLE, cutD, Nat.reduceBEq, Nat.reduceAdd, Nat.reduceMul, Nat.reduceSub, Nat.reducePow, Nat.reduceLT, Nat.reduceGT, Nat.reduceLeDiff, Nat.reduceEqDiff, Int.reduceToNat, gt_iff_lt, if_true, if_false, beq_self_eq_true, reduceIte, decide_true, decide_false, fd25_0, fd25_1, fd25_2, fd25_3, fd25_4, fd25_5, fd25_6, fd25_7, fd25_8, fd25_9, fd25_10, fd25_11, fd25_12, fd25_13, fd25_14, fd25_15, fd25_16, fd25_17, fd25_18, fd25_19, fd25_20, fd25_21, fd25_22, fd25_23]
      exact ⟨_, [], by simp, .nilE, rfl⟩
    · refine CallD.drop ?_
      refine CallD.body Try.func62 rfl (by simp [Try.ntmps62]) ?_
      rw [Try.ntmps62]
      repeat' (first
        | refine Go.seq ?_
        | refine Go.rg ?_
        | refine GoR.nil ?_
        | refine Go.skip ?_
        | refine Go.ret ?_
        | refine Go.block ?_
        | refine Go.exit ?_
        | refine Go.blkX ?_
        | refine Go.blkN ?_
        | refine Go.passX ?_
        | refine Go.lpX ?_
        | (refine Go.blkE (by decide) ?_)
        | (refine Go.rgS dmx (by decide) ?_)
        | ((first | refine GoR.op (by decide) (by rfl) ?_ | refine GoR.opG (by decide) (by rfl) (by rfl) ?_)
           conv => arg 1; simp only [G, Z, Y, un_neg, Int.reduceEq, Int.reduceLE, cutD, Nat.reduceBEq, Nat.reduceAdd, Nat.reduceMul, Nat.reduceSub, Nat.reducePow, Nat.reduceLT, Nat.reduceGT, Nat.reduceLeDiff, Nat.reduceEqDiff, Int.reduceToNat, gt_iff_lt, if_true, if_false, beq_self_eq_true, reduceIte, decide_true, decide_false, fd25_0, fd25_1, fd25_2, fd25_3, fd25_4, fd25_5, fd25_6, fd25_7, fd25_8, fd25_9, fd25_10, fd25_11, fd25_12, fd25_13, fd25_14, fd25_15, fd25_16, fd25_17, fd25_18, fd25_19, fd25_20, fd25_21, fd25_22, fd25_23]
           show GoR _ _ _ _ _ _ _ _ _ _)
        | refine Go.condT (by rfl) ?_
        | refine Go.condF (by rfl) ?_
        | refine GoR.skipG (by decide) rfl rfl ?_
        | (refine GoR.splitG rfl (fun hc => ?_) (fun hc => ?_) <;> simp only [hc])
        | refine Go.condB rfl (fun hc => ?_) (fun hc => ?_))
      refine ⟨(by first | exact .inl rfl | exact .inr rfl), fin ?_⟩
      rw [resD_tmp (fn := Try.f62) rfl]
      simp only [optThen_some, resultD_tmp, resultD_cell, G, Z, Y, un_neg, Int.reduceEq, Int.reduceLE, cutD, Nat.reduceBEq, Nat.reduceAdd, Nat.reduceMul, Nat.reduceSub, Nat.reducePow, Nat.reduceLT, Nat.reduceGT, Nat.reduceLeDiff, Nat.reduceEqDiff, Int.reduceToNat, gt_iff_lt, if_true, if_false, beq_self_eq_true, reduceIte, decide_true, decide_false, fd25_0, fd25_1, fd25_2, fd25_3, fd25_4, fd25_5, fd25_6, fd25_7, fd25_8, fd25_9, fd25_10, fd25_11, fd25_12, fd25_13, fd25_14, fd25_15, fd25_16, fd25_17, fd25_18, fd25_19, fd25_20, fd25_21, fd25_22, fd25_23]
      exact ⟨_, _, rfl, .disown (by simp), rfl⟩
  | cons x l =>
    refine CallD.drop ?_
    refine CallD.body Try.func62 rfl (by simp [Try.ntmps62]) ?_
    rw [Try.ntmps62]
    have hf : fitsD 8 (l.length + 1) (intsD (x :: l)) := ⟨by simp at hl; omega, by simp at hl; omega, by omega, by simp [intsD, D.one]⟩
    repeat' (first
      | refine Go.seq ?_
      | refine Go.rg ?_
      | refine GoR.nil ?_
      | refine Go.skip ?_
      | refine Go.ret ?_
      | refine Go.block ?_
      | refine Go.exit ?_
      | refine Go.blkX ?_
      | refine Go.blkN ?_
      | refine Go.passX ?_
      | refine Go.lpX ?_
      | (refine Go.blkE (by decide) ?_)
      | (refine Go.rgS dmx (by decide) ?_)
      | ((first | refine GoR.op (by decide) (by rfl) ?_ | refine GoR.opG (by decide) (by rfl) (by rfl) ?_)
         conv => arg 1; simp only [G, Z, Y, un_neg, Int.reduceEq, Int.reduceLE, cutD, Nat.reduceBEq, Nat.reduceAdd, Nat.reduceMul, Nat.reduceSub, Nat.reducePow, Nat.reduceLT, Nat.reduceGT, Nat.reduceLeDiff, Nat.reduceEqDiff, Int.reduceToNat, gt_iff_lt, if_true, if_false, beq_self_eq_true, reduceIte, decide_true, decide_false, fd25_0, fd25_1, fd25_2, fd25_3, fd25_4, fd25_5, fd25_6, fd25_7, fd25_8, fd25_9, fd25_10, fd25_11, fd25_12, fd25_13, fd25_14, fd25_15, fd25_16, fd25_17, fd25_18, fd25_19, fd25_20, fd25_21, fd25_22, fd25_23, builtin_append, Nat.zero_add, hf, show (l.length + 1 = 0) = False by simp]
         show GoR _ _ _ _ _ _ _ _ _ _)
      | refine Go.condT (by rfl) ?_
      | refine Go.condF (by rfl) ?_
      | refine GoR.skipG (by decide) rfl rfl ?_
      | (refine GoR.splitG rfl (fun hc => ?_) (fun hc => ?_) <;> simp only [hc])
      | refine Go.condB rfl (fun hc => ?_) (fun hc => ?_))
    refine ⟨(by first | exact .inl rfl | exact .inr rfl), fin ?_⟩
    rw [resD_tmp (fn := Try.f62) rfl]
    simp only [optThen_some, resultD_tmp, resultD_cell, G, Z, Y, un_neg, Int.reduceEq, Int.reduceLE, cutD, Nat.reduceBEq, Nat.reduceAdd, Nat.reduceMul, Nat.reduceSub, Nat.reducePow, Nat.reduceLT, Nat.reduceGT, Nat.reduceLeDiff, Nat.reduceEqDiff, Int.reduceToNat, gt_iff_lt, if_true, if_false, beq_self_eq_true, reduceIte, decide_true, decide_false, fd25_0, fd25_1, fd25_2, fd25_3, fd25_4, fd25_5, fd25_6, fd25_7, fd25_8, fd25_9, fd25_10, fd25_11, fd25_12, fd25_13, fd25_14, fd25_15, fd25_16, fd25_17, fd25_18, fd25_19, fd25_20, fd25_21, fd25_22, fd25_23]
    exact ⟨_, _, rfl, .disown intsD_low.get, rfl⟩

theorem apart (v : Val) (hl : v.l.length < 1000000) (S : Mem) : CallD Try.prog orc 49 [.agg v.c] S fun d S' => S' = S ∧ d = .agg v.c := by
  obtain ⟨k, i, s, l⟩ := v
  simp only [Val.c]
  refine CallD.drop ?_
  refine CallD.body Try.func49 rfl (by simp [Try.ntmps49]) ?_
  rw [Try.ntmps49]
  repeat' (first
    | refine Go.seq ?_
    | refine Go.rg ?_
    | refine GoR.nil ?_
    | refine Go.skip ?_
    | refine Go.ret ?_
    | refine Go.block ?_
    | refine Go.exit ?_
    | refine Go.blkX ?_
    | refine Go.blkN ?_
    | refine Go.passX ?_
    | refine Go.lpX ?_
    | (refine Go.blkE (by decide) ?_)
    | (refine Go.rgS dmx (by decide) ?_)
    | ((first | refine GoR.op (by decide) (by rfl) ?_ | refine GoR.opG (by decide) (by rfl) (by rfl) ?_)
       conv => arg 1; simp only [G, Z, Y, un_neg, Int.reduceEq, Int.reduceLE, cutD, Nat.reduceBEq, Nat.reduceAdd, Nat.reduceMul, Nat.reduceSub, Nat.reducePow, Nat.reduceLT, Nat.reduceGT, Nat.reduceLeDiff, Nat.reduceEqDiff, Int.reduceToNat, gt_iff_lt, if_true, if_false, beq_self_eq_true, reduceIte, decide_true, decide_false, fd2_0, fd2_1, fd2_2, fd2_3, fd2_4, fd2_5, fd2_6, fd2_7, fd2_8, fd2_9, fd3_0, fd3_1, fd3_2, fd3_3, fd3_4, fd3_5, fd3_6, fd3_7, fd3_8, fd3_9, fd9_0, fd9_1, fd9_2, fd9_3, fd9_4, fd9_5, fd9_6, fd9_7, fd25_0, fd25_1, fd25_2, fd25_3, fd25_4, fd25_5, fd25_6, fd25_7, fd25_8, fd25_9, fd25_10, fd25_11, fd25_12, fd25_13, fd25_14, fd25_15, fd25_16, fd25_17, fd25_18, fd25_19, fd25_20, fd25_21, fd25_22, fd25_23, fd39_0, fd39_1, fd39_2, fd39_3, fd39_4, fd39_5, fd39_6, fd39_7, fd39_8, fd39_9, fd39_10, fd39_11]
       show GoR _ _ _ _ _ _ _ _ _ _)
    | ((first | refine GoR.call (f := 62) (by decide) (by rfl) rfl Try.func62 (by decide) (by rfl) ?_ | refine GoR.callG (f := 62) (by decide) (by rfl) (by rfl) rfl Try.func62 (by decide) (by rfl) ?_)
       (refine (clone1 l hl _).ret ?_))
    | ((first | refine GoR.call (f := 61) (by decide) (by rfl) rfl Try.func61 (by decide) (by rfl) ?_ | refine GoR.callG (f := 61) (by decide) (by rfl) (by rfl) rfl Try.func61 (by decide) (by rfl) ?_)
       (refine (clip1 _ _ _).ret ?_))
    | refine Go.condT (by rfl) ?_
    | refine Go.condF (by rfl) ?_
    | refine GoR.skipG (by decide) rfl rfl ?_
    | (refine GoR.splitG rfl (fun hc => ?_) (fun hc => ?_) <;> simp only [hc])
    | refine Go.condB rfl (fun hc => ?_) (fun hc => ?_))
  refine ⟨(by first | exact .inl rfl | exact .inr rfl), fin ?_⟩
  rw [resD_cell (fn := Try.f49) rfl]
  simp only [optThen_some, resultD_tmp, resultD_cell, G, Z, Y, un_neg, Int.reduceEq, Int.reduceLE, cutD, Nat.reduceBEq, Nat.reduceAdd, Nat.reduceMul, Nat.reduceSub, Nat.reducePow, Nat.reduceLT, Nat.reduceGT, Nat.reduceLeDiff, Nat.reduceEqDiff, Int.reduceToNat, gt_iff_lt, if_true, if_false, beq_self_eq_true, reduceIte, decide_true, decide_false, fd2_0, fd2_1, fd2_2, fd2_3, fd2_4, fd2_5, fd2_6, fd2_7, fd2_8, fd2_9, fd3_0, fd3_1, fd3_2, fd3_3, fd3_4, fd3_5, fd3_6, fd3_7, fd3_8, fd3_9, fd9_0, fd9_1, fd9_2, fd9_3, fd9_4, fd9_5, fd9_6, fd9_7, fd25_0, fd25_1, fd25_2, fd25_3, fd25_4, fd25_5, fd25_6, fd25_7, fd25_8, fd25_9, fd25_10, fd25_11, fd25_12, fd25_13, fd25_14, fd25_15, fd25_16, fd25_17, fd25_18, fd25_19, fd25_20, fd25_21, fd25_22, fd25_23, fd39_0, fd39_1, fd39_2, fd39_3, fd39_4, fd39_5, fd39_6, fd39_7, fd39_8, fd39_9, fd39_10, fd39_11]
  exact ⟨_, _, rfl, .of_low (.agg' Val.low), rfl⟩

theorem look_at {l : List Att} {s : ByteArray} (hr : RiseB Att.n l) {i : Nat} (h : i < l.length) (e : l[i].n = s) : look l s = some l[i].v := by
  unfold look
  have hm : l.find? (fun a => decide (a.n = s)) = some l[i] := by
    rw [List.find?_eq_some_iff_getElem]
    refine ⟨by simp [e], i, h, rfl, fun j hj => ?_⟩
    simp only [Bool.not_eq_true', decide_eq_false_iff_not]
    intro hq
    have := hr.inj (show j < l.length by omega) h (hq.trans e.symm)
    omega
  rw [hm]; rfl
theorem look_none {l : List Att} {s : ByteArray} (h : ∀ i (h : i < l.length), l[i].n ≠ s) : look l s = none := by
  unfold look
  have : l.find? (fun a => decide (a.n = s)) = none := by
    rw [List.find?_eq_none]
    intro a ha
    obtain ⟨i, hi, rfl⟩ := List.mem_iff_getElem.1 ha
    simp [h i hi]
  rw [this]; rfl
def noVal : Val := ⟨0, 0, ⟨#[]⟩, []⟩
theorem valD_low {n : Nat} {v : Val} {b : Bool} : DLow n (.tup [.agg v.c, .bool b]) := .tup' (.cons (.agg' Val.low) (.cons (.bool _) .nil))

theorem rowGet (l : List Att) (s : ByteArray) (hr : RiseB Att.n l) (hl : l.length < 1000000) (hv : ∀ a ∈ l, a.v.l.length < 1000000) (S : Mem) :
    CallD Try.prog orc 31 [.sl none 5 l.length (attsC l), .str s] S fun d S' => S' = S ∧ d = .tup [.agg ((look l s).getD noVal).c, .bool (look l s).isSome] := by
  refine CallD.drop ?_
  refine CallD.body Try.func31 rfl (by simp [Try.ntmps31]) ?_
  rw [Try.ntmps31]
  repeat' (first
    | refine Go.seq ?_
    | refine Go.rg ?_
    | refine GoR.nil ?_
    | refine Go.skip ?_
    | refine Go.ret ?_
    | refine Go.block ?_
    | refine Go.exit ?_
    | refine Go.blkX ?_
    | refine Go.blkN ?_
    | refine Go.passX ?_
    | refine Go.lpX ?_
    | (refine Go.blkE (by decide) ?_)
    | (refine Go.rgS dmx (by decide) ?_)
    | ((first | refine GoR.op (by decide) (by rfl) ?_ | refine GoR.opG (by decide) (by rfl) (by rfl) ?_)
       conv => arg 1; simp only [G, Z, Y, un_neg, Int.reduceEq, Int.reduceLE, cutD, Nat.reduceBEq, Nat.reduceAdd, Nat.reduceMul, Nat.reduceSub, Nat.reducePow, Nat.reduceLT, Nat.reduceGT, Nat.reduceLeDiff, Nat.reduceEqDiff, Int.reduceToNat, gt_iff_lt, if_true, if_false, beq_self_eq_true, reduceIte, decide_true, decide_false, fd2_0, fd2_1, fd2_2, fd2_3, fd2_4, fd2_5, fd2_6, fd2_7, fd2_8, fd2_9, fd3_0, fd3_1, fd3_2, fd3_3, fd3_4, fd3_5, fd3_6, fd3_7, fd3_8, fd3_9, fd9_0, fd9_1, fd9_2, fd9_3, fd9_4, fd9_5, fd9_6, fd9_7, fd25_0, fd25_1, fd25_2, fd25_3, fd25_4, fd25_5, fd25_6, fd25_7, fd25_8, fd25_9, fd25_10, fd25_11, fd25_12, fd25_13, fd25_14, fd25_15, fd25_16, fd25_17, fd25_18, fd25_19, fd25_20, fd25_21, fd25_22, fd25_23, fd36_0, fd36_1, fd36_2, fd36_3, fd36_4, fd36_5, fd36_6, fd36_7, fd36_8, fd36_9, fd36_10, fd36_11, fd36_12, fd36_13, fd36_14, fd36_15, fd36_16, fd36_17, fd36_18, fd36_19, fd36_20, fd36_21, fd36_22, fd36_23, fd39_0, fd39_1, fd39_2, fd39_3, fd39_4, fd39_5, fd39_6, fd39_7, fd39_8, fd39_9, fd39_10, fd39_11, fd41_0, fd41_1, fd41_2, fd41_3, fd41_4, fd41_5, fd41_6, fd41_7]
       show GoR _ _ _ _ _ _ _ _ _ _)
    | ((first | refine GoR.call (f := 48) (by decide) (by rfl) rfl Try.func48 (by decide) (by rfl) ?_ | refine GoR.callG (f := 48) (by decide) (by rfl) (by rfl) rfl Try.func48 (by decide) (by rfl) ?_)
       (refine (rowFind l s hr hl _).retE ?_; rintro _ ⟨i, b, rfl, h1, h2, h3, h4⟩))
    | refine Go.condT (by rfl) ?_
    | refine Go.condF (by rfl) ?_
    | refine GoR.skipG (by decide) rfl rfl ?_
    | (refine GoR.splitG rfl (fun hc => ?_) (fun hc => ?_) <;> simp only [hc])
    | refine Go.condB rfl (fun hc => ?_) (fun hc => ?_))
  · have hb : b = false := by simpa using hc
    refine ⟨(by first | exact .inl rfl | exact .inr rfl), fin ?_⟩
    rw [resD_two (fn := Try.f31) rfl]
    simp only [optThen_some, resultD_tmp, resultD_cell, G, Z, Y, un_neg, Int.reduceEq, Int.reduceLE, cutD, Nat.reduceBEq, Nat.reduceAdd, Nat.reduceMul, Nat.reduceSub, Nat.reducePow, Nat.reduceLT, Nat.reduceGT, Nat.reduceLeDiff, Nat.reduceEqDiff, Int.reduceToNat, gt_iff_lt, if_true, if_false, beq_self_eq_true, reduceIte, decide_true, decide_false, fd2_0, fd2_1, fd2_2, fd2_3, fd2_4, fd2_5, fd2_6, fd2_7, fd2_8, fd2_9, fd3_0, fd3_1, fd3_2, fd3_3, fd3_4, fd3_5, fd3_6, fd3_7, fd3_8, fd3_9, fd9_0, fd9_1, fd9_2, fd9_3, fd9_4, fd9_5, fd9_6, fd9_7, fd25_0, fd25_1, fd25_2, fd25_3, fd25_4, fd25_5, fd25_6, fd25_7, fd25_8, fd25_9, fd25_10, fd25_11, fd25_12, fd25_13, fd25_14, fd25_15, fd25_16, fd25_17, fd25_18, fd25_19, fd25_20, fd25_21, fd25_22, fd25_23, fd36_0, fd36_1, fd36_2, fd36_3, fd36_4, fd36_5, fd36_6, fd36_7, fd36_8, fd36_9, fd36_10, fd36_11, fd36_12, fd36_13, fd36_14, fd36_15, fd36_16, fd36_17, fd36_18, fd36_19, fd36_20, fd36_21, fd36_22, fd36_23, fd39_0, fd39_1, fd39_2, fd39_3, fd39_4, fd39_5, fd39_6, fd39_7, fd39_8, fd39_9, fd39_10, fd39_11, fd41_0, fd41_1, fd41_2, fd41_3, fd41_4, fd41_5, fd41_6, fd41_7]
    have hn : look l s = none := by
      refine look_none fun j hj e => ?_
      have hj2 : ¬ j < i := fun h => by have := h2 j hj h; rw [e, ltB_irrefl] at this; cases this
      have hi : i < l.length := by omega
      have hj3 : ¬ i < j := fun h => by have := h3 i hi (Nat.le_refl _); rw [← e, hr.lt hj h] at this; cases this
      obtain rfl : i = j := by omega
      rw [h4.2 ⟨hi, e⟩] at hb; cases hb
    rw [hn]
    have hw : Wf (.tup [.agg [.int .i64 0, .int .i64 0, .str ⟨#[]⟩, .nils], .bool b]) (.tup [.agg noVal.c, .bool b]) := .tup' (.cons (.agg' (.cons .refl (.cons .refl (.cons .refl (.cons .nilE .nil))))) (.cons .refl .nil))
    subst hb
    exact ⟨_, _, rfl, hw.to_Wk valD_low, rfl⟩
  · have hb : b = true := by simpa using hc
    obtain ⟨hi, e⟩ := h4.1 hb
    have hlk := look_at hr hi e
    repeat' (first
      | refine Go.seq ?_
      | refine Go.rg ?_
      | refine GoR.nil ?_
      | refine Go.skip ?_
      | refine Go.ret ?_
      | refine Go.block ?_
      | refine Go.exit ?_
      | refine Go.blkX ?_
      | refine Go.blkN ?_
      | refine Go.passX ?_
      | refine Go.lpX ?_
      | (refine Go.blkE (by decide) ?_)
      | (refine Go.rgS dmx (by decide) ?_)
      | ((first | refine GoR.op (by decide) (by rfl) ?_ | refine GoR.opG (by decide) (by rfl) (by rfl) ?_)
         conv => arg 1; simp only [G, Z, Y, un_neg, Int.reduceEq, Int.reduceLE, cutD, Nat.reduceBEq, Nat.reduceAdd, Nat.reduceMul, Nat.reduceSub, Nat.reducePow, Nat.reduceLT, Nat.reduceGT, Nat.reduceLeDiff, Nat.reduceEqDiff, Int.reduceToNat, gt_iff_lt, if_true, if_false, beq_self_eq_true, reduceIte, decide_true, decide_false, fd2_0, fd2_1, fd2_2, fd2_3, fd2_4, fd2_5, fd2_6, fd2_7, fd2_8, fd2_9, fd3_0, fd3_1, fd3_2, fd3_3, fd3_4, fd3_5, fd3_6, fd3_7, fd3_8, fd3_9, fd9_0, fd9_1, fd9_2, fd9_3, fd9_4, fd9_5, fd9_6, fd9_7, fd25_0, fd25_1, fd25_2, fd25_3, fd25_4, fd25_5, fd25_6, fd25_7, fd25_8, fd25_9, fd25_10, fd25_11, fd25_12, fd25_13, fd25_14, fd25_15, fd25_16, fd25_17, fd25_18, fd25_19, fd25_20, fd25_21, fd25_22, fd25_23, fd36_0, fd36_1, fd36_2, fd36_3, fd36_4, fd36_5, fd36_6, fd36_7, fd36_8, fd36_9, fd36_10, fd36_11, fd36_12, fd36_13, fd36_14, fd36_15, fd36_16, fd36_17, fd36_18, fd36_19, fd36_20, fd36_21, fd36_22, fd36_23, fd39_0, fd39_1, fd39_2, fd39_3, fd39_4, fd39_5, fd39_6, fd39_7, fd39_8, fd39_9, fd39_10, fd39_11, fd41_0, fd41_1, fd41_2, fd41_3, fd41_4, fd41_5, fd41_6, fd41_7, attsAt hi, Val.c]
         show GoR _ _ _ _ _ _ _ _ _ _)
      | ((first | refine GoR.call (f := 49) (by decide) (by rfl) rfl Try.func49 (by decide) (by rfl) ?_ | refine GoR.callG (f := 49) (by decide) (by rfl) (by rfl) rfl Try.func49 (by decide) (by rfl) ?_)
         (refine (apart _ (hv _ (List.getElem_mem _)) _).ret ?_))
      | refine Go.condT (by rfl) ?_
      | refine Go.condF (by rfl) ?_
      | refine GoR.skipG (by decide) rfl rfl ?_
      | (refine GoR.splitG rfl (fun hc => ?_) (fun hc => ?_) <;> simp only [hc])
      | refine Go.condB rfl (fun hc => ?_) (fun hc => ?_))
    refine ⟨(by first | exact .inl rfl | exact .inr rfl), fin ?_⟩
    rw [resD_two (fn := Try.f31) rfl]
    simp only [optThen_some, resultD_tmp, resultD_cell, G, Z, Y, un_neg, Int.reduceEq, Int.reduceLE, cutD, Nat.reduceBEq, Nat.reduceAdd, Nat.reduceMul, Nat.reduceSub, Nat.reducePow, Nat.reduceLT, Nat.reduceGT, Nat.reduceLeDiff, Nat.reduceEqDiff, Int.reduceToNat, gt_iff_lt, if_true, if_false, beq_self_eq_true, reduceIte, decide_true, decide_false, fd2_0, fd2_1, fd2_2, fd2_3, fd2_4, fd2_5, fd2_6, fd2_7, fd2_8, fd2_9, fd3_0, fd3_1, fd3_2, fd3_3, fd3_4, fd3_5, fd3_6, fd3_7, fd3_8, fd3_9, fd9_0, fd9_1, fd9_2, fd9_3, fd9_4, fd9_5, fd9_6, fd9_7, fd25_0, fd25_1, fd25_2, fd25_3, fd25_4, fd25_5, fd25_6, fd25_7, fd25_8, fd25_9, fd25_10, fd25_11, fd25_12, fd25_13, fd25_14, fd25_15, fd25_16, fd25_17, fd25_18, fd25_19, fd25_20, fd25_21, fd25_22, fd25_23, fd36_0, fd36_1, fd36_2, fd36_3, fd36_4, fd36_5, fd36_6, fd36_7, fd36_8, fd36_9, fd36_10, fd36_11, fd36_12, fd36_13, fd36_14, fd36_15, fd36_16, fd36_17, fd36_18, fd36_19, fd36_20, fd36_21, fd36_22, fd36_23, fd39_0, fd39_1, fd39_2, fd39_3, fd39_4, fd39_5, fd39_6, fd39_7, fd39_8, fd39_9, fd39_10, fd39_11, fd41_0, fd41_1, fd41_2, fd41_3, fd41_4, fd41_5, fd41_6, fd41_7]
    rw [hlk]
    exact ⟨_, _, rfl, .of_low valD_low, rfl⟩

end Go.Proofs.DaT
