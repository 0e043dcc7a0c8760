/- Attributes are searched and looked up. -/
import Derived.Test.YtipeffaojbhbmaaDmC6
set_option linter.unusedSimpArgs false
set_option linter.unusedVariables false
namespace Go.Proofs.DmT
open Go Go.DM
set_option maxRecDepth 100000
variable {orc : DOracle}

theorem isNaNS (a : ByteArray) (S : Mem) : CallD Try.prog orc 83 [.str a] S fun d S' => S' = S ∧ d = .bool false := by
  refine CallD.drop ?_
  refine CallD.body Try.func83 rfl (by simp [Try.ntmps83]) ?_
  rw [Try.ntmps83]
  repeat' (first
    | refine Go.seq ?_
    | refine Go.rg ?_
    | refine GoR.nil ?_
    | refine Go.skip ?_
    | refine Go.ret ?_
    | refine Go.block ?_
    | refine Go.exit ?_
    | refine Go.blkX ?_
    | refine Go.blkN ?_
    | refine Go.passX ?_
    | refine Go.lpX ?_
    | (refine Go.blkE (by decide) ?_)
    | (refine Go.rgS dmx (by decide) ?_)
    | ((first | refine GoR.op (by decide) (by rfl) ?_ | refine GoR.opG (by decide) (by rfl) (by rfl) ?_)
       conv => arg 1; simp only [G, Z, Y, un_neg, Int.reduceEq, Int.reduceLE, cutD, Nat.reduceBEq, Nat.reduceAdd, Nat.reduceMul, Nat.reduceSub, Nat.reducePow, Nat.reduceLT, Nat.reduceGT, Nat.reduceLeDiff, Nat.reduceEqDiff, Int.reduceToNat, gt_iff_lt, if_true, if_false, beq_self_eq_true, reduceIte, decide_true, decide_false, fd9_0, fd9_1, fd9_2, fd9_3, fd9_4, fd9_5, fd9_6, fd9_7]
       show GoR _ _ _ _ _ _ _ _ _ _)
    | refine Go.condT (by rfl) ?_
    | refine Go.condF (by rfl) ?_
    | refine GoR.skipG (by decide) rfl rfl ?_
    | (refine GoR.splitG rfl (fun hc => ?_) (fun hc => ?_) <;> simp only [hc])
    | refine Go.condB rfl (fun hc => ?_) (fun hc => ?_))
  all_goals
    refine ⟨(by first | exact .inl rfl | exact .inr rfl), fin ?_⟩
    rw [resD_tmp (fn := Try.f83) rfl]
    simp only [optThen_some, resultD_tmp, resultD_cell, G, Z, Y, un_neg, Int.reduceEq, Int.reduceLE, cutD, Nat.reduceBEq, Nat.reduceAdd, Nat.reduceMul, Nat.reduceSub, Nat.reducePow, Nat.reduceLT, Nat.reduceGT, Nat.reduceLeDiff, Nat.reduceEqDiff, Int.reduceToNat, gt_iff_lt, if_true, if_false, beq_self_eq_true, reduceIte, decide_true, decide_false, fd9_0, fd9_1, fd9_2, fd9_3, fd9_4, fd9_5, fd9_6, fd9_7]
    refine ⟨_, [], by simp, .bool, ?_⟩
    simp
theorem compareS (a b : ByteArray) (S : Mem) : CallD Try.prog orc 75 [.str a, .str b] S fun d S' => S' = S ∧ d = .int .i64 (cmpB a b) := by
  refine CallD.drop ?_
  refine CallD.body Try.func75 rfl (by simp [Try.ntmps75]) ?_
  rw [Try.ntmps75]
  repeat' (first
    | refine Go.seq ?_
    | refine Go.rg ?_
    | refine GoR.nil ?_
    | refine Go.skip ?_
    | refine Go.ret ?_
    | refine Go.block ?_
    | refine Go.exit ?_
    | refine Go.blkX ?_
    | refine Go.blkN ?_
    | refine Go.passX ?_
    | refine Go.lpX ?_
    | (refine Go.blkE (by decide) ?_)
    | (refine Go.rgS dmx (by decide) ?_)
    | ((first | refine GoR.op (by decide) (by rfl) ?_ | refine GoR.opG (by decide) (by rfl) (by rfl) ?_)
       conv => arg 1; simp only [G, Z, Y, un_neg, Int.reduceEq, Int.reduceLE, cutD, Nat.reduceBEq, Nat.reduceAdd, Nat.reduceMul, Nat.reduceSub, Nat.reducePow, Nat.reduceLT, Nat.reduceGT, Nat.reduceLeDiff, Nat.reduceEqDiff, Int.reduceToNat, gt_iff_lt, if_true, if_false, beq_self_eq_true, reduceIte, decide_true, decide_false, fd9_0, fd9_1, fd9_2, fd9_3, fd9_4, fd9_5, fd9_6, fd9_7]
       show GoR _ _ _ _ _ _ _ _ _ _)
    | ((first | refine GoR.call (f := 83) (by decide) (by rfl) rfl Try.func83 (by decide) (by rfl) ?_ | refine GoR.callG (f := 83) (by decide) (by rfl) (by rfl) rfl Try.func83 (by decide) (by rfl) ?_)
       (refine (isNaNS _ _).ret ?_))
    | refine Go.condT (by rfl) ?_
    | refine Go.condF (by rfl) ?_
    | refine GoR.skipG (by decide) rfl rfl ?_
    | (refine GoR.splitG rfl (fun hc => ?_) (fun hc => ?_) <;> simp only [hc])
    | refine Go.condB rfl (fun hc => ?_) (fun hc => ?_))
  all_goals
    refine ⟨(by first | exact .inl rfl | exact .inr rfl), fin ?_⟩
    rw [resD_tmp (fn := Try.f75) rfl]
    simp only [optThen_some, resultD_tmp, resultD_cell, G, Z, Y, un_neg, Int.reduceEq, Int.reduceLE, cutD, Nat.reduceBEq, Nat.reduceAdd, Nat.reduceMul, Nat.reduceSub, Nat.reducePow, Nat.reduceLT, Nat.reduceGT, Nat.reduceLeDiff, Nat.reduceEqDiff, Int.reduceToNat, gt_iff_lt, if_true, if_false, beq_self_eq_true, reduceIte, decide_true, decide_false, fd9_0, fd9_1, fd9_2, fd9_3, fd9_4, fd9_5, fd9_6, fd9_7]
    refine ⟨_, [], by simp, .int, ?_⟩
    unfold cmpB ltB
    simp_all
theorem find1 (a : Att) (s : ByteArray) (S : Mem) : CallD Try.prog orc 74 [.agg a.c, .str s] S fun d S' => S' = S ∧ d = .int .i64 (cmpB a.n s) := by
  obtain ⟨n, v⟩ := a
  simp only [Att.c]
  refine CallD.drop ?_
  refine CallD.body Try.func74 rfl (by simp [Try.ntmps74]) ?_
  rw [Try.ntmps74]
  repeat' (first
    | refine Go.seq ?_
    | refine Go.rg ?_
    | refine GoR.nil ?_
    | refine Go.skip ?_
    | refine Go.ret ?_
    | refine Go.block ?_
    | refine Go.exit ?_
    | refine Go.blkX ?_
    | refine Go.blkN ?_
    | refine Go.passX ?_
    | refine Go.lpX ?_
    | (refine Go.blkE (by decide) ?_)
    | (refine Go.rgS dmx (by decide) ?_)
    | ((first | refine GoR.op (by decide) (by rfl) ?_ | refine GoR.opG (by decide) (by rfl) (by rfl) ?_)
       conv => arg 1; simp only [G, Z, Y, un_neg, Int.reduceEq, Int.reduceLE, cutD, Nat.reduceBEq, Nat.reduceAdd, Nat.reduceMul, Nat.reduceSub, Nat.reducePow, Nat.reduceLT, Nat.reduceGT, Nat.reduceLeDiff, Nat.reduceEqDiff, Int.reduceToNat, gt_iff_lt, if_true, if_false, beq_self_eq_true, reduceIte, decide_true, decide_false, fd9_0, fd9_1, fd9_2, fd9_3, fd9_4, fd9_5, fd9_6, fd9_7, fd49_0, fd49_1, fd49_2, fd49_3, fd49_4, fd49_5, fd49_6, fd49_7, fd49_8, fd49_9, fd49_10, fd49_11, fd51_0, fd51_1, fd51_2, fd51_3, fd51_4, fd51_5, fd51_6, fd51_7]
       show GoR _ _ _ _ _ _ _ _ _ _)
    | ((first | refine GoR.call (f := 75) (by decide) (by rfl) rfl Try.func75 (by decide) (by rfl) ?_ | refine GoR.callG (f := 75) (by decide) (by rfl) (by rfl) rfl Try.func75 (by decide) (by rfl) ?_)
       (refine (compareS _ _ _).ret ?_))
    | refine Go.condT (by rfl) ?_
    | refine Go.condF (by rfl) ?_
    | refine GoR.skipG (by decide) rfl rfl ?_
    | (refine GoR.splitG rfl (fun hc => ?_) (fun hc => ?_) <;> simp only [hc])
    | refine Go.condB rfl (fun hc => ?_) (fun hc => ?_))
  refine ⟨(by first | exact .inl rfl | exact .inr rfl), fin ?_⟩
  rw [resD_tmp (fn := Try.f74) rfl]
  simp only [optThen_some, resultD_tmp, resultD_cell, G, Z, Y, un_neg, Int.reduceEq, Int.reduceLE, cutD, Nat.reduceBEq, Nat.reduceAdd, Nat.reduceMul, Nat.reduceSub, Nat.reducePow, Nat.reduceLT, Nat.reduceGT, Nat.reduceLeDiff, Nat.reduceEqDiff, Int.reduceToNat, gt_iff_lt, if_true, if_false, beq_self_eq_true, reduceIte, decide_true, decide_false, fd9_0, fd9_1, fd9_2, fd9_3, fd9_4, fd9_5, fd9_6, fd9_7, fd49_0, fd49_1, fd49_2, fd49_3, fd49_4, fd49_5, fd49_6, fd49_7, fd49_8, fd49_9, fd49_10, fd49_11, fd51_0, fd51_1, fd51_2, fd51_3, fd51_4, fd51_5, fd51_6, fd51_7]
  exact ⟨_, _, rfl, .int, rfl⟩

theorem shr1 (n : Nat) : (n : Int).fdiv (2 ^ (min (1 : Nat) IntKind.u64.bits)) = ((n / 2 : Nat) : Int) := by
  rw [show (2 : Int) ^ (min (1 : Nat) IntKind.u64.bits) = ((2 : Nat) : Int) from rfl, Int.fdiv_eq_ediv_of_nonneg _ (by omega)]
  omega
theorem add_cast {i j : Nat} (h : i + j < 4611686018427387904) : IntKind.i64.wrap ((i : Int) + (j : Int)) = ((i + j : Nat) : Int) := by rw [wrap64 (by omega) (by omega)]; omega
theorem i64_cast {i : Nat} (h : i < 4611686018427387904) : IntKind.i64.wrap (i : Int) = (i : Int) := wrap64 (by omega) (by omega)
theorem u64_cast {i : Nat} (h : i < 4611686018427387904) : IntKind.u64.wrap (i : Int) = (i : Int) := wrapu64 (by omega) (by omega)

theorem search (l : List Att) (s : ByteArray) (hr : RiseB Att.n l) (hl : l.length < 1000000) (S : Mem) :
    CallD Try.prog orc 73 [.sl none 5 l.length (attsC l), .str s, .fn (.func 74) [] []] S
      fun d S' => S' = S ∧ ∃ i b, d = .tup [.int .i64 ((i : Nat) : Int), .bool b] ∧ i ≤ l.length ∧ (∀ k (h : k < l.length), k < i → ltB l[k].n s = true) ∧ (∀ k (h : k < l.length), i ≤ k → ltB l[k].n s = false) ∧ (b = true ↔ ∃ h : i < l.length, l[i].n = s) := by
  refine CallD.drop ?_
  refine CallD.body Try.func73 rfl (by simp [Try.ntmps73]) ?_
  rw [Try.ntmps73]
  repeat' (first
    | refine Go.seq ?_
    | refine Go.rg ?_
    | refine GoR.nil ?_
    | refine Go.skip ?_
    | refine Go.ret ?_
    | refine Go.block ?_
    | refine Go.exit ?_
    | refine Go.blkX ?_
    | refine Go.blkN ?_
    | refine Go.passX ?_
    | refine Go.lpX ?_
    | (refine Go.blkE (by decide) ?_)
    | (refine Go.rgS dmx (by decide) ?_)
    | ((first | refine GoR.op (by decide) (by rfl) ?_ | refine GoR.opG (by decide) (by rfl) (by rfl) ?_)
       conv => arg 1; simp only [G, Z, Y, un_neg, Int.reduceEq, Int.reduceLE, cutD, Nat.reduceBEq, Nat.reduceAdd, Nat.reduceMul, Nat.reduceSub, Nat.reducePow, Nat.reduceLT, Nat.reduceGT, Nat.reduceLeDiff, Nat.reduceEqDiff, Int.reduceToNat, gt_iff_lt, if_true, if_false, beq_self_eq_true, reduceIte, decide_true, decide_false, fd3_0, fd3_1, fd3_2, fd3_3, fd3_4, fd3_5, fd3_6, fd3_7, fd3_8, fd3_9, fd9_0, fd9_1, fd9_2, fd9_3, fd9_4, fd9_5, fd9_6, fd9_7, fd25_0, fd25_1, fd25_2, fd25_3, fd25_4, fd25_5, fd25_6, fd25_7, fd25_8, fd25_9, fd25_10, fd25_11, fd25_12, fd25_13, fd25_14, fd25_15, fd25_16, fd25_17, fd25_18, fd25_19, fd25_20, fd25_21, fd25_22, fd25_23, fd47_0, fd47_1, fd47_2, fd47_3, fd47_4, fd47_5, fd47_6, fd47_7, fd47_8, fd47_9, fd49_0, fd49_1, fd49_2, fd49_3, fd49_4, fd49_5, fd49_6, fd49_7, fd49_8, fd49_9, fd49_10, fd49_11, fd51_0, fd51_1, fd51_2, fd51_3, fd51_4, fd51_5, fd51_6, fd51_7]
       show GoR _ _ _ _ _ _ _ _ _ _)
    | refine Go.condT (by rfl) ?_
    | refine Go.condF (by rfl) ?_
    | refine GoR.skipG (by decide) rfl rfl ?_
    | (refine GoR.splitG rfl (fun hc => ?_) (fun hc => ?_) <;> simp only [hc])
    | refine Go.condB rfl (fun hc => ?_) (fun hc => ?_))
  refine Go.keep [(0, .sl none 5 l.length (attsC l)), (1, .str s), (2, .fn (.func 74) [] []), (8, .int .i64 (l.length : Int)), (9, .int .i64 ((0 : Nat) : Int)), (10, .int .i64 (l.length : Int))] (.cons .refl (.cons .refl (.cons .refl (.cons .refl (.cons .refl (.cons .refl (.nil))))))) ?_
  refine Go.while (α := Nat × Nat) (fun a => a.2 - a.1) (fun a => [(0, .sl none 5 l.length (attsC l)), (1, .str s), (2, .fn (.func 74) [] []), (8, .int .i64 (l.length : Int)), (9, .int .i64 (a.1 : Int)), (10, .int .i64 (a.2 : Int))]) (fun _ => S)
    (fun a => a.1 ≤ a.2 ∧ a.2 ≤ l.length ∧ (∀ k (h : k < l.length), k < a.1 → ltB l[k].n s = true) ∧ (∀ k (h : k < l.length), a.2 ≤ k → ltB l[k].n s = false)) ?_ (0, l.length) ⟨Nat.zero_le _, Nat.le_refl _, by simp, fun k h h2 => absurd h (by dsimp only at h2; omega)⟩
  rintro ⟨i, j⟩ ⟨hij, hj, hlo, hhi⟩ next
  dsimp only at hij hj hlo hhi next
  repeat' (first
    | refine Go.seq ?_
    | refine Go.rg ?_
    | refine GoR.nil ?_
    | refine Go.skip ?_
    | refine Go.ret ?_
    | refine Go.block ?_
    | refine Go.exit ?_
    | refine Go.blkX ?_
    | refine Go.blkN ?_
    | refine Go.passX ?_
    | refine Go.lpX ?_
    | (refine Go.blkE (by decide) ?_)
    | (refine Go.rgS dmx (by decide) ?_)
    | ((first | refine GoR.op (by decide) (by rfl) ?_ | refine GoR.opG (by decide) (by rfl) (by rfl) ?_)
       conv => arg 1; simp only [G, Z, Y, un_neg, Int.reduceEq, Int.reduceLE, cutD, Nat.reduceBEq, Nat.reduceAdd, Nat.reduceMul, Nat.reduceSub, Nat.reducePow, Nat.reduceLT, Nat.reduceGT, Nat.reduceLeDiff, Nat.reduceEqDiff, Int.reduceToNat, gt_iff_lt, if_true, if_false, beq_self_eq_true, reduceIte, decide_true, decide_false, fd3_0, fd3_1, fd3_2, fd3_3, fd3_4, fd3_5, fd3_6, fd3_7, fd3_8, fd3_9, fd9_0, fd9_1, fd9_2, fd9_3, fd9_4, fd9_5, fd9_6, fd9_7, fd25_0, fd25_1, fd25_2, fd25_3, fd25_4, fd25_5, fd25_6, fd25_7, fd25_8, fd25_9, fd25_10, fd25_11, fd25_12, fd25_13, fd25_14, fd25_15, fd25_16, fd25_17, fd25_18, fd25_19, fd25_20, fd25_21, fd25_22, fd25_23, fd47_0, fd47_1, fd47_2, fd47_3, fd47_4, fd47_5, fd47_6, fd47_7, fd47_8, fd47_9, fd49_0, fd49_1, fd49_2, fd49_3, fd49_4, fd49_5, fd49_6, fd49_7, fd49_8, fd49_9, fd49_10, fd49_11, fd51_0, fd51_1, fd51_2, fd51_3, fd51_4, fd51_5, fd51_6, fd51_7]
       show GoR _ _ _ _ _ _ _ _ _ _)
    | refine Go.condT (by rfl) ?_
    | refine Go.condF (by rfl) ?_
    | refine GoR.skipG (by decide) rfl rfl ?_
    | (refine GoR.splitG rfl (fun hc => ?_) (fun hc => ?_) <;> simp only [hc])
    | refine Go.condB rfl (fun hc => ?_) (fun hc => ?_))
  · have h1 : i < j := by simpa using hc
    have hh : (i + j) / 2 < l.length := by omega
    repeat' (first
      | refine Go.seq ?_
      | refine Go.rg ?_
      | refine GoR.nil ?_
      | refine Go.skip ?_
      | refine Go.ret ?_
      | refine Go.block ?_
      | refine Go.exit ?_
      | refine Go.blkX ?_
      | refine Go.blkN ?_
      | refine Go.passX ?_
      | refine Go.lpX ?_
      | (refine Go.blkE (by decide) ?_)
      | (refine Go.rgS dmx (by decide) ?_)
      | ((first | refine GoR.op (by decide) (by rfl) ?_ | refine GoR.opG (by decide) (by rfl) (by rfl) ?_)
         conv => arg 1; simp only [G, Z, Y, un_neg, Int.reduceEq, Int.reduceLE, cutD, Nat.reduceBEq, Nat.reduceAdd, Nat.reduceMul, Nat.reduceSub, Nat.reducePow, Nat.reduceLT, Nat.reduceGT, Nat.reduceLeDiff, Nat.reduceEqDiff, Int.reduceToNat, gt_iff_lt, if_true, if_false, beq_self_eq_true, reduceIte, decide_true, decide_false, fd3_0, fd3_1, fd3_2, fd3_3, fd3_4, fd3_5, fd3_6, fd3_7, fd3_8, fd3_9, fd9_0, fd9_1, fd9_2, fd9_3, fd9_4, fd9_5, fd9_6, fd9_7, fd25_0, fd25_1, fd25_2, fd25_3, fd25_4, fd25_5, fd25_6, fd25_7, fd25_8, fd25_9, fd25_10, fd25_11, fd25_12, fd25_13, fd25_14, fd25_15, fd25_16, fd25_17, fd25_18, fd25_19, fd25_20, fd25_21, fd25_22, fd25_23, fd47_0, fd47_1, fd47_2, fd47_3, fd47_4, fd47_5, fd47_6, fd47_7, fd47_8, fd47_9, fd49_0, fd49_1, fd49_2, fd49_3, fd49_4, fd49_5, fd49_6, fd49_7, fd49_8, fd49_9, fd49_10, fd49_11, fd51_0, fd51_1, fd51_2, fd51_3, fd51_4, fd51_5, fd51_6, fd51_7, add_cast (show i + j < 4611686018427387904 by omega), u64_cast (show i + j < 4611686018427387904 by omega), shr1, i64_cast (show (i + j) / 2 < 4611686018427387904 by omega), attsAt hh, wrap_succ (show (i + j) / 2 < 4611686018427387904 by omega)]
         show GoR _ _ _ _ _ _ _ _ _ _)
      | ((first | refine GoR.call (f := 74) (by decide) (by rfl) rfl Try.func74 (by decide) (by rfl) ?_ | refine GoR.callG (f := 74) (by decide) (by rfl) (by rfl) rfl Try.func74 (by decide) (by rfl) ?_)
         (refine (find1 _ _ _).ret ?_))
      | refine Go.condT (by rfl) ?_
      | refine Go.condF (by rfl) ?_
      | refine GoR.skipG (by decide) rfl rfl ?_
      | (refine GoR.splitG rfl (fun hc => ?_) (fun hc => ?_) <;> simp only [hc])
      | refine Go.condB rfl (fun hc => ?_) (fun hc => ?_))
    · refine Go.lpN ?_
      refine Go.keep [(0, .sl none 5 l.length (attsC l)), (1, .str s), (2, .fn (.func 74) [] []), (8, .int .i64 (l.length : Int)), (9, .int .i64 (((i + j) / 2 + 1 : Nat) : Int)), (10, .int .i64 (j : Int))] (.cons .refl (.cons .refl (.cons .refl (.cons .refl (.cons .refl (.cons .refl (.nil))))))) ?_
      have hlt := cmpB_neg.1 (of_decide_eq_true hc)
      refine next ((i + j) / 2 + 1, j) (by dsimp only; omega) ⟨by dsimp only; omega, hj, fun k hk hk2 => ?_, hhi⟩
      dsimp only at hk2
      rcases Nat.lt_or_ge k ((i + j) / 2) with h | h
      · exact ltB_trans (hr.lt hh h) hlt
      · obtain rfl : k = (i + j) / 2 := by omega
        exact hlt
    · refine Go.lpN ?_
      refine Go.keep [(0, .sl none 5 l.length (attsC l)), (1, .str s), (2, .fn (.func 74) [] []), (8, .int .i64 (l.length : Int)), (9, .int .i64 (i : Int)), (10, .int .i64 (((i + j) / 2 : Nat) : Int))] (.cons .refl (.cons .refl (.cons .refl (.cons .refl (.cons .refl (.cons .refl (.nil))))))) ?_
      have hge : ltB l[(i + j) / 2].n s = false := by
        cases hq : ltB l[(i + j) / 2].n s with
        | false => rfl
        | true => exact absurd (cmpB_neg.2 hq) (of_decide_eq_false hc)
      refine next (i, (i + j) / 2) (by dsimp only; omega) ⟨by dsimp only; omega, by dsimp only; omega, hlo, fun k hk hk2 => ?_⟩
      dsimp only at hk2
      rcases Nat.lt_or_ge ((i + j) / 2) k with h | h
      · cases hq : ltB l[k].n s with
        | false => rfl
        | true => rw [ltB_trans (hr.lt hk h) hq] at hge; cases hge
      · obtain rfl : k = (i + j) / 2 := by omega
        exact hge
  · clear next
    rename_i h0
    have hi : i = j := by have : j ≤ i := by simpa using h0
                          omega
    subst hi
    have hn : i < l.length := by simpa using hc
    repeat' (first
      | refine Go.seq ?_
      | refine Go.rg ?_
      | refine GoR.nil ?_
      | refine Go.skip ?_
      | refine Go.ret ?_
      | refine Go.block ?_
      | refine Go.exit ?_
      | refine Go.blkX ?_
      | refine Go.blkN ?_
      | refine Go.passX ?_
      | refine Go.lpX ?_
      | (refine Go.blkE (by decide) ?_)
      | (refine Go.rgS dmx (by decide) ?_)
      | ((first | refine GoR.op (by decide) (by rfl) ?_ | refine GoR.opG (by decide) (by rfl) (by rfl) ?_)
         conv => arg 1; simp only [G, Z, Y, un_neg, Int.reduceEq, Int.reduceLE, cutD, Nat.reduceBEq, Nat.reduceAdd, Nat.reduceMul, Nat.reduceSub, Nat.reducePow, Nat.reduceLT, Nat.reduceGT, Nat.reduceLeDiff, Nat.reduceEqDiff, Int.reduceToNat, gt_iff_lt, if_true, if_false, beq_self_eq_true, reduceIte, decide_true, decide_false, fd3_0, fd3_1, fd3_2, fd3_3, fd3_4, fd3_5, fd3_6, fd3_7, fd3_8, fd3_9, fd9_0, fd9_1, fd9_2, fd9_3, fd9_4, fd9_5, fd9_6, fd9_7, fd25_0, fd25_1, fd25_2, fd25_3, fd25_4, fd25_5, fd25_6, fd25_7, fd25_8, fd25_9, fd25_10, fd25_11, fd25_12, fd25_13, fd25_14, fd25_15, fd25_16, fd25_17, fd25_18, fd25_19, fd25_20, fd25_21, fd25_22, fd25_23, fd47_0, fd47_1, fd47_2, fd47_3, fd47_4, fd47_5, fd47_6, fd47_7, fd47_8, fd47_9, fd49_0, fd49_1, fd49_2, fd49_3, fd49_4, fd49_5, fd49_6, fd49_7, fd49_8, fd49_9, fd49_10, fd49_11, fd51_0, fd51_1, fd51_2, fd51_3, fd51_4, fd51_5, fd51_6, fd51_7, attsAt hn]
         show GoR _ _ _ _ _ _ _ _ _ _)
      | ((first | refine GoR.call (f := 74) (by decide) (by rfl) rfl Try.func74 (by decide) (by rfl) ?_ | refine GoR.callG (f := 74) (by decide) (by rfl) (by rfl) rfl Try.func74 (by decide) (by rfl) ?_)
         (refine (find1 _ _ _).ret ?_))
      | refine Go.condT (by rfl) ?_
      | refine Go.condF (by rfl) ?_
      | refine GoR.skipG (by decide) rfl rfl ?_
      | (refine GoR.splitG rfl (fun hc => ?_) (fun hc => ?_) <;> simp only [hc])
      | refine Go.condB rfl (fun hc => ?_) (fun hc => ?_))
    refine ⟨(by first | exact .inl rfl | exact .inr rfl), fin ?_⟩
    rw [resD_two (fn := Try.f73) rfl]
    simp only [optThen_some, resultD_tmp, resultD_cell, G, Z, Y, un_neg, Int.reduceEq, Int.reduceLE, cutD, Nat.reduceBEq, Nat.reduceAdd, Nat.reduceMul, Nat.reduceSub, Nat.reducePow, Nat.reduceLT, Nat.reduceGT, Nat.reduceLeDiff, Nat.reduceEqDiff, Int.reduceToNat, gt_iff_lt, if_true, if_false, beq_self_eq_true, reduceIte, decide_true, decide_false, fd3_0, fd3_1, fd3_2, fd3_3, fd3_4, fd3_5, fd3_6, fd3_7, fd3_8, fd3_9, fd9_0, fd9_1, fd9_2, fd9_3, fd9_4, fd9_5, fd9_6, fd9_7, fd25_0, fd25_1, fd25_2, fd25_3, fd25_4, fd25_5, fd25_6, fd25_7, fd25_8, fd25_9, fd25_10, fd25_11, fd25_12, fd25_13, fd25_14, fd25_15, fd25_16, fd25_17, fd25_18, fd25_19, fd25_20, fd25_21, fd25_22, fd25_23, fd47_0, fd47_1, fd47_2, fd47_3, fd47_4, fd47_5, fd47_6, fd47_7, fd47_8, fd47_9, fd49_0, fd49_1, fd49_2, fd49_3, fd49_4, fd49_5, fd49_6, fd49_7, fd49_8, fd49_9, fd49_10, fd49_11, fd51_0, fd51_1, fd51_2, fd51_3, fd51_4, fd51_5, fd51_6, fd51_7]
    exact ⟨_, [], by simp, .of_low (.tup' (.cons (.int _ _) (.cons (.bool _) .nil))), i, _, rfl, hj, hlo, hhi, by simp [cmpB_zero, hn]⟩
  · clear next
    rename_i h0
    have hi : i = j := by have : j ≤ i := by simpa using h0
                          omega
    subst hi
    have hn : ¬ i < l.length := by simpa using hc
    refine ⟨(by first | exact .inl rfl | exact .inr rfl), fin ?_⟩
    rw [resD_two (fn := Try.f73) rfl]
    simp only [optThen_some, resultD_tmp, resultD_cell, G, Z, Y, un_neg, Int.reduceEq, Int.reduceLE, cutD, Nat.reduceBEq, Nat.reduceAdd, Nat.reduceMul, Nat.reduceSub, Nat.reducePow, Nat.reduceLT, Nat.reduceGT, Nat.reduceLeDiff, Nat.reduceEqDiff, Int.reduceToNat, gt_iff_lt, if_true, if_false, beq_self_eq_true, reduceIte, decide_true, decide_false, fd3_0, fd3_1, fd3_2, fd3_3, fd3_4, fd3_5, fd3_6, fd3_7, fd3_8, fd3_9, fd9_0, fd9_1, fd9_2, fd9_3, fd9_4, fd9_5, fd9_6, fd9_7, fd25_0, fd25_1, fd25_2, fd25_3, fd25_4, fd25_5, fd25_6, fd25_7, fd25_8, fd25_9, fd25_10, fd25_11, fd25_12, fd25_13, fd25_14, fd25_15, fd25_16, fd25_17, fd25_18, fd25_19, fd25_20, fd25_21, fd25_22, fd25_23, fd47_0, fd47_1, fd47_2, fd47_3, fd47_4, fd47_5, fd47_6, fd47_7, fd47_8, fd47_9, fd49_0, fd49_1, fd49_2, fd49_3, fd49_4, fd49_5, fd49_6, fd49_7, fd49_8, fd49_9, fd49_10, fd49_11, fd51_0, fd51_1, fd51_2, fd51_3, fd51_4, fd51_5, fd51_6, fd51_7]
    exact ⟨_, [], by simp, .of_low (.tup' (.cons (.int _ _) (.cons (.bool _) .nil))), i, _, rfl, hj, hlo, hhi, by simp [hn]⟩

/-- What an attribute is. -/
def look (l : List Att) (s : ByteArray) : Option Val := (l.find? fun a => decide (a.n = s)).map (·.v)

theorem rowFind (l : List Att) (s : ByteArray) (hr : RiseB Att.n l) (hl : l.length < 1000000) (S : Mem) :
    CallD Try.prog orc 57 [.sl none 5 l.length (attsC l), .str s] S
      fun d S' => S' = S ∧ ∃ i b, d = .tup [.int .i64 ((i : Nat) : Int), .bool b] ∧ i ≤ l.length ∧ (∀ k (h : k < l.length), k < i → ltB l[k].n s = true) ∧ (∀ k (h : k < l.length), i ≤ k → ltB l[k].n s = false) ∧ (b = true ↔ ∃ h : i < l.length, l[i].n = s) := by
  refine CallD.drop ?_
  refine CallD.body Try.func57 rfl (by simp [Try.ntmps57]) ?_
  rw [Try.ntmps57]
  repeat' (first
    | refine Go.seq ?_
    | refine Go.rg ?_
    | refine GoR.nil ?_
    | refine Go.skip ?_
    | refine Go.ret ?_
    | refine Go.block ?_
    | refine Go.exit ?_
    | refine Go.blkX ?_
    | refine Go.blkN ?_
    | refine Go.passX ?_
    | refine Go.lpX ?_
    | (refine Go.blkE (by decide) ?_)
    | (refine Go.rgS dmx (by decide) ?_)
    | ((first | refine GoR.op (by decide) (by rfl) ?_ | refine GoR.opG (by decide) (by rfl) (by rfl) ?_)
       conv => arg 1; simp only [G, Z, Y, un_neg, Int.reduceEq, Int.reduceLE, cutD, Nat.reduceBEq, Nat.reduceAdd, Nat.reduceMul, Nat.reduceSub, Nat.reducePow, Nat.reduceLT, Nat.reduceGT, Nat.reduceLeDiff, Nat.reduceEqDiff, Int.reduceToNat, gt_iff_lt, if_true, if_false, beq_self_eq_true, reduceIte, decide_true, decide_false]
       show GoR _ _ _ _ _ _ _ _ _ _)
    | ((first | refine GoR.call (f := 73) (by decide) (by rfl) rfl Try.func73 (by decide) (by rfl) ?_ | refine GoR.callG (f := 73) (by decide) (by rfl) (by rfl) rfl Try.func73 (by decide) (by rfl) ?_)
       (refine (search l s hr hl _).retE ?_; rintro _ ⟨i, b, rfl, h1, h2, h3, h4⟩))
    | refine Go.condT (by rfl) ?_
    | refine Go.condF (by rfl) ?_
    | refine GoR.skipG (by decide) rfl rfl ?_
    | (refine GoR.splitG rfl (fun hc => ?_) (fun hc => ?_) <;> simp only [hc])
    | refine Go.condB rfl (fun hc => ?_) (fun hc => ?_))
  refine ⟨(by first | exact .inl rfl | exact .inr rfl), fin ?_⟩
  rw [resD_two (fn := Try.f57) rfl]
  simp only [optThen_some, resultD_tmp, resultD_cell, G, Z, Y, un_neg, Int.reduceEq, Int.reduceLE, cutD, Nat.reduceBEq, Nat.reduceAdd, Nat.reduceMul, Nat.reduceSub, Nat.reducePow, Nat.reduceLT, Nat.reduceGT, Nat.reduceLeDiff, Nat.reduceEqDiff, Int.reduceToNat, gt_iff_lt, if_true, if_false, beq_self_eq_true, reduceIte, decide_true, decide_false]
  exact ⟨_, [], by simp, .of_low (.tup' (.cons (.int _ _) (.cons (.bool _) .nil))), i, b, rfl, h1, h2, h3, h4⟩

theorem clone1 (l : List Int) (hl : l.length < 1000000) (S : Mem) : CallD Try.prog orc 77 [.sl none 1 l.length (intsD l)] S fun d S' => S' = S ∧ d = .sl none 1 l.length (intsD l) := by
  cases l with
  | nil =>
    refine CallD.nilOr (pre := []) (post := []) ?_ ?_
    · refine CallD.drop ?_
      refine CallD.body Try.func77 rfl (by simp [Try.ntmps77]) ?_
      rw [Try.ntmps77]
      repeat' (first
        | refine Go.seq ?_
        | refine Go.rg ?_
        | refine GoR.nil ?_
        | refine Go.skip ?_
        | refine Go.ret ?_
        | refine Go.block ?_
        | refine Go.exit ?_
        | refine Go.blkX ?_
        | refine Go.blkN ?_
        | refine Go.passX ?_
        | refine Go.lpX ?_
        | (refine Go.blkE (by decide) ?_)
        | (refine Go.rgS dmx (by decide) ?_)
        | ((first | refine GoR.op (by decide) (by rfl) ?_ | refine GoR.opG (by decide) (by rfl) (by rfl) ?_)
           conv => arg 1; simp only [G, Z, Y, un_neg, Int.reduceEq, Int.reduceLE, cutD, Nat.reduceBEq, Nat.reduceAdd, Nat.reduceMul, Nat.reduceSub, Nat.reducePow, Nat.reduceLT, Nat.reduceGT, Nat.reduceLeDiff, Nat.reduceEqDiff, Int.reduceToNat, gt_iff_lt, if_true, if_false, beq_self_eq_true, reduceIte, decide_true, decide_false, fd43_0, fd43_1, fd43_2, fd43_3, fd43_4, fd43_5, fd43_6, fd43_7, fd43_8, fd43_9, fd43_10, fd43_11, fd43_12, fd43_13, fd43_14, fd43_15, fd43_16, fd43_17, fd43_18, fd43_19, fd43_20, fd43_21, fd43_22, fd43_23]
           show GoR _ _ _ _ _ _ _ _ _ _)
        | refine Go.condT (by rfl) ?_
        | refine Go.condF (by rfl) ?_
        | refine GoR.skipG (by decide) rfl rfl ?_
        | (refine GoR.splitG rfl (fun hc => ?_) (fun hc => ?_) <;> simp only [hc])
        | refine Go.condB rfl (fun hc => ?_) (fun hc => ?_))
      refine ⟨(by first | exact .inl rfl | exact .inr rfl), fin ?_⟩
      rw [resD_tmp (fn := Try.f77) rfl]
      simp only [optThen_some, resultD_tmp, resultD_cell, G, Z, Y, un_neg, Int.reduceEq, Int.reduceLE, cutD, Nat.reduceBEq, Nat.reduceAdd, Nat.reduceMul, Nat.reduceSub, Nat.reducePow, Nat.reduceLT, Nat.reduceGT, Nat.reduceLeDiff, Nat.reduceEqDiff, Int.reduceToNat, gt_iff_lt, if_true, if_false, beq_self_eq_true, reduceIte, decide_true, decide_false, fd43_0, fd43_1, fd43_2, fd43_3, fd43_4, fd43_5, fd43_6, fd43_7, fd43_8, fd43_9, fd43_10, fd43_11, fd43_12, fd43_13, fd43_14, fd43_15, fd43_16, fd43_17, fd43_18, fd43_19, fd43_20, fd43_21, fd43_22, fd43_23]
      exact ⟨_, [], by simp, .nilE, rfl⟩
    · refine CallD.drop ?_
      refine CallD.body Try.func77 rfl (by simp [Try.ntmps77]) ?_
      rw [Try.ntmps77]
      repeat' (first
        | refine Go.seq ?_
        | refine Go.rg ?_
        | refine GoR.nil ?_
        | refine Go.skip ?_
        | refine Go.ret ?_
        | refine Go.block ?_
        | refine Go.exit ?_
        | refine Go.blkX ?_
        | refine Go.blkN ?_
        | refine Go.passX ?_
        | refine Go.lpX ?_
        | (refine Go.blkE (by decide) ?_)
        | (refine Go.rgS dmx (by decide) ?_)
        | ((first | refine GoR.op (by decide) (by rfl) ?_ | refine GoR.opG (by decide) (by rfl) (by rfl) ?_)
           conv => arg 1; simp only [G, Z, Y, un_neg, Int.reduceEq, Int.reduceLE, cutD, Nat.reduceBEq, Nat.reduceAdd, Nat.reduceMul, Nat.reduceSub, Nat.reducePow, Nat.reduceLT, Nat.reduceGT, Nat.reduceLeDiff, Nat.reduceEqDiff, Int.reduceToNat, gt_iff_lt, if_true, if_false, beq_self_eq_true, reduceIte, decide_true, decide_false, fd43_0, fd43_1, fd43_2, fd43_3, fd43_4, fd43_5, fd43_6, fd43_7, fd43_8, fd43_9, fd43_10, fd43_11, fd43_12, fd43_13, fd43_14, fd43_15, fd43_16, fd43_17, fd43_18, fd43_19, fd43_20, fd43_21, fd43_22, fd43_23]
           show GoR _ _ _ _ _ _ _ _ _ _)
        | refine Go.condT (by rfl) ?_
        | refine Go.condF (by rfl) ?_
        | refine GoR.skipG (by decide) rfl rfl ?_
        | (refine GoR.splitG rfl (fun hc => ?_) (fun hc => ?_) <;> simp only [hc])
        | refine Go.condB rfl (fun hc => ?_) (fun hc => ?_))
      refine ⟨(by first | exact .inl rfl | exact .inr rfl), fin ?_⟩
      rw [resD_tmp (fn := Try.f77) rfl]
      simp only [optThen_some, resultD_tmp, resultD_cell, G, Z, Y, un_neg, Int.reduceEq, Int.reduceLE, cutD, Nat.reduceBEq, Nat.reduceAdd, Nat.reduceMul, Nat.reduceSub, Nat.reducePow, Nat.reduceLT, Nat.reduceGT, Nat.reduceLeDiff, Nat.reduceEqDiff, Int.reduceToNat, gt_iff_lt, if_true, if_false, beq_self_eq_true, reduceIte, decide_true, decide_false, fd43_0, fd43_1, fd43_2, fd43_3, fd43_4, fd43_5, fd43_6, fd43_7, fd43_8, fd43_9, fd43_10, fd43_11, fd43_12, fd43_13, fd43_14, fd43_15, fd43_16, fd43_17, fd43_18, fd43_19, fd43_20, fd43_21, fd43_22, fd43_23]
      exact ⟨_, _, rfl, .disown (by simp), rfl⟩
  | cons x l =>
    refine CallD.drop ?_
    refine CallD.body Try.func77 rfl (by simp [Try.ntmps77]) ?_
    rw [Try.ntmps77]
    have hf : fitsD 8 (l.length + 1) (intsD (x :: l)) := ⟨by simp at hl; omega, by simp at hl; omega, by omega, by simp [intsD, D.one]⟩
    repeat' (first
      | refine Go.seq ?_
      | refine Go.rg ?_
      | refine GoR.nil ?_
      | refine Go.skip ?_
      | refine Go.ret ?_
      | refine Go.block ?_
      | refine Go.exit ?_
      | refine Go.blkX ?_
      | refine Go.blkN ?_
      | refine Go.passX ?_
      | refine Go.lpX ?_
      | (refine Go.blkE (by decide) ?_)
      | (refine Go.rgS dmx (by decide) ?_)
      | ((first | refine GoR.op (by decide) (by rfl) ?_ | refine GoR.opG (by decide) (by rfl) (by rfl) ?_)
         conv => arg 1; simp only [G, Z, Y, un_neg, Int.reduceEq, Int.reduceLE, cutD, Nat.reduceBEq, Nat.reduceAdd, Nat.reduceMul, Nat.reduceSub, Nat.reducePow, Nat.reduceLT, Nat.reduceGT, Nat.reduceLeDiff, Nat.reduceEqDiff, Int.reduceToNat, gt_iff_lt, if_true, if_false, beq_self_eq_true, reduceIte, decide_true, decide_false, fd43_0, fd43_1, fd43_2, fd43_3, fd43_4, fd43_5, fd43_6, fd43_7, fd43_8, fd43_9, fd43_10, fd43_11, fd43_12, fd43_13, fd43_14, fd43_15, fd43_16, fd43_17, fd43_18, fd43_19, fd43_20, fd43_21, fd43_22, fd43_23, builtin_append, Nat.zero_add, hf, show (l.length + 1 = 0) = False by simp]
         show GoR _ _ _ _ _ _ _ _ _ _)
      | refine Go.condT (by rfl) ?_
      | refine Go.condF (by rfl) ?_
      | refine GoR.skipG (by decide) rfl rfl ?_
      | (refine GoR.splitG rfl (fun hc => ?_) (fun hc => ?_) <;> simp only [hc])
      | refine Go.condB rfl (fun hc => ?_) (fun hc => ?_))
    refine ⟨(by first | exact .inl rfl | exact .inr rfl), fin ?_⟩
    rw [resD_tmp (fn := Try.f77) rfl]
    simp only [optThen_some, resultD_tmp, resultD_cell, G, Z, Y, un_neg, Int.reduceEq, Int.reduceLE, cutD, Nat.reduceBEq, Nat.reduceAdd, Nat.reduceMul, Nat.reduceSub, Nat.reducePow, Nat.reduceLT, Nat.reduceGT, Nat.reduceLeDiff, Nat.reduceEqDiff, Int.reduceToNat, gt_iff_lt, if_true, if_false, beq_self_eq_true, reduceIte, decide_true, decide_false, fd43_0, fd43_1, fd43_2, fd43_3, fd43_4, fd43_5, fd43_6, fd43_7, fd43_8, fd43_9, fd43_10, fd43_11, fd43_12, fd43_13, fd43_14, fd43_15, fd43_16, fd43_17, fd43_18, fd43_19, fd43_20, fd43_21, fd43_22, fd43_23]
    exact ⟨_, _, rfl, .disown intsD_low.get, rfl⟩

theorem apart (v : Val) (hl : v.l.length < 1000000) (S : Mem) : CallD Try.prog orc 58 [.agg v.c] S fun d S' => S' = S ∧ d = .agg v.c := by
  obtain ⟨k, i, s, l⟩ := v
  simp only [Val.c]
  refine CallD.drop ?_
  refine CallD.body Try.func58 rfl (by simp [Try.ntmps58]) ?_
  rw [Try.ntmps58]
  repeat' (first
    | refine Go.seq ?_
    | refine Go.rg ?_
    | refine GoR.nil ?_
    | refine Go.skip ?_
    | refine Go.ret ?_
    | refine Go.block ?_
    | refine Go.exit ?_
    | refine Go.blkX ?_
    | refine Go.blkN ?_
    | refine Go.passX ?_
    | refine Go.lpX ?_
    | (refine Go.blkE (by decide) ?_)
    | (refine Go.rgS dmx (by decide) ?_)
    | ((first | refine GoR.op (by decide) (by rfl) ?_ | refine GoR.opG (by decide) (by rfl) (by rfl) ?_)
       conv => arg 1; simp only [G, Z, Y, un_neg, Int.reduceEq, Int.reduceLE, cutD, Nat.reduceBEq, Nat.reduceAdd, Nat.reduceMul, Nat.reduceSub, Nat.reducePow, Nat.reduceLT, Nat.reduceGT, Nat.reduceLeDiff, Nat.reduceEqDiff, Int.reduceToNat, gt_iff_lt, if_true, if_false, beq_self_eq_true, reduceIte, decide_true, decide_false, fd2_0, fd2_1, fd2_2, fd2_3, fd2_4, fd2_5, fd2_6, fd2_7, fd2_8, fd2_9, fd3_0, fd3_1, fd3_2, fd3_3, fd3_4, fd3_5, fd3_6, fd3_7, fd3_8, fd3_9, fd9_0, fd9_1, fd9_2, fd9_3, fd9_4, fd9_5, fd9_6, fd9_7, fd43_0, fd43_1, fd43_2, fd43_3, fd43_4, fd43_5, fd43_6, fd43_7, fd43_8, fd43_9, fd43_10, fd43_11, fd43_12, fd43_13, fd43_14, fd43_15, fd43_16, fd43_17, fd43_18, fd43_19, fd43_20, fd43_21, fd43_22, fd43_23, fd49_0, fd49_1, fd49_2, fd49_3, fd49_4, fd49_5, fd49_6, fd49_7, fd49_8, fd49_9, fd49_10, fd49_11]
       show GoR _ _ _ _ _ _ _ _ _ _)
    | ((first | refine GoR.call (f := 77) (by decide) (by rfl) rfl Try.func77 (by decide) (by rfl) ?_ | refine GoR.callG (f := 77) (by decide) (by rfl) (by rfl) rfl Try.func77 (by decide) (by rfl) ?_)
       (refine (clone1 l hl _).ret ?_))
    | ((first | refine GoR.call (f := 76) (by decide) (by rfl) rfl Try.func76 (by decide) (by rfl) ?_ | refine GoR.callG (f := 76) (by decide) (by rfl) (by rfl) rfl Try.func76 (by decide) (by rfl) ?_)
       (refine (clip1 _ _ _).ret ?_))
    | refine Go.condT (by rfl) ?_
    | refine Go.condF (by rfl) ?_
    | refine GoR.skipG (by decide) rfl rfl ?_
    | (refine GoR.splitG rfl (fun hc => ?_) (fun hc => ?_) <;> simp only [hc])
    | refine Go.condB rfl (fun hc => ?_) (fun hc => ?_))
  refine ⟨(by first | exact .inl rfl | exact .inr rfl), fin ?_⟩
  rw [resD_cell (fn := Try.f58) rfl]
  simp only [optThen_some, resultD_tmp, resultD_cell, G, Z, Y, un_neg, Int.reduceEq, Int.reduceLE, cutD, Nat.reduceBEq, Nat.reduceAdd, Nat.reduceMul, Nat.reduceSub, Nat.reducePow, Nat.reduceLT, Nat.reduceGT, Nat.reduceLeDiff, Nat.reduceEqDiff, Int.reduceToNat, gt_iff_lt, if_true, if_false, beq_self_eq_true, reduceIte, decide_true, decide_false, fd2_0, fd2_1, fd2_2, fd2_3, fd2_4, fd2_5, fd2_6, fd2_7, fd2_8, fd2_9, fd3_0, fd3_1, fd3_2, fd3_3, fd3_4, fd3_5, fd3_6, fd3_7, fd3_8, fd3_9, fd9_0, fd9_1, fd9_2, fd9_3, fd9_4, fd9_5, fd9_6, fd9_7, fd43_0, fd43_1, fd43_2, fd43_3, fd43_4, fd43_5, fd43_6, fd43_7, fd43_8, fd43_9, fd43_10, fd43_11, fd43_12, fd43_13, fd43_14, fd43_15, fd43_16, fd43_17, fd43_18, fd43_19, fd43_20, fd43_21, fd43_22, fd43_23, fd49_0, fd49_1, fd49_2, fd49_3, fd49_4, fd49_5, fd49_6, fd49_7, fd49_8, fd49_9, fd49_10, fd49_11]
  exact ⟨_, _, rfl, .of_low (.agg' Val.low), rfl⟩

theorem look_at {l : List Att} {s : ByteArray} (hr : RiseB Att.n l) {i : Nat} (h : i < l.length) (e : l[i].n = s) : look l s = some l[i].v := by
  unfold look
  have hm : l.find? (fun a => decide (a.n = s)) = some l[i] := by
    rw [List.find?_eq_some_iff_getElem]
    refine ⟨by simp [e], i, h, rfl, fun j hj => ?_⟩
    simp only [Bool.not_eq_true', decide_eq_false_iff_not]
    intro hq
    have := hr.inj (show j < l.length by omega) h (hq.trans e.symm)
    omega
  rw [hm]; rfl
theorem look_none {l : List Att} {s : ByteArray} (h : ∀ i (h : i < l.length), l[i].n ≠ s) : look l s = none := by
  unfold look
  have : l.find? (fun a => decide (a.n = s)) = none := by
    rw [List.find?_eq_none]
    intro a ha
    obtain ⟨i, hi, rfl⟩ := List.mem_iff_getElem.1 ha
    simp [h i hi]
  rw [this]; rfl
def noVal : Val := ⟨0, 0, ⟨#[]⟩, []⟩
theorem valD_low {n : Nat} {v : Val} {b : Bool} : DLow n (.tup [.agg v.c, .bool b]) := .tup' (.cons (.agg' Val.low) (.cons (.bool _) .nil))

theorem rowGet (l : List Att) (s : ByteArray) (hr : RiseB Att.n l) (hl : l.length < 1000000) (hv : ∀ a ∈ l, a.v.l.length < 1000000) (S : Mem) :
    CallD Try.prog orc 46 [.sl none 5 l.length (attsC l), .str s] S fun d S' => S' = S ∧ d = .tup [.agg ((look l s).getD noVal).c, .bool (look l s).isSome] := by
  refine CallD.drop ?_
  refine CallD.body Try.func46 rfl (by simp [Try.ntmps46]) ?_
  rw [Try.ntmps46]
  repeat' (first
    | refine Go.seq ?_
    | refine Go.rg ?_
    | refine GoR.nil ?_
    | refine Go.skip ?_
    | refine Go.ret ?_
    | refine Go.block ?_
    | refine Go.exit ?_
    | refine Go.blkX ?_
    | refine Go.blkN ?_
    | refine Go.passX ?_
    | refine Go.lpX ?_
    | (refine Go.blkE (by decide) ?_)
    | (refine Go.rgS dmx (by decide) ?_)
    | ((first | refine GoR.op (by decide) (by rfl) ?_ | refine GoR.opG (by decide) (by rfl) (by rfl) ?_)
       conv => arg 1; simp only [G, Z, Y, un_neg, Int.reduceEq, Int.reduceLE, cutD, Nat.reduceBEq, Nat.reduceAdd, Nat.reduceMul, Nat.reduceSub, Nat.reducePow, Nat.reduceLT, Nat.reduceGT, Nat.reduceLeDiff, Nat.reduceEqDiff, Int.reduceToNat, gt_iff_lt, if_true, if_false, beq_self_eq_true, reduceIte, decide_true, decide_false, fd2_0, fd2_1, fd2_2, fd2_3, fd2_4, fd2_5, fd2_6, fd2_7, fd2_8, fd2_9, fd3_0, fd3_1, fd3_2, fd3_3, fd3_4, fd3_5, fd3_6, fd3_7, fd3_8, fd3_9, fd9_0, fd9_1, fd9_2, fd9_3, fd9_4, fd9_5, fd9_6, fd9_7, fd25_0, fd25_1, fd25_2, fd25_3, fd25_4, fd25_5, fd25_6, fd25_7, fd25_8, fd25_9, fd25_10, fd25_11, fd25_12, fd25_13, fd25_14, fd25_15, fd25_16, fd25_17, fd25_18, fd25_19, fd25_20, fd25_21, fd25_22, fd25_23, fd43_0, fd43_1, fd43_2, fd43_3, fd43_4, fd43_5, fd43_6, fd43_7, fd43_8, fd43_9, fd43_10, fd43_11, fd43_12, fd43_13, fd43_14, fd43_15, fd43_16, fd43_17, fd43_18, fd43_19, fd43_20, fd43_21, fd43_22, fd43_23, fd49_0, fd49_1, fd49_2, fd49_3, fd49_4, fd49_5, fd49_6, fd49_7, fd49_8, fd49_9, fd49_10, fd49_11, fd51_0, fd51_1, fd51_2, fd51_3, fd51_4, fd51_5, fd51_6, fd51_7]
       show GoR _ _ _ _ _ _ _ _ _ _)
    | ((first | refine GoR.call (f := 57) (by decide) (by rfl) rfl Try.func57 (by decide) (by rfl) ?_ | refine GoR.callG (f := 57) (by decide) (by rfl) (by rfl) rfl Try.func57 (by decide) (by rfl) ?_)
       (refine (rowFind l s hr hl _).retE ?_; rintro _ ⟨i, b, rfl, h1, h2, h3, h4⟩))
    | refine Go.condT (by rfl) ?_
    | refine Go.condF (by rfl) ?_
    | refine GoR.skipG (by decide) rfl rfl ?_
    | (refine GoR.splitG rfl (fun hc => ?_) (fun hc => ?_) <;> simp only [hc])
    | refine Go.condB rfl (fun hc => ?_) (fun hc => ?_))
  · have hb : b = false := by simpa using hc
    refine ⟨(by first | exact .inl rfl | exact .inr rfl), fin ?_⟩
    rw [resD_two (fn := Try.f46) rfl]
    simp only [optThen_some, resultD_tmp, resultD_cell, G, Z, Y, un_neg, Int.reduceEq, Int.reduceLE, cutD, Nat.reduceBEq, Nat.reduceAdd, Nat.reduceMul, Nat.reduceSub, Nat.reducePow, Nat.reduceLT, Nat.reduceGT, Nat.reduceLeDiff, Nat.reduceEqDiff, Int.reduceToNat, gt_iff_lt, if_true, if_false, beq_self_eq_true, reduceIte, decide_true, decide_false, fd2_0, fd2_1, fd2_2, fd2_3, fd2_4, fd2_5, fd2_6, fd2_7, fd2_8, fd2_9, fd3_0, fd3_1, fd3_2, fd3_3, fd3_4, fd3_5, fd3_6, fd3_7, fd3_8, fd3_9, fd9_0, fd9_1, fd9_2, fd9_3, fd9_4, fd9_5, fd9_6, fd9_7, fd25_0, fd25_1, fd25_2, fd25_3, fd25_4, fd25_5, fd25_6, fd25_7, fd25_8, fd25_9, fd25_10, fd25_11, fd25_12, fd25_13, fd25_14, fd25_15, fd25_16, fd25_17, fd25_18, fd25_19, fd25_20, fd25_21, fd25_22, fd25_23, fd43_0, fd43_1, fd43_2, fd43_3, fd43_4, fd43_5, fd43_6, fd43_7, fd43_8, fd43_9, fd43_10, fd43_11, fd43_12, fd43_13, fd43_14, fd43_15, fd43_16, fd43_17, fd43_18, fd43_19, fd43_20, fd43_21, fd43_22, fd43_23, fd49_0, fd49_1, fd49_2, fd49_3, fd49_4, fd49_5, fd49_6, fd49_7, fd49_8, fd49_9, fd49_10, fd49_11, fd51_0, fd51_1, fd51_2, fd51_3, fd51_4, fd51_5, fd51_6, fd51_7]
    have hn : look l s = none := by
      refine look_none fun j hj e => ?_
      have hj2 : ¬ j < i := fun h => by have := h2 j hj h; rw [e, ltB_irrefl] at this; cases this
      have hi : i < l.length := by omega
      have hj3 : ¬ i < j := fun h => by have := h3 i hi (Nat.le_refl _); rw [← e, hr.lt hj h] at this; cases this
      obtain rfl : i = j := by omega
      rw [h4.2 ⟨hi, e⟩] at hb; cases hb
    rw [hn]
    have hw : Wf (.tup [.agg [.int .i64 0, .int .i64 0, .str ⟨#[]⟩, .nils], .bool b]) (.tup [.agg noVal.c, .bool b]) := .tup' (.cons (.agg' (.cons .refl (.cons .refl (.cons .refl (.cons .nilE .nil))))) (.cons .refl .nil))
    subst hb
    exact ⟨_, _, rfl, hw.to_Wk valD_low, rfl⟩
  · have hb : b = true := by simpa using hc
    obtain ⟨hi, e⟩ := h4.1 hb
    have hlk := look_at hr hi e
    repeat' (first
      | refine Go.seq ?_
      | refine Go.rg ?_
      | refine GoR.nil ?_
      | refine Go.skip ?_
      | refine Go.ret ?_
      | refine Go.block ?_
      | refine Go.exit ?_
      | refine Go.blkX ?_
      | refine Go.blkN ?_
      | refine Go.passX ?_
      | refine Go.lpX ?_
      | (refine Go.blkE (by decide) ?_)
      | (refine Go.rgS dmx (by decide) ?_)
      | ((first | refine GoR.op (by decide) (by rfl) ?_ | refine GoR.opG (by decide) (by rfl) (by rfl) ?_)
         conv => arg 1; simp only [G, Z, Y, un_neg, Int.reduceEq, Int.reduceLE, cutD, Nat.reduceBEq, Nat.reduceAdd, Nat.reduceMul, Nat.reduceSub, Nat.reducePow, Nat.reduceLT, Nat.reduceGT, Nat.reduceLeDiff, Nat.reduceEqDiff, Int.reduceToNat, gt_iff_lt, if_true, if_false, beq_self_eq_true, reduceIte, decide_true, decide_false, fd2_0, fd2_1, fd2_2, fd2_3, fd2_4, fd2_5, fd2_6, fd2_7, fd2_8, fd2_9, fd3_0, fd3_1, fd3_2, fd3_3, fd3_4, fd3_5, fd3_6, fd3_7, fd3_8, fd3_9, fd9_0, fd9_1, fd9_2, fd9_3, fd9_4, fd9_5, fd9_6, fd9_7, fd25_0, fd25_1, fd25_2, fd25_3, fd25_4, fd25_5, fd25_6, fd25_7, fd25_8, fd25_9, fd25_10, fd25_11, fd25_12, fd25_13, fd25_14, fd25_15, fd25_16, fd25_17, fd25_18, fd25_19, fd25_20, fd25_21, fd25_22, fd25_23, fd43_0, fd43_1, fd43_2, fd43_3, fd43_4, fd43_5, fd43_6, fd43_7, fd43_8, fd43_9, fd43_10, fd43_11, fd43_12, fd43_13, fd43_14, fd43_15, fd43_16, fd43_17, fd43_18, fd43_19, fd43_20, fd43_21, fd43_22, fd43_23, fd49_0, fd49_1, fd49_2, fd49_3, fd49_4, fd49_5, fd49_6, fd49_7, fd49_8, fd49_9, fd49_10, fd49_11, fd51_0, fd51_1, fd51_2, fd51_3, fd51_4, fd51_5, fd51_6, fd51_7, attsAt hi, Val.c]
         show GoR _ _ _ _ _ _ _ _ _ _)
      | ((first | refine GoR.call (f := 58) (by decide) (by rfl) rfl Try.func58 (by decide) (by rfl) ?_ | refine GoR.callG (f := 58) (by decide) (by rfl) (by rfl) rfl Try.func58 (by decide) (by rfl) ?_)
         (refine (apart _ (hv _ (List.getElem_mem _)) _).ret ?_))
      | refine Go.condT (by rfl) ?_
      | refine Go.condF (by rfl) ?_
      | refine GoR.skipG (by decide) rfl rfl ?_
      | (refine GoR.splitG rfl (fun hc => ?_) (fun hc => ?_) <;> simp only [hc])
      | refine Go.condB rfl (fun hc => ?_) (fun hc => ?_))
    refine ⟨(by first | exact .inl rfl | exact .inr rfl), fin ?_⟩
    rw [resD_two (fn := Try.f46) rfl]
    simp only [optThen_some, resultD_tmp, resultD_cell, G, Z, Y, un_neg, Int.reduceEq, Int.reduceLE, cutD, Nat.reduceBEq, Nat.reduceAdd, Nat.reduceMul, Nat.reduceSub, Nat.reducePow, Nat.reduceLT, Nat.reduceGT, Nat.reduceLeDiff, Nat.reduceEqDiff, Int.reduceToNat, gt_iff_lt, if_true, if_false, beq_self_eq_true, reduceIte, decide_true, decide_false, fd2_0, fd2_1, fd2_2, fd2_3, fd2_4, fd2_5, fd2_6, fd2_7, fd2_8, fd2_9, fd3_0, fd3_1, fd3_2, fd3_3, fd3_4, fd3_5, fd3_6, fd3_7, fd3_8, fd3_9, fd9_0, fd9_1, fd9_2, fd9_3, fd9_4, fd9_5, fd9_6, fd9_7, fd25_0, fd25_1, fd25_2, fd25_3, fd25_4, fd25_5, fd25_6, fd25_7, fd25_8, fd25_9, fd25_10, fd25_11, fd25_12, fd25_13, fd25_14, fd25_15, fd25_16, fd25_17, fd25_18, fd25_19, fd25_20, fd25_21, fd25_22, fd25_23, fd43_0, fd43_1, fd43_2, fd43_3, fd43_4, fd43_5, fd43_6, fd43_7, fd43_8, fd43_9, fd43_10, fd43_11, fd43_12, fd43_13, fd43_14, fd43_15, fd43_16, fd43_17, fd43_18, fd43_19, fd43_20, fd43_21, fd43_22, fd43_23, fd49_0, fd49_1, fd49_2, fd49_3, fd49_4, fd49_5, fd49_6, fd49_7, fd49_8, fd49_9, fd49_10, fd49_11, fd51_0, fd51_1, fd51_2, fd51_3, fd51_4, fd51_5, fd51_6, fd51_7]
    rw [hlk]
    exact ⟨_, _, rfl, .of_low valD_low, rfl⟩

theorem refGet (l : List Att) (s : ByteArray) (hr : RiseB Att.n l) (hl : l.length < 1000000) (S : Mem) :
    CallD Try.prog orc 28 [.sl none 5 l.length (attsC l), .str s] S fun d S' => S' = S ∧ d = .tup [.agg ((look l s).getD noVal).c, .bool (look l s).isSome] := by
  refine CallD.drop ?_
  refine CallD.body Try.func28 rfl (by simp [Try.ntmps28]) ?_
  rw [Try.ntmps28]
  repeat' (first
    | refine Go.seq ?_
    | refine Go.rg ?_
    | refine GoR.nil ?_
    | refine Go.skip ?_
    | refine Go.ret ?_
    | refine Go.block ?_
    | refine Go.exit ?_
    | refine Go.blkX ?_
    | refine Go.blkN ?_
    | refine Go.passX ?_
    | refine Go.lpX ?_
    | (refine Go.blkE (by decide) ?_)
    | (refine Go.rgS dmx (by decide) ?_)
    | ((first | refine GoR.op (by decide) (by rfl) ?_ | refine GoR.opG (by decide) (by rfl) (by rfl) ?_)
       conv => arg 1; simp only [G, Z, Y, un_neg, Int.reduceEq, Int.reduceLE, cutD, Nat.reduceBEq, Nat.reduceAdd, Nat.reduceMul, Nat.reduceSub, Nat.reducePow, Nat.reduceLT, Nat.reduceGT, Nat.reduceLeDiff, Nat.reduceEqDiff, Int.reduceToNat, gt_iff_lt, if_true, if_false, beq_self_eq_true, reduceIte, decide_true, decide_false, fd2_0, fd2_1, fd2_2, fd2_3, fd2_4, fd2_5, fd2_6, fd2_7, fd2_8, fd2_9, fd3_0, fd3_1, fd3_2, fd3_3, fd3_4, fd3_5, fd3_6, fd3_7, fd3_8, fd3_9, fd9_0, fd9_1, fd9_2, fd9_3, fd9_4, fd9_5, fd9_6, fd9_7, fd37_0, fd37_1, fd37_2, fd37_3, fd37_4, fd37_5, fd37_6, fd37_7, fd37_8, fd37_9, fd37_10, fd37_11, fd37_12, fd37_13, fd37_14, fd37_15, fd37_16, fd37_17, fd37_18, fd37_19, fd37_20, fd37_21, fd37_22, fd37_23, fd43_0, fd43_1, fd43_2, fd43_3, fd43_4, fd43_5, fd43_6, fd43_7, fd43_8, fd43_9, fd43_10, fd43_11, fd43_12, fd43_13, fd43_14, fd43_15, fd43_16, fd43_17, fd43_18, fd43_19, fd43_20, fd43_21, fd43_22, fd43_23, fd68_0, fd68_1, fd68_2, fd68_3, fd68_4, fd68_5, fd68_6, fd68_7, fd68_8, fd68_9, fd68_10, fd68_11, fd74_0, fd74_1, fd74_2, fd74_3, fd74_4, fd74_5, fd74_6, fd74_7]
       show GoR _ _ _ _ _ _ _ _ _ _)
    | refine Go.condT (by rfl) ?_
    | refine Go.condF (by rfl) ?_
    | refine GoR.skipG (by decide) rfl rfl ?_
    | (refine GoR.splitG rfl (fun hc => ?_) (fun hc => ?_) <;> simp only [hc])
    | refine Go.condB rfl (fun hc => ?_) (fun hc => ?_))
  refine Go.keep [(0, .sl none 5 l.length (attsC l)), (1, .str s), (4, .ptr S.length 0), (6, .int .i64 ((0 : Nat) : Int))] (.cons .refl (.cons .refl (.cons .refl (.cons .refl (.nil))))) ?_
  refine Go.while (α := Nat) (fun i => l.length - i) (fun i => [(0, .sl none 5 l.length (attsC l)), (1, .str s), (4, .ptr S.length 0), (6, .int .i64 (i : Int))]) (fun _ => S ++ [.obj [.int .i64 0, .int .i64 0, .str ⟨#[]⟩, .nils]])
    (fun i => i ≤ l.length ∧ ∀ j (h : j < l.length), j < i → l[j].n ≠ s) ?_ 0 ⟨Nat.zero_le _, by simp⟩
  rintro i ⟨hi, hk⟩ next
  repeat' (first
    | refine Go.seq ?_
    | refine Go.rg ?_
    | refine GoR.nil ?_
    | refine Go.skip ?_
    | refine Go.ret ?_
    | refine Go.block ?_
    | refine Go.exit ?_
    | refine Go.blkX ?_
    | refine Go.blkN ?_
    | refine Go.passX ?_
    | refine Go.lpX ?_
    | (refine Go.blkE (by decide) ?_)
    | (refine Go.rgS dmx (by decide) ?_)
    | ((first | refine GoR.op (by decide) (by rfl) ?_ | refine GoR.opG (by decide) (by rfl) (by rfl) ?_)
       conv => arg 1; simp only [G, Z, Y, un_neg, Int.reduceEq, Int.reduceLE, cutD, Nat.reduceBEq, Nat.reduceAdd, Nat.reduceMul, Nat.reduceSub, Nat.reducePow, Nat.reduceLT, Nat.reduceGT, Nat.reduceLeDiff, Nat.reduceEqDiff, Int.reduceToNat, gt_iff_lt, if_true, if_false, beq_self_eq_true, reduceIte, decide_true, decide_false, fd2_0, fd2_1, fd2_2, fd2_3, fd2_4, fd2_5, fd2_6, fd2_7, fd2_8, fd2_9, fd3_0, fd3_1, fd3_2, fd3_3, fd3_4, fd3_5, fd3_6, fd3_7, fd3_8, fd3_9, fd9_0, fd9_1, fd9_2, fd9_3, fd9_4, fd9_5, fd9_6, fd9_7, fd37_0, fd37_1, fd37_2, fd37_3, fd37_4, fd37_5, fd37_6, fd37_7, fd37_8, fd37_9, fd37_10, fd37_11, fd37_12, fd37_13, fd37_14, fd37_15, fd37_16, fd37_17, fd37_18, fd37_19, fd37_20, fd37_21, fd37_22, fd37_23, fd43_0, fd43_1, fd43_2, fd43_3, fd43_4, fd43_5, fd43_6, fd43_7, fd43_8, fd43_9, fd43_10, fd43_11, fd43_12, fd43_13, fd43_14, fd43_15, fd43_16, fd43_17, fd43_18, fd43_19, fd43_20, fd43_21, fd43_22, fd43_23, fd68_0, fd68_1, fd68_2, fd68_3, fd68_4, fd68_5, fd68_6, fd68_7, fd68_8, fd68_9, fd68_10, fd68_11, fd74_0, fd74_1, fd74_2, fd74_3, fd74_4, fd74_5, fd74_6, fd74_7]
       show GoR _ _ _ _ _ _ _ _ _ _)
    | refine Go.condT (by rfl) ?_
    | refine Go.condF (by rfl) ?_
    | refine GoR.skipG (by decide) rfl rfl ?_
    | (refine GoR.splitG rfl (fun hc => ?_) (fun hc => ?_) <;> simp only [hc])
    | refine Go.condB rfl (fun hc => ?_) (fun hc => ?_))
  · have h1 : i < l.length := by simpa using hc
    by_cases he : l[i].n = s
    · repeat' (first
        | refine Go.seq ?_
        | refine Go.rg ?_
        | refine GoR.nil ?_
        | refine Go.skip ?_
        | refine Go.ret ?_
        | refine Go.block ?_
        | refine Go.exit ?_
        | refine Go.blkX ?_
        | refine Go.blkN ?_
        | refine Go.passX ?_
        | refine Go.lpX ?_
        | (refine Go.blkE (by decide) ?_)
        | (refine Go.rgS dmx (by decide) ?_)
        | ((first | refine GoR.op (by decide) (by rfl) ?_ | refine GoR.opG (by decide) (by rfl) (by rfl) ?_)
           conv => arg 1; simp only [G, Z, Y, un_neg, Int.reduceEq, Int.reduceLE, cutD, Nat.reduceBEq, Nat.reduceAdd, Nat.reduceMul, Nat.reduceSub, Nat.reducePow, Nat.reduceLT, Nat.reduceGT, Nat.reduceLeDiff, Nat.reduceEqDiff, Int.reduceToNat, gt_iff_lt, if_true, if_false, beq_self_eq_true, reduceIte, decide_true, decide_false, fd2_0, fd2_1, fd2_2, fd2_3, fd2_4, fd2_5, fd2_6, fd2_7, fd2_8, fd2_9, fd3_0, fd3_1, fd3_2, fd3_3, fd3_4, fd3_5, fd3_6, fd3_7, fd3_8, fd3_9, fd9_0, fd9_1, fd9_2, fd9_3, fd9_4, fd9_5, fd9_6, fd9_7, fd37_0, fd37_1, fd37_2, fd37_3, fd37_4, fd37_5, fd37_6, fd37_7, fd37_8, fd37_9, fd37_10, fd37_11, fd37_12, fd37_13, fd37_14, fd37_15, fd37_16, fd37_17, fd37_18, fd37_19, fd37_20, fd37_21, fd37_22, fd37_23, fd43_0, fd43_1, fd43_2, fd43_3, fd43_4, fd43_5, fd43_6, fd43_7, fd43_8, fd43_9, fd43_10, fd43_11, fd43_12, fd43_13, fd43_14, fd43_15, fd43_16, fd43_17, fd43_18, fd43_19, fd43_20, fd43_21, fd43_22, fd43_23, fd68_0, fd68_1, fd68_2, fd68_3, fd68_4, fd68_5, fd68_6, fd68_7, fd68_8, fd68_9, fd68_10, fd68_11, fd74_0, fd74_1, fd74_2, fd74_3, fd74_4, fd74_5, fd74_6, fd74_7, attsAt h1, Val.c, he]
           show GoR _ _ _ _ _ _ _ _ _ _)
        | refine Go.condT (by rfl) ?_
        | refine Go.condF (by rfl) ?_
        | refine GoR.skipG (by decide) rfl rfl ?_
        | (refine GoR.splitG rfl (fun hc => ?_) (fun hc => ?_) <;> simp only [hc])
        | refine Go.condB rfl (fun hc => ?_) (fun hc => ?_))
      clear next
      refine ⟨(by first | exact .inl rfl | exact .inr rfl), fin ?_⟩
      rw [resD_two (fn := Try.f28) rfl]
      simp only [optThen_some, resultD_tmp, resultD_cell, G, Z, Y, un_neg, Int.reduceEq, Int.reduceLE, cutD, Nat.reduceBEq, Nat.reduceAdd, Nat.reduceMul, Nat.reduceSub, Nat.reducePow, Nat.reduceLT, Nat.reduceGT, Nat.reduceLeDiff, Nat.reduceEqDiff, Int.reduceToNat, gt_iff_lt, if_true, if_false, beq_self_eq_true, reduceIte, decide_true, decide_false, fd2_0, fd2_1, fd2_2, fd2_3, fd2_4, fd2_5, fd2_6, fd2_7, fd2_8, fd2_9, fd3_0, fd3_1, fd3_2, fd3_3, fd3_4, fd3_5, fd3_6, fd3_7, fd3_8, fd3_9, fd9_0, fd9_1, fd9_2, fd9_3, fd9_4, fd9_5, fd9_6, fd9_7, fd37_0, fd37_1, fd37_2, fd37_3, fd37_4, fd37_5, fd37_6, fd37_7, fd37_8, fd37_9, fd37_10, fd37_11, fd37_12, fd37_13, fd37_14, fd37_15, fd37_16, fd37_17, fd37_18, fd37_19, fd37_20, fd37_21, fd37_22, fd37_23, fd43_0, fd43_1, fd43_2, fd43_3, fd43_4, fd43_5, fd43_6, fd43_7, fd43_8, fd43_9, fd43_10, fd43_11, fd43_12, fd43_13, fd43_14, fd43_15, fd43_16, fd43_17, fd43_18, fd43_19, fd43_20, fd43_21, fd43_22, fd43_23, fd68_0, fd68_1, fd68_2, fd68_3, fd68_4, fd68_5, fd68_6, fd68_7, fd68_8, fd68_9, fd68_10, fd68_11, fd74_0, fd74_1, fd74_2, fd74_3, fd74_4, fd74_5, fd74_6, fd74_7]
      rw [look_at hr h1 he]
      exact ⟨_, _, rfl, .of_low valD_low, rfl⟩
    · repeat' (first
        | refine Go.seq ?_
        | refine Go.rg ?_
        | refine GoR.nil ?_
        | refine Go.skip ?_
        | refine Go.ret ?_
        | refine Go.block ?_
        | refine Go.exit ?_
        | refine Go.blkX ?_
        | refine Go.blkN ?_
        | refine Go.passX ?_
        | refine Go.lpX ?_
        | (refine Go.blkE (by decide) ?_)
        | (refine Go.rgS dmx (by decide) ?_)
        | ((first | refine GoR.op (by decide) (by rfl) ?_ | refine GoR.opG (by decide) (by rfl) (by rfl) ?_)
           conv => arg 1; simp only [G, Z, Y, un_neg, Int.reduceEq, Int.reduceLE, cutD, Nat.reduceBEq, Nat.reduceAdd, Nat.reduceMul, Nat.reduceSub, Nat.reducePow, Nat.reduceLT, Nat.reduceGT, Nat.reduceLeDiff, Nat.reduceEqDiff, Int.reduceToNat, gt_iff_lt, if_true, if_false, beq_self_eq_true, reduceIte, decide_true, decide_false, fd2_0, fd2_1, fd2_2, fd2_3, fd2_4, fd2_5, fd2_6, fd2_7, fd2_8, fd2_9, fd3_0, fd3_1, fd3_2, fd3_3, fd3_4, fd3_5, fd3_6, fd3_7, fd3_8, fd3_9, fd9_0, fd9_1, fd9_2, fd9_3, fd9_4, fd9_5, fd9_6, fd9_7, fd37_0, fd37_1, fd37_2, fd37_3, fd37_4, fd37_5, fd37_6, fd37_7, fd37_8, fd37_9, fd37_10, fd37_11, fd37_12, fd37_13, fd37_14, fd37_15, fd37_16, fd37_17, fd37_18, fd37_19, fd37_20, fd37_21, fd37_22, fd37_23, fd43_0, fd43_1, fd43_2, fd43_3, fd43_4, fd43_5, fd43_6, fd43_7, fd43_8, fd43_9, fd43_10, fd43_11, fd43_12, fd43_13, fd43_14, fd43_15, fd43_16, fd43_17, fd43_18, fd43_19, fd43_20, fd43_21, fd43_22, fd43_23, fd68_0, fd68_1, fd68_2, fd68_3, fd68_4, fd68_5, fd68_6, fd68_7, fd68_8, fd68_9, fd68_10, fd68_11, fd74_0, fd74_1, fd74_2, fd74_3, fd74_4, fd74_5, fd74_6, fd74_7, attsAt h1, show decide (l[i].n = s) = false by simp [he], wrap_succ (show i < 4611686018427387904 by omega)]
           show GoR _ _ _ _ _ _ _ _ _ _)
        | refine Go.condT (by rfl) ?_
        | refine Go.condF (by rfl) ?_
        | refine GoR.skipG (by decide) rfl rfl ?_
        | (refine GoR.splitG rfl (fun hc => ?_) (fun hc => ?_) <;> simp only [hc])
        | refine Go.condB rfl (fun hc => ?_) (fun hc => ?_))
      refine Go.lpN ?_
      refine Go.keep [(0, .sl none 5 l.length (attsC l)), (1, .str s), (4, .ptr S.length 0), (6, .int .i64 ((i + 1 : Nat) : Int))] (.cons .refl (.cons .refl (.cons .refl (.cons .refl (.nil))))) ?_
      refine next (i + 1) (by omega) ⟨h1, fun j hj hlt => ?_⟩
      rcases Nat.lt_or_ge j i with h | h
      · exact hk j hj h
      · obtain rfl : j = i := by omega
        exact he
  · clear next
    refine ⟨(by first | exact .inl rfl | exact .inr rfl), fin ?_⟩
    rw [resD_two (fn := Try.f28) rfl]
    simp only [optThen_some, resultD_tmp, resultD_cell, G, Z, Y, un_neg, Int.reduceEq, Int.reduceLE, cutD, Nat.reduceBEq, Nat.reduceAdd, Nat.reduceMul, Nat.reduceSub, Nat.reducePow, Nat.reduceLT, Nat.reduceGT, Nat.reduceLeDiff, Nat.reduceEqDiff, Int.reduceToNat, gt_iff_lt, if_true, if_false, beq_self_eq_true, reduceIte, decide_true, decide_false, fd2_0, fd2_1, fd2_2, fd2_3, fd2_4, fd2_5, fd2_6, fd2_7, fd2_8, fd2_9, fd3_0, fd3_1, fd3_2, fd3_3, fd3_4, fd3_5, fd3_6, fd3_7, fd3_8, fd3_9, fd9_0, fd9_1, fd9_2, fd9_3, fd9_4, fd9_5, fd9_6, fd9_7, fd37_0, fd37_1, fd37_2, fd37_3, fd37_4, fd37_5, fd37_6, fd37_7, fd37_8, fd37_9, fd37_10, fd37_11, fd37_12, fd37_13, fd37_14, fd37_15, fd37_16, fd37_17, fd37_18, fd37_19, fd37_20, fd37_21, fd37_22, fd37_23, fd43_0, fd43_1, fd43_2, fd43_3, fd43_4, fd43_5, fd43_6, fd43_7, fd43_8, fd43_9, fd43_10, fd43_11, fd43_12, fd43_13, fd43_14, fd43_15, fd43_16, fd43_17, fd43_18, fd43_19, fd43_20, fd43_21, fd43_22, fd43_23, fd68_0, fd68_1, fd68_2, fd68_3, fd68_4, fd68_5, fd68_6, fd68_7, fd68_8, fd68_9, fd68_10, fd68_11, fd74_0, fd74_1, fd74_2, fd74_3, fd74_4, fd74_5, fd74_6, fd74_7]
    rw [look_none fun j hj => hk j hj (by simp at hc; omega)]
    have hw : Wf (.tup [.agg [.int .i64 0, .int .i64 0, .str ⟨#[]⟩, .nils], .bool false]) (.tup [.agg noVal.c, .bool false]) := .tup' (.cons (.agg' (.cons .refl (.cons .refl (.cons .refl (.cons .nilE .nil))))) (.cons .refl .nil))
    exact ⟨_, _, rfl, hw.to_Wk valD_low, rfl⟩
end Go.Proofs.DmT
