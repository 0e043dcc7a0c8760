/- What the helpers on attributes do: which are few, and as the document's. -/
import Derived.Test.YtipeffaojbhbmaaDmC1
set_option linter.unusedSimpArgs false
set_option linter.unusedVariables false
namespace Go.Proofs.DmT
open Go Go.DM
set_option maxRecDepth 10000
variable {orc : DOracle}

theorem Att.len (a : Att) : a.c.length = 5 := rfl
theorem attsAt {l : List Att} {i : Nat} (h : i < l.length) :
    ((0 ≤ (i : Int) ∧ (i : Int) < (l.length : Int)) = True) ∧ (attsC l)[i * 5]? = some (.str l[i].n) ∧ ((i * 5 + 1 + 4 ≤ (attsC l).length) = True) ∧ ((attsC l).drop (i * 5 + 1)).take 4 = l[i].v.c ∧
    ((i * 5 + 5 ≤ (attsC l).length) = True) ∧ ((attsC l).drop (i * 5)).take 5 = l[i].c :=
  ⟨ix_ok h, flat_cell0 Att.len l i h (by omega), flat_fits Att.len l i h (by omega), flat_part Att.len l i h (by omega), flat_fits0 Att.len l i h, flat_all Att.len l i h⟩

def fewV (v : Val) : Bool := decide (v.s.size ≤ 200) && decide (v.l.length ≤ 40)
def fewA (a : Att) : Bool := decide (a.n.size ≤ 100) && fewV a.v
theorem fewAttrs (l : List Att) (S : Mem) : CallD Try.prog orc 21 [.sl none 5 l.length (attsC l)] S fun d S' => S' = S ∧ d = .bool (decide (l.length ≤ 40) && l.all fewA) := by
  refine CallD.drop ?_
  refine CallD.body Try.func21 rfl (by simp [Try.ntmps21]) ?_
  rw [Try.ntmps21]
  repeat' (first
    | refine Go.seq ?_
    | refine Go.rg ?_
    | refine GoR.nil ?_
    | refine Go.skip ?_
    | refine Go.ret ?_
    | refine Go.block ?_
    | refine Go.exit ?_
    | refine Go.blkX ?_
    | refine Go.blkN ?_
    | refine Go.passX ?_
    | refine Go.lpX ?_
    | (refine Go.blkE (by decide) ?_)
    | (refine Go.rgS dmx (by decide) ?_)
    | ((first | refine GoR.op (by decide) (by rfl) ?_ | refine GoR.opG (by decide) (by rfl) (by rfl) ?_)
       conv => arg 1; simp only [G, Z, Y, un_neg, Int.reduceEq, Int.reduceLE, cutD, Nat.reduceBEq, Nat.reduceAdd, Nat.reduceMul, Nat.reduceSub, Nat.reducePow, Nat.reduceLT, Nat.reduceGT, Nat.reduceLeDiff, Nat.reduceEqDiff, Int.reduceToNat, gt_iff_lt, if_true, if_false, beq_self_eq_true, reduceIte, decide_true, decide_false, fd2_0, fd2_1, fd2_2, fd2_3, fd2_4, fd2_5, fd2_6, fd2_7, fd2_8, fd2_9, fd3_0, fd3_1, fd3_2, fd3_3, fd3_4, fd3_5, fd3_6, fd3_7, fd3_8, fd3_9, fd9_0, fd9_1, fd9_2, fd9_3, fd9_4, fd9_5, fd9_6, fd9_7, fd25_0, fd25_1, fd25_2, fd25_3, fd25_4, fd25_5, fd25_6, fd25_7, fd25_8, fd25_9, fd25_10, fd25_11, fd25_12, fd25_13, fd25_14, fd25_15, fd25_16, fd25_17, fd25_18, fd25_19, fd25_20, fd25_21, fd25_22, fd25_23, fd43_0, fd43_1, fd43_2, fd43_3, fd43_4, fd43_5, fd43_6, fd43_7, fd43_8, fd43_9, fd43_10, fd43_11, fd43_12, fd43_13, fd43_14, fd43_15, fd43_16, fd43_17, fd43_18, fd43_19, fd43_20, fd43_21, fd43_22, fd43_23, fd49_0, fd49_1, fd49_2, fd49_3, fd49_4, fd49_5, fd49_6, fd49_7, fd49_8, fd49_9, fd49_10, fd49_11, fd51_0, fd51_1, fd51_2, fd51_3, fd51_4, fd51_5, fd51_6, fd51_7]
       show GoR _ _ _ _ _ _ _ _ _ _)
    | refine Go.condT (by rfl) ?_
    | refine Go.condF (by rfl) ?_
    | refine GoR.skipG (by decide) rfl rfl ?_
    | (refine GoR.splitG rfl (fun hc => ?_) (fun hc => ?_) <;> simp only [hc])
    | refine Go.condB rfl (fun hc => ?_) (fun hc => ?_))
  · refine ⟨(by first | exact .inl rfl | exact .inr rfl), fin ?_⟩
    rw [resD_tmp (fn := Try.f21) rfl]
    simp only [optThen_some, resultD_tmp, resultD_cell, G, Z, Y, un_neg, Int.reduceEq, Int.reduceLE, cutD, Nat.reduceBEq, Nat.reduceAdd, Nat.reduceMul, Nat.reduceSub, Nat.reducePow, Nat.reduceLT, Nat.reduceGT, Nat.reduceLeDiff, Nat.reduceEqDiff, Int.reduceToNat, gt_iff_lt, if_true, if_false, beq_self_eq_true, reduceIte, decide_true, decide_false, fd2_0, fd2_1, fd2_2, fd2_3, fd2_4, fd2_5, fd2_6, fd2_7, fd2_8, fd2_9, fd3_0, fd3_1, fd3_2, fd3_3, fd3_4, fd3_5, fd3_6, fd3_7, fd3_8, fd3_9, fd9_0, fd9_1, fd9_2, fd9_3, fd9_4, fd9_5, fd9_6, fd9_7, fd25_0, fd25_1, fd25_2, fd25_3, fd25_4, fd25_5, fd25_6, fd25_7, fd25_8, fd25_9, fd25_10, fd25_11, fd25_12, fd25_13, fd25_14, fd25_15, fd25_16, fd25_17, fd25_18, fd25_19, fd25_20, fd25_21, fd25_22, fd25_23, fd43_0, fd43_1, fd43_2, fd43_3, fd43_4, fd43_5, fd43_6, fd43_7, fd43_8, fd43_9, fd43_10, fd43_11, fd43_12, fd43_13, fd43_14, fd43_15, fd43_16, fd43_17, fd43_18, fd43_19, fd43_20, fd43_21, fd43_22, fd43_23, fd49_0, fd49_1, fd49_2, fd49_3, fd49_4, fd49_5, fd49_6, fd49_7, fd49_8, fd49_9, fd49_10, fd49_11, fd51_0, fd51_1, fd51_2, fd51_3, fd51_4, fd51_5, fd51_6, fd51_7]
    refine ⟨_, [], by simp, .bool, ?_⟩
    simp at hc
    congr 1
    symm
    simp
    omega
  · have h40 : l.length ≤ 40 := by simp at hc; omega
    refine Go.keep [(0, .sl none 5 l.length (attsC l)), (3, .int .i64 ((0 : Nat) : Int))] (.cons .refl (.cons .refl (.nil))) ?_
    refine Go.while (α := Nat) (fun i => l.length - i) (fun i => [(0, .sl none 5 l.length (attsC l)), (3, .int .i64 (i : Int))]) (fun _ => S) (fun i => i ≤ l.length ∧ ∀ j (h : j < l.length), j < i → fewA l[j] = true) ?_ 0 ⟨Nat.zero_le _, by simp⟩
    rintro i ⟨hi, hk⟩ next
    repeat' (first
      | refine Go.seq ?_
      | refine Go.rg ?_
      | refine GoR.nil ?_
      | refine Go.skip ?_
      | refine Go.ret ?_
      | refine Go.block ?_
      | refine Go.exit ?_
      | refine Go.blkX ?_
      | refine Go.blkN ?_
      | refine Go.passX ?_
      | refine Go.lpX ?_
      | (refine Go.blkE (by decide) ?_)
      | (refine Go.rgS dmx (by decide) ?_)
      | ((first | refine GoR.op (by decide) (by rfl) ?_ | refine GoR.opG (by decide) (by rfl) (by rfl) ?_)
         conv => arg 1; simp only [G, Z, Y, un_neg, Int.reduceEq, Int.reduceLE, cutD, Nat.reduceBEq, Nat.reduceAdd, Nat.reduceMul, Nat.reduceSub, Nat.reducePow, Nat.reduceLT, Nat.reduceGT, Nat.reduceLeDiff, Nat.reduceEqDiff, Int.reduceToNat, gt_iff_lt, if_true, if_false, beq_self_eq_true, reduceIte, decide_true, decide_false, fd2_0, fd2_1, fd2_2, fd2_3, fd2_4, fd2_5, fd2_6, fd2_7, fd2_8, fd2_9, fd3_0, fd3_1, fd3_2, fd3_3, fd3_4, fd3_5, fd3_6, fd3_7, fd3_8, fd3_9, fd9_0, fd9_1, fd9_2, fd9_3, fd9_4, fd9_5, fd9_6, fd9_7, fd25_0, fd25_1, fd25_2, fd25_3, fd25_4, fd25_5, fd25_6, fd25_7, fd25_8, fd25_9, fd25_10, fd25_11, fd25_12, fd25_13, fd25_14, fd25_15, fd25_16, fd25_17, fd25_18, fd25_19, fd25_20, fd25_21, fd25_22, fd25_23, fd43_0, fd43_1, fd43_2, fd43_3, fd43_4, fd43_5, fd43_6, fd43_7, fd43_8, fd43_9, fd43_10, fd43_11, fd43_12, fd43_13, fd43_14, fd43_15, fd43_16, fd43_17, fd43_18, fd43_19, fd43_20, fd43_21, fd43_22, fd43_23, fd49_0, fd49_1, fd49_2, fd49_3, fd49_4, fd49_5, fd49_6, fd49_7, fd49_8, fd49_9, fd49_10, fd49_11, fd51_0, fd51_1, fd51_2, fd51_3, fd51_4, fd51_5, fd51_6, fd51_7]
         show GoR _ _ _ _ _ _ _ _ _ _)
      | refine Go.condT (by rfl) ?_
      | refine Go.condF (by rfl) ?_
      | refine GoR.skipG (by decide) rfl rfl ?_
      | (refine GoR.splitG rfl (fun hc => ?_) (fun hc => ?_) <;> simp only [hc])
      | refine Go.condB rfl (fun hc => ?_) (fun hc => ?_))
    · have h1 : i < l.length := by simpa using hc
      repeat' (first
        | refine Go.seq ?_
        | refine Go.rg ?_
        | refine GoR.nil ?_
        | refine Go.skip ?_
        | refine Go.ret ?_
        | refine Go.block ?_
        | refine Go.exit ?_
        | refine Go.blkX ?_
        | refine Go.blkN ?_
        | refine Go.passX ?_
        | refine Go.lpX ?_
        | (refine Go.blkE (by decide) ?_)
        | (refine Go.rgS dmx (by decide) ?_)
        | ((first | refine GoR.op (by decide) (by rfl) ?_ | refine GoR.opG (by decide) (by rfl) (by rfl) ?_)
           conv => arg 1; simp only [G, Z, Y, un_neg, Int.reduceEq, Int.reduceLE, cutD, Nat.reduceBEq, Nat.reduceAdd, Nat.reduceMul, Nat.reduceSub, Nat.reducePow, Nat.reduceLT, Nat.reduceGT, Nat.reduceLeDiff, Nat.reduceEqDiff, Int.reduceToNat, gt_iff_lt, if_true, if_false, beq_self_eq_true, reduceIte, decide_true, decide_false, fd2_0, fd2_1, fd2_2, fd2_3, fd2_4, fd2_5, fd2_6, fd2_7, fd2_8, fd2_9, fd3_0, fd3_1, fd3_2, fd3_3, fd3_4, fd3_5, fd3_6, fd3_7, fd3_8, fd3_9, fd9_0, fd9_1, fd9_2, fd9_3, fd9_4, fd9_5, fd9_6, fd9_7, fd25_0, fd25_1, fd25_2, fd25_3, fd25_4, fd25_5, fd25_6, fd25_7, fd25_8, fd25_9, fd25_10, fd25_11, fd25_12, fd25_13, fd25_14, fd25_15, fd25_16, fd25_17, fd25_18, fd25_19, fd25_20, fd25_21, fd25_22, fd25_23, fd43_0, fd43_1, fd43_2, fd43_3, fd43_4, fd43_5, fd43_6, fd43_7, fd43_8, fd43_9, fd43_10, fd43_11, fd43_12, fd43_13, fd43_14, fd43_15, fd43_16, fd43_17, fd43_18, fd43_19, fd43_20, fd43_21, fd43_22, fd43_23, fd49_0, fd49_1, fd49_2, fd49_3, fd49_4, fd49_5, fd49_6, fd49_7, fd49_8, fd49_9, fd49_10, fd49_11, fd51_0, fd51_1, fd51_2, fd51_3, fd51_4, fd51_5, fd51_6, fd51_7, attsAt h1, wrap_succ (show i < 4611686018427387904 by omega)]
           show GoR _ _ _ _ _ _ _ _ _ _)
        | ((first | refine GoR.call (f := 43) (by decide) (by rfl) rfl Try.func43 (by decide) (by rfl) ?_ | refine GoR.callG (f := 43) (by decide) (by rfl) (by rfl) rfl Try.func43 (by decide) (by rfl) ?_)
           (refine (few2 _ _).ret ?_))
        | refine Go.condT (by rfl) ?_
        | refine Go.condF (by rfl) ?_
        | refine GoR.skipG (by decide) rfl rfl ?_
        | (refine GoR.splitG rfl (fun hc => ?_) (fun hc => ?_) <;> simp only [hc])
        | refine Go.condB rfl (fun hc => ?_) (fun hc => ?_))
      · clear next
        refine ⟨(by first | exact .inl rfl | exact .inr rfl), fin ?_⟩
        rw [resD_tmp (fn := Try.f21) rfl]
        simp only [optThen_some, resultD_tmp, resultD_cell, G, Z, Y, un_neg, Int.reduceEq, Int.reduceLE, cutD, Nat.reduceBEq, Nat.reduceAdd, Nat.reduceMul, Nat.reduceSub, Nat.reducePow, Nat.reduceLT, Nat.reduceGT, Nat.reduceLeDiff, Nat.reduceEqDiff, Int.reduceToNat, gt_iff_lt, if_true, if_false, beq_self_eq_true, reduceIte, decide_true, decide_false, fd2_0, fd2_1, fd2_2, fd2_3, fd2_4, fd2_5, fd2_6, fd2_7, fd2_8, fd2_9, fd3_0, fd3_1, fd3_2, fd3_3, fd3_4, fd3_5, fd3_6, fd3_7, fd3_8, fd3_9, fd9_0, fd9_1, fd9_2, fd9_3, fd9_4, fd9_5, fd9_6, fd9_7, fd25_0, fd25_1, fd25_2, fd25_3, fd25_4, fd25_5, fd25_6, fd25_7, fd25_8, fd25_9, fd25_10, fd25_11, fd25_12, fd25_13, fd25_14, fd25_15, fd25_16, fd25_17, fd25_18, fd25_19, fd25_20, fd25_21, fd25_22, fd25_23, fd43_0, fd43_1, fd43_2, fd43_3, fd43_4, fd43_5, fd43_6, fd43_7, fd43_8, fd43_9, fd43_10, fd43_11, fd43_12, fd43_13, fd43_14, fd43_15, fd43_16, fd43_17, fd43_18, fd43_19, fd43_20, fd43_21, fd43_22, fd43_23, fd49_0, fd49_1, fd49_2, fd49_3, fd49_4, fd49_5, fd49_6, fd49_7, fd49_8, fd49_9, fd49_10, fd49_11, fd51_0, fd51_1, fd51_2, fd51_3, fd51_4, fd51_5, fd51_6, fd51_7]
        refine ⟨_, [], by simp, .bool, ?_⟩
        rw [all_false_at h1 (by simp at hc; simp [fewA]; omega)]
        simp
      · clear next
        refine ⟨(by first | exact .inl rfl | exact .inr rfl), fin ?_⟩
        rw [resD_tmp (fn := Try.f21) rfl]
        simp only [optThen_some, resultD_tmp, resultD_cell, G, Z, Y, un_neg, Int.reduceEq, Int.reduceLE, cutD, Nat.reduceBEq, Nat.reduceAdd, Nat.reduceMul, Nat.reduceSub, Nat.reducePow, Nat.reduceLT, Nat.reduceGT, Nat.reduceLeDiff, Nat.reduceEqDiff, Int.reduceToNat, gt_iff_lt, if_true, if_false, beq_self_eq_true, reduceIte, decide_true, decide_false, fd2_0, fd2_1, fd2_2, fd2_3, fd2_4, fd2_5, fd2_6, fd2_7, fd2_8, fd2_9, fd3_0, fd3_1, fd3_2, fd3_3, fd3_4, fd3_5, fd3_6, fd3_7, fd3_8, fd3_9, fd9_0, fd9_1, fd9_2, fd9_3, fd9_4, fd9_5, fd9_6, fd9_7, fd25_0, fd25_1, fd25_2, fd25_3, fd25_4, fd25_5, fd25_6, fd25_7, fd25_8, fd25_9, fd25_10, fd25_11, fd25_12, fd25_13, fd25_14, fd25_15, fd25_16, fd25_17, fd25_18, fd25_19, fd25_20, fd25_21, fd25_22, fd25_23, fd43_0, fd43_1, fd43_2, fd43_3, fd43_4, fd43_5, fd43_6, fd43_7, fd43_8, fd43_9, fd43_10, fd43_11, fd43_12, fd43_13, fd43_14, fd43_15, fd43_16, fd43_17, fd43_18, fd43_19, fd43_20, fd43_21, fd43_22, fd43_23, fd49_0, fd49_1, fd49_2, fd49_3, fd49_4, fd49_5, fd49_6, fd49_7, fd49_8, fd49_9, fd49_10, fd49_11, fd51_0, fd51_1, fd51_2, fd51_3, fd51_4, fd51_5, fd51_6, fd51_7]
        refine ⟨_, [], by simp, .bool, ?_⟩
        have h2 : fewV l[i].v = false := by simp at hc; simp [fewV]; omega
        rw [all_false_at h1 (by simp [fewA, h2])]
        simp
      · refine Go.lpN ?_
        refine Go.keep [(0, .sl none 5 l.length (attsC l)), (3, .int .i64 ((i + 1 : Nat) : Int))] (.cons .refl (.cons .refl (.nil))) ?_
        refine next (i + 1) (by omega) ⟨h1, fun j hj hlt => ?_⟩
        clear next
        rcases Nat.lt_or_ge j i with h | h
        · exact hk j hj h
        · obtain rfl : j = i := by omega
          rename_i h3 h4
          simp at h4 hc
          simp [fewA, fewV, hc]
          omega
    · refine ⟨(by first | exact .inl rfl | exact .inr rfl), fin ?_⟩
      rw [resD_tmp (fn := Try.f21) rfl]
      simp only [optThen_some, resultD_tmp, resultD_cell, G, Z, Y, un_neg, Int.reduceEq, Int.reduceLE, cutD, Nat.reduceBEq, Nat.reduceAdd, Nat.reduceMul, Nat.reduceSub, Nat.reducePow, Nat.reduceLT, Nat.reduceGT, Nat.reduceLeDiff, Nat.reduceEqDiff, Int.reduceToNat, gt_iff_lt, if_true, if_false, beq_self_eq_true, reduceIte, decide_true, decide_false, fd2_0, fd2_1, fd2_2, fd2_3, fd2_4, fd2_5, fd2_6, fd2_7, fd2_8, fd2_9, fd3_0, fd3_1, fd3_2, fd3_3, fd3_4, fd3_5, fd3_6, fd3_7, fd3_8, fd3_9, fd9_0, fd9_1, fd9_2, fd9_3, fd9_4, fd9_5, fd9_6, fd9_7, fd25_0, fd25_1, fd25_2, fd25_3, fd25_4, fd25_5, fd25_6, fd25_7, fd25_8, fd25_9, fd25_10, fd25_11, fd25_12, fd25_13, fd25_14, fd25_15, fd25_16, fd25_17, fd25_18, fd25_19, fd25_20, fd25_21, fd25_22, fd25_23, fd43_0, fd43_1, fd43_2, fd43_3, fd43_4, fd43_5, fd43_6, fd43_7, fd43_8, fd43_9, fd43_10, fd43_11, fd43_12, fd43_13, fd43_14, fd43_15, fd43_16, fd43_17, fd43_18, fd43_19, fd43_20, fd43_21, fd43_22, fd43_23, fd49_0, fd49_1, fd49_2, fd49_3, fd49_4, fd49_5, fd49_6, fd49_7, fd49_8, fd49_9, fd49_10, fd49_11, fd51_0, fd51_1, fd51_2, fd51_3, fd51_4, fd51_5, fd51_6, fd51_7]
      refine ⟨_, [], by simp, .bool, ?_⟩
      have hge : l.length ≤ i := by simpa using hc
      rw [all_true_of fun j hj => hk j hj (by omega)]
      simp [h40]

theorem att_low {n : Nat} (a : Att) : LowL n a.c := .cons (.str _) Val.low
theorem atts_low {n : Nat} (l : List Att) : LowL n (attsC l) := .of_mem (by
  intro x hx
  simp only [attsC, List.mem_flatMap] at hx
  obtain ⟨a, _, hx⟩ := hx
  obtain ⟨i, hi, rfl⟩ := List.mem_iff_getElem.1 hx
  exact (att_low a).get i hi)

theorem ofAttrs (l : List Att) (hl : l.length ≤ 1000000) (S : Mem) : CallD Try.prog orc 13 [.sl none 5 l.length (attsC l)] S fun d S' => S' = S ∧ d = .sl none 5 l.length (attsC l) := by
  refine CallD.drop ?_
  refine CallD.body Try.func13 rfl (by simp [Try.ntmps13]) ?_
  rw [Try.ntmps13]
  repeat' (first
    | refine Go.seq ?_
    | refine Go.rg ?_
    | refine GoR.nil ?_
    | refine Go.skip ?_
    | refine Go.ret ?_
    | refine Go.block ?_
    | refine Go.exit ?_
    | refine Go.blkX ?_
    | refine Go.blkN ?_
    | refine Go.passX ?_
    | refine Go.lpX ?_
    | (refine Go.blkE (by decide) ?_)
    | (refine Go.rgS dmx (by decide) ?_)
    | (refine Go.rgD [5] (fun _ => True) dmx (by decide) 13 (by decide) ?_ ?_
       · trivial)
    | refine GoW.nil rfl ?_
    | ((first | refine GoR.op (by decide) (by rfl) ?_ | refine GoR.opG (by decide) (by rfl) (by rfl) ?_ | refine GoW.op (by decide) (by rfl) rfl ?_ | refine GoW.opG (by decide) (by rfl) rfl (by rfl) ?_)
       conv => arg 1; simp only [G, Z, Y, un_neg, Int.reduceEq, Int.reduceLE, cutD, Nat.reduceBEq, Nat.reduceAdd, Nat.reduceMul, Nat.reduceSub, Nat.reducePow, Nat.reduceLT, Nat.reduceGT, Nat.reduceLeDiff, Nat.reduceEqDiff, Int.reduceToNat, gt_iff_lt, if_true, if_false, beq_self_eq_true, reduceIte, decide_true, decide_false, fd2_0, fd2_1, fd2_2, fd2_3, fd2_4, fd2_5, fd2_6, fd2_7, fd2_8, fd2_9, fd3_0, fd3_1, fd3_2, fd3_3, fd3_4, fd3_5, fd3_6, fd3_7, fd3_8, fd3_9, fd9_0, fd9_1, fd9_2, fd9_3, fd9_4, fd9_5, fd9_6, fd9_7, fd25_0, fd25_1, fd25_2, fd25_3, fd25_4, fd25_5, fd25_6, fd25_7, fd25_8, fd25_9, fd25_10, fd25_11, fd25_12, fd25_13, fd25_14, fd25_15, fd25_16, fd25_17, fd25_18, fd25_19, fd25_20, fd25_21, fd25_22, fd25_23, fd37_0, fd37_1, fd37_2, fd37_3, fd37_4, fd37_5, fd37_6, fd37_7, fd37_8, fd37_9, fd37_10, fd37_11, fd37_12, fd37_13, fd37_14, fd37_15, fd37_16, fd37_17, fd37_18, fd37_19, fd37_20, fd37_21, fd37_22, fd37_23, fd43_0, fd43_1, fd43_2, fd43_3, fd43_4, fd43_5, fd43_6, fd43_7, fd43_8, fd43_9, fd43_10, fd43_11, fd43_12, fd43_13, fd43_14, fd43_15, fd43_16, fd43_17, fd43_18, fd43_19, fd43_20, fd43_21, fd43_22, fd43_23, fd49_0, fd49_1, fd49_2, fd49_3, fd49_4, fd49_5, fd49_6, fd49_7, fd49_8, fd49_9, fd49_10, fd49_11, fd51_0, fd51_1, fd51_2, fd51_3, fd51_4, fd51_5, fd51_6, fd51_7, fd68_0, fd68_1, fd68_2, fd68_3, fd68_4, fd68_5, fd68_6, fd68_7, fd68_8, fd68_9, fd68_10, fd68_11, fd74_0, fd74_1, fd74_2, fd74_3, fd74_4, fd74_5, fd74_6, fd74_7]
       first | show GoR _ _ _ _ _ _ _ _ _ _ | (show _ ∧ _; refine ⟨by (first | exact fun h => absurd h (by decide) | (intro _; trivial)), ?_⟩; show GoW _ _ _ _ _ _ _ _ _ _ _ _ _ _))
    | ((first | refine GoW.readT (by decide) (by rfl) ?_ | refine GoW.readTG (by decide) (by rfl) (by rfl) ?_)
       conv => arg 1; simp only [G, Z, Y, un_neg, Int.reduceEq, Int.reduceLE, cutD, Nat.reduceBEq, Nat.reduceAdd, Nat.reduceMul, Nat.reduceSub, Nat.reducePow, Nat.reduceLT, Nat.reduceGT, Nat.reduceLeDiff, Nat.reduceEqDiff, Int.reduceToNat, gt_iff_lt, if_true, if_false, beq_self_eq_true, reduceIte, decide_true, decide_false, fd2_0, fd2_1, fd2_2, fd2_3, fd2_4, fd2_5, fd2_6, fd2_7, fd2_8, fd2_9, fd3_0, fd3_1, fd3_2, fd3_3, fd3_4, fd3_5, fd3_6, fd3_7, fd3_8, fd3_9, fd9_0, fd9_1, fd9_2, fd9_3, fd9_4, fd9_5, fd9_6, fd9_7, fd25_0, fd25_1, fd25_2, fd25_3, fd25_4, fd25_5, fd25_6, fd25_7, fd25_8, fd25_9, fd25_10, fd25_11, fd25_12, fd25_13, fd25_14, fd25_15, fd25_16, fd25_17, fd25_18, fd25_19, fd25_20, fd25_21, fd25_22, fd25_23, fd37_0, fd37_1, fd37_2, fd37_3, fd37_4, fd37_5, fd37_6, fd37_7, fd37_8, fd37_9, fd37_10, fd37_11, fd37_12, fd37_13, fd37_14, fd37_15, fd37_16, fd37_17, fd37_18, fd37_19, fd37_20, fd37_21, fd37_22, fd37_23, fd43_0, fd43_1, fd43_2, fd43_3, fd43_4, fd43_5, fd43_6, fd43_7, fd43_8, fd43_9, fd43_10, fd43_11, fd43_12, fd43_13, fd43_14, fd43_15, fd43_16, fd43_17, fd43_18, fd43_19, fd43_20, fd43_21, fd43_22, fd43_23, fd49_0, fd49_1, fd49_2, fd49_3, fd49_4, fd49_5, fd49_6, fd49_7, fd49_8, fd49_9, fd49_10, fd49_11, fd51_0, fd51_1, fd51_2, fd51_3, fd51_4, fd51_5, fd51_6, fd51_7, fd68_0, fd68_1, fd68_2, fd68_3, fd68_4, fd68_5, fd68_6, fd68_7, fd68_8, fd68_9, fd68_10, fd68_11, fd74_0, fd74_1, fd74_2, fd74_3, fd74_4, fd74_5, fd74_6, fd74_7]
       show _ ∧ _ ∧ _ ∧ _
       refine ⟨rfl, by trivial, (fun H hI => by simp only [G, Z, Y, un_neg, Int.reduceEq, Int.reduceLE, cutD, Nat.reduceBEq, Nat.reduceAdd, Nat.reduceMul, Nat.reduceSub, Nat.reducePow, Nat.reduceLT, Nat.reduceGT, Nat.reduceLeDiff, Nat.reduceEqDiff, Int.reduceToNat, gt_iff_lt, if_true, if_false, beq_self_eq_true, reduceIte, decide_true, decide_false, fd2_0, fd2_1, fd2_2, fd2_3, fd2_4, fd2_5, fd2_6, fd2_7, fd2_8, fd2_9, fd3_0, fd3_1, fd3_2, fd3_3, fd3_4, fd3_5, fd3_6, fd3_7, fd3_8, fd3_9, fd9_0, fd9_1, fd9_2, fd9_3, fd9_4, fd9_5, fd9_6, fd9_7, fd25_0, fd25_1, fd25_2, fd25_3, fd25_4, fd25_5, fd25_6, fd25_7, fd25_8, fd25_9, fd25_10, fd25_11, fd25_12, fd25_13, fd25_14, fd25_15, fd25_16, fd25_17, fd25_18, fd25_19, fd25_20, fd25_21, fd25_22, fd25_23, fd37_0, fd37_1, fd37_2, fd37_3, fd37_4, fd37_5, fd37_6, fd37_7, fd37_8, fd37_9, fd37_10, fd37_11, fd37_12, fd37_13, fd37_14, fd37_15, fd37_16, fd37_17, fd37_18, fd37_19, fd37_20, fd37_21, fd37_22, fd37_23, fd43_0, fd43_1, fd43_2, fd43_3, fd43_4, fd43_5, fd43_6, fd43_7, fd43_8, fd43_9, fd43_10, fd43_11, fd43_12, fd43_13, fd43_14, fd43_15, fd43_16, fd43_17, fd43_18, fd43_19, fd43_20, fd43_21, fd43_22, fd43_23, fd49_0, fd49_1, fd49_2, fd49_3, fd49_4, fd49_5, fd49_6, fd49_7, fd49_8, fd49_9, fd49_10, fd49_11, fd51_0, fd51_1, fd51_2, fd51_3, fd51_4, fd51_5, fd51_6, fd51_7, fd68_0, fd68_1, fd68_2, fd68_3, fd68_4, fd68_5, fd68_6, fd68_7, fd68_8, fd68_9, fd68_10, fd68_11, fd74_0, fd74_1, fd74_2, fd74_3, fd74_4, fd74_5, fd74_6, fd74_7]), ?_⟩
       show GoW _ _ _ _ _ _ _ _ _ _ _ _ _ _)
    | refine Go.condT (by rfl) ?_
    | refine Go.condF (by rfl) ?_
    | refine GoR.skipG (by decide) rfl rfl ?_
    | refine GoW.skipG (by decide) rfl rfl (by (first | exact fun h => absurd h (by decide) | (intro _; trivial))) ?_
    | (refine GoR.splitG rfl (fun hc => ?_) (fun hc => ?_) <;> simp only [hc])
    | refine Go.condB rfl (fun hc => ?_) (fun hc => ?_))
  refine Go.keep [(0, .sl none 5 l.length (attsC l)), (3, .nils), (4, .int .i64 ((0 : Nat) : Int))] (.cons .refl (.cons .refl (.cons .refl (.nil)))) ?_
  refine Go.while (α := Nat × D × Mem) (fun a => l.length - a.1) (fun a => [(0, .sl none 5 l.length (attsC l)), (3, a.2.1), (4, .int .i64 (a.1 : Int))]) (fun a => a.2.2)
    (fun a => a.1 ≤ l.length ∧ AccD S.length a.2.1 5 a.1 (attsC (l.take a.1)) a.2.2 ∧ Grown S.length S a.2.2) ?_ (0, .nils, S) ⟨Nat.zero_le _, .inl ⟨rfl, rfl, rfl⟩, .refl⟩
  rintro ⟨i, o, S1⟩ ⟨hi, hacc, hg⟩ next
  dsimp only at hi hacc hg next
  repeat' (first
    | refine Go.seq ?_
    | refine Go.rg ?_
    | refine GoR.nil ?_
    | refine Go.skip ?_
    | refine Go.ret ?_
    | refine Go.block ?_
    | refine Go.exit ?_
    | refine Go.blkX ?_
    | refine Go.blkN ?_
    | refine Go.passX ?_
    | refine Go.lpX ?_
    | (refine Go.blkE (by decide) ?_)
    | (refine Go.rgS dmx (by decide) ?_)
    | (refine Go.rgD [5] (fun _ => True) dmx (by decide) 13 (by decide) ?_ ?_
       · trivial)
    | refine GoW.nil rfl ?_
    | ((first | refine GoR.op (by decide) (by rfl) ?_ | refine GoR.opG (by decide) (by rfl) (by rfl) ?_ | refine GoW.op (by decide) (by rfl) rfl ?_ | refine GoW.opG (by decide) (by rfl) rfl (by rfl) ?_)
       conv => arg 1; simp only [G, Z, Y, un_neg, Int.reduceEq, Int.reduceLE, cutD, Nat.reduceBEq, Nat.reduceAdd, Nat.reduceMul, Nat.reduceSub, Nat.reducePow, Nat.reduceLT, Nat.reduceGT, Nat.reduceLeDiff, Nat.reduceEqDiff, Int.reduceToNat, gt_iff_lt, if_true, if_false, beq_self_eq_true, reduceIte, decide_true, decide_false, fd2_0, fd2_1, fd2_2, fd2_3, fd2_4, fd2_5, fd2_6, fd2_7, fd2_8, fd2_9, fd3_0, fd3_1, fd3_2, fd3_3, fd3_4, fd3_5, fd3_6, fd3_7, fd3_8, fd3_9, fd9_0, fd9_1, fd9_2, fd9_3, fd9_4, fd9_5, fd9_6, fd9_7, fd25_0, fd25_1, fd25_2, fd25_3, fd25_4, fd25_5, fd25_6, fd25_7, fd25_8, fd25_9, fd25_10, fd25_11, fd25_12, fd25_13, fd25_14, fd25_15, fd25_16, fd25_17, fd25_18, fd25_19, fd25_20, fd25_21, fd25_22, fd25_23, fd37_0, fd37_1, fd37_2, fd37_3, fd37_4, fd37_5, fd37_6, fd37_7, fd37_8, fd37_9, fd37_10, fd37_11, fd37_12, fd37_13, fd37_14, fd37_15, fd37_16, fd37_17, fd37_18, fd37_19, fd37_20, fd37_21, fd37_22, fd37_23, fd43_0, fd43_1, fd43_2, fd43_3, fd43_4, fd43_5, fd43_6, fd43_7, fd43_8, fd43_9, fd43_10, fd43_11, fd43_12, fd43_13, fd43_14, fd43_15, fd43_16, fd43_17, fd43_18, fd43_19, fd43_20, fd43_21, fd43_22, fd43_23, fd49_0, fd49_1, fd49_2, fd49_3, fd49_4, fd49_5, fd49_6, fd49_7, fd49_8, fd49_9, fd49_10, fd49_11, fd51_0, fd51_1, fd51_2, fd51_3, fd51_4, fd51_5, fd51_6, fd51_7, fd68_0, fd68_1, fd68_2, fd68_3, fd68_4, fd68_5, fd68_6, fd68_7, fd68_8, fd68_9, fd68_10, fd68_11, fd74_0, fd74_1, fd74_2, fd74_3, fd74_4, fd74_5, fd74_6, fd74_7]
       first | show GoR _ _ _ _ _ _ _ _ _ _ | (show _ ∧ _; refine ⟨by (first | exact fun h => absurd h (by decide) | (intro _; trivial)), ?_⟩; show GoW _ _ _ _ _ _ _ _ _ _ _ _ _ _))
    | ((first | refine GoW.readT (by decide) (by rfl) ?_ | refine GoW.readTG (by decide) (by rfl) (by rfl) ?_)
       conv => arg 1; simp only [G, Z, Y, un_neg, Int.reduceEq, Int.reduceLE, cutD, Nat.reduceBEq, Nat.reduceAdd, Nat.reduceMul, Nat.reduceSub, Nat.reducePow, Nat.reduceLT, Nat.reduceGT, Nat.reduceLeDiff, Nat.reduceEqDiff, Int.reduceToNat, gt_iff_lt, if_true, if_false, beq_self_eq_true, reduceIte, decide_true, decide_false, fd2_0, fd2_1, fd2_2, fd2_3, fd2_4, fd2_5, fd2_6, fd2_7, fd2_8, fd2_9, fd3_0, fd3_1, fd3_2, fd3_3, fd3_4, fd3_5, fd3_6, fd3_7, fd3_8, fd3_9, fd9_0, fd9_1, fd9_2, fd9_3, fd9_4, fd9_5, fd9_6, fd9_7, fd25_0, fd25_1, fd25_2, fd25_3, fd25_4, fd25_5, fd25_6, fd25_7, fd25_8, fd25_9, fd25_10, fd25_11, fd25_12, fd25_13, fd25_14, fd25_15, fd25_16, fd25_17, fd25_18, fd25_19, fd25_20, fd25_21, fd25_22, fd25_23, fd37_0, fd37_1, fd37_2, fd37_3, fd37_4, fd37_5, fd37_6, fd37_7, fd37_8, fd37_9, fd37_10, fd37_11, fd37_12, fd37_13, fd37_14, fd37_15, fd37_16, fd37_17, fd37_18, fd37_19, fd37_20, fd37_21, fd37_22, fd37_23, fd43_0, fd43_1, fd43_2, fd43_3, fd43_4, fd43_5, fd43_6, fd43_7, fd43_8, fd43_9, fd43_10, fd43_11, fd43_12, fd43_13, fd43_14, fd43_15, fd43_16, fd43_17, fd43_18, fd43_19, fd43_20, fd43_21, fd43_22, fd43_23, fd49_0, fd49_1, fd49_2, fd49_3, fd49_4, fd49_5, fd49_6, fd49_7, fd49_8, fd49_9, fd49_10, fd49_11, fd51_0, fd51_1, fd51_2, fd51_3, fd51_4, fd51_5, fd51_6, fd51_7, fd68_0, fd68_1, fd68_2, fd68_3, fd68_4, fd68_5, fd68_6, fd68_7, fd68_8, fd68_9, fd68_10, fd68_11, fd74_0, fd74_1, fd74_2, fd74_3, fd74_4, fd74_5, fd74_6, fd74_7]
       show _ ∧ _ ∧ _ ∧ _
       refine ⟨rfl, by trivial, (fun H hI => by simp only [G, Z, Y, un_neg, Int.reduceEq, Int.reduceLE, cutD, Nat.reduceBEq, Nat.reduceAdd, Nat.reduceMul, Nat.reduceSub, Nat.reducePow, Nat.reduceLT, Nat.reduceGT, Nat.reduceLeDiff, Nat.reduceEqDiff, Int.reduceToNat, gt_iff_lt, if_true, if_false, beq_self_eq_true, reduceIte, decide_true, decide_false, fd2_0, fd2_1, fd2_2, fd2_3, fd2_4, fd2_5, fd2_6, fd2_7, fd2_8, fd2_9, fd3_0, fd3_1, fd3_2, fd3_3, fd3_4, fd3_5, fd3_6, fd3_7, fd3_8, fd3_9, fd9_0, fd9_1, fd9_2, fd9_3, fd9_4, fd9_5, fd9_6, fd9_7, fd25_0, fd25_1, fd25_2, fd25_3, fd25_4, fd25_5, fd25_6, fd25_7, fd25_8, fd25_9, fd25_10, fd25_11, fd25_12, fd25_13, fd25_14, fd25_15, fd25_16, fd25_17, fd25_18, fd25_19, fd25_20, fd25_21, fd25_22, fd25_23, fd37_0, fd37_1, fd37_2, fd37_3, fd37_4, fd37_5, fd37_6, fd37_7, fd37_8, fd37_9, fd37_10, fd37_11, fd37_12, fd37_13, fd37_14, fd37_15, fd37_16, fd37_17, fd37_18, fd37_19, fd37_20, fd37_21, fd37_22, fd37_23, fd43_0, fd43_1, fd43_2, fd43_3, fd43_4, fd43_5, fd43_6, fd43_7, fd43_8, fd43_9, fd43_10, fd43_11, fd43_12, fd43_13, fd43_14, fd43_15, fd43_16, fd43_17, fd43_18, fd43_19, fd43_20, fd43_21, fd43_22, fd43_23, fd49_0, fd49_1, fd49_2, fd49_3, fd49_4, fd49_5, fd49_6, fd49_7, fd49_8, fd49_9, fd49_10, fd49_11, fd51_0, fd51_1, fd51_2, fd51_3, fd51_4, fd51_5, fd51_6, fd51_7, fd68_0, fd68_1, fd68_2, fd68_3, fd68_4, fd68_5, fd68_6, fd68_7, fd68_8, fd68_9, fd68_10, fd68_11, fd74_0, fd74_1, fd74_2, fd74_3, fd74_4, fd74_5, fd74_6, fd74_7]), ?_⟩
       show GoW _ _ _ _ _ _ _ _ _ _ _ _ _ _)
    | refine Go.condT (by rfl) ?_
    | refine Go.condF (by rfl) ?_
    | refine GoR.skipG (by decide) rfl rfl ?_
    | refine GoW.skipG (by decide) rfl rfl (by (first | exact fun h => absurd h (by decide) | (intro _; trivial))) ?_
    | (refine GoR.splitG rfl (fun hc => ?_) (fun hc => ?_) <;> simp only [hc])
    | refine Go.condB rfl (fun hc => ?_) (fun hc => ?_))
  · have h1 : i < l.length := by simpa using hc
    obtain ⟨o', S2, hap, hacc2, hg2⟩ := (hacc.app [.own]).append (P := Try.prog) del37 (own := some S1.length) (m := 1) (new := l[i].c) (by simp; have := hg.len; omega) (by omega) ⟨by omega, by omega, by omega, rfl⟩
    simp only [Att.c] at hap
    repeat' (first
      | refine Go.seq ?_
      | refine Go.rg ?_
      | refine GoR.nil ?_
      | refine Go.skip ?_
      | refine Go.ret ?_
      | refine Go.block ?_
      | refine Go.exit ?_
      | refine Go.blkX ?_
      | refine Go.blkN ?_
      | refine Go.passX ?_
      | refine Go.lpX ?_
      | (refine Go.blkE (by decide) ?_)
      | (refine Go.rgS dmx (by decide) ?_)
      | (refine Go.rgD [5] (fun _ => True) dmx (by decide) 13 (by decide) ?_ ?_
         · trivial)
      | refine GoW.nil rfl ?_
      | ((first | refine GoR.op (by decide) (by rfl) ?_ | refine GoR.opG (by decide) (by rfl) (by rfl) ?_ | refine GoW.op (by decide) (by rfl) rfl ?_ | refine GoW.opG (by decide) (by rfl) rfl (by rfl) ?_)
         conv => arg 1; simp only [G, Z, Y, un_neg, Int.reduceEq, Int.reduceLE, cutD, Nat.reduceBEq, Nat.reduceAdd, Nat.reduceMul, Nat.reduceSub, Nat.reducePow, Nat.reduceLT, Nat.reduceGT, Nat.reduceLeDiff, Nat.reduceEqDiff, Int.reduceToNat, gt_iff_lt, if_true, if_false, beq_self_eq_true, reduceIte, decide_true, decide_false, fd2_0, fd2_1, fd2_2, fd2_3, fd2_4, fd2_5, fd2_6, fd2_7, fd2_8, fd2_9, fd3_0, fd3_1, fd3_2, fd3_3, fd3_4, fd3_5, fd3_6, fd3_7, fd3_8, fd3_9, fd9_0, fd9_1, fd9_2, fd9_3, fd9_4, fd9_5, fd9_6, fd9_7, fd25_0, fd25_1, fd25_2, fd25_3, fd25_4, fd25_5, fd25_6, fd25_7, fd25_8, fd25_9, fd25_10, fd25_11, fd25_12, fd25_13, fd25_14, fd25_15, fd25_16, fd25_17, fd25_18, fd25_19, fd25_20, fd25_21, fd25_22, fd25_23, fd37_0, fd37_1, fd37_2, fd37_3, fd37_4, fd37_5, fd37_6, fd37_7, fd37_8, fd37_9, fd37_10, fd37_11, fd37_12, fd37_13, fd37_14, fd37_15, fd37_16, fd37_17, fd37_18, fd37_19, fd37_20, fd37_21, fd37_22, fd37_23, fd43_0, fd43_1, fd43_2, fd43_3, fd43_4, fd43_5, fd43_6, fd43_7, fd43_8, fd43_9, fd43_10, fd43_11, fd43_12, fd43_13, fd43_14, fd43_15, fd43_16, fd43_17, fd43_18, fd43_19, fd43_20, fd43_21, fd43_22, fd43_23, fd49_0, fd49_1, fd49_2, fd49_3, fd49_4, fd49_5, fd49_6, fd49_7, fd49_8, fd49_9, fd49_10, fd49_11, fd51_0, fd51_1, fd51_2, fd51_3, fd51_4, fd51_5, fd51_6, fd51_7, fd68_0, fd68_1, fd68_2, fd68_3, fd68_4, fd68_5, fd68_6, fd68_7, fd68_8, fd68_9, fd68_10, fd68_11, fd74_0, fd74_1, fd74_2, fd74_3, fd74_4, fd74_5, fd74_6, fd74_7, attsAt h1, wrap_succ (show i < 4611686018427387904 by omega), Val.c, hap, builtin_append]
         first | show GoR _ _ _ _ _ _ _ _ _ _ | (show _ ∧ _; refine ⟨by (first | exact fun h => absurd h (by decide) | (intro _; trivial)), ?_⟩; show GoW _ _ _ _ _ _ _ _ _ _ _ _ _ _))
      | ((first | refine GoW.readT (by decide) (by rfl) ?_ | refine GoW.readTG (by decide) (by rfl) (by rfl) ?_)
         conv => arg 1; simp only [G, Z, Y, un_neg, Int.reduceEq, Int.reduceLE, cutD, Nat.reduceBEq, Nat.reduceAdd, Nat.reduceMul, Nat.reduceSub, Nat.reducePow, Nat.reduceLT, Nat.reduceGT, Nat.reduceLeDiff, Nat.reduceEqDiff, Int.reduceToNat, gt_iff_lt, if_true, if_false, beq_self_eq_true, reduceIte, decide_true, decide_false, fd2_0, fd2_1, fd2_2, fd2_3, fd2_4, fd2_5, fd2_6, fd2_7, fd2_8, fd2_9, fd3_0, fd3_1, fd3_2, fd3_3, fd3_4, fd3_5, fd3_6, fd3_7, fd3_8, fd3_9, fd9_0, fd9_1, fd9_2, fd9_3, fd9_4, fd9_5, fd9_6, fd9_7, fd25_0, fd25_1, fd25_2, fd25_3, fd25_4, fd25_5, fd25_6, fd25_7, fd25_8, fd25_9, fd25_10, fd25_11, fd25_12, fd25_13, fd25_14, fd25_15, fd25_16, fd25_17, fd25_18, fd25_19, fd25_20, fd25_21, fd25_22, fd25_23, fd37_0, fd37_1, fd37_2, fd37_3, fd37_4, fd37_5, fd37_6, fd37_7, fd37_8, fd37_9, fd37_10, fd37_11, fd37_12, fd37_13, fd37_14, fd37_15, fd37_16, fd37_17, fd37_18, fd37_19, fd37_20, fd37_21, fd37_22, fd37_23, fd43_0, fd43_1, fd43_2, fd43_3, fd43_4, fd43_5, fd43_6, fd43_7, fd43_8, fd43_9, fd43_10, fd43_11, fd43_12, fd43_13, fd43_14, fd43_15, fd43_16, fd43_17, fd43_18, fd43_19, fd43_20, fd43_21, fd43_22, fd43_23, fd49_0, fd49_1, fd49_2, fd49_3, fd49_4, fd49_5, fd49_6, fd49_7, fd49_8, fd49_9, fd49_10, fd49_11, fd51_0, fd51_1, fd51_2, fd51_3, fd51_4, fd51_5, fd51_6, fd51_7, fd68_0, fd68_1, fd68_2, fd68_3, fd68_4, fd68_5, fd68_6, fd68_7, fd68_8, fd68_9, fd68_10, fd68_11, fd74_0, fd74_1, fd74_2, fd74_3, fd74_4, fd74_5, fd74_6, fd74_7, attsAt h1, wrap_succ (show i < 4611686018427387904 by omega), Val.c, hap, builtin_append]
         show _ ∧ _ ∧ _ ∧ _
         refine ⟨rfl, by trivial, (fun H hI => by simp only [G, Z, Y, un_neg, Int.reduceEq, Int.reduceLE, cutD, Nat.reduceBEq, Nat.reduceAdd, Nat.reduceMul, Nat.reduceSub, Nat.reducePow, Nat.reduceLT, Nat.reduceGT, Nat.reduceLeDiff, Nat.reduceEqDiff, Int.reduceToNat, gt_iff_lt, if_true, if_false, beq_self_eq_true, reduceIte, decide_true, decide_false, fd2_0, fd2_1, fd2_2, fd2_3, fd2_4, fd2_5, fd2_6, fd2_7, fd2_8, fd2_9, fd3_0, fd3_1, fd3_2, fd3_3, fd3_4, fd3_5, fd3_6, fd3_7, fd3_8, fd3_9, fd9_0, fd9_1, fd9_2, fd9_3, fd9_4, fd9_5, fd9_6, fd9_7, fd25_0, fd25_1, fd25_2, fd25_3, fd25_4, fd25_5, fd25_6, fd25_7, fd25_8, fd25_9, fd25_10, fd25_11, fd25_12, fd25_13, fd25_14, fd25_15, fd25_16, fd25_17, fd25_18, fd25_19, fd25_20, fd25_21, fd25_22, fd25_23, fd37_0, fd37_1, fd37_2, fd37_3, fd37_4, fd37_5, fd37_6, fd37_7, fd37_8, fd37_9, fd37_10, fd37_11, fd37_12, fd37_13, fd37_14, fd37_15, fd37_16, fd37_17, fd37_18, fd37_19, fd37_20, fd37_21, fd37_22, fd37_23, fd43_0, fd43_1, fd43_2, fd43_3, fd43_4, fd43_5, fd43_6, fd43_7, fd43_8, fd43_9, fd43_10, fd43_11, fd43_12, fd43_13, fd43_14, fd43_15, fd43_16, fd43_17, fd43_18, fd43_19, fd43_20, fd43_21, fd43_22, fd43_23, fd49_0, fd49_1, fd49_2, fd49_3, fd49_4, fd49_5, fd49_6, fd49_7, fd49_8, fd49_9, fd49_10, fd49_11, fd51_0, fd51_1, fd51_2, fd51_3, fd51_4, fd51_5, fd51_6, fd51_7, fd68_0, fd68_1, fd68_2, fd68_3, fd68_4, fd68_5, fd68_6, fd68_7, fd68_8, fd68_9, fd68_10, fd68_11, fd74_0, fd74_1, fd74_2, fd74_3, fd74_4, fd74_5, fd74_6, fd74_7, attsAt h1, wrap_succ (show i < 4611686018427387904 by omega), Val.c, hap, builtin_append]), ?_⟩
         show GoW _ _ _ _ _ _ _ _ _ _ _ _ _ _)
      | (refine GoW.call (f := 34) (by decide) (by rfl) rfl Try.func34 (by rfl) (by decide) rfl ?_
         (refine (of2 _ _).ret ?_)
         refine ⟨by (first | exact fun h => absurd h (by decide) | (intro _; trivial)), ?_⟩)
      | ((first | refine GoR.call (f := 34) (by decide) (by rfl) rfl Try.func34 (by decide) (by rfl) ?_ | refine GoR.callG (f := 34) (by decide) (by rfl) (by rfl) rfl Try.func34 (by decide) (by rfl) ?_)
         (refine (of2 _ _).ret ?_))
      | refine Go.condT (by rfl) ?_
      | refine Go.condF (by rfl) ?_
      | refine GoR.skipG (by decide) rfl rfl ?_
      | refine GoW.skipG (by decide) rfl rfl (by (first | exact fun h => absurd h (by decide) | (intro _; trivial))) ?_
      | (refine GoR.splitG rfl (fun hc => ?_) (fun hc => ?_) <;> simp only [hc])
      | refine Go.condB rfl (fun hc => ?_) (fun hc => ?_))
    refine Go.lpN ?_
    refine Go.keep [(0, .sl none 5 l.length (attsC l)), (3, o'), (4, .int .i64 ((i + 1 : Nat) : Int))] (.cons .refl (.cons .refl (.cons .refl (.nil)))) ?_
    refine next (i + 1, o', S2) (by dsimp only; omega) ⟨h1, ?_, hg.trans (Grown.app.trans hg2)⟩
    have e : attsC (l.take (i + 1)) = attsC (l.take i) ++ l[i].c := flat_take_succ h1
    dsimp only
    rw [e]
    exact hacc2
  · clear next
    refine ⟨(by first | exact .inl rfl | exact .inr rfl), fin ?_⟩
    rw [resD_tmp (fn := Try.f13) rfl]
    simp only [optThen_some, resultD_tmp, resultD_cell, G, Z, Y, un_neg, Int.reduceEq, Int.reduceLE, cutD, Nat.reduceBEq, Nat.reduceAdd, Nat.reduceMul, Nat.reduceSub, Nat.reducePow, Nat.reduceLT, Nat.reduceGT, Nat.reduceLeDiff, Nat.reduceEqDiff, Int.reduceToNat, gt_iff_lt, if_true, if_false, beq_self_eq_true, reduceIte, decide_true, decide_false, fd2_0, fd2_1, fd2_2, fd2_3, fd2_4, fd2_5, fd2_6, fd2_7, fd2_8, fd2_9, fd3_0, fd3_1, fd3_2, fd3_3, fd3_4, fd3_5, fd3_6, fd3_7, fd3_8, fd3_9, fd9_0, fd9_1, fd9_2, fd9_3, fd9_4, fd9_5, fd9_6, fd9_7, fd25_0, fd25_1, fd25_2, fd25_3, fd25_4, fd25_5, fd25_6, fd25_7, fd25_8, fd25_9, fd25_10, fd25_11, fd25_12, fd25_13, fd25_14, fd25_15, fd25_16, fd25_17, fd25_18, fd25_19, fd25_20, fd25_21, fd25_22, fd25_23, fd37_0, fd37_1, fd37_2, fd37_3, fd37_4, fd37_5, fd37_6, fd37_7, fd37_8, fd37_9, fd37_10, fd37_11, fd37_12, fd37_13, fd37_14, fd37_15, fd37_16, fd37_17, fd37_18, fd37_19, fd37_20, fd37_21, fd37_22, fd37_23, fd43_0, fd43_1, fd43_2, fd43_3, fd43_4, fd43_5, fd43_6, fd43_7, fd43_8, fd43_9, fd43_10, fd43_11, fd43_12, fd43_13, fd43_14, fd43_15, fd43_16, fd43_17, fd43_18, fd43_19, fd43_20, fd43_21, fd43_22, fd43_23, fd49_0, fd49_1, fd49_2, fd49_3, fd49_4, fd49_5, fd49_6, fd49_7, fd49_8, fd49_9, fd49_10, fd49_11, fd51_0, fd51_1, fd51_2, fd51_3, fd51_4, fd51_5, fd51_6, fd51_7, fd68_0, fd68_1, fd68_2, fd68_3, fd68_4, fd68_5, fd68_6, fd68_7, fd68_8, fd68_9, fd68_10, fd68_11, fd74_0, fd74_1, fd74_2, fd74_3, fd74_4, fd74_5, fd74_6, fd74_7]
    have hi' : i = l.length := by have : l.length ≤ i := by simpa using hc
                                  omega
    subst hi'
    rw [List.take_length] at hacc
    obtain ⟨E, hE⟩ := hg.pre [] S rfl (by simp)
    exact ⟨_, E, hE, hacc.wf.to_Wk (.sl' (atts_low l)), rfl⟩
end Go.Proofs.DmT
