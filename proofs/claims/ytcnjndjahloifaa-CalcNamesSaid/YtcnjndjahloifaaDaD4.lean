/- Products, quotients and remainders that stay within 64 bits. -/
import Derived.Test.YtcnjndjahloifaaDaD3
set_option linter.unusedSimpArgs false
set_option linter.unusedVariables false
namespace Go.Proofs.DaT
open Go Go.DM
set_option maxRecDepth 10000
variable {orc : DOracle}

def divS (a b : Int) : Int × Bool := if b = 0 then (0, false) else (clamp (a.tdiv b), true)
def modS (a b : Int) : Int × Bool := if b = 0 then (0, false) else (a.tmod b, true)
theorem tdiv_in {a b : Int} (ha : in64 a) (h1 : b ≠ 0) (h2 : b ≠ -1 ∨ a ≠ -9223372036854775808) : in64 (a.tdiv b) := by
  obtain ⟨a1, a2⟩ := ha
  have h := Int.natAbs_tdiv a b
  have hb : 1 ≤ b.natAbs := by omega
  unfold in64
  rcases Nat.lt_or_ge 1 b.natAbs with h3 | h3
  · have : a.natAbs.div b.natAbs ≤ a.natAbs / 2 := Nat.div_le_div_left (by omega) (by omega)
    change _ = a.natAbs / b.natAbs at h
    change a.natAbs / b.natAbs ≤ _ at this
    omega
  · rcases (show b = 1 ∨ b = -1 by omega) with rfl | rfl
    · rw [Int.tdiv_one]
      omega
    · rw [Int.tdiv_neg, Int.tdiv_one]
      omega
theorem clamp_id {x : Int} (h : in64 x) : clamp x = x := by obtain ⟨h1, h2⟩ := h; unfold clamp; split <;> (try split) <;> omega
theorem wrap_in {x : Int} (h : in64 x) : IntKind.i64.wrap x = x := wrap64 h.1 h.2
theorem quo_clamp {a b : Int} (ha : in64 a) (h1 : b ≠ 0) (h2 : b ≠ -1 ∨ a ≠ -9223372036854775808) : IntKind.i64.wrap (a.tdiv b) = clamp (a.tdiv b) := by
  have := tdiv_in ha h1 h2
  rw [wrap_in this, clamp_id this]
theorem two_low {n : Nat} {a : Int} {b : Bool} : DLow n (.tup [.int .i64 a, .bool b]) := .tup' (.cons (.int _ _) (.cons (.bool _) .nil))

theorem valMod (a b : Int) (S : Mem) : CallD Try.prog orc 36 [.int .i64 a, .int .i64 b] S fun d S' => S' = S ∧ d = .tup [.int .i64 (modS a b).1, .bool (modS a b).2] := by
  refine CallD.drop ?_
  refine CallD.body Try.func36 rfl (by simp [Try.ntmps36]) ?_
  rw [Try.ntmps36]
  by_cases h0 : b = 0
  · subst h0
    repeat' (first
      | refine Go.seq ?_
      | refine Go.rg ?_
      | refine GoR.nil ?_
      | refine Go.skip ?_
      | refine Go.ret ?_
      | refine Go.block ?_
      | refine Go.exit ?_
      | refine Go.blkX ?_
      | refine Go.blkN ?_
      | refine Go.passX ?_
      | refine Go.lpX ?_
      | (refine Go.blkE (by decide) ?_)
      | (refine Go.rgS dmx (by decide) ?_)
      | ((first | refine GoR.op (by decide) (by rfl) ?_ | refine GoR.opG (by decide) (by rfl) (by rfl) ?_)
         conv => arg 1; simp only [G, Z, Y, un_neg, Int.reduceEq, Int.reduceLE, cutD, Nat.reduceBEq, Nat.reduceAdd, Nat.reduceMul, Nat.reduceSub, Nat.reducePow, Nat.reduceLT, Nat.reduceGT, Nat.reduceLeDiff, Nat.reduceEqDiff, Int.reduceToNat, gt_iff_lt, if_true, if_false, beq_self_eq_true, reduceIte, decide_true, decide_false, fd2_0, fd2_1, fd2_2, fd2_3, fd2_4, fd2_5, fd2_6, fd2_7, fd2_8, fd2_9]
         show GoR _ _ _ _ _ _ _ _ _ _)
      | refine Go.condT (by rfl) ?_
      | refine Go.condF (by rfl) ?_
      | refine GoR.skipG (by decide) rfl rfl ?_
      | (refine GoR.splitG rfl (fun hc => ?_) (fun hc => ?_) <;> simp only [hc])
      | refine Go.condB rfl (fun hc => ?_) (fun hc => ?_))
    refine ⟨(by first | exact .inl rfl | exact .inr rfl), fin ?_⟩
    rw [resD_two (fn := Try.f36) rfl]
    simp only [optThen_some, resultD_tmp, resultD_cell, G, Z, Y, un_neg, Int.reduceEq, Int.reduceLE, cutD, Nat.reduceBEq, Nat.reduceAdd, Nat.reduceMul, Nat.reduceSub, Nat.reducePow, Nat.reduceLT, Nat.reduceGT, Nat.reduceLeDiff, Nat.reduceEqDiff, Int.reduceToNat, gt_iff_lt, if_true, if_false, beq_self_eq_true, reduceIte, decide_true, decide_false, fd2_0, fd2_1, fd2_2, fd2_3, fd2_4, fd2_5, fd2_6, fd2_7, fd2_8, fd2_9]
    exact ⟨_, [], by simp, .of_low two_low, by simp [modS]⟩
  · have h0' : (b = 0) = False := by simp [h0]
    repeat' (first
      | refine Go.seq ?_
      | refine Go.rg ?_
      | refine GoR.nil ?_
      | refine Go.skip ?_
      | refine Go.ret ?_
      | refine Go.block ?_
      | refine Go.exit ?_
      | refine Go.blkX ?_
      | refine Go.blkN ?_
      | refine Go.passX ?_
      | refine Go.lpX ?_
      | (refine Go.blkE (by decide) ?_)
      | (refine Go.rgS dmx (by decide) ?_)
      | ((first | refine GoR.op (by decide) (by rfl) ?_ | refine GoR.opG (by decide) (by rfl) (by rfl) ?_)
         conv => arg 1; simp only [G, Z, Y, un_neg, Int.reduceEq, Int.reduceLE, cutD, Nat.reduceBEq, Nat.reduceAdd, Nat.reduceMul, Nat.reduceSub, Nat.reducePow, Nat.reduceLT, Nat.reduceGT, Nat.reduceLeDiff, Nat.reduceEqDiff, Int.reduceToNat, gt_iff_lt, if_true, if_false, beq_self_eq_true, reduceIte, decide_true, decide_false, fd2_0, fd2_1, fd2_2, fd2_3, fd2_4, fd2_5, fd2_6, fd2_7, fd2_8, fd2_9, h0', show (b == 0) = false by simp [h0]]
         show GoR _ _ _ _ _ _ _ _ _ _)
      | refine Go.condT (by rfl) ?_
      | refine Go.condF (by rfl) ?_
      | refine GoR.skipG (by decide) rfl rfl ?_
      | (refine GoR.splitG rfl (fun hc => ?_) (fun hc => ?_) <;> simp only [hc])
      | refine Go.condB rfl (fun hc => ?_) (fun hc => ?_))
    · refine ⟨(by first | exact .inl rfl | exact .inr rfl), fin ?_⟩
      rw [resD_two (fn := Try.f36) rfl]
      simp only [optThen_some, resultD_tmp, resultD_cell, G, Z, Y, un_neg, Int.reduceEq, Int.reduceLE, cutD, Nat.reduceBEq, Nat.reduceAdd, Nat.reduceMul, Nat.reduceSub, Nat.reducePow, Nat.reduceLT, Nat.reduceGT, Nat.reduceLeDiff, Nat.reduceEqDiff, Int.reduceToNat, gt_iff_lt, if_true, if_false, beq_self_eq_true, reduceIte, decide_true, decide_false, fd2_0, fd2_1, fd2_2, fd2_3, fd2_4, fd2_5, fd2_6, fd2_7, fd2_8, fd2_9]
      refine ⟨_, [], by simp, .of_low two_low, ?_⟩
      simp at hc
      subst hc
      simp [modS]
    all_goals
      refine ⟨(by first | exact .inl rfl | exact .inr rfl), fin ?_⟩
      rw [resD_two (fn := Try.f36) rfl]
      simp only [optThen_some, resultD_tmp, resultD_cell, G, Z, Y, un_neg, Int.reduceEq, Int.reduceLE, cutD, Nat.reduceBEq, Nat.reduceAdd, Nat.reduceMul, Nat.reduceSub, Nat.reducePow, Nat.reduceLT, Nat.reduceGT, Nat.reduceLeDiff, Nat.reduceEqDiff, Int.reduceToNat, gt_iff_lt, if_true, if_false, beq_self_eq_true, reduceIte, decide_true, decide_false, fd2_0, fd2_1, fd2_2, fd2_3, fd2_4, fd2_5, fd2_6, fd2_7, fd2_8, fd2_9]
      refine ⟨_, [], by simp, .of_low two_low, ?_⟩
      simp only [modS, h0', if_false]
theorem valDiv (a b : Int) (ha : in64 a) (hb : in64 b) (S : Mem) : CallD Try.prog orc 35 [.int .i64 a, .int .i64 b] S fun d S' => S' = S ∧ d = .tup [.int .i64 (divS a b).1, .bool (divS a b).2] := by
  refine CallD.drop ?_
  refine CallD.body Try.func35 rfl (by simp [Try.ntmps35]) ?_
  rw [Try.ntmps35]
  by_cases h0 : b = 0
  · subst h0
    repeat' (first
      | refine Go.seq ?_
      | refine Go.rg ?_
      | refine GoR.nil ?_
      | refine Go.skip ?_
      | refine Go.ret ?_
      | refine Go.block ?_
      | refine Go.exit ?_
      | refine Go.blkX ?_
      | refine Go.blkN ?_
      | refine Go.passX ?_
      | refine Go.lpX ?_
      | (refine Go.blkE (by decide) ?_)
      | (refine Go.rgS dmx (by decide) ?_)
      | ((first | refine GoR.op (by decide) (by rfl) ?_ | refine GoR.opG (by decide) (by rfl) (by rfl) ?_)
         conv => arg 1; simp only [G, Z, Y, un_neg, Int.reduceEq, Int.reduceLE, cutD, Nat.reduceBEq, Nat.reduceAdd, Nat.reduceMul, Nat.reduceSub, Nat.reducePow, Nat.reduceLT, Nat.reduceGT, Nat.reduceLeDiff, Nat.reduceEqDiff, Int.reduceToNat, gt_iff_lt, if_true, if_false, beq_self_eq_true, reduceIte, decide_true, decide_false, fd2_0, fd2_1, fd2_2, fd2_3, fd2_4, fd2_5, fd2_6, fd2_7, fd2_8, fd2_9]
         show GoR _ _ _ _ _ _ _ _ _ _)
      | refine Go.condT (by rfl) ?_
      | refine Go.condF (by rfl) ?_
      | refine GoR.skipG (by decide) rfl rfl ?_
      | (refine GoR.splitG rfl (fun hc => ?_) (fun hc => ?_) <;> simp only [hc])
      | refine Go.condB rfl (fun hc => ?_) (fun hc => ?_))
    refine ⟨(by first | exact .inl rfl | exact .inr rfl), fin ?_⟩
    rw [resD_two (fn := Try.f35) rfl]
    simp only [optThen_some, resultD_tmp, resultD_cell, G, Z, Y, un_neg, Int.reduceEq, Int.reduceLE, cutD, Nat.reduceBEq, Nat.reduceAdd, Nat.reduceMul, Nat.reduceSub, Nat.reducePow, Nat.reduceLT, Nat.reduceGT, Nat.reduceLeDiff, Nat.reduceEqDiff, Int.reduceToNat, gt_iff_lt, if_true, if_false, beq_self_eq_true, reduceIte, decide_true, decide_false, fd2_0, fd2_1, fd2_2, fd2_3, fd2_4, fd2_5, fd2_6, fd2_7, fd2_8, fd2_9]
    exact ⟨_, [], by simp, .of_low two_low, by simp [divS]⟩
  · have h0' : (b = 0) = False := by simp [h0]
    repeat' (first
      | refine Go.seq ?_
      | refine Go.rg ?_
      | refine GoR.nil ?_
      | refine Go.skip ?_
      | refine Go.ret ?_
      | refine Go.block ?_
      | refine Go.exit ?_
      | refine Go.blkX ?_
      | refine Go.blkN ?_
      | refine Go.passX ?_
      | refine Go.lpX ?_
      | (refine Go.blkE (by decide) ?_)
      | (refine Go.rgS dmx (by decide) ?_)
      | ((first | refine GoR.op (by decide) (by rfl) ?_ | refine GoR.opG (by decide) (by rfl) (by rfl) ?_)
         conv => arg 1; simp only [G, Z, Y, un_neg, Int.reduceEq, Int.reduceLE, cutD, Nat.reduceBEq, Nat.reduceAdd, Nat.reduceMul, Nat.reduceSub, Nat.reducePow, Nat.reduceLT, Nat.reduceGT, Nat.reduceLeDiff, Nat.reduceEqDiff, Int.reduceToNat, gt_iff_lt, if_true, if_false, beq_self_eq_true, reduceIte, decide_true, decide_false, fd2_0, fd2_1, fd2_2, fd2_3, fd2_4, fd2_5, fd2_6, fd2_7, fd2_8, fd2_9, h0', show (b == 0) = false by simp [h0]]
         show GoR _ _ _ _ _ _ _ _ _ _)
      | ((first | refine GoR.call (f := 24) (by decide) (by rfl) rfl Try.func24 (by decide) (by rfl) ?_ | refine GoR.callG (f := 24) (by decide) (by rfl) (by rfl) rfl Try.func24 (by decide) (by rfl) ?_)
         (refine (valSub _ _ ⟨by decide, by decide⟩ ha _).ret ?_))
      | refine Go.condT (by rfl) ?_
      | refine Go.condF (by rfl) ?_
      | refine GoR.skipG (by decide) rfl rfl ?_
      | (refine GoR.splitG rfl (fun hc => ?_) (fun hc => ?_) <;> simp only [hc])
      | refine Go.condB rfl (fun hc => ?_) (fun hc => ?_))
    · simp at hc
      subst hc
      repeat' (first
        | refine Go.seq ?_
        | refine Go.rg ?_
        | refine GoR.nil ?_
        | refine Go.skip ?_
        | refine Go.ret ?_
        | refine Go.block ?_
        | refine Go.exit ?_
        | refine Go.blkX ?_
        | refine Go.blkN ?_
        | refine Go.passX ?_
        | refine Go.lpX ?_
        | (refine Go.blkE (by decide) ?_)
        | (refine Go.rgS dmx (by decide) ?_)
        | ((first | refine GoR.op (by decide) (by rfl) ?_ | refine GoR.opG (by decide) (by rfl) (by rfl) ?_)
           conv => arg 1; simp only [G, Z, Y, un_neg, Int.reduceEq, Int.reduceLE, cutD, Nat.reduceBEq, Nat.reduceAdd, Nat.reduceMul, Nat.reduceSub, Nat.reducePow, Nat.reduceLT, Nat.reduceGT, Nat.reduceLeDiff, Nat.reduceEqDiff, Int.reduceToNat, gt_iff_lt, if_true, if_false, beq_self_eq_true, reduceIte, decide_true, decide_false, fd2_0, fd2_1, fd2_2, fd2_3, fd2_4, fd2_5, fd2_6, fd2_7, fd2_8, fd2_9]
           show GoR _ _ _ _ _ _ _ _ _ _)
        | refine Go.condT (by rfl) ?_
        | refine Go.condF (by rfl) ?_
        | refine GoR.skipG (by decide) rfl rfl ?_
        | (refine GoR.splitG rfl (fun hc => ?_) (fun hc => ?_) <;> simp only [hc])
        | refine Go.condB rfl (fun hc => ?_) (fun hc => ?_))
      refine ⟨(by first | exact .inl rfl | exact .inr rfl), fin ?_⟩
      rw [resD_two (fn := Try.f35) rfl]
      simp only [optThen_some, resultD_tmp, resultD_cell, G, Z, Y, un_neg, Int.reduceEq, Int.reduceLE, cutD, Nat.reduceBEq, Nat.reduceAdd, Nat.reduceMul, Nat.reduceSub, Nat.reducePow, Nat.reduceLT, Nat.reduceGT, Nat.reduceLeDiff, Nat.reduceEqDiff, Int.reduceToNat, gt_iff_lt, if_true, if_false, beq_self_eq_true, reduceIte, decide_true, decide_false, fd2_0, fd2_1, fd2_2, fd2_3, fd2_4, fd2_5, fd2_6, fd2_7, fd2_8, fd2_9]
      refine ⟨_, [], by simp, .of_low two_low, ?_⟩
      simp [divS, Int.tdiv_neg, Int.tdiv_one]
    all_goals
      refine ⟨(by first | exact .inl rfl | exact .inr rfl), fin ?_⟩
      rw [resD_two (fn := Try.f35) rfl]
      simp only [optThen_some, resultD_tmp, resultD_cell, G, Z, Y, un_neg, Int.reduceEq, Int.reduceLE, cutD, Nat.reduceBEq, Nat.reduceAdd, Nat.reduceMul, Nat.reduceSub, Nat.reducePow, Nat.reduceLT, Nat.reduceGT, Nat.reduceLeDiff, Nat.reduceEqDiff, Int.reduceToNat, gt_iff_lt, if_true, if_false, beq_self_eq_true, reduceIte, decide_true, decide_false, fd2_0, fd2_1, fd2_2, fd2_3, fd2_4, fd2_5, fd2_6, fd2_7, fd2_8, fd2_9]
      refine ⟨_, [], by simp, .of_low two_low, ?_⟩
      simp only [divS, h0', if_false]
      congr 3
      simp at *
      exact quo_clamp ha h0 (.inl hc)

/-- A product that does not fit shows in the quotient. -/
theorem mul_fits {a b : Int} (ha : in64 a) (hb : in64 b) (h0 : b ≠ 0) (hx : ¬ (a = -9223372036854775808 ∧ b = -1)) :
    IntKind.i64.wrap ((IntKind.i64.wrap (a * b)).tdiv b) = a ↔ in64 (a * b) := by
  constructor
  · intro h
    have hc : in64 (IntKind.i64.wrap (a * b)) := by rw [IntKind.wrap_i64]; unfold in64; omega
    have hk : ∃ k : Int, IntKind.i64.wrap (a * b) = a * b - 18446744073709551616 * k := ⟨(a * b + 9223372036854775808) / 18446744073709551616, by rw [IntKind.wrap_i64]; omega⟩
    generalize hcc : IntKind.i64.wrap (a * b) = c at h hc hk
    have hq : c.tdiv b = a := by
      by_cases hm : b ≠ -1 ∨ c ≠ -9223372036854775808
      · rw [wrap_in (tdiv_in hc h0 hm)] at h; exact h
      · obtain ⟨rfl, rfl⟩ : b = -1 ∧ c = -9223372036854775808 := by omega
        simp [Int.tdiv_neg, Int.tdiv_one, IntKind.wrap_i64] at h
        omega
    have hm := Int.mul_tdiv_add_tmod c b
    rw [hq, Int.mul_comm] at hm
    have hr : (c.tmod b).natAbs < b.natAbs := by rw [Int.natAbs_tmod]; exact Nat.mod_lt _ (by omega)
    obtain ⟨k, hk⟩ := hk
    obtain ⟨b1, b2⟩ := hb
    have : k = 0 := by omega
    subst this
    have : c = a * b := by omega
    rw [← this]; exact hc
  · intro h
    rw [wrap_in h, Int.mul_tdiv_cancel _ h0, wrap_in ha]

theorem clamp_mul {a b : Int} (ha : in64 a) (hb : in64 b) (ha0 : a ≠ 0) (h0 : b ≠ 0) :
    clamp (a * b) = if ((IntKind.i64.wrap ((IntKind.i64.wrap (a * b)).tdiv b) == a) && !((a == -9223372036854775808) && (b == -1)) && !((b == -9223372036854775808) && (a == -1))) = true then IntKind.i64.wrap (a * b)
      else if (decide (a < 0) == decide (b < 0)) = true then 9223372036854775807 else -9223372036854775808 := by
  by_cases hin : in64 (a * b)
  · have hx : ¬ (a = -9223372036854775808 ∧ b = -1) := by rintro ⟨rfl, rfl⟩; unfold in64 at hin; omega
    have hy : ¬ (b = -9223372036854775808 ∧ a = -1) := by rintro ⟨rfl, rfl⟩; unfold in64 at hin; omega
    have hf := (mul_fits ha hb h0 hx).2 hin
    rw [if_pos (by simp [hf]; omega), wrap_in hin, clamp_id hin]
  · have hn : ¬ ((IntKind.i64.wrap ((IntKind.i64.wrap (a * b)).tdiv b) == a) && !((a == -9223372036854775808) && (b == -1)) && !((b == -9223372036854775808) && (a == -1))) = true := by
      intro h
      simp only [Bool.and_eq_true, beq_iff_eq, Bool.not_eq_true', Bool.and_eq_false_iff, beq_eq_false_iff_ne] at h
      obtain ⟨⟨h1, h2⟩, h3⟩ := h
      exact hin ((mul_fits ha hb h0 (by omega)).1 h1)
    rw [if_neg hn]
    by_cases hs : a < 0
    · by_cases ht : b < 0
      · have := Int.mul_pos_of_neg_of_neg hs ht
        simp only [hs, ht, decide_true, beq_self_eq_true, if_true]
        unfold in64 at hin; unfold clamp; rw [if_pos (by omega)]
      · have := Int.mul_neg_of_neg_of_pos hs (show 0 < b by omega)
        simp only [hs, ht, decide_true, decide_false, show (true == false) = false from rfl, Bool.false_eq_true, if_false]
        unfold in64 at hin; unfold clamp; rw [if_neg (by omega), if_pos (by omega)]
    · by_cases ht : b < 0
      · have := Int.mul_neg_of_pos_of_neg (show 0 < a by omega) ht
        simp only [hs, ht, decide_true, decide_false, show (false == true) = false from rfl, Bool.false_eq_true, if_false]
        unfold in64 at hin; unfold clamp; rw [if_neg (by omega), if_pos (by omega)]
      · have := Int.mul_pos (show 0 < a by omega) (show 0 < b by omega)
        simp only [hs, ht, decide_false, beq_self_eq_true, if_true]
        unfold in64 at hin; unfold clamp; rw [if_pos (by omega)]
theorem size64 (a : Int) (ha : in64 a) (S : Mem) : CallD Try.prog orc 51 [.int .i64 a] S fun d S' => S' = S ∧ d = .int .u64 (a.natAbs : Int) := by
  obtain ⟨a1, a2⟩ := ha
  refine CallD.drop ?_
  refine CallD.body Try.func51 rfl (by simp [Try.ntmps51]) ?_
  rw [Try.ntmps51]
  repeat' (first
    | refine Go.seq ?_
    | refine Go.rg ?_
    | refine GoR.nil ?_
    | refine Go.skip ?_
    | refine Go.ret ?_
    | refine Go.block ?_
    | refine Go.exit ?_
    | refine Go.blkX ?_
    | refine Go.blkN ?_
    | refine Go.passX ?_
    | refine Go.lpX ?_
    | (refine Go.blkE (by decide) ?_)
    | (refine Go.rgS dmx (by decide) ?_)
    | ((first | refine GoR.op (by decide) (by rfl) ?_ | refine GoR.opG (by decide) (by rfl) (by rfl) ?_)
       conv => arg 1; simp only [G, Z, Y, un_neg, Int.reduceEq, Int.reduceLE, cutD, Nat.reduceBEq, Nat.reduceAdd, Nat.reduceMul, Nat.reduceSub, Nat.reducePow, Nat.reduceLT, Nat.reduceGT, Nat.reduceLeDiff, Nat.reduceEqDiff, Int.reduceToNat, gt_iff_lt, if_true, if_false, beq_self_eq_true, reduceIte, decide_true, decide_false, fd2_0, fd2_1, fd2_2, fd2_3, fd2_4, fd2_5, fd2_6, fd2_7, fd2_8, fd2_9, fd84_0, fd84_1, fd84_2, fd84_3, fd84_4, fd84_5, fd84_6, fd84_7, fd84_8, fd84_9]
       show GoR _ _ _ _ _ _ _ _ _ _)
    | refine Go.condT (by rfl) ?_
    | refine Go.condF (by rfl) ?_
    | refine GoR.skipG (by decide) rfl rfl ?_
    | (refine GoR.splitG rfl (fun hc => ?_) (fun hc => ?_) <;> simp only [hc])
    | refine Go.condB rfl (fun hc => ?_) (fun hc => ?_))
  all_goals
    refine ⟨(by first | exact .inl rfl | exact .inr rfl), fin ?_⟩
    rw [resD_tmp (fn := Try.f51) rfl]
    simp only [optThen_some, resultD_tmp, resultD_cell, G, Z, Y, un_neg, Int.reduceEq, Int.reduceLE, cutD, Nat.reduceBEq, Nat.reduceAdd, Nat.reduceMul, Nat.reduceSub, Nat.reducePow, Nat.reduceLT, Nat.reduceGT, Nat.reduceLeDiff, Nat.reduceEqDiff, Int.reduceToNat, gt_iff_lt, if_true, if_false, beq_self_eq_true, reduceIte, decide_true, decide_false, fd2_0, fd2_1, fd2_2, fd2_3, fd2_4, fd2_5, fd2_6, fd2_7, fd2_8, fd2_9, fd84_0, fd84_1, fd84_2, fd84_3, fd84_4, fd84_5, fd84_6, fd84_7, fd84_8, fd84_9]
    refine ⟨_, [], by simp, .int, ?_⟩
    congr 1
    simp [IntKind.wrap_u64] at *
    omega

theorem shr32 (n : Nat) : (n : Int).fdiv (2 ^ (min (32 : Nat) IntKind.u64.bits)) = ((n / 4294967296 : Nat) : Int) := by
  rw [show (2 : Int) ^ (min (32 : Nat) IntKind.u64.bits) = ((4294967296 : Nat) : Int) from rfl, Int.fdiv_eq_ediv_of_nonneg _ (by omega)]
  omega
set_option maxHeartbeats 1000000 in
theorem mul64 (x y : Nat) (hx : x < 18446744073709551616) (hy : y < 18446744073709551616) (S : Mem) : CallD Try.prog orc 50 [.int .u64 (x : Int), .int .u64 (y : Int)] S fun d S' => S' = S ∧ d = .tup [.int .u64 ((x * y / 18446744073709551616 : Nat) : Int), .int .u64 ((x * y % 18446744073709551616 : Nat) : Int)] := by
  obtain ⟨bd, bt, bw, hhi⟩ := Lib.mul64_hi x y hx hy
  have ba := Lib.half_mul_le (a := x / 4294967296) (b := y / 4294967296) (by omega) (by omega)
  have bb := Lib.half_mul_le (a := x / 4294967296) (b := y % 4294967296) (by omega) (by omega)
  have bc := Lib.half_mul_le (a := x % 4294967296) (b := y / 4294967296) (by omega) (by omega)
  have ba' : x / 4294967296 * (y / 4294967296) < 18446744073709551616 := by omega
  have bb' : x / 4294967296 * (y % 4294967296) < 18446744073709551616 := by omega
  have bc' : x % 4294967296 * (y / 4294967296) < 18446744073709551616 := by omega
  have bh1 : x / 4294967296 * (y / 4294967296) + (x / 4294967296 * (y % 4294967296) + x % 4294967296 * (y % 4294967296) / 4294967296) / 4294967296 < 18446744073709551616 := by omega
  have bh : x / 4294967296 * (y / 4294967296) + (x / 4294967296 * (y % 4294967296) + x % 4294967296 * (y % 4294967296) / 4294967296) / 4294967296 + ((x / 4294967296 * (y % 4294967296) + x % 4294967296 * (y % 4294967296) / 4294967296) % 4294967296 + x % 4294967296 * (y / 4294967296)) / 4294967296 < 18446744073709551616 := by omega
  refine CallD.drop ?_
  refine CallD.body Try.func50 rfl (by simp [Try.ntmps50]) ?_
  rw [Try.ntmps50]
  repeat' (first
    | refine Go.seq ?_
    | refine Go.rg ?_
    | refine GoR.nil ?_
    | refine Go.skip ?_
    | refine Go.ret ?_
    | refine Go.block ?_
    | refine Go.exit ?_
    | refine Go.blkX ?_
    | refine Go.blkN ?_
    | refine Go.passX ?_
    | refine Go.lpX ?_
    | (refine Go.blkE (by decide) ?_)
    | (refine Go.rgS dmx (by decide) ?_)
    | ((first | refine GoR.op (by decide) (by rfl) ?_ | refine GoR.opG (by decide) (by rfl) (by rfl) ?_)
       conv => arg 1; simp only [G, Z, Y, un_neg, Int.reduceEq, Int.reduceLE, cutD, Nat.reduceBEq, Nat.reduceAdd, Nat.reduceMul, Nat.reduceSub, Nat.reducePow, Nat.reduceLT, Nat.reduceGT, Nat.reduceLeDiff, Nat.reduceEqDiff, Int.reduceToNat, gt_iff_lt, if_true, if_false, beq_self_eq_true, reduceIte, decide_true, decide_false, fd84_0, fd84_1, fd84_2, fd84_3, fd84_4, fd84_5, fd84_6, fd84_7, fd84_8, fd84_9]
       show GoR _ _ _ _ _ _ _ _ _ _)
    | refine Go.condT (by rfl) ?_
    | refine Go.condF (by rfl) ?_
    | refine GoR.skipG (by decide) rfl rfl ?_
    | (refine GoR.splitG rfl (fun hc => ?_) (fun hc => ?_) <;> simp only [hc])
    | refine Go.condB rfl (fun hc => ?_) (fun hc => ?_))
  refine ⟨(by first | exact .inl rfl | exact .inr rfl), fin ?_⟩
  rw [resD_two (fn := Try.f50) rfl]
  simp only [optThen_some, resultD_tmp, resultD_cell, G, Z, Y, un_neg, Int.reduceEq, Int.reduceLE, cutD, Nat.reduceBEq, Nat.reduceAdd, Nat.reduceMul, Nat.reduceSub, Nat.reducePow, Nat.reduceLT, Nat.reduceGT, Nat.reduceLeDiff, Nat.reduceEqDiff, Int.reduceToNat, gt_iff_lt, if_true, if_false, beq_self_eq_true, reduceIte, decide_true, decide_false, fd84_0, fd84_1, fd84_2, fd84_3, fd84_4, fd84_5, fd84_6, fd84_7, fd84_8, fd84_9]
  refine ⟨_, [], by simp, .of_low (.tup' (.cons (.int _ _) (.cons (.int _ _) .nil))), ?_⟩
  simp only [shr32, Mul64.maskN x hx, Mul64.maskN y hy, Mul64.mulN, Mul64.addN, Mul64.wrapN _ bd, Mul64.wrapN _ bb', Mul64.wrapN _ bt, Mul64.maskN _ bt, Mul64.wrapN _ bc', Mul64.wrapN _ bw, Mul64.wrapN _ ba', Mul64.wrapN _ bh1, Mul64.wrapN _ bh, Mul64.wrapM (x * y)]
  rw [hhi]

theorem valMul (a b : Int) (ha : in64 a) (hb : in64 b) (S : Mem) : CallD Try.prog orc 34 [.int .i64 a, .int .i64 b] S fun d S' => S' = S ∧ d = .int .i64 (clamp (a * b)) := by
  have hp : a.natAbs * b.natAbs = (a * b).natAbs := (Int.natAbs_mul a b).symm
  obtain ⟨P, hP⟩ : ∃ P, a.natAbs * b.natAbs = P := ⟨_, rfl⟩
  rw [hP] at hp
  have hx : a.natAbs < 18446744073709551616 := by obtain ⟨h1, h2⟩ := ha; omega
  have hy : b.natAbs < 18446744073709551616 := by obtain ⟨h1, h2⟩ := hb; omega
  have s1 : a < 0 → b < 0 → 0 < a * b := Int.mul_pos_of_neg_of_neg
  have s2 : a < 0 → 0 < b → a * b < 0 := Int.mul_neg_of_neg_of_pos
  have s3 : 0 < a → b < 0 → a * b < 0 := Int.mul_neg_of_pos_of_neg
  have s4 : 0 < a → 0 < b → 0 < a * b := Int.mul_pos
  have s5 : a = 0 → a * b = 0 := fun h => by rw [h, Int.zero_mul]
  have s6 : b = 0 → a * b = 0 := fun h => by rw [h, Int.mul_zero]
  refine CallD.drop ?_
  refine CallD.body Try.func34 rfl (by simp [Try.ntmps34]) ?_
  rw [Try.ntmps34]
  repeat' (first
    | refine Go.seq ?_
    | refine Go.rg ?_
    | refine GoR.nil ?_
    | refine Go.skip ?_
    | refine Go.ret ?_
    | refine Go.block ?_
    | refine Go.exit ?_
    | refine Go.blkX ?_
    | refine Go.blkN ?_
    | refine Go.passX ?_
    | refine Go.lpX ?_
    | (refine Go.blkE (by decide) ?_)
    | (refine Go.rgS dmx (by decide) ?_)
    | ((first | refine GoR.op (by decide) (by rfl) ?_ | refine GoR.opG (by decide) (by rfl) (by rfl) ?_)
       conv => arg 1; simp only [G, Z, Y, un_neg, Int.reduceEq, Int.reduceLE, cutD, Nat.reduceBEq, Nat.reduceAdd, Nat.reduceMul, Nat.reduceSub, Nat.reducePow, Nat.reduceLT, Nat.reduceGT, Nat.reduceLeDiff, Nat.reduceEqDiff, Int.reduceToNat, gt_iff_lt, if_true, if_false, beq_self_eq_true, reduceIte, decide_true, decide_false, fd2_0, fd2_1, fd2_2, fd2_3, fd2_4, fd2_5, fd2_6, fd2_7, fd2_8, fd2_9, fd4_0, fd4_1, fd4_2, fd4_3, fd4_4, fd84_0, fd84_1, fd84_2, fd84_3, fd84_4, fd84_5, fd84_6, fd84_7, fd84_8, fd84_9, hP]
       show GoR _ _ _ _ _ _ _ _ _ _)
    | ((first | refine GoR.call (f := 51) (by decide) (by rfl) rfl Try.func51 (by decide) (by rfl) ?_ | refine GoR.callG (f := 51) (by decide) (by rfl) (by rfl) rfl Try.func51 (by decide) (by rfl) ?_)
       (refine (size64 _ (by assumption) _).ret ?_))
    | ((first | refine GoR.call (f := 50) (by decide) (by rfl) rfl Try.func50 (by decide) (by rfl) ?_ | refine GoR.callG (f := 50) (by decide) (by rfl) (by rfl) rfl Try.func50 (by decide) (by rfl) ?_)
       (refine (mul64 _ _ hx hy _).ret ?_))
    | ((first | refine GoR.call (f := 32) (by decide) (by rfl) rfl Try.func32 (by decide) (by rfl) ?_ | refine GoR.callG (f := 32) (by decide) (by rfl) (by rfl) rfl Try.func32 (by decide) (by rfl) ?_)
       (refine (cut _ _).ret ?_))
    | refine Go.condT (by rfl) ?_
    | refine Go.condF (by rfl) ?_
    | refine GoR.skipG (by decide) rfl rfl ?_
    | (refine GoR.splitG rfl (fun hc => ?_) (fun hc => ?_) <;> simp only [hc])
    | refine Go.condB rfl (fun hc => ?_) (fun hc => ?_))
  all_goals
    refine ⟨(by first | exact .inl rfl | exact .inr rfl), fin ?_⟩
    rw [resD_tmp (fn := Try.f34) rfl]
    simp only [optThen_some, resultD_tmp, resultD_cell, G, Z, Y, un_neg, Int.reduceEq, Int.reduceLE, cutD, Nat.reduceBEq, Nat.reduceAdd, Nat.reduceMul, Nat.reduceSub, Nat.reducePow, Nat.reduceLT, Nat.reduceGT, Nat.reduceLeDiff, Nat.reduceEqDiff, Int.reduceToNat, gt_iff_lt, if_true, if_false, beq_self_eq_true, reduceIte, decide_true, decide_false, fd2_0, fd2_1, fd2_2, fd2_3, fd2_4, fd2_5, fd2_6, fd2_7, fd2_8, fd2_9, fd4_0, fd4_1, fd4_2, fd4_3, fd4_4, fd84_0, fd84_1, fd84_2, fd84_3, fd84_4, fd84_5, fd84_6, fd84_7, fd84_8, fd84_9]
    refine ⟨_, [], by simp, .int, ?_⟩
    congr 1
    clear hP
    generalize a * b = p at *
    simp [IntKind.wrap_i64] at *
    unfold clamp
    (repeat' split) <;> omega
end Go.Proofs.DaT
