/- Sums and differences that stay within 64 bits. -/
import Derived.Test.YtcnjndjahloifaaDaD1
import Derived.Shelf.Bits.Mul64
set_option linter.unusedSimpArgs false
set_option linter.unusedVariables false
namespace Go.Proofs.DaT
open Go Go.DM
set_option maxRecDepth 10000
variable {orc : DOracle}

def in64 (x : Int) : Prop := -9223372036854775808 ≤ x ∧ x ≤ 9223372036854775807
def clamp (x : Int) : Int := if x > 9223372036854775807 then 9223372036854775807 else if x < -9223372036854775808 then -9223372036854775808 else x
theorem clamp_in (x : Int) : in64 (clamp x) := by unfold in64 clamp; split <;> (try split) <;> omega

theorem valAdd (a b : Int) (ha : in64 a) (hb : in64 b) (S : Mem) : CallD Try.prog orc 33 [.int .i64 a, .int .i64 b] S fun d S' => S' = S ∧ d = .int .i64 (clamp (a + b)) := by
  obtain ⟨a1, a2⟩ := ha
  obtain ⟨b1, b2⟩ := hb
  refine CallD.drop ?_
  refine CallD.body Try.func33 rfl (by simp [Try.ntmps33]) ?_
  rw [Try.ntmps33]
  repeat' (first
    | refine Go.seq ?_
    | refine Go.rg ?_
    | refine GoR.nil ?_
    | refine Go.skip ?_
    | refine Go.ret ?_
    | refine Go.block ?_
    | refine Go.exit ?_
    | refine Go.blkX ?_
    | refine Go.blkN ?_
    | refine Go.passX ?_
    | refine Go.lpX ?_
    | (refine Go.blkE (by decide) ?_)
    | (refine Go.rgS dmx (by decide) ?_)
    | ((first | refine GoR.op (by decide) (by rfl) ?_ | refine GoR.opG (by decide) (by rfl) (by rfl) ?_)
       conv => arg 1; simp only [G, Z, Y, un_neg, Int.reduceEq, Int.reduceLE, cutD, Nat.reduceBEq, Nat.reduceAdd, Nat.reduceMul, Nat.reduceSub, Nat.reducePow, Nat.reduceLT, Nat.reduceGT, Nat.reduceLeDiff, Nat.reduceEqDiff, Int.reduceToNat, gt_iff_lt, if_true, if_false, beq_self_eq_true, reduceIte, decide_true, decide_false, fd2_0, fd2_1, fd2_2, fd2_3, fd2_4, fd2_5, fd2_6, fd2_7, fd2_8, fd2_9, fd4_0, fd4_1, fd4_2, fd4_3, fd4_4]
       show GoR _ _ _ _ _ _ _ _ _ _)
    | ((first | refine GoR.call (f := 32) (by decide) (by rfl) rfl Try.func32 (by decide) (by rfl) ?_ | refine GoR.callG (f := 32) (by decide) (by rfl) (by rfl) rfl Try.func32 (by decide) (by rfl) ?_)
       (refine (cut _ _).ret ?_))
    | refine Go.condT (by rfl) ?_
    | refine Go.condF (by rfl) ?_
    | refine GoR.skipG (by decide) rfl rfl ?_
    | (refine GoR.splitG rfl (fun hc => ?_) (fun hc => ?_) <;> simp only [hc])
    | refine Go.condB rfl (fun hc => ?_) (fun hc => ?_))
  all_goals
    refine ⟨(by first | exact .inl rfl | exact .inr rfl), fin ?_⟩
    rw [resD_tmp (fn := Try.f33) rfl]
    simp only [optThen_some, resultD_tmp, resultD_cell, G, Z, Y, un_neg, Int.reduceEq, Int.reduceLE, cutD, Nat.reduceBEq, Nat.reduceAdd, Nat.reduceMul, Nat.reduceSub, Nat.reducePow, Nat.reduceLT, Nat.reduceGT, Nat.reduceLeDiff, Nat.reduceEqDiff, Int.reduceToNat, gt_iff_lt, if_true, if_false, beq_self_eq_true, reduceIte, decide_true, decide_false, fd2_0, fd2_1, fd2_2, fd2_3, fd2_4, fd2_5, fd2_6, fd2_7, fd2_8, fd2_9, fd4_0, fd4_1, fd4_2, fd4_3, fd4_4]
    refine ⟨_, [], by simp, .int, ?_⟩
    congr 1
    simp [IntKind.wrap_i64] at *
    unfold clamp
    (repeat' split) <;> omega
theorem valSub (a b : Int) (ha : in64 a) (hb : in64 b) (S : Mem) : CallD Try.prog orc 24 [.int .i64 a, .int .i64 b] S fun d S' => S' = S ∧ d = .int .i64 (clamp (a - b)) := by
  obtain ⟨a1, a2⟩ := ha
  obtain ⟨b1, b2⟩ := hb
  refine CallD.drop ?_
  refine CallD.body Try.func24 rfl (by simp [Try.ntmps24]) ?_
  rw [Try.ntmps24]
  repeat' (first
    | refine Go.seq ?_
    | refine Go.rg ?_
    | refine GoR.nil ?_
    | refine Go.skip ?_
    | refine Go.ret ?_
    | refine Go.block ?_
    | refine Go.exit ?_
    | refine Go.blkX ?_
    | refine Go.blkN ?_
    | refine Go.passX ?_
    | refine Go.lpX ?_
    | (refine Go.blkE (by decide) ?_)
    | (refine Go.rgS dmx (by decide) ?_)
    | ((first | refine GoR.op (by decide) (by rfl) ?_ | refine GoR.opG (by decide) (by rfl) (by rfl) ?_)
       conv => arg 1; simp only [G, Z, Y, un_neg, Int.reduceEq, Int.reduceLE, cutD, Nat.reduceBEq, Nat.reduceAdd, Nat.reduceMul, Nat.reduceSub, Nat.reducePow, Nat.reduceLT, Nat.reduceGT, Nat.reduceLeDiff, Nat.reduceEqDiff, Int.reduceToNat, gt_iff_lt, if_true, if_false, beq_self_eq_true, reduceIte, decide_true, decide_false, fd2_0, fd2_1, fd2_2, fd2_3, fd2_4, fd2_5, fd2_6, fd2_7, fd2_8, fd2_9, fd4_0, fd4_1, fd4_2, fd4_3, fd4_4]
       show GoR _ _ _ _ _ _ _ _ _ _)
    | ((first | refine GoR.call (f := 32) (by decide) (by rfl) rfl Try.func32 (by decide) (by rfl) ?_ | refine GoR.callG (f := 32) (by decide) (by rfl) (by rfl) rfl Try.func32 (by decide) (by rfl) ?_)
       (refine (cut _ _).ret ?_))
    | refine Go.condT (by rfl) ?_
    | refine Go.condF (by rfl) ?_
    | refine GoR.skipG (by decide) rfl rfl ?_
    | (refine GoR.splitG rfl (fun hc => ?_) (fun hc => ?_) <;> simp only [hc])
    | refine Go.condB rfl (fun hc => ?_) (fun hc => ?_))
  all_goals
    refine ⟨(by first | exact .inl rfl | exact .inr rfl), fin ?_⟩
    rw [resD_tmp (fn := Try.f24) rfl]
    simp only [optThen_some, resultD_tmp, resultD_cell, G, Z, Y, un_neg, Int.reduceEq, Int.reduceLE, cutD, Nat.reduceBEq, Nat.reduceAdd, Nat.reduceMul, Nat.reduceSub, Nat.reducePow, Nat.reduceLT, Nat.reduceGT, Nat.reduceLeDiff, Nat.reduceEqDiff, Int.reduceToNat, gt_iff_lt, if_true, if_false, beq_self_eq_true, reduceIte, decide_true, decide_false, fd2_0, fd2_1, fd2_2, fd2_3, fd2_4, fd2_5, fd2_6, fd2_7, fd2_8, fd2_9, fd4_0, fd4_1, fd4_2, fd4_3, fd4_4]
    refine ⟨_, [], by simp, .int, ?_⟩
    congr 1
    simp [IntKind.wrap_i64] at *
    unfold clamp
    (repeat' split) <;> omega
end Go.Proofs.DaT
