/- What an expression is, by the reference; the law answers true. -/
import Derived.Test.YtcnjndjahloifaaDaD9
set_option linter.unusedSimpArgs false
set_option linter.unusedVariables false
namespace Go.Proofs.DaT
open Go Go.DM
set_option maxRecDepth 100000
variable {orc : DOracle}

theorem calcEval (l : List Att) (hr : RiseB Att.n l) (hl : l.length < 1000000) (hv : ∀ a ∈ l, a.v.l.length < 1000000) (hi : ∀ a ∈ l, in64 a.v.i) (n : Nd) (hs : Slim 100 n) (hin : In64 n) (S : Mem) :
    CallD Try.prog orc 10 [.agg n.c, .sl none 5 l.length (attsC l)] S fun d S' => S' = S ∧ d = .tup [.int .i64 ((evalN l n).getD 0), .bool (evalN l n).isSome] := by
  have hf := fun p S' hp' => fold (orc := orc) l hr hl hv hi p n hs hin S' hp'
  obtain ⟨op, nm, n, ks⟩ := n
  rw [Nd.c_mk] at hf ⊢
  refine CallD.drop ?_
  refine CallD.body Try.func10 rfl (by simp [Try.ntmps10]) ?_
  rw [Try.ntmps10]
  repeat' (first
    | refine Go.seq ?_
    | refine Go.rg ?_
    | refine GoR.nil ?_
    | refine Go.skip ?_
    | refine Go.ret ?_
    | refine Go.block ?_
    | refine Go.exit ?_
    | refine Go.blkX ?_
    | refine Go.blkN ?_
    | refine Go.passX ?_
    | refine Go.lpX ?_
    | (refine Go.blkE (by decide) ?_)
    | (refine Go.rgS dmx (by decide) ?_)
    | ((first | refine GoR.op (by decide) (by rfl) ?_ | refine GoR.opG (by decide) (by rfl) (by rfl) ?_)
       conv => arg 1; simp only [G, Z, Y, un_neg, Int.reduceEq, Int.reduceLE, cutD, Nat.reduceBEq, Nat.reduceAdd, Nat.reduceMul, Nat.reduceSub, Nat.reducePow, Nat.reduceLT, Nat.reduceGT, Nat.reduceLeDiff, Nat.reduceEqDiff, Int.reduceToNat, gt_iff_lt, if_true, if_false, beq_self_eq_true, reduceIte, decide_true, decide_false, fd2_0, fd2_1, fd2_2, fd2_3, fd2_4, fd2_5, fd2_6, fd2_7, fd2_8, fd2_9, fd4_0, fd4_1, fd4_2, fd4_3, fd4_4, fd9_0, fd9_1, fd9_2, fd9_3, fd9_4, fd9_5, fd9_6, fd9_7, fd22_0, fd22_1, fd22_2, fd22_3, fd22_4, fd22_5, fd22_6, fd22_7, fd22_8, fd22_9, fd22_10, fd22_11, fd22_12, fd22_13, fd22_14, fd22_15, fd22_16, fd22_17, fd22_18, fd22_19, fd22_20, fd22_21, fd22_22, fd22_23, fd24_0, fd24_1, fd24_2, fd24_3, fd24_4, fd24_5, fd24_6, fd24_7, fd24_8, fd24_9, fd24_10, fd24_11, fd36_0, fd36_1, fd36_2, fd36_3, fd36_4, fd36_5, fd36_6, fd36_7, fd36_8, fd36_9, fd36_10, fd36_11, fd36_12, fd36_13, fd36_14, fd36_15, fd36_16, fd36_17, fd36_18, fd36_19, fd36_20, fd36_21, fd36_22, fd36_23, fd56_0, fd56_1, fd56_2, fd56_3, fd56_4, fd56_5, fd56_6, fd56_7, gotC]
       show GoR _ _ _ _ _ _ _ _ _ _)
    | ((first | refine GoR.call (f := 21) (by decide) (by rfl) rfl Try.func21 (by decide) (by rfl) ?_ | refine GoR.callG (f := 21) (by decide) (by rfl) (by rfl) rfl Try.func21 (by decide) (by rfl) ?_)
       (refine (hf (S.length + 1) _ (by simp only [objAt_app, objAt_succ, objAt_zero])).ret ?_))
    | refine Go.condT (by rfl) ?_
    | refine Go.condF (by rfl) ?_
    | refine GoR.skipG (by decide) rfl rfl ?_
    | (refine GoR.splitG rfl (fun hc => ?_) (fun hc => ?_) <;> simp only [hc])
    | refine Go.condB rfl (fun hc => ?_) (fun hc => ?_))
  all_goals
    refine ⟨(by first | exact .inl rfl | exact .inr rfl), fin ?_⟩
    rw [resD_two (fn := Try.f10) rfl]
    simp only [optThen_some, resultD_tmp, resultD_cell, G, Z, Y, un_neg, Int.reduceEq, Int.reduceLE, cutD, Nat.reduceBEq, Nat.reduceAdd, Nat.reduceMul, Nat.reduceSub, Nat.reducePow, Nat.reduceLT, Nat.reduceGT, Nat.reduceLeDiff, Nat.reduceEqDiff, Int.reduceToNat, gt_iff_lt, if_true, if_false, beq_self_eq_true, reduceIte, decide_true, decide_false, fd2_0, fd2_1, fd2_2, fd2_3, fd2_4, fd2_5, fd2_6, fd2_7, fd2_8, fd2_9, fd4_0, fd4_1, fd4_2, fd4_3, fd4_4, fd9_0, fd9_1, fd9_2, fd9_3, fd9_4, fd9_5, fd9_6, fd9_7, fd22_0, fd22_1, fd22_2, fd22_3, fd22_4, fd22_5, fd22_6, fd22_7, fd22_8, fd22_9, fd22_10, fd22_11, fd22_12, fd22_13, fd22_14, fd22_15, fd22_16, fd22_17, fd22_18, fd22_19, fd22_20, fd22_21, fd22_22, fd22_23, fd24_0, fd24_1, fd24_2, fd24_3, fd24_4, fd24_5, fd24_6, fd24_7, fd24_8, fd24_9, fd24_10, fd24_11, fd36_0, fd36_1, fd36_2, fd36_3, fd36_4, fd36_5, fd36_6, fd36_7, fd36_8, fd36_9, fd36_10, fd36_11, fd36_12, fd36_13, fd36_14, fd36_15, fd36_16, fd36_17, fd36_18, fd36_19, fd36_20, fd36_21, fd36_22, fd36_23, fd56_0, fd56_1, fd56_2, fd56_3, fd56_4, fd56_5, fd56_6, fd56_7]
    refine ⟨_, _, rfl, .of_low two_low, ?_⟩
    cases hq : evalN l (.mk op nm n ks) <;> simp_all

end Go.Proofs.DaT
