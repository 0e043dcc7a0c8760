/- What an expression is, by the reference; the law answers true. -/
import Derived.Test.YtipeffaojbhbmaaDmC9
set_option linter.unusedSimpArgs false
set_option linter.unusedVariables false
namespace Go.Proofs.DmT
open Go Go.DM
set_option maxRecDepth 100000
variable {orc : DOracle}

theorem calcEval (l : List Att) (hr : RiseB Att.n l) (hl : l.length < 1000000) (hv : ∀ a ∈ l, a.v.l.length < 1000000) (hi : ∀ a ∈ l, in64 a.v.i) (n : Nd) (hs : Slim 100 n) (hin : In64 n) (S : Mem) :
    CallD Try.prog orc 11 [.agg n.c, .sl none 5 l.length (attsC l)] S fun d S' => S' = S ∧ d = .tup [.int .i64 ((evalN l n).getD 0), .bool (evalN l n).isSome] := by
  have hf := fun p S' hp' => fold (orc := orc) l hr hl hv hi p n hs hin S' hp'
  obtain ⟨op, nm, n, ks⟩ := n
  rw [Nd.c_mk] at hf ⊢
  refine CallD.drop ?_
  refine CallD.body Try.func11 rfl (by simp [Try.ntmps11]) ?_
  rw [Try.ntmps11]
  repeat' (first
    | refine Go.seq ?_
    | refine Go.rg ?_
    | refine GoR.nil ?_
    | refine Go.skip ?_
    | refine Go.ret ?_
    | refine Go.block ?_
    | refine Go.exit ?_
    | refine Go.blkX ?_
    | refine Go.blkN ?_
    | refine Go.passX ?_
    | refine Go.lpX ?_
    | (refine Go.blkE (by decide) ?_)
    | (refine Go.rgS dmx (by decide) ?_)
    | ((first | refine GoR.op (by decide) (by rfl) ?_ | refine GoR.opG (by decide) (by rfl) (by rfl) ?_)
       conv => arg 1; simp only [G, Z, Y, un_neg, Int.reduceEq, Int.reduceLE, cutD, Nat.reduceBEq, Nat.reduceAdd, Nat.reduceMul, Nat.reduceSub, Nat.reducePow, Nat.reduceLT, Nat.reduceGT, Nat.reduceLeDiff, Nat.reduceEqDiff, Int.reduceToNat, gt_iff_lt, if_true, if_false, beq_self_eq_true, reduceIte, decide_true, decide_false, fd2_0, fd2_1, fd2_2, fd2_3, fd2_4, fd2_5, fd2_6, fd2_7, fd2_8, fd2_9, fd4_0, fd4_1, fd4_2, fd4_3, fd4_4, fd9_0, fd9_1, fd9_2, fd9_3, fd9_4, fd9_5, fd9_6, fd9_7, fd22_0, fd22_1, fd22_2, fd22_3, fd22_4, fd22_5, fd22_6, fd22_7, fd22_8, fd22_9, fd22_10, fd22_11, fd22_12, fd22_13, fd22_14, fd22_15, fd22_16, fd22_17, fd22_18, fd22_19, fd22_20, fd22_21, fd22_22, fd22_23, fd24_0, fd24_1, fd24_2, fd24_3, fd24_4, fd24_5, fd24_6, fd24_7, fd24_8, fd24_9, fd24_10, fd24_11, fd25_0, fd25_1, fd25_2, fd25_3, fd25_4, fd25_5, fd25_6, fd25_7, fd25_8, fd25_9, fd25_10, fd25_11, fd25_12, fd25_13, fd25_14, fd25_15, fd25_16, fd25_17, fd25_18, fd25_19, fd25_20, fd25_21, fd25_22, fd25_23, fd61_0, fd61_1, fd61_2, fd61_3, fd61_4, fd61_5, fd61_6, fd61_7, gotC]
       show GoR _ _ _ _ _ _ _ _ _ _)
    | ((first | refine GoR.call (f := 23) (by decide) (by rfl) rfl Try.func23 (by decide) (by rfl) ?_ | refine GoR.callG (f := 23) (by decide) (by rfl) (by rfl) rfl Try.func23 (by decide) (by rfl) ?_)
       (refine (hf (S.length + 1) _ (by simp only [objAt_app, objAt_succ, objAt_zero])).ret ?_))
    | refine Go.condT (by rfl) ?_
    | refine Go.condF (by rfl) ?_
    | refine GoR.skipG (by decide) rfl rfl ?_
    | (refine GoR.splitG rfl (fun hc => ?_) (fun hc => ?_) <;> simp only [hc])
    | refine Go.condB rfl (fun hc => ?_) (fun hc => ?_))
  all_goals
    refine ⟨(by first | exact .inl rfl | exact .inr rfl), fin ?_⟩
    rw [resD_two (fn := Try.f11) rfl]
    simp only [optThen_some, resultD_tmp, resultD_cell, G, Z, Y, un_neg, Int.reduceEq, Int.reduceLE, cutD, Nat.reduceBEq, Nat.reduceAdd, Nat.reduceMul, Nat.reduceSub, Nat.reducePow, Nat.reduceLT, Nat.reduceGT, Nat.reduceLeDiff, Nat.reduceEqDiff, Int.reduceToNat, gt_iff_lt, if_true, if_false, beq_self_eq_true, reduceIte, decide_true, decide_false, fd2_0, fd2_1, fd2_2, fd2_3, fd2_4, fd2_5, fd2_6, fd2_7, fd2_8, fd2_9, fd4_0, fd4_1, fd4_2, fd4_3, fd4_4, fd9_0, fd9_1, fd9_2, fd9_3, fd9_4, fd9_5, fd9_6, fd9_7, fd22_0, fd22_1, fd22_2, fd22_3, fd22_4, fd22_5, fd22_6, fd22_7, fd22_8, fd22_9, fd22_10, fd22_11, fd22_12, fd22_13, fd22_14, fd22_15, fd22_16, fd22_17, fd22_18, fd22_19, fd22_20, fd22_21, fd22_22, fd22_23, fd24_0, fd24_1, fd24_2, fd24_3, fd24_4, fd24_5, fd24_6, fd24_7, fd24_8, fd24_9, fd24_10, fd24_11, fd25_0, fd25_1, fd25_2, fd25_3, fd25_4, fd25_5, fd25_6, fd25_7, fd25_8, fd25_9, fd25_10, fd25_11, fd25_12, fd25_13, fd25_14, fd25_15, fd25_16, fd25_17, fd25_18, fd25_19, fd25_20, fd25_21, fd25_22, fd25_23, fd61_0, fd61_1, fd61_2, fd61_3, fd61_4, fd61_5, fd61_6, fd61_7]
    refine ⟨_, _, rfl, .of_low two_low, ?_⟩
    cases hq : evalN l (.mk op nm n ks) <;> simp_all

theorem refCalc (l : List Att) (hr : RiseB Att.n l) (hl : l.length < 1000000) (hi : ∀ a ∈ l, in64 a.v.i) (n : Nd) (hf : Fits n) (hin : In64 n) : ∀ (S : Mem),
    CallD Try.prog orc 12 [.agg n.c, .sl none 5 l.length (attsC l)] S fun d S' => S' = S ∧ d = .tup [.int .i64 ((evalN l n).getD 0), .bool (evalN l n).isSome] := by
  induction n using Nd.ind with
  | h op nm n ks ih =>
    intro S
    have hein := eval_in hi (.mk op nm n ks) hin
    obtain ⟨har, hk⟩ := hf
    obtain ⟨hn, hkin⟩ := hin
    rw [evalN_mk] at hein ⊢
    rw [Nd.c_mk]
    have hg := refGet (orc := orc) l nm hr hl
    refine CallD.drop ?_
    refine CallD.body Try.func12 rfl (by simp [Try.ntmps12]) ?_
    rw [Try.ntmps12]
    by_cases h1 : op = (⟨#[110, 117, 109]⟩ : ByteArray)
    · subst h1
      have hks : ks = [] := List.eq_nil_of_length_eq_zero (by have : (0 : Int) = ks.length := har; omega)
      subst hks
      repeat' (first
        | refine Go.seq ?_
        | refine Go.rg ?_
        | refine GoR.nil ?_
        | refine Go.skip ?_
        | refine Go.ret ?_
        | refine Go.block ?_
        | refine Go.exit ?_
        | refine Go.blkX ?_
        | refine Go.blkN ?_
        | refine Go.passX ?_
        | refine Go.lpX ?_
        | (refine Go.blkE (by decide) ?_)
        | (refine Go.rgS dmx (by decide) ?_)
        | ((first | refine GoR.op (by decide) (by rfl) ?_ | refine GoR.opG (by decide) (by rfl) (by rfl) ?_)
           conv => arg 1; simp only [G, Z, Y, un_neg, Int.reduceEq, Int.reduceLE, cutD, Nat.reduceBEq, Nat.reduceAdd, Nat.reduceMul, Nat.reduceSub, Nat.reducePow, Nat.reduceLT, Nat.reduceGT, Nat.reduceLeDiff, Nat.reduceEqDiff, Int.reduceToNat, gt_iff_lt, if_true, if_false, beq_self_eq_true, reduceIte, decide_true, decide_false, fd2_0, fd2_1, fd2_2, fd2_3, fd2_4, fd2_5, fd2_6, fd2_7, fd2_8, fd2_9, fd3_0, fd3_1, fd3_2, fd3_3, fd3_4, fd3_5, fd3_6, fd3_7, fd3_8, fd3_9, fd9_0, fd9_1, fd9_2, fd9_3, fd9_4, fd9_5, fd9_6, fd9_7, fd29_0, fd29_1, fd29_2, fd29_3, fd29_4, fd29_5, fd29_6, fd29_7, fd29_8, fd29_9, fd29_10, fd29_11, fd29_12, fd29_13, fd29_14, fd29_15, fd29_16, fd29_17, fd29_18, fd29_19, fd29_20, fd29_21, fd29_22, fd29_23, fd31_0, fd31_1, fd31_2, fd31_3, fd31_4, fd31_5, fd31_6, fd31_7, fd31_8, fd31_9, fd31_10, fd31_11, fd43_0, fd43_1, fd43_2, fd43_3, fd43_4, fd43_5, fd43_6, fd43_7, fd43_8, fd43_9, fd43_10, fd43_11, fd43_12, fd43_13, fd43_14, fd43_15, fd43_16, fd43_17, fd43_18, fd43_19, fd43_20, fd43_21, fd43_22, fd43_23, fd68_0, fd68_1, fd68_2, fd68_3, fd68_4, fd68_5, fd68_6, fd68_7, fd68_8, fd68_9, fd68_10, fd68_11]
           show GoR _ _ _ _ _ _ _ _ _ _)
        | refine Go.condT (by rfl) ?_
        | refine Go.condF (by rfl) ?_
        | refine GoR.skipG (by decide) rfl rfl ?_
        | (refine GoR.splitG rfl (fun hc => ?_) (fun hc => ?_) <;> simp only [hc])
        | refine Go.condB rfl (fun hc => ?_) (fun hc => ?_))
      refine ⟨(by first | exact .inl rfl | exact .inr rfl), fin ?_⟩
      rw [resD_two (fn := Try.f12) rfl]
      simp only [optThen_some, resultD_tmp, resultD_cell, G, Z, Y, un_neg, Int.reduceEq, Int.reduceLE, cutD, Nat.reduceBEq, Nat.reduceAdd, Nat.reduceMul, Nat.reduceSub, Nat.reducePow, Nat.reduceLT, Nat.reduceGT, Nat.reduceLeDiff, Nat.reduceEqDiff, Int.reduceToNat, gt_iff_lt, if_true, if_false, beq_self_eq_true, reduceIte, decide_true, decide_false, fd2_0, fd2_1, fd2_2, fd2_3, fd2_4, fd2_5, fd2_6, fd2_7, fd2_8, fd2_9, fd3_0, fd3_1, fd3_2, fd3_3, fd3_4, fd3_5, fd3_6, fd3_7, fd3_8, fd3_9, fd9_0, fd9_1, fd9_2, fd9_3, fd9_4, fd9_5, fd9_6, fd9_7, fd29_0, fd29_1, fd29_2, fd29_3, fd29_4, fd29_5, fd29_6, fd29_7, fd29_8, fd29_9, fd29_10, fd29_11, fd29_12, fd29_13, fd29_14, fd29_15, fd29_16, fd29_17, fd29_18, fd29_19, fd29_20, fd29_21, fd29_22, fd29_23, fd31_0, fd31_1, fd31_2, fd31_3, fd31_4, fd31_5, fd31_6, fd31_7, fd31_8, fd31_9, fd31_10, fd31_11, fd43_0, fd43_1, fd43_2, fd43_3, fd43_4, fd43_5, fd43_6, fd43_7, fd43_8, fd43_9, fd43_10, fd43_11, fd43_12, fd43_13, fd43_14, fd43_15, fd43_16, fd43_17, fd43_18, fd43_19, fd43_20, fd43_21, fd43_22, fd43_23, fd68_0, fd68_1, fd68_2, fd68_3, fd68_4, fd68_5, fd68_6, fd68_7, fd68_8, fd68_9, fd68_10, fd68_11]
      exact ⟨_, _, rfl, .of_low two_low, rfl⟩
    by_cases h2 : op = (⟨#[110, 97, 109, 101]⟩ : ByteArray)
    · subst h2
      have hks : ks = [] := List.eq_nil_of_length_eq_zero (by have : (0 : Int) = ks.length := har; omega)
      subst hks
      cases hlk : look l nm with
      | none =>
        simp only [hlk, Option.getD_none, Option.isSome_none, Val.c] at hg
        repeat' (first
          | refine Go.seq ?_
          | refine Go.rg ?_
          | refine GoR.nil ?_
          | refine Go.skip ?_
          | refine Go.ret ?_
          | refine Go.block ?_
          | refine Go.exit ?_
          | refine Go.blkX ?_
          | refine Go.blkN ?_
          | refine Go.passX ?_
          | refine Go.lpX ?_
          | (refine Go.blkE (by decide) ?_)
          | (refine Go.rgS dmx (by decide) ?_)
          | ((first | refine GoR.op (by decide) (by rfl) ?_ | refine GoR.opG (by decide) (by rfl) (by rfl) ?_)
             conv => arg 1; simp only [G, Z, Y, un_neg, Int.reduceEq, Int.reduceLE, cutD, Nat.reduceBEq, Nat.reduceAdd, Nat.reduceMul, Nat.reduceSub, Nat.reducePow, Nat.reduceLT, Nat.reduceGT, Nat.reduceLeDiff, Nat.reduceEqDiff, Int.reduceToNat, gt_iff_lt, if_true, if_false, beq_self_eq_true, reduceIte, decide_true, decide_false, fd2_0, fd2_1, fd2_2, fd2_3, fd2_4, fd2_5, fd2_6, fd2_7, fd2_8, fd2_9, fd3_0, fd3_1, fd3_2, fd3_3, fd3_4, fd3_5, fd3_6, fd3_7, fd3_8, fd3_9, fd9_0, fd9_1, fd9_2, fd9_3, fd9_4, fd9_5, fd9_6, fd9_7, fd29_0, fd29_1, fd29_2, fd29_3, fd29_4, fd29_5, fd29_6, fd29_7, fd29_8, fd29_9, fd29_10, fd29_11, fd29_12, fd29_13, fd29_14, fd29_15, fd29_16, fd29_17, fd29_18, fd29_19, fd29_20, fd29_21, fd29_22, fd29_23, fd31_0, fd31_1, fd31_2, fd31_3, fd31_4, fd31_5, fd31_6, fd31_7, fd31_8, fd31_9, fd31_10, fd31_11, fd43_0, fd43_1, fd43_2, fd43_3, fd43_4, fd43_5, fd43_6, fd43_7, fd43_8, fd43_9, fd43_10, fd43_11, fd43_12, fd43_13, fd43_14, fd43_15, fd43_16, fd43_17, fd43_18, fd43_19, fd43_20, fd43_21, fd43_22, fd43_23, fd68_0, fd68_1, fd68_2, fd68_3, fd68_4, fd68_5, fd68_6, fd68_7, fd68_8, fd68_9, fd68_10, fd68_11]
             show GoR _ _ _ _ _ _ _ _ _ _)
          | ((first | refine GoR.call (f := 28) (by decide) (by rfl) rfl Try.func28 (by decide) (by rfl) ?_ | refine GoR.callG (f := 28) (by decide) (by rfl) (by rfl) rfl Try.func28 (by decide) (by rfl) ?_)
             (refine (hg _).ret ?_))
          | refine Go.condT (by rfl) ?_
          | refine Go.condF (by rfl) ?_
          | refine GoR.skipG (by decide) rfl rfl ?_
          | (refine GoR.splitG rfl (fun hc => ?_) (fun hc => ?_) <;> simp only [hc])
          | refine Go.condB rfl (fun hc => ?_) (fun hc => ?_))
        all_goals
          refine ⟨(by first | exact .inl rfl | exact .inr rfl), fin ?_⟩
          rw [resD_two (fn := Try.f12) rfl]
          simp only [optThen_some, resultD_tmp, resultD_cell, G, Z, Y, un_neg, Int.reduceEq, Int.reduceLE, cutD, Nat.reduceBEq, Nat.reduceAdd, Nat.reduceMul, Nat.reduceSub, Nat.reducePow, Nat.reduceLT, Nat.reduceGT, Nat.reduceLeDiff, Nat.reduceEqDiff, Int.reduceToNat, gt_iff_lt, if_true, if_false, beq_self_eq_true, reduceIte, decide_true, decide_false, fd2_0, fd2_1, fd2_2, fd2_3, fd2_4, fd2_5, fd2_6, fd2_7, fd2_8, fd2_9, fd3_0, fd3_1, fd3_2, fd3_3, fd3_4, fd3_5, fd3_6, fd3_7, fd3_8, fd3_9, fd9_0, fd9_1, fd9_2, fd9_3, fd9_4, fd9_5, fd9_6, fd9_7, fd29_0, fd29_1, fd29_2, fd29_3, fd29_4, fd29_5, fd29_6, fd29_7, fd29_8, fd29_9, fd29_10, fd29_11, fd29_12, fd29_13, fd29_14, fd29_15, fd29_16, fd29_17, fd29_18, fd29_19, fd29_20, fd29_21, fd29_22, fd29_23, fd31_0, fd31_1, fd31_2, fd31_3, fd31_4, fd31_5, fd31_6, fd31_7, fd31_8, fd31_9, fd31_10, fd31_11, fd43_0, fd43_1, fd43_2, fd43_3, fd43_4, fd43_5, fd43_6, fd43_7, fd43_8, fd43_9, fd43_10, fd43_11, fd43_12, fd43_13, fd43_14, fd43_15, fd43_16, fd43_17, fd43_18, fd43_19, fd43_20, fd43_21, fd43_22, fd43_23, fd68_0, fd68_1, fd68_2, fd68_3, fd68_4, fd68_5, fd68_6, fd68_7, fd68_8, fd68_9, fd68_10, fd68_11]
          refine ⟨_, _, rfl, .of_low two_low, ?_⟩
          simp_all [nodeS, lookN]
      | some v =>
        simp only [hlk, Option.getD_some, Option.isSome_some, Val.c] at hg
        repeat' (first
          | refine Go.seq ?_
          | refine Go.rg ?_
          | refine GoR.nil ?_
          | refine Go.skip ?_
          | refine Go.ret ?_
          | refine Go.block ?_
          | refine Go.exit ?_
          | refine Go.blkX ?_
          | refine Go.blkN ?_
          | refine Go.passX ?_
          | refine Go.lpX ?_
          | (refine Go.blkE (by decide) ?_)
          | (refine Go.rgS dmx (by decide) ?_)
          | ((first | refine GoR.op (by decide) (by rfl) ?_ | refine GoR.opG (by decide) (by rfl) (by rfl) ?_)
             conv => arg 1; simp only [G, Z, Y, un_neg, Int.reduceEq, Int.reduceLE, cutD, Nat.reduceBEq, Nat.reduceAdd, Nat.reduceMul, Nat.reduceSub, Nat.reducePow, Nat.reduceLT, Nat.reduceGT, Nat.reduceLeDiff, Nat.reduceEqDiff, Int.reduceToNat, gt_iff_lt, if_true, if_false, beq_self_eq_true, reduceIte, decide_true, decide_false, fd2_0, fd2_1, fd2_2, fd2_3, fd2_4, fd2_5, fd2_6, fd2_7, fd2_8, fd2_9, fd3_0, fd3_1, fd3_2, fd3_3, fd3_4, fd3_5, fd3_6, fd3_7, fd3_8, fd3_9, fd9_0, fd9_1, fd9_2, fd9_3, fd9_4, fd9_5, fd9_6, fd9_7, fd29_0, fd29_1, fd29_2, fd29_3, fd29_4, fd29_5, fd29_6, fd29_7, fd29_8, fd29_9, fd29_10, fd29_11, fd29_12, fd29_13, fd29_14, fd29_15, fd29_16, fd29_17, fd29_18, fd29_19, fd29_20, fd29_21, fd29_22, fd29_23, fd31_0, fd31_1, fd31_2, fd31_3, fd31_4, fd31_5, fd31_6, fd31_7, fd31_8, fd31_9, fd31_10, fd31_11, fd43_0, fd43_1, fd43_2, fd43_3, fd43_4, fd43_5, fd43_6, fd43_7, fd43_8, fd43_9, fd43_10, fd43_11, fd43_12, fd43_13, fd43_14, fd43_15, fd43_16, fd43_17, fd43_18, fd43_19, fd43_20, fd43_21, fd43_22, fd43_23, fd68_0, fd68_1, fd68_2, fd68_3, fd68_4, fd68_5, fd68_6, fd68_7, fd68_8, fd68_9, fd68_10, fd68_11]
             show GoR _ _ _ _ _ _ _ _ _ _)
          | ((first | refine GoR.call (f := 28) (by decide) (by rfl) rfl Try.func28 (by decide) (by rfl) ?_ | refine GoR.callG (f := 28) (by decide) (by rfl) (by rfl) rfl Try.func28 (by decide) (by rfl) ?_)
             (refine (hg _).ret ?_))
          | refine Go.condT (by rfl) ?_
          | refine Go.condF (by rfl) ?_
          | refine GoR.skipG (by decide) rfl rfl ?_
          | (refine GoR.splitG rfl (fun hc => ?_) (fun hc => ?_) <;> simp only [hc])
          | refine Go.condB rfl (fun hc => ?_) (fun hc => ?_))
        all_goals
          refine ⟨(by first | exact .inl rfl | exact .inr rfl), fin ?_⟩
          rw [resD_two (fn := Try.f12) rfl]
          simp only [optThen_some, resultD_tmp, resultD_cell, G, Z, Y, un_neg, Int.reduceEq, Int.reduceLE, cutD, Nat.reduceBEq, Nat.reduceAdd, Nat.reduceMul, Nat.reduceSub, Nat.reducePow, Nat.reduceLT, Nat.reduceGT, Nat.reduceLeDiff, Nat.reduceEqDiff, Int.reduceToNat, gt_iff_lt, if_true, if_false, beq_self_eq_true, reduceIte, decide_true, decide_false, fd2_0, fd2_1, fd2_2, fd2_3, fd2_4, fd2_5, fd2_6, fd2_7, fd2_8, fd2_9, fd3_0, fd3_1, fd3_2, fd3_3, fd3_4, fd3_5, fd3_6, fd3_7, fd3_8, fd3_9, fd9_0, fd9_1, fd9_2, fd9_3, fd9_4, fd9_5, fd9_6, fd9_7, fd29_0, fd29_1, fd29_2, fd29_3, fd29_4, fd29_5, fd29_6, fd29_7, fd29_8, fd29_9, fd29_10, fd29_11, fd29_12, fd29_13, fd29_14, fd29_15, fd29_16, fd29_17, fd29_18, fd29_19, fd29_20, fd29_21, fd29_22, fd29_23, fd31_0, fd31_1, fd31_2, fd31_3, fd31_4, fd31_5, fd31_6, fd31_7, fd31_8, fd31_9, fd31_10, fd31_11, fd43_0, fd43_1, fd43_2, fd43_3, fd43_4, fd43_5, fd43_6, fd43_7, fd43_8, fd43_9, fd43_10, fd43_11, fd43_12, fd43_13, fd43_14, fd43_15, fd43_16, fd43_17, fd43_18, fd43_19, fd43_20, fd43_21, fd43_22, fd43_23, fd68_0, fd68_1, fd68_2, fd68_3, fd68_4, fd68_5, fd68_6, fd68_7, fd68_8, fd68_9, fd68_10, fd68_11]
          refine ⟨_, _, rfl, .of_low two_low, ?_⟩
          simp_all [nodeS, lookN]
    by_cases h3 : op = (⟨#[110, 101, 103]⟩ : ByteArray)
    · subst h3
      obtain ⟨k, rfl⟩ : ∃ k, ks = [k] := by
        have : (1 : Int) = ks.length := har
        match ks, this with
        | [k], _ => exact ⟨k, rfl⟩
        | [], h => simp at h
        | _ :: _ :: _, h => simp at h; omega
      have ihk := fun S => ih k (by simp) (hk k (by simp)) (hkin k (by simp)) S
      have hki := eval_in hi k (hkin k (by simp))
      obtain ⟨kop, knm, kn, kks⟩ := k
      rw [Nd.c_mk] at ihk
      have e : ndsC [.mk kop knm kn kks] = [.str kop, .str knm, .int .i64 kn, .sl none 4 kks.length (ndsC kks)] := by simp [ndsC, Nd.c_mk]
      have hnode : nodeS l (⟨#[110, 101, 103]⟩ : ByteArray) nm n ([Nd.mk kop knm kn kks].map (evalN l)) = (evalN l (.mk kop knm kn kks)).map fun a => clamp (0 - a) := by
        simp only [List.map_cons, List.map_nil]
        cases evalN l (.mk kop knm kn kks) with
        | none => rfl
        | some a => simp [nodeS]
      rw [hnode]
      clear ih hein hnode
      cases hq : evalN l (.mk kop knm kn kks) with
      | none =>
        rw [hq] at ihk
        repeat' (first
          | refine Go.seq ?_
          | refine Go.rg ?_
          | refine GoR.nil ?_
          | refine Go.skip ?_
          | refine Go.ret ?_
          | refine Go.block ?_
          | refine Go.exit ?_
          | refine Go.blkX ?_
          | refine Go.blkN ?_
          | refine Go.passX ?_
          | refine Go.lpX ?_
          | (refine Go.blkE (by decide) ?_)
          | (refine Go.rgS dmx (by decide) ?_)
          | ((first | refine GoR.op (by decide) (by rfl) ?_ | refine GoR.opG (by decide) (by rfl) (by rfl) ?_)
             conv => arg 1; simp only [G, Z, Y, un_neg, Int.reduceEq, Int.reduceLE, cutD, Nat.reduceBEq, Nat.reduceAdd, Nat.reduceMul, Nat.reduceSub, Nat.reducePow, Nat.reduceLT, Nat.reduceGT, Nat.reduceLeDiff, Nat.reduceEqDiff, Int.reduceToNat, gt_iff_lt, if_true, if_false, beq_self_eq_true, reduceIte, decide_true, decide_false, fd2_0, fd2_1, fd2_2, fd2_3, fd2_4, fd2_5, fd2_6, fd2_7, fd2_8, fd2_9, fd3_0, fd3_1, fd3_2, fd3_3, fd3_4, fd3_5, fd3_6, fd3_7, fd3_8, fd3_9, fd9_0, fd9_1, fd9_2, fd9_3, fd9_4, fd9_5, fd9_6, fd9_7, fd29_0, fd29_1, fd29_2, fd29_3, fd29_4, fd29_5, fd29_6, fd29_7, fd29_8, fd29_9, fd29_10, fd29_11, fd29_12, fd29_13, fd29_14, fd29_15, fd29_16, fd29_17, fd29_18, fd29_19, fd29_20, fd29_21, fd29_22, fd29_23, fd31_0, fd31_1, fd31_2, fd31_3, fd31_4, fd31_5, fd31_6, fd31_7, fd31_8, fd31_9, fd31_10, fd31_11, fd43_0, fd43_1, fd43_2, fd43_3, fd43_4, fd43_5, fd43_6, fd43_7, fd43_8, fd43_9, fd43_10, fd43_11, fd43_12, fd43_13, fd43_14, fd43_15, fd43_16, fd43_17, fd43_18, fd43_19, fd43_20, fd43_21, fd43_22, fd43_23, fd68_0, fd68_1, fd68_2, fd68_3, fd68_4, fd68_5, fd68_6, fd68_7, fd68_8, fd68_9, fd68_10, fd68_11, e, show ((0 : Int) < ((1 : Nat) : Int)) = True by simp, Option.isSome_none]
             show GoR _ _ _ _ _ _ _ _ _ _)
          | ((first | refine GoR.call (f := 12) (by decide) (by rfl) rfl Try.func12 (by decide) (by rfl) ?_ | refine GoR.callG (f := 12) (by decide) (by rfl) (by rfl) rfl Try.func12 (by decide) (by rfl) ?_)
             (refine (ihk _).ret ?_))
          | refine Go.condT (by rfl) ?_
          | refine Go.condF (by rfl) ?_
          | refine GoR.skipG (by decide) rfl rfl ?_
          | (refine GoR.splitG rfl (fun hc => ?_) (fun hc => ?_) <;> simp only [hc])
          | refine Go.condB rfl (fun hc => ?_) (fun hc => ?_))
        refine ⟨(by first | exact .inl rfl | exact .inr rfl), fin ?_⟩
        rw [resD_two (fn := Try.f12) rfl]
        simp only [optThen_some, resultD_tmp, resultD_cell, G, Z, Y, un_neg, Int.reduceEq, Int.reduceLE, cutD, Nat.reduceBEq, Nat.reduceAdd, Nat.reduceMul, Nat.reduceSub, Nat.reducePow, Nat.reduceLT, Nat.reduceGT, Nat.reduceLeDiff, Nat.reduceEqDiff, Int.reduceToNat, gt_iff_lt, if_true, if_false, beq_self_eq_true, reduceIte, decide_true, decide_false, fd2_0, fd2_1, fd2_2, fd2_3, fd2_4, fd2_5, fd2_6, fd2_7, fd2_8, fd2_9, fd3_0, fd3_1, fd3_2, fd3_3, fd3_4, fd3_5, fd3_6, fd3_7, fd3_8, fd3_9, fd9_0, fd9_1, fd9_2, fd9_3, fd9_4, fd9_5, fd9_6, fd9_7, fd29_0, fd29_1, fd29_2, fd29_3, fd29_4, fd29_5, fd29_6, fd29_7, fd29_8, fd29_9, fd29_10, fd29_11, fd29_12, fd29_13, fd29_14, fd29_15, fd29_16, fd29_17, fd29_18, fd29_19, fd29_20, fd29_21, fd29_22, fd29_23, fd31_0, fd31_1, fd31_2, fd31_3, fd31_4, fd31_5, fd31_6, fd31_7, fd31_8, fd31_9, fd31_10, fd31_11, fd43_0, fd43_1, fd43_2, fd43_3, fd43_4, fd43_5, fd43_6, fd43_7, fd43_8, fd43_9, fd43_10, fd43_11, fd43_12, fd43_13, fd43_14, fd43_15, fd43_16, fd43_17, fd43_18, fd43_19, fd43_20, fd43_21, fd43_22, fd43_23, fd68_0, fd68_1, fd68_2, fd68_3, fd68_4, fd68_5, fd68_6, fd68_7, fd68_8, fd68_9, fd68_10, fd68_11]
        exact ⟨_, _, rfl, .of_low two_low, rfl⟩
      | some a =>
        rw [hq] at ihk
        have ha : in64 a := hki a hq
        repeat' (first
          | refine Go.seq ?_
          | refine Go.rg ?_
          | refine GoR.nil ?_
          | refine Go.skip ?_
          | refine Go.ret ?_
          | refine Go.block ?_
          | refine Go.exit ?_
          | refine Go.blkX ?_
          | refine Go.blkN ?_
          | refine Go.passX ?_
          | refine Go.lpX ?_
          | (refine Go.blkE (by decide) ?_)
          | (refine Go.rgS dmx (by decide) ?_)
          | ((first | refine GoR.op (by decide) (by rfl) ?_ | refine GoR.opG (by decide) (by rfl) (by rfl) ?_)
             conv => arg 1; simp only [G, Z, Y, un_neg, Int.reduceEq, Int.reduceLE, cutD, Nat.reduceBEq, Nat.reduceAdd, Nat.reduceMul, Nat.reduceSub, Nat.reducePow, Nat.reduceLT, Nat.reduceGT, Nat.reduceLeDiff, Nat.reduceEqDiff, Int.reduceToNat, gt_iff_lt, if_true, if_false, beq_self_eq_true, reduceIte, decide_true, decide_false, fd2_0, fd2_1, fd2_2, fd2_3, fd2_4, fd2_5, fd2_6, fd2_7, fd2_8, fd2_9, fd3_0, fd3_1, fd3_2, fd3_3, fd3_4, fd3_5, fd3_6, fd3_7, fd3_8, fd3_9, fd9_0, fd9_1, fd9_2, fd9_3, fd9_4, fd9_5, fd9_6, fd9_7, fd29_0, fd29_1, fd29_2, fd29_3, fd29_4, fd29_5, fd29_6, fd29_7, fd29_8, fd29_9, fd29_10, fd29_11, fd29_12, fd29_13, fd29_14, fd29_15, fd29_16, fd29_17, fd29_18, fd29_19, fd29_20, fd29_21, fd29_22, fd29_23, fd31_0, fd31_1, fd31_2, fd31_3, fd31_4, fd31_5, fd31_6, fd31_7, fd31_8, fd31_9, fd31_10, fd31_11, fd43_0, fd43_1, fd43_2, fd43_3, fd43_4, fd43_5, fd43_6, fd43_7, fd43_8, fd43_9, fd43_10, fd43_11, fd43_12, fd43_13, fd43_14, fd43_15, fd43_16, fd43_17, fd43_18, fd43_19, fd43_20, fd43_21, fd43_22, fd43_23, fd68_0, fd68_1, fd68_2, fd68_3, fd68_4, fd68_5, fd68_6, fd68_7, fd68_8, fd68_9, fd68_10, fd68_11, e, show ((0 : Int) < ((1 : Nat) : Int)) = True by simp, Option.isSome_some]
             show GoR _ _ _ _ _ _ _ _ _ _)
          | ((first | refine GoR.call (f := 12) (by decide) (by rfl) rfl Try.func12 (by decide) (by rfl) ?_ | refine GoR.callG (f := 12) (by decide) (by rfl) (by rfl) rfl Try.func12 (by decide) (by rfl) ?_)
             (refine (ihk _).ret ?_))
          | ((first | refine GoR.call (f := 29) (by decide) (by rfl) rfl Try.func29 (by decide) (by rfl) ?_ | refine GoR.callG (f := 29) (by decide) (by rfl) (by rfl) rfl Try.func29 (by decide) (by rfl) ?_)
             (refine (refSub _ _ ⟨by decide, by decide⟩ ha _).ret ?_))
          | refine Go.condT (by rfl) ?_
          | refine Go.condF (by rfl) ?_
          | refine GoR.skipG (by decide) rfl rfl ?_
          | (refine GoR.splitG rfl (fun hc => ?_) (fun hc => ?_) <;> simp only [hc])
          | refine Go.condB rfl (fun hc => ?_) (fun hc => ?_))
        refine ⟨(by first | exact .inl rfl | exact .inr rfl), fin ?_⟩
        rw [resD_two (fn := Try.f12) rfl]
        simp only [optThen_some, resultD_tmp, resultD_cell, G, Z, Y, un_neg, Int.reduceEq, Int.reduceLE, cutD, Nat.reduceBEq, Nat.reduceAdd, Nat.reduceMul, Nat.reduceSub, Nat.reducePow, Nat.reduceLT, Nat.reduceGT, Nat.reduceLeDiff, Nat.reduceEqDiff, Int.reduceToNat, gt_iff_lt, if_true, if_false, beq_self_eq_true, reduceIte, decide_true, decide_false, fd2_0, fd2_1, fd2_2, fd2_3, fd2_4, fd2_5, fd2_6, fd2_7, fd2_8, fd2_9, fd3_0, fd3_1, fd3_2, fd3_3, fd3_4, fd3_5, fd3_6, fd3_7, fd3_8, fd3_9, fd9_0, fd9_1, fd9_2, fd9_3, fd9_4, fd9_5, fd9_6, fd9_7, fd29_0, fd29_1, fd29_2, fd29_3, fd29_4, fd29_5, fd29_6, fd29_7, fd29_8, fd29_9, fd29_10, fd29_11, fd29_12, fd29_13, fd29_14, fd29_15, fd29_16, fd29_17, fd29_18, fd29_19, fd29_20, fd29_21, fd29_22, fd29_23, fd31_0, fd31_1, fd31_2, fd31_3, fd31_4, fd31_5, fd31_6, fd31_7, fd31_8, fd31_9, fd31_10, fd31_11, fd43_0, fd43_1, fd43_2, fd43_3, fd43_4, fd43_5, fd43_6, fd43_7, fd43_8, fd43_9, fd43_10, fd43_11, fd43_12, fd43_13, fd43_14, fd43_15, fd43_16, fd43_17, fd43_18, fd43_19, fd43_20, fd43_21, fd43_22, fd43_23, fd68_0, fd68_1, fd68_2, fd68_3, fd68_4, fd68_5, fd68_6, fd68_7, fd68_8, fd68_9, fd68_10, fd68_11]
        exact ⟨_, _, rfl, .of_low two_low, rfl⟩
    · have h4 : op = (⟨#[43]⟩ : ByteArray) ∨ op = (⟨#[45]⟩ : ByteArray) ∨ op = (⟨#[42]⟩ : ByteArray) ∨ op = (⟨#[47]⟩ : ByteArray) ∨ op = (⟨#[37]⟩ : ByteArray) := by
        unfold arity at har
        rw [if_neg (by simp [h1, h2]), if_neg h3] at har
        split at har
        · assumption
        · omega
      obtain ⟨k, k2, rfl⟩ : ∃ k k2, ks = [k, k2] := by
        have : (2 : Int) = ks.length := by rcases h4 with rfl | rfl | rfl | rfl | rfl <;> exact har
        match ks, this with
        | [k, k2], _ => exact ⟨k, k2, rfl⟩
        | [], h => simp at h
        | [_], h => simp at h
        | _ :: _ :: _ :: _, h => simp at h; omega
      have ihk := fun S => ih k (by simp) (hk k (by simp)) (hkin k (by simp)) S
      have ihk2 := fun S => ih k2 (by simp) (hk k2 (by simp)) (hkin k2 (by simp)) S
      have hki := eval_in hi k (hkin k (by simp))
      have hki2 := eval_in hi k2 (hkin k2 (by simp))
      obtain ⟨kop, knm, kn, kks⟩ := k
      obtain ⟨kop2, knm2, kn2, kks2⟩ := k2
      rw [Nd.c_mk] at ihk ihk2
      have e : ndsC [.mk kop knm kn kks, .mk kop2 knm2 kn2 kks2] = [.str kop, .str knm, .int .i64 kn, .sl none 4 kks.length (ndsC kks), .str kop2, .str knm2, .int .i64 kn2, .sl none 4 kks2.length (ndsC kks2)] := by simp [ndsC, Nd.c_mk]
      have hnode : nodeS l op nm n ([Nd.mk kop knm kn kks, Nd.mk kop2 knm2 kn2 kks2].map (evalN l)) = (evalN l (.mk kop knm kn kks)).bind fun a => (evalN l (.mk kop2 knm2 kn2 kks2)).bind fun b => twoS op a b := by
        simp only [List.map_cons, List.map_nil]
        cases evalN l (.mk kop knm kn kks) with
        | none => rfl
        | some a =>
          cases evalN l (.mk kop2 knm2 kn2 kks2) with
          | none => rfl
          | some b => simp [nodeS, h1, h2]
      rw [hnode]
      have d1 : decide (op = (⟨#[110, 117, 109]⟩ : ByteArray)) = false := by simp [h1]
      have d2 : decide (op = (⟨#[110, 97, 109, 101]⟩ : ByteArray)) = false := by simp [h2]
      have d3 : decide (op = (⟨#[110, 101, 103]⟩ : ByteArray)) = false := by simp [h3]
      clear ih hein hnode har hk hkin h1 h2 h3
      cases hq : evalN l (.mk kop knm kn kks) with
      | none =>
        rw [hq] at ihk
        repeat' (first
          | refine Go.seq ?_
          | refine Go.rg ?_
          | refine GoR.nil ?_
          | refine Go.skip ?_
          | refine Go.ret ?_
          | refine Go.block ?_
          | refine Go.exit ?_
          | refine Go.blkX ?_
          | refine Go.blkN ?_
          | refine Go.passX ?_
          | refine Go.lpX ?_
          | (refine Go.blkE (by decide) ?_)
          | (refine Go.rgS dmx (by decide) ?_)
          | ((first | refine GoR.op (by decide) (by rfl) ?_ | refine GoR.opG (by decide) (by rfl) (by rfl) ?_)
             conv => arg 1; simp only [G, Z, Y, un_neg, Int.reduceEq, Int.reduceLE, cutD, Nat.reduceBEq, Nat.reduceAdd, Nat.reduceMul, Nat.reduceSub, Nat.reducePow, Nat.reduceLT, Nat.reduceGT, Nat.reduceLeDiff, Nat.reduceEqDiff, Int.reduceToNat, gt_iff_lt, if_true, if_false, beq_self_eq_true, reduceIte, decide_true, decide_false, fd2_0, fd2_1, fd2_2, fd2_3, fd2_4, fd2_5, fd2_6, fd2_7, fd2_8, fd2_9, fd3_0, fd3_1, fd3_2, fd3_3, fd3_4, fd3_5, fd3_6, fd3_7, fd3_8, fd3_9, fd9_0, fd9_1, fd9_2, fd9_3, fd9_4, fd9_5, fd9_6, fd9_7, fd29_0, fd29_1, fd29_2, fd29_3, fd29_4, fd29_5, fd29_6, fd29_7, fd29_8, fd29_9, fd29_10, fd29_11, fd29_12, fd29_13, fd29_14, fd29_15, fd29_16, fd29_17, fd29_18, fd29_19, fd29_20, fd29_21, fd29_22, fd29_23, fd31_0, fd31_1, fd31_2, fd31_3, fd31_4, fd31_5, fd31_6, fd31_7, fd31_8, fd31_9, fd31_10, fd31_11, fd43_0, fd43_1, fd43_2, fd43_3, fd43_4, fd43_5, fd43_6, fd43_7, fd43_8, fd43_9, fd43_10, fd43_11, fd43_12, fd43_13, fd43_14, fd43_15, fd43_16, fd43_17, fd43_18, fd43_19, fd43_20, fd43_21, fd43_22, fd43_23, fd68_0, fd68_1, fd68_2, fd68_3, fd68_4, fd68_5, fd68_6, fd68_7, fd68_8, fd68_9, fd68_10, fd68_11, d1, d2, d3, e, show ((0 : Int) < ((2 : Nat) : Int)) = True by simp, show ((1 : Int) < ((2 : Nat) : Int)) = True by simp, Option.isSome_none]
             show GoR _ _ _ _ _ _ _ _ _ _)
          | ((first | refine GoR.call (f := 12) (by decide) (by rfl) rfl Try.func12 (by decide) (by rfl) ?_ | refine GoR.callG (f := 12) (by decide) (by rfl) (by rfl) rfl Try.func12 (by decide) (by rfl) ?_)
             (first | refine (ihk _).ret ?_ | refine (ihk2 _).ret ?_))
          | refine Go.condT (by rfl) ?_
          | refine Go.condF (by rfl) ?_
          | refine GoR.skipG (by decide) rfl rfl ?_
          | (refine GoR.splitG rfl (fun hc => ?_) (fun hc => ?_) <;> simp only [hc])
          | refine Go.condB rfl (fun hc => ?_) (fun hc => ?_))
        refine ⟨(by first | exact .inl rfl | exact .inr rfl), fin ?_⟩
        rw [resD_two (fn := Try.f12) rfl]
        simp only [optThen_some, resultD_tmp, resultD_cell, G, Z, Y, un_neg, Int.reduceEq, Int.reduceLE, cutD, Nat.reduceBEq, Nat.reduceAdd, Nat.reduceMul, Nat.reduceSub, Nat.reducePow, Nat.reduceLT, Nat.reduceGT, Nat.reduceLeDiff, Nat.reduceEqDiff, Int.reduceToNat, gt_iff_lt, if_true, if_false, beq_self_eq_true, reduceIte, decide_true, decide_false, fd2_0, fd2_1, fd2_2, fd2_3, fd2_4, fd2_5, fd2_6, fd2_7, fd2_8, fd2_9, fd3_0, fd3_1, fd3_2, fd3_3, fd3_4, fd3_5, fd3_6, fd3_7, fd3_8, fd3_9, fd9_0, fd9_1, fd9_2, fd9_3, fd9_4, fd9_5, fd9_6, fd9_7, fd29_0, fd29_1, fd29_2, fd29_3, fd29_4, fd29_5, fd29_6, fd29_7, fd29_8, fd29_9, fd29_10, fd29_11, fd29_12, fd29_13, fd29_14, fd29_15, fd29_16, fd29_17, fd29_18, fd29_19, fd29_20, fd29_21, fd29_22, fd29_23, fd31_0, fd31_1, fd31_2, fd31_3, fd31_4, fd31_5, fd31_6, fd31_7, fd31_8, fd31_9, fd31_10, fd31_11, fd43_0, fd43_1, fd43_2, fd43_3, fd43_4, fd43_5, fd43_6, fd43_7, fd43_8, fd43_9, fd43_10, fd43_11, fd43_12, fd43_13, fd43_14, fd43_15, fd43_16, fd43_17, fd43_18, fd43_19, fd43_20, fd43_21, fd43_22, fd43_23, fd68_0, fd68_1, fd68_2, fd68_3, fd68_4, fd68_5, fd68_6, fd68_7, fd68_8, fd68_9, fd68_10, fd68_11]
        exact ⟨_, _, rfl, .of_low two_low, rfl⟩
      | some a =>
        rw [hq] at ihk
        have ha : in64 a := hki a hq
        cases hq2 : evalN l (.mk kop2 knm2 kn2 kks2) with
        | none =>
          rw [hq2] at ihk2
          repeat' (first
            | refine Go.seq ?_
            | refine Go.rg ?_
            | refine GoR.nil ?_
            | refine Go.skip ?_
            | refine Go.ret ?_
            | refine Go.block ?_
            | refine Go.exit ?_
            | refine Go.blkX ?_
            | refine Go.blkN ?_
            | refine Go.passX ?_
            | refine Go.lpX ?_
            | (refine Go.blkE (by decide) ?_)
            | (refine Go.rgS dmx (by decide) ?_)
            | ((first | refine GoR.op (by decide) (by rfl) ?_ | refine GoR.opG (by decide) (by rfl) (by rfl) ?_)
               conv => arg 1; simp only [G, Z, Y, un_neg, Int.reduceEq, Int.reduceLE, cutD, Nat.reduceBEq, Nat.reduceAdd, Nat.reduceMul, Nat.reduceSub, Nat.reducePow, Nat.reduceLT, Nat.reduceGT, Nat.reduceLeDiff, Nat.reduceEqDiff, Int.reduceToNat, gt_iff_lt, if_true, if_false, beq_self_eq_true, reduceIte, decide_true, decide_false, fd2_0, fd2_1, fd2_2, fd2_3, fd2_4, fd2_5, fd2_6, fd2_7, fd2_8, fd2_9, fd3_0, fd3_1, fd3_2, fd3_3, fd3_4, fd3_5, fd3_6, fd3_7, fd3_8, fd3_9, fd9_0, fd9_1, fd9_2, fd9_3, fd9_4, fd9_5, fd9_6, fd9_7, fd29_0, fd29_1, fd29_2, fd29_3, fd29_4, fd29_5, fd29_6, fd29_7, fd29_8, fd29_9, fd29_10, fd29_11, fd29_12, fd29_13, fd29_14, fd29_15, fd29_16, fd29_17, fd29_18, fd29_19, fd29_20, fd29_21, fd29_22, fd29_23, fd31_0, fd31_1, fd31_2, fd31_3, fd31_4, fd31_5, fd31_6, fd31_7, fd31_8, fd31_9, fd31_10, fd31_11, fd43_0, fd43_1, fd43_2, fd43_3, fd43_4, fd43_5, fd43_6, fd43_7, fd43_8, fd43_9, fd43_10, fd43_11, fd43_12, fd43_13, fd43_14, fd43_15, fd43_16, fd43_17, fd43_18, fd43_19, fd43_20, fd43_21, fd43_22, fd43_23, fd68_0, fd68_1, fd68_2, fd68_3, fd68_4, fd68_5, fd68_6, fd68_7, fd68_8, fd68_9, fd68_10, fd68_11, d1, d2, d3, e, show ((0 : Int) < ((2 : Nat) : Int)) = True by simp, show ((1 : Int) < ((2 : Nat) : Int)) = True by simp, Option.isSome_none, Option.isSome_some]
               show GoR _ _ _ _ _ _ _ _ _ _)
            | ((first | refine GoR.call (f := 12) (by decide) (by rfl) rfl Try.func12 (by decide) (by rfl) ?_ | refine GoR.callG (f := 12) (by decide) (by rfl) (by rfl) rfl Try.func12 (by decide) (by rfl) ?_)
               (first | refine (ihk _).ret ?_ | refine (ihk2 _).ret ?_))
            | refine Go.condT (by rfl) ?_
            | refine Go.condF (by rfl) ?_
            | refine GoR.skipG (by decide) rfl rfl ?_
            | (refine GoR.splitG rfl (fun hc => ?_) (fun hc => ?_) <;> simp only [hc])
            | refine Go.condB rfl (fun hc => ?_) (fun hc => ?_))
          refine ⟨(by first | exact .inl rfl | exact .inr rfl), fin ?_⟩
          rw [resD_two (fn := Try.f12) rfl]
          simp only [optThen_some, resultD_tmp, resultD_cell, G, Z, Y, un_neg, Int.reduceEq, Int.reduceLE, cutD, Nat.reduceBEq, Nat.reduceAdd, Nat.reduceMul, Nat.reduceSub, Nat.reducePow, Nat.reduceLT, Nat.reduceGT, Nat.reduceLeDiff, Nat.reduceEqDiff, Int.reduceToNat, gt_iff_lt, if_true, if_false, beq_self_eq_true, reduceIte, decide_true, decide_false, fd2_0, fd2_1, fd2_2, fd2_3, fd2_4, fd2_5, fd2_6, fd2_7, fd2_8, fd2_9, fd3_0, fd3_1, fd3_2, fd3_3, fd3_4, fd3_5, fd3_6, fd3_7, fd3_8, fd3_9, fd9_0, fd9_1, fd9_2, fd9_3, fd9_4, fd9_5, fd9_6, fd9_7, fd29_0, fd29_1, fd29_2, fd29_3, fd29_4, fd29_5, fd29_6, fd29_7, fd29_8, fd29_9, fd29_10, fd29_11, fd29_12, fd29_13, fd29_14, fd29_15, fd29_16, fd29_17, fd29_18, fd29_19, fd29_20, fd29_21, fd29_22, fd29_23, fd31_0, fd31_1, fd31_2, fd31_3, fd31_4, fd31_5, fd31_6, fd31_7, fd31_8, fd31_9, fd31_10, fd31_11, fd43_0, fd43_1, fd43_2, fd43_3, fd43_4, fd43_5, fd43_6, fd43_7, fd43_8, fd43_9, fd43_10, fd43_11, fd43_12, fd43_13, fd43_14, fd43_15, fd43_16, fd43_17, fd43_18, fd43_19, fd43_20, fd43_21, fd43_22, fd43_23, fd68_0, fd68_1, fd68_2, fd68_3, fd68_4, fd68_5, fd68_6, fd68_7, fd68_8, fd68_9, fd68_10, fd68_11]
          exact ⟨_, _, rfl, .of_low two_low, rfl⟩
        | some b =>
          rw [hq2] at ihk2
          have hb : in64 b := hki2 b hq2
          repeat' (first
            | refine Go.seq ?_
            | refine Go.rg ?_
            | refine GoR.nil ?_
            | refine Go.skip ?_
            | refine Go.ret ?_
            | refine Go.block ?_
            | refine Go.exit ?_
            | refine Go.blkX ?_
            | refine Go.blkN ?_
            | refine Go.passX ?_
            | refine Go.lpX ?_
            | (refine Go.blkE (by decide) ?_)
            | (refine Go.rgS dmx (by decide) ?_)
            | ((first | refine GoR.op (by decide) (by rfl) ?_ | refine GoR.opG (by decide) (by rfl) (by rfl) ?_)
               conv => arg 1; simp only [G, Z, Y, un_neg, Int.reduceEq, Int.reduceLE, cutD, Nat.reduceBEq, Nat.reduceAdd, Nat.reduceMul, Nat.reduceSub, Nat.reducePow, Nat.reduceLT, Nat.reduceGT, Nat.reduceLeDiff, Nat.reduceEqDiff, Int.reduceToNat, gt_iff_lt, if_true, if_false, beq_self_eq_true, reduceIte, decide_true, decide_false, fd2_0, fd2_1, fd2_2, fd2_3, fd2_4, fd2_5, fd2_6, fd2_7, fd2_8, fd2_9, fd3_0, fd3_1, fd3_2, fd3_3, fd3_4, fd3_5, fd3_6, fd3_7, fd3_8, fd3_9, fd9_0, fd9_1, fd9_2, fd9_3, fd9_4, fd9_5, fd9_6, fd9_7, fd29_0, fd29_1, fd29_2, fd29_3, fd29_4, fd29_5, fd29_6, fd29_7, fd29_8, fd29_9, fd29_10, fd29_11, fd29_12, fd29_13, fd29_14, fd29_15, fd29_16, fd29_17, fd29_18, fd29_19, fd29_20, fd29_21, fd29_22, fd29_23, fd31_0, fd31_1, fd31_2, fd31_3, fd31_4, fd31_5, fd31_6, fd31_7, fd31_8, fd31_9, fd31_10, fd31_11, fd43_0, fd43_1, fd43_2, fd43_3, fd43_4, fd43_5, fd43_6, fd43_7, fd43_8, fd43_9, fd43_10, fd43_11, fd43_12, fd43_13, fd43_14, fd43_15, fd43_16, fd43_17, fd43_18, fd43_19, fd43_20, fd43_21, fd43_22, fd43_23, fd68_0, fd68_1, fd68_2, fd68_3, fd68_4, fd68_5, fd68_6, fd68_7, fd68_8, fd68_9, fd68_10, fd68_11, d1, d2, d3, e, show ((0 : Int) < ((2 : Nat) : Int)) = True by simp, show ((1 : Int) < ((2 : Nat) : Int)) = True by simp, Option.isSome_some]
               show GoR _ _ _ _ _ _ _ _ _ _)
            | ((first | refine GoR.call (f := 12) (by decide) (by rfl) rfl Try.func12 (by decide) (by rfl) ?_ | refine GoR.callG (f := 12) (by decide) (by rfl) (by rfl) rfl Try.func12 (by decide) (by rfl) ?_)
               (first | refine (ihk _).ret ?_ | refine (ihk2 _).ret ?_))
            | ((first | refine GoR.call (f := 30) (by decide) (by rfl) rfl Try.func30 (by decide) (by rfl) ?_ | refine GoR.callG (f := 30) (by decide) (by rfl) (by rfl) rfl Try.func30 (by decide) (by rfl) ?_)
               (refine (refAdd _ _ ha hb _).ret ?_))
            | ((first | refine GoR.call (f := 29) (by decide) (by rfl) rfl Try.func29 (by decide) (by rfl) ?_ | refine GoR.callG (f := 29) (by decide) (by rfl) (by rfl) rfl Try.func29 (by decide) (by rfl) ?_)
               (refine (refSub _ _ ha hb _).ret ?_))
            | ((first | refine GoR.call (f := 31) (by decide) (by rfl) rfl Try.func31 (by decide) (by rfl) ?_ | refine GoR.callG (f := 31) (by decide) (by rfl) (by rfl) rfl Try.func31 (by decide) (by rfl) ?_)
               (refine (refMul _ _ ha hb _).ret ?_))
            | ((first | refine GoR.call (f := 32) (by decide) (by rfl) rfl Try.func32 (by decide) (by rfl) ?_ | refine GoR.callG (f := 32) (by decide) (by rfl) (by rfl) rfl Try.func32 (by decide) (by rfl) ?_)
               (refine (refDiv _ _ ha hb _).ret ?_))
            | ((first | refine GoR.call (f := 33) (by decide) (by rfl) rfl Try.func33 (by decide) (by rfl) ?_ | refine GoR.callG (f := 33) (by decide) (by rfl) (by rfl) rfl Try.func33 (by decide) (by rfl) ?_)
               (refine (refMod _ _ _).ret ?_))
            | refine Go.condT (by rfl) ?_
            | refine Go.condF (by rfl) ?_
            | refine GoR.skipG (by decide) rfl rfl ?_
            | (refine GoR.splitG rfl (fun hc => ?_) (fun hc => ?_) <;> simp only [hc])
            | refine Go.condB rfl (fun hc => ?_) (fun hc => ?_))
          all_goals
            refine ⟨(by first | exact .inl rfl | exact .inr rfl), fin ?_⟩
            rw [resD_two (fn := Try.f12) rfl]
            simp only [optThen_some, resultD_tmp, resultD_cell, G, Z, Y, un_neg, Int.reduceEq, Int.reduceLE, cutD, Nat.reduceBEq, Nat.reduceAdd, Nat.reduceMul, Nat.reduceSub, Nat.reducePow, Nat.reduceLT, Nat.reduceGT, Nat.reduceLeDiff, Nat.reduceEqDiff, Int.reduceToNat, gt_iff_lt, if_true, if_false, beq_self_eq_true, reduceIte, decide_true, decide_false, fd2_0, fd2_1, fd2_2, fd2_3, fd2_4, fd2_5, fd2_6, fd2_7, fd2_8, fd2_9, fd3_0, fd3_1, fd3_2, fd3_3, fd3_4, fd3_5, fd3_6, fd3_7, fd3_8, fd3_9, fd9_0, fd9_1, fd9_2, fd9_3, fd9_4, fd9_5, fd9_6, fd9_7, fd29_0, fd29_1, fd29_2, fd29_3, fd29_4, fd29_5, fd29_6, fd29_7, fd29_8, fd29_9, fd29_10, fd29_11, fd29_12, fd29_13, fd29_14, fd29_15, fd29_16, fd29_17, fd29_18, fd29_19, fd29_20, fd29_21, fd29_22, fd29_23, fd31_0, fd31_1, fd31_2, fd31_3, fd31_4, fd31_5, fd31_6, fd31_7, fd31_8, fd31_9, fd31_10, fd31_11, fd43_0, fd43_1, fd43_2, fd43_3, fd43_4, fd43_5, fd43_6, fd43_7, fd43_8, fd43_9, fd43_10, fd43_11, fd43_12, fd43_13, fd43_14, fd43_15, fd43_16, fd43_17, fd43_18, fd43_19, fd43_20, fd43_21, fd43_22, fd43_23, fd68_0, fd68_1, fd68_2, fd68_3, fd68_4, fd68_5, fd68_6, fd68_7, fd68_8, fd68_9, fd68_10, fd68_11]
            refine ⟨_, _, rfl, .of_low two_low, ?_⟩
            by_cases h0 : b = 0
            · simp_all [twoS, divS, modS]
            · simp_all [twoS, divS, modS]

theorem lawAny (n : Nd) (l : List Att) (hin : In64 n) (hi : ∀ a ∈ l, in64 a.v.i) (S : Mem) :
    CallD Try.prog O 3 [.agg n.c, .sl none 5 l.length (attsC l)] S fun d S' => S' = S ∧ d = .bool true := by
  have hfew := fun S => few9 (orc := O) n S
  have hof := fun hs S => of9 (orc := O) n hs S
  have hchk := fun hs S => checkNode (orc := O) n hs S
  have heval := fun hr hl hv hs S => calcEval (orc := O) l hr hl hv hi n hs hin S
  have hcalc := fun hr hl hf S => refCalc (orc := O) l hr hl hi n hf hin S
  obtain ⟨op, nm, n, ks⟩ := n
  rw [Nd.c_mk] at hfew hof hchk heval hcalc ⊢
  refine CallD.drop ?_
  refine CallD.body Try.func3 rfl (by simp [Try.ntmps3]) ?_
  rw [Try.ntmps3]
  repeat' (first
    | refine Go.seq ?_
    | refine Go.rg ?_
    | refine GoR.nil ?_
    | refine Go.skip ?_
    | refine Go.ret ?_
    | refine Go.block ?_
    | refine Go.exit ?_
    | refine Go.blkX ?_
    | refine Go.blkN ?_
    | refine Go.passX ?_
    | refine Go.lpX ?_
    | (refine Go.blkE (by decide) ?_)
    | (refine Go.rgS dmx (by decide) ?_)
    | ((first | refine GoR.op (by decide) (by rfl) ?_ | refine GoR.opG (by decide) (by rfl) (by rfl) ?_)
       conv => arg 1; simp only [G, Z, Y, un_neg, Int.reduceEq, Int.reduceLE, cutD, Nat.reduceBEq, Nat.reduceAdd, Nat.reduceMul, Nat.reduceSub, Nat.reducePow, Nat.reduceLT, Nat.reduceGT, Nat.reduceLeDiff, Nat.reduceEqDiff, Int.reduceToNat, gt_iff_lt, if_true, if_false, beq_self_eq_true, reduceIte, decide_true, decide_false, fd2_0, fd2_1, fd2_2, fd2_3, fd2_4, fd2_5, fd2_6, fd2_7, fd2_8, fd2_9, fd3_0, fd3_1, fd3_2, fd3_3, fd3_4, fd3_5, fd3_6, fd3_7, fd3_8, fd3_9, fd4_0, fd4_1, fd4_2, fd4_3, fd4_4, fd9_0, fd9_1, fd9_2, fd9_3, fd9_4, fd9_5, fd9_6, fd9_7, fd22_0, fd22_1, fd22_2, fd22_3, fd22_4, fd22_5, fd22_6, fd22_7, fd22_8, fd22_9, fd22_10, fd22_11, fd22_12, fd22_13, fd22_14, fd22_15, fd22_16, fd22_17, fd22_18, fd22_19, fd22_20, fd22_21, fd22_22, fd22_23, fd24_0, fd24_1, fd24_2, fd24_3, fd24_4, fd24_5, fd24_6, fd24_7, fd24_8, fd24_9, fd24_10, fd24_11]
       show GoR _ _ _ _ _ _ _ _ _ _)
    | ((first | refine GoR.call (f := 6) (by decide) (by rfl) rfl Try.func6 (by decide) (by rfl) ?_ | refine GoR.callG (f := 6) (by decide) (by rfl) (by rfl) rfl Try.func6 (by decide) (by rfl) ?_)
       (refine (theKnown _).ret ?_))
    | ((first | refine GoR.call (f := 7) (by decide) (by rfl) rfl Try.func7 (by decide) (by rfl) ?_ | refine GoR.callG (f := 7) (by decide) (by rfl) (by rfl) rfl Try.func7 (by decide) (by rfl) ?_)
       (refine (hfew _).retE ?_; rintro _ ⟨b, rfl, hb⟩))
    | refine Go.condT (by rfl) ?_
    | refine Go.condF (by rfl) ?_
    | refine GoR.skipG (by decide) rfl rfl ?_
    | (refine GoR.splitG rfl (fun hc => ?_) (fun hc => ?_) <;> simp only [hc])
    | refine Go.condB rfl (fun hc => ?_) (fun hc => ?_))
  · refine ⟨(by first | exact .inl rfl | exact .inr rfl), fin ?_⟩
    rw [resD_tmp (fn := Try.f3) rfl]
    simp only [optThen_some, resultD_tmp, resultD_cell, G, Z, Y, un_neg, Int.reduceEq, Int.reduceLE, cutD, Nat.reduceBEq, Nat.reduceAdd, Nat.reduceMul, Nat.reduceSub, Nat.reducePow, Nat.reduceLT, Nat.reduceGT, Nat.reduceLeDiff, Nat.reduceEqDiff, Int.reduceToNat, gt_iff_lt, if_true, if_false, beq_self_eq_true, reduceIte, decide_true, decide_false, fd2_0, fd2_1, fd2_2, fd2_3, fd2_4, fd2_5, fd2_6, fd2_7, fd2_8, fd2_9, fd3_0, fd3_1, fd3_2, fd3_3, fd3_4, fd3_5, fd3_6, fd3_7, fd3_8, fd3_9, fd4_0, fd4_1, fd4_2, fd4_3, fd4_4, fd9_0, fd9_1, fd9_2, fd9_3, fd9_4, fd9_5, fd9_6, fd9_7, fd22_0, fd22_1, fd22_2, fd22_3, fd22_4, fd22_5, fd22_6, fd22_7, fd22_8, fd22_9, fd22_10, fd22_11, fd22_12, fd22_13, fd22_14, fd22_15, fd22_16, fd22_17, fd22_18, fd22_19, fd22_20, fd22_21, fd22_22, fd22_23, fd24_0, fd24_1, fd24_2, fd24_3, fd24_4, fd24_5, fd24_6, fd24_7, fd24_8, fd24_9, fd24_10, fd24_11]
    exact ⟨_, _, rfl, .bool, rfl⟩
  · have hs := hb (by simpa using hc)
    repeat' (first
      | refine Go.seq ?_
      | refine Go.rg ?_
      | refine GoR.nil ?_
      | refine Go.skip ?_
      | refine Go.ret ?_
      | refine Go.block ?_
      | refine Go.exit ?_
      | refine Go.blkX ?_
      | refine Go.blkN ?_
      | refine Go.passX ?_
      | refine Go.lpX ?_
      | (refine Go.blkE (by decide) ?_)
      | (refine Go.rgS dmx (by decide) ?_)
      | ((first | refine GoR.op (by decide) (by rfl) ?_ | refine GoR.opG (by decide) (by rfl) (by rfl) ?_)
         conv => arg 1; simp only [G, Z, Y, un_neg, Int.reduceEq, Int.reduceLE, cutD, Nat.reduceBEq, Nat.reduceAdd, Nat.reduceMul, Nat.reduceSub, Nat.reducePow, Nat.reduceLT, Nat.reduceGT, Nat.reduceLeDiff, Nat.reduceEqDiff, Int.reduceToNat, gt_iff_lt, if_true, if_false, beq_self_eq_true, reduceIte, decide_true, decide_false, fd2_0, fd2_1, fd2_2, fd2_3, fd2_4, fd2_5, fd2_6, fd2_7, fd2_8, fd2_9, fd3_0, fd3_1, fd3_2, fd3_3, fd3_4, fd3_5, fd3_6, fd3_7, fd3_8, fd3_9, fd4_0, fd4_1, fd4_2, fd4_3, fd4_4, fd9_0, fd9_1, fd9_2, fd9_3, fd9_4, fd9_5, fd9_6, fd9_7, fd22_0, fd22_1, fd22_2, fd22_3, fd22_4, fd22_5, fd22_6, fd22_7, fd22_8, fd22_9, fd22_10, fd22_11, fd22_12, fd22_13, fd22_14, fd22_15, fd22_16, fd22_17, fd22_18, fd22_19, fd22_20, fd22_21, fd22_22, fd22_23, fd24_0, fd24_1, fd24_2, fd24_3, fd24_4, fd24_5, fd24_6, fd24_7, fd24_8, fd24_9, fd24_10, fd24_11]
         show GoR _ _ _ _ _ _ _ _ _ _)
      | ((first | refine GoR.call (f := 9) (by decide) (by rfl) rfl Try.func9 (by decide) (by rfl) ?_ | refine GoR.callG (f := 9) (by decide) (by rfl) (by rfl) rfl Try.func9 (by decide) (by rfl) ?_)
         (refine (hof hs _).ret ?_))
      | ((first | refine GoR.call (f := 8) (by decide) (by rfl) rfl Try.func8 (by decide) (by rfl) ?_ | refine GoR.callG (f := 8) (by decide) (by rfl) (by rfl) rfl Try.func8 (by decide) (by rfl) ?_)
         (refine (hchk hs _).retE ?_; rintro _ ⟨e, rfl, he⟩))
      | ((first | refine GoR.call (f := 10) (by decide) (by rfl) rfl Try.func10 (by decide) (by rfl) ?_ | refine GoR.callG (f := 10) (by decide) (by rfl) (by rfl) rfl Try.func10 (by decide) (by rfl) ?_)
         (refine (good l _).retE ?_; rintro _ ⟨g, rfl, hg⟩))
      | refine Go.condT (by rfl) ?_
      | refine Go.condF (by rfl) ?_
      | refine GoR.skipG (by decide) rfl rfl ?_
      | (refine GoR.splitG rfl (fun hc => ?_) (fun hc => ?_) <;> simp only [hc])
      | refine Go.condB rfl (fun hc => ?_) (fun hc => ?_))
    · refine ⟨(by first | exact .inl rfl | exact .inr rfl), fin ?_⟩
      rw [resD_tmp (fn := Try.f3) rfl]
      simp only [optThen_some, resultD_tmp, resultD_cell, G, Z, Y, un_neg, Int.reduceEq, Int.reduceLE, cutD, Nat.reduceBEq, Nat.reduceAdd, Nat.reduceMul, Nat.reduceSub, Nat.reducePow, Nat.reduceLT, Nat.reduceGT, Nat.reduceLeDiff, Nat.reduceEqDiff, Int.reduceToNat, gt_iff_lt, if_true, if_false, beq_self_eq_true, reduceIte, decide_true, decide_false, fd2_0, fd2_1, fd2_2, fd2_3, fd2_4, fd2_5, fd2_6, fd2_7, fd2_8, fd2_9, fd3_0, fd3_1, fd3_2, fd3_3, fd3_4, fd3_5, fd3_6, fd3_7, fd3_8, fd3_9, fd4_0, fd4_1, fd4_2, fd4_3, fd4_4, fd9_0, fd9_1, fd9_2, fd9_3, fd9_4, fd9_5, fd9_6, fd9_7, fd22_0, fd22_1, fd22_2, fd22_3, fd22_4, fd22_5, fd22_6, fd22_7, fd22_8, fd22_9, fd22_10, fd22_11, fd22_12, fd22_13, fd22_14, fd22_15, fd22_16, fd22_17, fd22_18, fd22_19, fd22_20, fd22_21, fd22_22, fd22_23, fd24_0, fd24_1, fd24_2, fd24_3, fd24_4, fd24_5, fd24_6, fd24_7, fd24_8, fd24_9, fd24_10, fd24_11]
      exact ⟨_, _, rfl, .bool, rfl⟩
    · refine ⟨(by first | exact .inl rfl | exact .inr rfl), fin ?_⟩
      rw [resD_tmp (fn := Try.f3) rfl]
      simp only [optThen_some, resultD_tmp, resultD_cell, G, Z, Y, un_neg, Int.reduceEq, Int.reduceLE, cutD, Nat.reduceBEq, Nat.reduceAdd, Nat.reduceMul, Nat.reduceSub, Nat.reducePow, Nat.reduceLT, Nat.reduceGT, Nat.reduceLeDiff, Nat.reduceEqDiff, Int.reduceToNat, gt_iff_lt, if_true, if_false, beq_self_eq_true, reduceIte, decide_true, decide_false, fd2_0, fd2_1, fd2_2, fd2_3, fd2_4, fd2_5, fd2_6, fd2_7, fd2_8, fd2_9, fd3_0, fd3_1, fd3_2, fd3_3, fd3_4, fd3_5, fd3_6, fd3_7, fd3_8, fd3_9, fd4_0, fd4_1, fd4_2, fd4_3, fd4_4, fd9_0, fd9_1, fd9_2, fd9_3, fd9_4, fd9_5, fd9_6, fd9_7, fd22_0, fd22_1, fd22_2, fd22_3, fd22_4, fd22_5, fd22_6, fd22_7, fd22_8, fd22_9, fd22_10, fd22_11, fd22_12, fd22_13, fd22_14, fd22_15, fd22_16, fd22_17, fd22_18, fd22_19, fd22_20, fd22_21, fd22_22, fd22_23, fd24_0, fd24_1, fd24_2, fd24_3, fd24_4, fd24_5, fd24_6, fd24_7, fd24_8, fd24_9, fd24_10, fd24_11]
      exact ⟨_, _, rfl, .bool, rfl⟩
    · rename_i hce
      obtain ⟨hl, hr, hv⟩ := hg (by simpa using hc)
      have hf := he (by simpa using hce)
      repeat' (first
        | refine Go.seq ?_
        | refine Go.rg ?_
        | refine GoR.nil ?_
        | refine Go.skip ?_
        | refine Go.ret ?_
        | refine Go.block ?_
        | refine Go.exit ?_
        | refine Go.blkX ?_
        | refine Go.blkN ?_
        | refine Go.passX ?_
        | refine Go.lpX ?_
        | (refine Go.blkE (by decide) ?_)
        | (refine Go.rgS dmx (by decide) ?_)
        | ((first | refine GoR.op (by decide) (by rfl) ?_ | refine GoR.opG (by decide) (by rfl) (by rfl) ?_)
           conv => arg 1; simp only [G, Z, Y, un_neg, Int.reduceEq, Int.reduceLE, cutD, Nat.reduceBEq, Nat.reduceAdd, Nat.reduceMul, Nat.reduceSub, Nat.reducePow, Nat.reduceLT, Nat.reduceGT, Nat.reduceLeDiff, Nat.reduceEqDiff, Int.reduceToNat, gt_iff_lt, if_true, if_false, beq_self_eq_true, reduceIte, decide_true, decide_false, fd2_0, fd2_1, fd2_2, fd2_3, fd2_4, fd2_5, fd2_6, fd2_7, fd2_8, fd2_9, fd3_0, fd3_1, fd3_2, fd3_3, fd3_4, fd3_5, fd3_6, fd3_7, fd3_8, fd3_9, fd4_0, fd4_1, fd4_2, fd4_3, fd4_4, fd9_0, fd9_1, fd9_2, fd9_3, fd9_4, fd9_5, fd9_6, fd9_7, fd22_0, fd22_1, fd22_2, fd22_3, fd22_4, fd22_5, fd22_6, fd22_7, fd22_8, fd22_9, fd22_10, fd22_11, fd22_12, fd22_13, fd22_14, fd22_15, fd22_16, fd22_17, fd22_18, fd22_19, fd22_20, fd22_21, fd22_22, fd22_23, fd24_0, fd24_1, fd24_2, fd24_3, fd24_4, fd24_5, fd24_6, fd24_7, fd24_8, fd24_9, fd24_10, fd24_11, bne_self_eq_false]
           show GoR _ _ _ _ _ _ _ _ _ _)
        | ((first | refine GoR.call (f := 9) (by decide) (by rfl) rfl Try.func9 (by decide) (by rfl) ?_ | refine GoR.callG (f := 9) (by decide) (by rfl) (by rfl) rfl Try.func9 (by decide) (by rfl) ?_)
           (refine (hof hs _).ret ?_))
        | ((first | refine GoR.call (f := 11) (by decide) (by rfl) rfl Try.func11 (by decide) (by rfl) ?_ | refine GoR.callG (f := 11) (by decide) (by rfl) (by rfl) rfl Try.func11 (by decide) (by rfl) ?_)
           (refine (heval hr (by omega) hv hs _).ret ?_))
        | ((first | refine GoR.call (f := 12) (by decide) (by rfl) rfl Try.func12 (by decide) (by rfl) ?_ | refine GoR.callG (f := 12) (by decide) (by rfl) (by rfl) rfl Try.func12 (by decide) (by rfl) ?_)
           (refine (hcalc hr (by omega) hf _).ret ?_))
        | ((first | refine GoR.call (f := 13) (by decide) (by rfl) rfl Try.func13 (by decide) (by rfl) ?_ | refine GoR.callG (f := 13) (by decide) (by rfl) (by rfl) rfl Try.func13 (by decide) (by rfl) ?_)
           (refine (ofAttrs l (by omega) _).ret ?_))
        | refine Go.condT (by rfl) ?_
        | refine Go.condF (by rfl) ?_
        | refine GoR.skipG (by decide) rfl rfl ?_
        | (refine GoR.splitG rfl (fun hc => ?_) (fun hc => ?_) <;> simp only [hc])
        | refine Go.condB rfl (fun hc => ?_) (fun hc => ?_))
      refine ⟨(by first | exact .inl rfl | exact .inr rfl), fin ?_⟩
      rw [resD_tmp (fn := Try.f3) rfl]
      simp only [optThen_some, resultD_tmp, resultD_cell, G, Z, Y, un_neg, Int.reduceEq, Int.reduceLE, cutD, Nat.reduceBEq, Nat.reduceAdd, Nat.reduceMul, Nat.reduceSub, Nat.reducePow, Nat.reduceLT, Nat.reduceGT, Nat.reduceLeDiff, Nat.reduceEqDiff, Int.reduceToNat, gt_iff_lt, if_true, if_false, beq_self_eq_true, reduceIte, decide_true, decide_false, fd2_0, fd2_1, fd2_2, fd2_3, fd2_4, fd2_5, fd2_6, fd2_7, fd2_8, fd2_9, fd3_0, fd3_1, fd3_2, fd3_3, fd3_4, fd3_5, fd3_6, fd3_7, fd3_8, fd3_9, fd4_0, fd4_1, fd4_2, fd4_3, fd4_4, fd9_0, fd9_1, fd9_2, fd9_3, fd9_4, fd9_5, fd9_6, fd9_7, fd22_0, fd22_1, fd22_2, fd22_3, fd22_4, fd22_5, fd22_6, fd22_7, fd22_8, fd22_9, fd22_10, fd22_11, fd22_12, fd22_13, fd22_14, fd22_15, fd22_16, fd22_17, fd22_18, fd22_19, fd22_20, fd22_21, fd22_22, fd22_23, fd24_0, fd24_1, fd24_2, fd24_3, fd24_4, fd24_5, fd24_6, fd24_7, fd24_8, fd24_9, fd24_10, fd24_11]
      exact ⟨_, _, rfl, .bool, rfl⟩
end Go.Proofs.DmT
