/- The law StampAny answers true for any two stamps. -/
import Derived.Test.YtipeffaojbhbmaaDoorDnC12
import Derived.Test.YtipeffaojbhbmaaDoorDnC7
import Derived.Test.YtipeffaojbhbmaaDoorCards
import Derived.Test.YtipeffaojbhbmaaDoorTie
import Derived.SevenTiedAt
set_option linter.unusedSimpArgs false
set_option linter.unusedVariables false
namespace Go.Proofs.DnT
open Go Go.DM
set_option maxRecDepth 100000
theorem cmpSt_swap (a b : St) : cmpSt b a = 0 - cmpSt a b := by
  rcases cmpSt_cases a b with ⟨e, h⟩ | ⟨e, h⟩ | ⟨e, h⟩ <;> rcases cmpSt_cases b a with ⟨e2, h2⟩ | ⟨e2, h2⟩ | ⟨e2, h2⟩ <;> rw [e, e2] <;> first
    | rfl
    | (exact absurd (ltSt_trans h h2) (ltSt_irrefl _))
    | (subst h; exact absurd h2 (ltSt_irrefl _))
    | (subst h2; exact absurd h (ltSt_irrefl _))
set_option maxHeartbeats 4000000 in
theorem lawAny (a b : St) (ha : In64 a) (hb : In64 b) (S : Mem) : CallD Tryd.prog O 3 [.agg a.c, .agg b.c] S fun d S' => S' = S ∧ d = .bool true := by
  by_cases hlong : 100 < a.org.size ∨ 100 < b.org.size
  · obtain ⟨a1, a2, a3, a4⟩ := a
    obtain ⟨b1, b2, b3, b4⟩ := b
    simp only at hlong
    simp only [St.c]
    refine CallD.drop ?_
    refine CallD.body Tryd.func3 rfl (by simp [Tryd.ntmps3]) ?_
    rw [Tryd.ntmps3]
    by_cases h1 : 100 < a4.size
    · have d1 : decide (100 < (a4.size : Int)) = true := by rw [decide_eq_true_iff]; omega
      repeat' (first
        | refine Go.seq ?_
        | refine Go.rg ?_
        | refine GoR.nil ?_
        | refine Go.skip ?_
        | refine Go.ret ?_
        | refine Go.block ?_
        | refine Go.exit ?_
        | refine Go.blkX ?_
        | refine Go.blkN ?_
        | refine Go.passX ?_
        | refine Go.lpX ?_
        | (refine Go.blkE (by decide) ?_)
        | (refine Go.rgS dmx (by decide) ?_)
        | (refine Go.rgD [2] (fun _ => True) dmx (by decide) 3 (by decide) ?_ ?_
           · trivial)
        | (refine Go.rgD [2, 32] (fun _ => True) dmx (by decide) 33 (by decide) ?_ ?_
           · trivial)
        | refine GoW.nil rfl ?_
        | ((first | refine GoR.op (by decide) (by rfl) ?_ | refine GoR.opG (by decide) (by rfl) (by rfl) ?_ | refine GoW.op (by decide) (by rfl) rfl ?_ | refine GoW.opG (by decide) (by rfl) rfl (by rfl) ?_)
           conv => arg 1; simp only [G, Z, Y, un_neg, Int.reduceEq, Int.reduceLE, cutD, Nat.reduceBEq, Nat.reduceAdd, Nat.reduceMul, Nat.reduceSub, Nat.reducePow, Nat.reduceLT, Nat.reduceGT, Nat.reduceLeDiff, Nat.reduceEqDiff, Int.reduceToNat, gt_iff_lt, if_true, if_false, beq_self_eq_true, reduceIte, decide_true, decide_false, fd2_0, fd2_1, fd2_2, fd2_3, fd2_4, fd2_5, fd2_6, fd3_0, fd3_1, fd3_2, fd3_3, fd3_4, fd3_5, fd3_6, fd4_0, fd4_1, fd4_2, fd4_3, fd4_4, fd9_0, fd9_1, fd9_2, fd9_3, fd9_4, fd9_5, fd9_6, fd9_7, fd23_0, fd23_1, fd23_2, fd23_3, fd23_4, fd23_5, fd23_6, fd23_7, fd23_8, fd23_9, fd23_10, fd23_11, d1]
           first | show GoR _ _ _ _ _ _ _ _ _ _ | (show _ ∧ _; refine ⟨by (first | exact fun h => absurd h (by decide) | (intro _; trivial)), ?_⟩; show GoW _ _ _ _ _ _ _ _ _ _ _ _ _ _))
        | ((first | refine GoW.readT (by decide) (by rfl) ?_ | refine GoW.readTG (by decide) (by rfl) (by rfl) ?_)
           conv => arg 1; simp only [G, Z, Y, un_neg, Int.reduceEq, Int.reduceLE, cutD, Nat.reduceBEq, Nat.reduceAdd, Nat.reduceMul, Nat.reduceSub, Nat.reducePow, Nat.reduceLT, Nat.reduceGT, Nat.reduceLeDiff, Nat.reduceEqDiff, Int.reduceToNat, gt_iff_lt, if_true, if_false, beq_self_eq_true, reduceIte, decide_true, decide_false, fd2_0, fd2_1, fd2_2, fd2_3, fd2_4, fd2_5, fd2_6, fd3_0, fd3_1, fd3_2, fd3_3, fd3_4, fd3_5, fd3_6, fd4_0, fd4_1, fd4_2, fd4_3, fd4_4, fd9_0, fd9_1, fd9_2, fd9_3, fd9_4, fd9_5, fd9_6, fd9_7, fd23_0, fd23_1, fd23_2, fd23_3, fd23_4, fd23_5, fd23_6, fd23_7, fd23_8, fd23_9, fd23_10, fd23_11, d1]
           show _ ∧ _ ∧ _ ∧ _
           refine ⟨rfl, by trivial, (fun H hI => by simp only [G, Z, Y, un_neg, Int.reduceEq, Int.reduceLE, cutD, Nat.reduceBEq, Nat.reduceAdd, Nat.reduceMul, Nat.reduceSub, Nat.reducePow, Nat.reduceLT, Nat.reduceGT, Nat.reduceLeDiff, Nat.reduceEqDiff, Int.reduceToNat, gt_iff_lt, if_true, if_false, beq_self_eq_true, reduceIte, decide_true, decide_false, fd2_0, fd2_1, fd2_2, fd2_3, fd2_4, fd2_5, fd2_6, fd3_0, fd3_1, fd3_2, fd3_3, fd3_4, fd3_5, fd3_6, fd4_0, fd4_1, fd4_2, fd4_3, fd4_4, fd9_0, fd9_1, fd9_2, fd9_3, fd9_4, fd9_5, fd9_6, fd9_7, fd23_0, fd23_1, fd23_2, fd23_3, fd23_4, fd23_5, fd23_6, fd23_7, fd23_8, fd23_9, fd23_10, fd23_11, d1]), ?_⟩
           show GoW _ _ _ _ _ _ _ _ _ _ _ _ _ _)
        | ((first | refine GoW.call (f := 9) (by decide) (by rfl) rfl Tryd.func9 (by rfl) (by decide) rfl ?_ | refine GoW.callG (f := 9) (by decide) (by rfl) (by rfl) rfl Tryd.func9 (by rfl) (by decide) rfl ?_)
           (refine (known _).ret ?_)
           refine ⟨by (first | exact fun h => absurd h (by decide) | (intro _; trivial)), ?_⟩)
        | ((first | refine GoR.call (f := 9) (by decide) (by rfl) rfl Tryd.func9 (by decide) (by rfl) ?_ | refine GoR.callG (f := 9) (by decide) (by rfl) (by rfl) rfl Tryd.func9 (by decide) (by rfl) ?_)
           (refine (known _).ret ?_))
        | refine Go.condT (by rfl) ?_
        | refine Go.condF (by rfl) ?_
        | refine GoR.skipG (by decide) rfl rfl ?_
        | refine GoW.skipG (by decide) rfl rfl (by (first | exact fun h => absurd h (by decide) | (intro _; trivial))) ?_
        | (refine GoR.splitG rfl (fun hc => ?_) (fun hc => ?_) <;> simp only [hc])
        | refine Go.condB rfl (fun hc => ?_) (fun hc => ?_))
      refine ⟨(by first | exact .inl rfl | exact .inr rfl), fin ?_⟩
      rw [resD_tmp (fn := Tryd.f3) rfl]
      simp only [optThen_some, resultD_tmp, resultD_cell, G, Z, Y, un_neg, Int.reduceEq, Int.reduceLE, cutD, Nat.reduceBEq, Nat.reduceAdd, Nat.reduceMul, Nat.reduceSub, Nat.reducePow, Nat.reduceLT, Nat.reduceGT, Nat.reduceLeDiff, Nat.reduceEqDiff, Int.reduceToNat, gt_iff_lt, if_true, if_false, beq_self_eq_true, reduceIte, decide_true, decide_false, fd2_0, fd2_1, fd2_2, fd2_3, fd2_4, fd2_5, fd2_6, fd3_0, fd3_1, fd3_2, fd3_3, fd3_4, fd3_5, fd3_6, fd4_0, fd4_1, fd4_2, fd4_3, fd4_4, fd9_0, fd9_1, fd9_2, fd9_3, fd9_4, fd9_5, fd9_6, fd9_7, fd23_0, fd23_1, fd23_2, fd23_3, fd23_4, fd23_5, fd23_6, fd23_7, fd23_8, fd23_9, fd23_10, fd23_11]
      exact ⟨_, _, rfl, .bool, rfl⟩
    · have d1 : decide (100 < (a4.size : Int)) = false := by rw [decide_eq_false_iff_not]; omega
      have d2 : decide (100 < (b4.size : Int)) = true := by rw [decide_eq_true_iff]; omega
      repeat' (first
        | refine Go.seq ?_
        | refine Go.rg ?_
        | refine GoR.nil ?_
        | refine Go.skip ?_
        | refine Go.ret ?_
        | refine Go.block ?_
        | refine Go.exit ?_
        | refine Go.blkX ?_
        | refine Go.blkN ?_
        | refine Go.passX ?_
        | refine Go.lpX ?_
        | (refine Go.blkE (by decide) ?_)
        | (refine Go.rgS dmx (by decide) ?_)
        | (refine Go.rgD [2] (fun _ => True) dmx (by decide) 3 (by decide) ?_ ?_
           · trivial)
        | (refine Go.rgD [2, 32] (fun _ => True) dmx (by decide) 33 (by decide) ?_ ?_
           · trivial)
        | refine GoW.nil rfl ?_
        | ((first | refine GoR.op (by decide) (by rfl) ?_ | refine GoR.opG (by decide) (by rfl) (by rfl) ?_ | refine GoW.op (by decide) (by rfl) rfl ?_ | refine GoW.opG (by decide) (by rfl) rfl (by rfl) ?_)
           conv => arg 1; simp only [G, Z, Y, un_neg, Int.reduceEq, Int.reduceLE, cutD, Nat.reduceBEq, Nat.reduceAdd, Nat.reduceMul, Nat.reduceSub, Nat.reducePow, Nat.reduceLT, Nat.reduceGT, Nat.reduceLeDiff, Nat.reduceEqDiff, Int.reduceToNat, gt_iff_lt, if_true, if_false, beq_self_eq_true, reduceIte, decide_true, decide_false, fd2_0, fd2_1, fd2_2, fd2_3, fd2_4, fd2_5, fd2_6, fd3_0, fd3_1, fd3_2, fd3_3, fd3_4, fd3_5, fd3_6, fd4_0, fd4_1, fd4_2, fd4_3, fd4_4, fd9_0, fd9_1, fd9_2, fd9_3, fd9_4, fd9_5, fd9_6, fd9_7, fd23_0, fd23_1, fd23_2, fd23_3, fd23_4, fd23_5, fd23_6, fd23_7, fd23_8, fd23_9, fd23_10, fd23_11, d1, d2]
           first | show GoR _ _ _ _ _ _ _ _ _ _ | (show _ ∧ _; refine ⟨by (first | exact fun h => absurd h (by decide) | (intro _; trivial)), ?_⟩; show GoW _ _ _ _ _ _ _ _ _ _ _ _ _ _))
        | ((first | refine GoW.readT (by decide) (by rfl) ?_ | refine GoW.readTG (by decide) (by rfl) (by rfl) ?_)
           conv => arg 1; simp only [G, Z, Y, un_neg, Int.reduceEq, Int.reduceLE, cutD, Nat.reduceBEq, Nat.reduceAdd, Nat.reduceMul, Nat.reduceSub, Nat.reducePow, Nat.reduceLT, Nat.reduceGT, Nat.reduceLeDiff, Nat.reduceEqDiff, Int.reduceToNat, gt_iff_lt, if_true, if_false, beq_self_eq_true, reduceIte, decide_true, decide_false, fd2_0, fd2_1, fd2_2, fd2_3, fd2_4, fd2_5, fd2_6, fd3_0, fd3_1, fd3_2, fd3_3, fd3_4, fd3_5, fd3_6, fd4_0, fd4_1, fd4_2, fd4_3, fd4_4, fd9_0, fd9_1, fd9_2, fd9_3, fd9_4, fd9_5, fd9_6, fd9_7, fd23_0, fd23_1, fd23_2, fd23_3, fd23_4, fd23_5, fd23_6, fd23_7, fd23_8, fd23_9, fd23_10, fd23_11, d1, d2]
           show _ ∧ _ ∧ _ ∧ _
           refine ⟨rfl, by trivial, (fun H hI => by simp only [G, Z, Y, un_neg, Int.reduceEq, Int.reduceLE, cutD, Nat.reduceBEq, Nat.reduceAdd, Nat.reduceMul, Nat.reduceSub, Nat.reducePow, Nat.reduceLT, Nat.reduceGT, Nat.reduceLeDiff, Nat.reduceEqDiff, Int.reduceToNat, gt_iff_lt, if_true, if_false, beq_self_eq_true, reduceIte, decide_true, decide_false, fd2_0, fd2_1, fd2_2, fd2_3, fd2_4, fd2_5, fd2_6, fd3_0, fd3_1, fd3_2, fd3_3, fd3_4, fd3_5, fd3_6, fd4_0, fd4_1, fd4_2, fd4_3, fd4_4, fd9_0, fd9_1, fd9_2, fd9_3, fd9_4, fd9_5, fd9_6, fd9_7, fd23_0, fd23_1, fd23_2, fd23_3, fd23_4, fd23_5, fd23_6, fd23_7, fd23_8, fd23_9, fd23_10, fd23_11, d1, d2]), ?_⟩
           show GoW _ _ _ _ _ _ _ _ _ _ _ _ _ _)
        | ((first | refine GoW.call (f := 9) (by decide) (by rfl) rfl Tryd.func9 (by rfl) (by decide) rfl ?_ | refine GoW.callG (f := 9) (by decide) (by rfl) (by rfl) rfl Tryd.func9 (by rfl) (by decide) rfl ?_)
           (refine (known _).ret ?_)
           refine ⟨by (first | exact fun h => absurd h (by decide) | (intro _; trivial)), ?_⟩)
        | ((first | refine GoR.call (f := 9) (by decide) (by rfl) rfl Tryd.func9 (by decide) (by rfl) ?_ | refine GoR.callG (f := 9) (by decide) (by rfl) (by rfl) rfl Tryd.func9 (by decide) (by rfl) ?_)
           (refine (known _).ret ?_))
        | refine Go.condT (by rfl) ?_
        | refine Go.condF (by rfl) ?_
        | refine GoR.skipG (by decide) rfl rfl ?_
        | refine GoW.skipG (by decide) rfl rfl (by (first | exact fun h => absurd h (by decide) | (intro _; trivial))) ?_
        | (refine GoR.splitG rfl (fun hc => ?_) (fun hc => ?_) <;> simp only [hc])
        | refine Go.condB rfl (fun hc => ?_) (fun hc => ?_))
      refine ⟨(by first | exact .inl rfl | exact .inr rfl), fin ?_⟩
      rw [resD_tmp (fn := Tryd.f3) rfl]
      simp only [optThen_some, resultD_tmp, resultD_cell, G, Z, Y, un_neg, Int.reduceEq, Int.reduceLE, cutD, Nat.reduceBEq, Nat.reduceAdd, Nat.reduceMul, Nat.reduceSub, Nat.reducePow, Nat.reduceLT, Nat.reduceGT, Nat.reduceLeDiff, Nat.reduceEqDiff, Int.reduceToNat, gt_iff_lt, if_true, if_false, beq_self_eq_true, reduceIte, decide_true, decide_false, fd2_0, fd2_1, fd2_2, fd2_3, fd2_4, fd2_5, fd2_6, fd3_0, fd3_1, fd3_2, fd3_3, fd3_4, fd3_5, fd3_6, fd4_0, fd4_1, fd4_2, fd4_3, fd4_4, fd9_0, fd9_1, fd9_2, fd9_3, fd9_4, fd9_5, fd9_6, fd9_7, fd23_0, fd23_1, fd23_2, fd23_3, fd23_4, fd23_5, fd23_6, fd23_7, fd23_8, fd23_9, fd23_10, fd23_11]
      exact ⟨_, _, rfl, .bool, rfl⟩
  have hab := fun S => compareSt (orc := O) a b S
  have hba := fun S => compareSt (orc := O) b a S
  have hca := fun S => stCheck a (by omega) S
  have hra := fun S => refCheckStamp a (by omega) S
  have hco := fun S => refCompare (orc := O) a b S
  have hnw := fun S => newer (orc := O) a b S
  have hta := fun S => stText a ha (by omega) S
  have hst := fun S => stampText (orc := O) a ha (by omega) S
  have hoa := fun S => ofSt (orc := O) a S
  have hob := fun S => ofSt (orc := O) b S
  rw [cmpSt_swap] at hba
  have hz := cmpSt_zero (a := a) (b := b)
  have hrange : cmpSt a b = -1 ∨ cmpSt a b = 0 ∨ cmpSt a b = 1 := by
    rcases cmpSt_cases a b with ⟨e, _⟩ | ⟨e, _⟩ | ⟨e, _⟩
    · exact .inl e
    · exact .inr (.inl e)
    · exact .inr (.inr e)
  generalize cmpSt a b = x at *
  generalize chk a = y at *
  generalize textB a = t at *
  obtain ⟨a1, a2, a3, a4⟩ := a
  obtain ⟨b1, b2, b3, b4⟩ := b
  simp only [St.c, St.mk.injEq] at *
  have d1 : decide (100 < (a4.size : Int)) = false := by rw [decide_eq_false_iff_not]; omega
  have d2 : decide (100 < (b4.size : Int)) = false := by rw [decide_eq_false_iff_not]; omega
  have w0 : IntKind.i64.wrap (0 - x) = 0 - x := wrap64 (by omega) (by omega)
  have e1 : decide (0 < x) = (x == 1) := by
    rw [Bool.eq_iff_iff, decide_eq_true_iff, beq_iff_eq]
    omega
  have e2 : decide (a1 = b1 ∧ a2 = b2 ∧ a3 = b3 ∧ a4 = b4) = (x == 0) := by
    rw [Bool.eq_iff_iff, decide_eq_true_iff, beq_iff_eq]
    exact hz.symm
  simp only [e1] at hnw
  refine CallD.drop ?_
  refine CallD.body Tryd.func3 rfl (by simp [Tryd.ntmps3]) ?_
  rw [Tryd.ntmps3]
  repeat' (first
    | refine Go.seq ?_
    | refine Go.rg ?_
    | refine GoR.nil ?_
    | refine Go.skip ?_
    | refine Go.ret ?_
    | refine Go.block ?_
    | refine Go.exit ?_
    | refine Go.blkX ?_
    | refine Go.blkN ?_
    | refine Go.passX ?_
    | refine Go.lpX ?_
    | (refine Go.blkE (by decide) ?_)
    | (refine Go.rgS dmx (by decide) ?_)
    | (refine Go.rgD [2] (fun H => objAt H S.length = some [.int .i64 a1, .int .i64 a2, .int .i64 a3, .str a4] ∧ objAt H (S.length + 1) = some [.int .i64 b1, .int .i64 b2, .int .i64 b3, .str b4]) dmx (by decide) 3 (by decide) ?_ ?_
       · (simp only [List.append_assoc, List.cons_append, List.nil_append, objAt_app, objAt_app0, objAt_succ, objAt_zero, and_self]))
    | (refine Go.rgD [2, 32] (fun H => objAt H S.length = some [.int .i64 a1, .int .i64 a2, .int .i64 a3, .str a4] ∧ objAt H (S.length + 1) = some [.int .i64 b1, .int .i64 b2, .int .i64 b3, .str b4]) dmx (by decide) 33 (by decide) ?_ ?_
       · (simp only [List.append_assoc, List.cons_append, List.nil_append, objAt_app, objAt_app0, objAt_succ, objAt_zero, and_self]))
    | refine GoW.nil rfl ?_
    | ((first | refine GoR.op (by decide) (by rfl) ?_ | refine GoR.opG (by decide) (by rfl) (by rfl) ?_ | refine GoW.op (by decide) (by rfl) rfl ?_ | refine GoW.opG (by decide) (by rfl) rfl (by rfl) ?_)
       conv => arg 1; simp only [G, Z, Y, un_neg, Int.reduceEq, Int.reduceLE, cutD, Nat.reduceBEq, Nat.reduceAdd, Nat.reduceMul, Nat.reduceSub, Nat.reducePow, Nat.reduceLT, Nat.reduceGT, Nat.reduceLeDiff, Nat.reduceEqDiff, Int.reduceToNat, gt_iff_lt, if_true, if_false, beq_self_eq_true, reduceIte, decide_true, decide_false, fd2_0, fd2_1, fd2_2, fd2_3, fd2_4, fd2_5, fd2_6, fd3_0, fd3_1, fd3_2, fd3_3, fd3_4, fd3_5, fd3_6, fd4_0, fd4_1, fd4_2, fd4_3, fd4_4, fd9_0, fd9_1, fd9_2, fd9_3, fd9_4, fd9_5, fd9_6, fd9_7, fd23_0, fd23_1, fd23_2, fd23_3, fd23_4, fd23_5, fd23_6, fd23_7, fd23_8, fd23_9, fd23_10, fd23_11, d1, d2, w0, eq_st, e2, eq_self]
       first | show GoR _ _ _ _ _ _ _ _ _ _ | (show _ ∧ _; refine ⟨by (first | exact fun h => absurd h (by decide) | (intro _; (simp only [List.append_assoc, List.cons_append, List.nil_append, objAt_app, objAt_app0, objAt_succ, objAt_zero, and_self]))), ?_⟩; show GoW _ _ _ _ _ _ _ _ _ _ _ _ _ _))
    | ((first | refine GoW.readT (by decide) (by rfl) ?_ | refine GoW.readTG (by decide) (by rfl) (by rfl) ?_)
       conv => arg 1; simp only [G, Z, Y, un_neg, Int.reduceEq, Int.reduceLE, cutD, Nat.reduceBEq, Nat.reduceAdd, Nat.reduceMul, Nat.reduceSub, Nat.reducePow, Nat.reduceLT, Nat.reduceGT, Nat.reduceLeDiff, Nat.reduceEqDiff, Int.reduceToNat, gt_iff_lt, if_true, if_false, beq_self_eq_true, reduceIte, decide_true, decide_false, fd2_0, fd2_1, fd2_2, fd2_3, fd2_4, fd2_5, fd2_6, fd3_0, fd3_1, fd3_2, fd3_3, fd3_4, fd3_5, fd3_6, fd4_0, fd4_1, fd4_2, fd4_3, fd4_4, fd9_0, fd9_1, fd9_2, fd9_3, fd9_4, fd9_5, fd9_6, fd9_7, fd23_0, fd23_1, fd23_2, fd23_3, fd23_4, fd23_5, fd23_6, fd23_7, fd23_8, fd23_9, fd23_10, fd23_11, d1, d2, w0, eq_st, e2, eq_self]
       show _ ∧ _ ∧ _ ∧ _
       refine ⟨rfl, by (simp only [List.append_assoc, List.cons_append, List.nil_append, objAt_app, objAt_app0, objAt_succ, objAt_zero, and_self]), (fun H hI => by (try dsimp only at hI); simp only [G, Z, Y, un_neg, Int.reduceEq, Int.reduceLE, cutD, Nat.reduceBEq, Nat.reduceAdd, Nat.reduceMul, Nat.reduceSub, Nat.reducePow, Nat.reduceLT, Nat.reduceGT, Nat.reduceLeDiff, Nat.reduceEqDiff, Int.reduceToNat, gt_iff_lt, if_true, if_false, beq_self_eq_true, reduceIte, decide_true, decide_false, fd2_0, fd2_1, fd2_2, fd2_3, fd2_4, fd2_5, fd2_6, fd3_0, fd3_1, fd3_2, fd3_3, fd3_4, fd3_5, fd3_6, fd4_0, fd4_1, fd4_2, fd4_3, fd4_4, fd9_0, fd9_1, fd9_2, fd9_3, fd9_4, fd9_5, fd9_6, fd9_7, fd23_0, fd23_1, fd23_2, fd23_3, fd23_4, fd23_5, fd23_6, fd23_7, fd23_8, fd23_9, fd23_10, fd23_11, d1, d2, w0, eq_st, e2, eq_self, hI]), ?_⟩
       show GoW _ _ _ _ _ _ _ _ _ _ _ _ _ _)
    | ((first | refine GoW.call (f := 9) (by decide) (by rfl) rfl Tryd.func9 (by rfl) (by decide) rfl ?_ | refine GoW.callG (f := 9) (by decide) (by rfl) (by rfl) rfl Tryd.func9 (by rfl) (by decide) rfl ?_)
       (refine (known _).ret ?_)
       refine ⟨by (first | exact fun h => absurd h (by decide) | (intro _; (simp only [List.append_assoc, List.cons_append, List.nil_append, objAt_app, objAt_app0, objAt_succ, objAt_zero, and_self]))), ?_⟩)
    | ((first | refine GoR.call (f := 9) (by decide) (by rfl) rfl Tryd.func9 (by decide) (by rfl) ?_ | refine GoR.callG (f := 9) (by decide) (by rfl) (by rfl) rfl Tryd.func9 (by decide) (by rfl) ?_)
       (refine (known _).ret ?_))
    | ((first | refine GoW.call (f := 11) (by decide) (by rfl) rfl Tryd.func11 (by rfl) (by decide) rfl ?_ | refine GoW.callG (f := 11) (by decide) (by rfl) (by rfl) rfl Tryd.func11 (by rfl) (by decide) rfl ?_)
       (first | (refine (hoa _).ret ?_) | (refine (hob _).ret ?_))
       refine ⟨by (first | exact fun h => absurd h (by decide) | (intro _; (simp only [List.append_assoc, List.cons_append, List.nil_append, objAt_app, objAt_app0, objAt_succ, objAt_zero, and_self]))), ?_⟩)
    | ((first | refine GoR.call (f := 11) (by decide) (by rfl) rfl Tryd.func11 (by decide) (by rfl) ?_ | refine GoR.callG (f := 11) (by decide) (by rfl) (by rfl) rfl Tryd.func11 (by decide) (by rfl) ?_)
       (first | (refine (hoa _).ret ?_) | (refine (hob _).ret ?_)))
    | ((first | refine GoW.call (f := 10) (by decide) (by rfl) rfl Tryd.func10 (by rfl) (by decide) rfl ?_ | refine GoW.callG (f := 10) (by decide) (by rfl) (by rfl) rfl Tryd.func10 (by rfl) (by decide) rfl ?_)
       (refine (hco _).ret ?_)
       refine ⟨by (first | exact fun h => absurd h (by decide) | (intro _; (simp only [List.append_assoc, List.cons_append, List.nil_append, objAt_app, objAt_app0, objAt_succ, objAt_zero, and_self]))), ?_⟩)
    | ((first | refine GoR.call (f := 10) (by decide) (by rfl) rfl Tryd.func10 (by decide) (by rfl) ?_ | refine GoR.callG (f := 10) (by decide) (by rfl) (by rfl) rfl Tryd.func10 (by decide) (by rfl) ?_)
       (refine (hco _).ret ?_))
    | ((first | refine GoW.call (f := 12) (by decide) (by rfl) rfl Tryd.func12 (by rfl) (by decide) rfl ?_ | refine GoW.callG (f := 12) (by decide) (by rfl) (by rfl) rfl Tryd.func12 (by rfl) (by decide) rfl ?_)
       (refine (hca _).ret ?_)
       refine ⟨by (first | exact fun h => absurd h (by decide) | (intro _; (simp only [List.append_assoc, List.cons_append, List.nil_append, objAt_app, objAt_app0, objAt_succ, objAt_zero, and_self]))), ?_⟩)
    | ((first | refine GoR.call (f := 12) (by decide) (by rfl) rfl Tryd.func12 (by decide) (by rfl) ?_ | refine GoR.callG (f := 12) (by decide) (by rfl) (by rfl) rfl Tryd.func12 (by decide) (by rfl) ?_)
       (refine (hca _).ret ?_))
    | ((first | refine GoW.call (f := 13) (by decide) (by rfl) rfl Tryd.func13 (by rfl) (by decide) rfl ?_ | refine GoW.callG (f := 13) (by decide) (by rfl) (by rfl) rfl Tryd.func13 (by rfl) (by decide) rfl ?_)
       (refine (hra _).ret ?_)
       refine ⟨by (first | exact fun h => absurd h (by decide) | (intro _; (simp only [List.append_assoc, List.cons_append, List.nil_append, objAt_app, objAt_app0, objAt_succ, objAt_zero, and_self]))), ?_⟩)
    | ((first | refine GoR.call (f := 13) (by decide) (by rfl) rfl Tryd.func13 (by decide) (by rfl) ?_ | refine GoR.callG (f := 13) (by decide) (by rfl) (by rfl) rfl Tryd.func13 (by decide) (by rfl) ?_)
       (refine (hra _).ret ?_))
    | ((first | refine GoW.call (f := 14) (by decide) (by rfl) rfl Tryd.func14 (by rfl) (by decide) rfl ?_ | refine GoW.callG (f := 14) (by decide) (by rfl) (by rfl) rfl Tryd.func14 (by rfl) (by decide) rfl ?_)
       (first | (refine (hab _).ret ?_) | (refine (hba _).ret ?_))
       refine ⟨by (first | exact fun h => absurd h (by decide) | (intro _; (simp only [List.append_assoc, List.cons_append, List.nil_append, objAt_app, objAt_app0, objAt_succ, objAt_zero, and_self]))), ?_⟩)
    | ((first | refine GoR.call (f := 14) (by decide) (by rfl) rfl Tryd.func14 (by decide) (by rfl) ?_ | refine GoR.callG (f := 14) (by decide) (by rfl) (by rfl) rfl Tryd.func14 (by decide) (by rfl) ?_)
       (first | (refine (hab _).ret ?_) | (refine (hba _).ret ?_)))
    | ((first | refine GoW.call (f := 15) (by decide) (by rfl) rfl Tryd.func15 (by rfl) (by decide) rfl ?_ | refine GoW.callG (f := 15) (by decide) (by rfl) (by rfl) rfl Tryd.func15 (by rfl) (by decide) rfl ?_)
       (refine (hnw _).ret ?_)
       refine ⟨by (first | exact fun h => absurd h (by decide) | (intro _; (simp only [List.append_assoc, List.cons_append, List.nil_append, objAt_app, objAt_app0, objAt_succ, objAt_zero, and_self]))), ?_⟩)
    | ((first | refine GoR.call (f := 15) (by decide) (by rfl) rfl Tryd.func15 (by decide) (by rfl) ?_ | refine GoR.callG (f := 15) (by decide) (by rfl) (by rfl) rfl Tryd.func15 (by decide) (by rfl) ?_)
       (refine (hnw _).ret ?_))
    | ((first | refine GoW.call (f := 16) (by decide) (by rfl) rfl Tryd.func16 (by rfl) (by decide) rfl ?_ | refine GoW.callG (f := 16) (by decide) (by rfl) (by rfl) rfl Tryd.func16 (by rfl) (by decide) rfl ?_)
       (refine (hta _).ret ?_)
       refine ⟨by (first | exact fun h => absurd h (by decide) | (intro _; (simp only [List.append_assoc, List.cons_append, List.nil_append, objAt_app, objAt_app0, objAt_succ, objAt_zero, and_self]))), ?_⟩)
    | ((first | refine GoR.call (f := 16) (by decide) (by rfl) rfl Tryd.func16 (by decide) (by rfl) ?_ | refine GoR.callG (f := 16) (by decide) (by rfl) (by rfl) rfl Tryd.func16 (by decide) (by rfl) ?_)
       (refine (hta _).ret ?_))
    | ((first | refine GoW.call (f := 17) (by decide) (by rfl) rfl Tryd.func17 (by rfl) (by decide) rfl ?_ | refine GoW.callG (f := 17) (by decide) (by rfl) (by rfl) rfl Tryd.func17 (by rfl) (by decide) rfl ?_)
       (refine (hst _).ret ?_)
       refine ⟨by (first | exact fun h => absurd h (by decide) | (intro _; (simp only [List.append_assoc, List.cons_append, List.nil_append, objAt_app, objAt_app0, objAt_succ, objAt_zero, and_self]))), ?_⟩)
    | ((first | refine GoR.call (f := 17) (by decide) (by rfl) rfl Tryd.func17 (by decide) (by rfl) ?_ | refine GoR.callG (f := 17) (by decide) (by rfl) (by rfl) rfl Tryd.func17 (by decide) (by rfl) ?_)
       (refine (hst _).ret ?_))
    | refine Go.condT (by rfl) ?_
    | refine Go.condF (by rfl) ?_
    | refine GoR.skipG (by decide) rfl rfl ?_
    | refine GoW.skipG (by decide) rfl rfl (by (first | exact fun h => absurd h (by decide) | (intro _; (simp only [List.append_assoc, List.cons_append, List.nil_append, objAt_app, objAt_app0, objAt_succ, objAt_zero, and_self])))) ?_
    | (refine GoR.splitG rfl (fun hc => ?_) (fun hc => ?_) <;> simp only [hc])
    | refine Go.condB rfl (fun hc => ?_) (fun hc => ?_))
  refine ⟨(by first | exact .inl rfl | exact .inr rfl), fin ?_⟩
  rw [resD_tmp (fn := Tryd.f3) rfl]
  simp only [optThen_some, resultD_tmp, resultD_cell, G, Z, Y, un_neg, Int.reduceEq, Int.reduceLE, cutD, Nat.reduceBEq, Nat.reduceAdd, Nat.reduceMul, Nat.reduceSub, Nat.reducePow, Nat.reduceLT, Nat.reduceGT, Nat.reduceLeDiff, Nat.reduceEqDiff, Int.reduceToNat, gt_iff_lt, if_true, if_false, beq_self_eq_true, reduceIte, decide_true, decide_false, fd2_0, fd2_1, fd2_2, fd2_3, fd2_4, fd2_5, fd2_6, fd3_0, fd3_1, fd3_2, fd3_3, fd3_4, fd3_5, fd3_6, fd4_0, fd4_1, fd4_2, fd4_3, fd4_4, fd9_0, fd9_1, fd9_2, fd9_3, fd9_4, fd9_5, fd9_6, fd9_7, fd23_0, fd23_1, fd23_2, fd23_3, fd23_4, fd23_5, fd23_6, fd23_7, fd23_8, fd23_9, fd23_10, fd23_11]
  exact ⟨_, _, rfl, .bool, rfl⟩
end Go.Proofs.DnT
namespace Go.Proofs.YtipeffaojbhbmaaDoor
open Go Go.AM Go.DM Go.ChangeShapes Go.WideShapes Go.ChangeAt Go.RowKit Go.ChangeMaps
set_option maxRecDepth 100000 in
theorem stampAny_lifted (os : Os) (started : os.Started) (H : Type) (enc : TypeId × Value → H) :
    ReturnsInHanded {} Tryd.checked os 3 .any (fun w args => (Rows.stampAnySpec.pre enc Tryd.prog Tryd.f3 Rows.stampAnyRow.domain false w args ∧ laidMetH Tryd.prog laid5 w) ∧ sizedMet enc Tryd.prog Tryd.f3 (OpenSpec.ofChange Rows.stampAnySpec) false w args)
      (Rows.stampAnySpec.post enc Tryd.prog Tryd.f3 false true false false) := by
  refine wrap (C := Tryd.checked) (X := fun w _ => laidMetH Tryd.prog laid5 w) (fun _ _ _ hh h => h.of_heap hh) Tryd.own started (by kernel_rfl) Tryd.func3
    (ChangeSpec.witness_shaped (enc := enc) (C := Tryd.checked) (os := os) (X := fun w _ => laidMetH Tryd.prog laid5 w) false (World.laidAll Tryd.prog os laid5) #[.agg #[.int .i64 0, .int .i64 0, .int .i64 0, .string ⟨#[]⟩], .agg #[.int .i64 0, .int .i64 0, .int .i64 0, .string ⟨#[]⟩]] 8 (World.laidAll_os _ _ _)
      (World.shaped_of_ZipB (by kernel_rfl) (by kernel_rfl)) (by kernel_rfl) (by kernel_rfl) (by kernel_rfl)
      (by rw [MakeChecks.laidMetH_plain _ _ _ (by kernel_rfl)]; exact laidMet_laidAll _ (by kernel_rfl) (by kernel_rfl))) ?_
  intro W base args ds gs before hval0 hW hL hsh
  have hval : ∀ (j : Nat) t v, Tryd.f3.params[j]? = some t → args[j]? = some v → Value.okWide Tryd.prog W .any base t v := hval0
  have hW' := hW
  obtain ⟨p, q, hA0, hV, rfl, hfz, hnd⟩ := hW
  have hA : DataW.TrodAll enc Tryd.prog W 0 (fun _ => true) true Tryd.f3.params.toList args.toList ds p := hA0
  have hcalls := law_true (A := keepsB W) keepsB_kept (f := 3) (tys := Tryd.f3.params.toList) (ts := [23, 2, 9]) (DnT.O_sound (start_of hL hsh)) (fun _ _ hb => keepsB_start hb) (by kernel_rfl) (by rw [Tryd.params3]; decide)
    (fun j t v a b => hval j t v (by simpa using a) (by simpa using b)) hA fun xss hx => by
      rw [Tryd.params3] at hx ⊢
      match xss, hx with
      | [x1, x2], hx =>
        obtain ⟨⟨m1, h1⟩, ⟨m2, h2⟩, _⟩ := hx
        obtain ⟨a, rfl, ha⟩ := DnT.wt_st h1
        obtain ⟨b, rfl, hb⟩ := DnT.wt_st h2
        exact (DnT.lawAny a b ha hb []).mono fun d S' h => h.2
  rw [Tryd.params3] at hA hval
  obtain ⟨v0, v1, d0, d1, p0, p1, rfl, rfl, rfl, h0, h1⟩ := trodAll_two hA
  obtain ⟨rfl, rfl⟩ := trodVars_none hV
  refine hcalls.mono fun e W' ⟨he, hb⟩ => ?_
  subst he
  exact ⟨_, rfl, post_true (tb := 4) hW' rfl rfl Tryd.laidOut (of_decide_eq_true (by kernel_rfl)) (by kernel_rfl) (by kernel_rfl) hb⟩
theorem stampAny_holds : Rows.StampAnySaid :=
  OpenClaim.holds_of_wide 3 Tryd.f3 rfl rfl rfl rfl rfl rfl rfl ⟨rfl, rfl, rfl, rfl, rfl⟩ rfl rfl rfl rfl rfl (by kernel_rfl) Tryd.func3 (by kernel_rfl)
    (of_decide_eq_true (by kernel_rfl)) (by unfold Func.isWrapper; first | (rw [if_pos (by decide +kernel)]; kernel_rfl) | (rw [if_neg (by decide +kernel)]; exact ⟨rfl, rfl⟩))
    (fun os started H enc _ => stampAny_lifted os started H enc)
theorem stampAny_card : Rows.StampAnyCardSaid :=
  Claim7.holds_tied_plain_at .later [] [.data, .data, .data, .data, .pinned] true (true, "638ff52e941bff5700422cbee2dbecb11b8ec7cf0641023e4f6a0a483b11efe6") false
    stampAny_holds (fun _ h => by cases h) (by kernel_rfl) (fun _ h => by cases h) stampAny_row_tie rfl ⟨rfl, rfl⟩ (by kernel_rfl) rfl
    (fun f fn hf hfn => by
      obtain rfl : f = 3 := Option.some.inj ((show Tryd.prog.funcNamed "canton/cantonlaw3.StampAny" = some 3 by kernel_rfl).symm.trans hf) |>.symm
      obtain rfl : fn = Tryd.f3 := (Option.some.inj (Tryd.func3.symm.trans hfn)).symm
      exact ⟨by kernel_rfl, fun j t ht => by
        rw [Tryd.params3] at ht
        have hm : t ∈ [23] := by
          have := Array.mem_of_getElem? ht
          simpa using this
        have hall : ([23].all fun u => !Tryd.prog.wantsStandIn u) = true := by kernel_rfl
        exact (show Tryd.prog.wantsStandIn t = false by simpa using List.all_eq_true.1 hall t hm)⟩)
    (by kernel_rfl)
end Go.Proofs.YtipeffaojbhbmaaDoor
