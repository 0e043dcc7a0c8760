/- How many nodes a tree has, as the law counts them. -/
import Derived.Test.YtcnjndjahloifaaDaD10
set_option linter.unusedSimpArgs false
set_option linter.unusedVariables false
namespace Go.Proofs.DaT
open Go Go.DM
set_option maxRecDepth 100000
variable {orc : DOracle}

/-- How many nodes there are. -/
def cnt : Nd → Nat
  | .mk _ _ _ ks => 1 + (ks.attach.map fun ⟨k, _⟩ => cnt k).sum
termination_by n => SizeOf.sizeOf n
decreasing_by exact Nd.kid_lt ‹_›
def cnts (ks : List Nd) : Nat := (ks.map cnt).sum
theorem cnt_mk {op nm : ByteArray} {n : Int} {ks : List Nd} : cnt (.mk op nm n ks) = 1 + cnts ks := by
  rw [cnt, cnts]
  simp
theorem cnts_succ {ks : List Nd} {i : Nat} (h : i < ks.length) : cnts (ks.take (i + 1)) = cnts (ks.take i) + cnt ks[i] := by
  rw [← List.take_append_getElem h]
  simp only [cnts, List.map_append, List.sum_append, List.map_cons, List.map_nil, List.sum_cons, List.sum_nil, Nat.add_zero]

/-- What is left of a count is no more than what was, but one; and if it is something, the tree has few. -/
theorem left (n : Nd) : ∀ (k : Int) (_ : 0 ≤ k) (_ : k ≤ 100) (S : Mem), CallD Try.prog orc 12 [.agg n.c, .int .i64 k] S fun d S' => S' = S ∧ ∃ r : Int, d = .int .i64 r ∧ -1 ≤ r ∧ r ≤ k - 1 ∧ (0 ≤ r → Slim 100 n ∧ (cnt n : Int) ≤ k - r) := by
  induction n using Nd.ind with
  | h op nm n ks ih =>
    intro k hk0 hk1 S
    rw [Nd.c_mk]
    refine CallD.drop ?_
    refine CallD.body Try.func12 rfl (by simp [Try.ntmps12]) ?_
    rw [Try.ntmps12]
    repeat' (first
      | refine Go.seq ?_
      | refine Go.rg ?_
      | refine GoR.nil ?_
      | refine Go.skip ?_
      | refine Go.ret ?_
      | refine Go.block ?_
      | refine Go.exit ?_
      | refine Go.blkX ?_
      | refine Go.blkN ?_
      | refine Go.passX ?_
      | refine Go.lpX ?_
      | (refine Go.blkE (by decide) ?_)
      | (refine Go.rgS dmx (by decide) ?_)
      | ((first | refine GoR.op (by decide) (by rfl) ?_ | refine GoR.opG (by decide) (by rfl) (by rfl) ?_)
         conv => arg 1; simp only [G, Z, Y, un_neg, Int.reduceEq, Int.reduceLE, cutD, Nat.reduceBEq, Nat.reduceAdd, Nat.reduceMul, Nat.reduceSub, Nat.reducePow, Nat.reduceLT, Nat.reduceGT, Nat.reduceLeDiff, Nat.reduceEqDiff, Int.reduceToNat, gt_iff_lt, if_true, if_false, beq_self_eq_true, reduceIte, decide_true, decide_false, fd2_0, fd2_1, fd2_2, fd2_3, fd2_4, fd2_5, fd2_6, fd2_7, fd2_8, fd2_9, fd3_0, fd3_1, fd3_2, fd3_3, fd3_4, fd3_5, fd3_6, fd3_7, fd3_8, fd3_9, fd9_0, fd9_1, fd9_2, fd9_3, fd9_4, fd9_5, fd9_6, fd9_7, fd22_0, fd22_1, fd22_2, fd22_3, fd22_4, fd22_5, fd22_6, fd22_7, fd22_8, fd22_9, fd22_10, fd22_11, fd22_12, fd22_13, fd22_14, fd22_15, fd22_16, fd22_17, fd22_18, fd22_19, fd22_20, fd22_21, fd22_22, fd22_23, fd24_0, fd24_1, fd24_2, fd24_3, fd24_4, fd24_5, fd24_6, fd24_7, fd24_8, fd24_9, fd24_10, fd24_11, wrap_pred (show -100 ≤ k by omega) (show k ≤ 1000 by omega)]
         show GoR _ _ _ _ _ _ _ _ _ _)
      | refine Go.condT (by rfl) ?_
      | refine Go.condF (by rfl) ?_
      | refine GoR.skipG (by decide) rfl rfl ?_
      | (refine GoR.splitG rfl (fun hc => ?_) (fun hc => ?_) <;> simp only [hc])
      | refine Go.condB rfl (fun hc => ?_) (fun hc => ?_))
    all_goals first
      | (skip
         refine ⟨(by first | exact .inl rfl | exact .inr rfl), fin ?_⟩
         rw [resD_tmp (fn := Try.f12) rfl]
         simp only [optThen_some, resultD_tmp, resultD_cell, G, Z, Y, un_neg, Int.reduceEq, Int.reduceLE, cutD, Nat.reduceBEq, Nat.reduceAdd, Nat.reduceMul, Nat.reduceSub, Nat.reducePow, Nat.reduceLT, Nat.reduceGT, Nat.reduceLeDiff, Nat.reduceEqDiff, Int.reduceToNat, gt_iff_lt, if_true, if_false, beq_self_eq_true, reduceIte, decide_true, decide_false, fd2_0, fd2_1, fd2_2, fd2_3, fd2_4, fd2_5, fd2_6, fd2_7, fd2_8, fd2_9, fd3_0, fd3_1, fd3_2, fd3_3, fd3_4, fd3_5, fd3_6, fd3_7, fd3_8, fd3_9, fd9_0, fd9_1, fd9_2, fd9_3, fd9_4, fd9_5, fd9_6, fd9_7, fd22_0, fd22_1, fd22_2, fd22_3, fd22_4, fd22_5, fd22_6, fd22_7, fd22_8, fd22_9, fd22_10, fd22_11, fd22_12, fd22_13, fd22_14, fd22_15, fd22_16, fd22_17, fd22_18, fd22_19, fd22_20, fd22_21, fd22_22, fd22_23, fd24_0, fd24_1, fd24_2, fd24_3, fd24_4, fd24_5, fd24_6, fd24_7, fd24_8, fd24_9, fd24_10, fd24_11]
         exact ⟨_, _, rfl, .int, _, rfl, by omega, by omega, by omega⟩)
      | skip
    have hnm : nm.size ≤ 100 := by rename_i hq; simp at hq; omega
    refine Go.keep [(1, .int .i64 (k - 1)), (2, .ptr S.length 0), (5, .int .i64 ((0 : Nat) : Int))] (.cons .refl (.cons .refl (.cons .refl (.nil)))) ?_
    refine Go.while (α := Nat × Int) (fun a => ks.length - a.1) (fun a => [(1, .int .i64 a.2), (2, .ptr S.length 0), (5, .int .i64 (a.1 : Int))]) (fun _ => S ++ [.obj [.str op, .str nm, .int .i64 n, .sl none 4 ks.length (ndsC ks)]])
      (fun a => a.1 ≤ ks.length ∧ -1 ≤ a.2 ∧ a.2 ≤ k - 1 - a.1 ∧ (0 ≤ a.2 → (∀ j (h : j < ks.length), j < a.1 → Slim 100 ks[j]) ∧ (cnts (ks.take a.1) : Int) ≤ k - 1 - a.2)) ?_ (0, k - 1) ⟨Nat.zero_le _, by dsimp only; omega, by dsimp only; omega, by simp [cnts]⟩
    rintro ⟨i, c⟩ ⟨hi, hc1, hc2, hs⟩ next
    dsimp only at hi hc1 hc2 hs next
    by_cases hl : i < ks.length
    · by_cases h0 : 0 ≤ c
      · repeat' (first
          | refine Go.seq ?_
          | refine Go.rg ?_
          | refine GoR.nil ?_
          | refine Go.skip ?_
          | refine Go.ret ?_
          | refine Go.block ?_
          | refine Go.exit ?_
          | refine Go.blkX ?_
          | refine Go.blkN ?_
          | refine Go.passX ?_
          | refine Go.lpX ?_
          | (refine Go.blkE (by decide) ?_)
          | (refine Go.rgS dmx (by decide) ?_)
          | ((first | refine GoR.op (by decide) (by rfl) ?_ | refine GoR.opG (by decide) (by rfl) (by rfl) ?_)
             conv => arg 1; simp only [G, Z, Y, un_neg, Int.reduceEq, Int.reduceLE, cutD, Nat.reduceBEq, Nat.reduceAdd, Nat.reduceMul, Nat.reduceSub, Nat.reducePow, Nat.reduceLT, Nat.reduceGT, Nat.reduceLeDiff, Nat.reduceEqDiff, Int.reduceToNat, gt_iff_lt, if_true, if_false, beq_self_eq_true, reduceIte, decide_true, decide_false, fd2_0, fd2_1, fd2_2, fd2_3, fd2_4, fd2_5, fd2_6, fd2_7, fd2_8, fd2_9, fd3_0, fd3_1, fd3_2, fd3_3, fd3_4, fd3_5, fd3_6, fd3_7, fd3_8, fd3_9, fd9_0, fd9_1, fd9_2, fd9_3, fd9_4, fd9_5, fd9_6, fd9_7, fd22_0, fd22_1, fd22_2, fd22_3, fd22_4, fd22_5, fd22_6, fd22_7, fd22_8, fd22_9, fd22_10, fd22_11, fd22_12, fd22_13, fd22_14, fd22_15, fd22_16, fd22_17, fd22_18, fd22_19, fd22_20, fd22_21, fd22_22, fd22_23, fd24_0, fd24_1, fd24_2, fd24_3, fd24_4, fd24_5, fd24_6, fd24_7, fd24_8, fd24_9, fd24_10, fd24_11, show decide ((i : Int) < (ks.length : Int)) = true by simp; omega, show decide (c ≥ 0) = true by simp; omega, show decide (0 ≤ c) = true by simp; omega, ndsAt hl, wrap_succ (show i < 4611686018427387904 by omega)]
             show GoR _ _ _ _ _ _ _ _ _ _)
          | ((first | refine GoR.call (f := 12) (by decide) (by rfl) rfl Try.func12 (by decide) (by rfl) ?_ | refine GoR.callG (f := 12) (by decide) (by rfl) (by rfl) rfl Try.func12 (by decide) (by rfl) ?_)
             (refine (ih _ (List.getElem_mem hl) c h0 (by omega) _).retE ?_; rintro _ ⟨r, rfl, h1, h2, h3⟩))
          | refine Go.condT (by rfl) ?_
          | refine Go.condF (by rfl) ?_
          | refine GoR.skipG (by decide) rfl rfl ?_
          | (refine GoR.splitG rfl (fun hc => ?_) (fun hc => ?_) <;> simp only [hc])
          | refine Go.condB rfl (fun hc => ?_) (fun hc => ?_))
        refine Go.lpN ?_
        refine Go.keep [(1, .int .i64 r), (2, .ptr S.length 0), (5, .int .i64 ((i + 1 : Nat) : Int))] (.cons .refl (.cons .refl (.cons .refl (.nil)))) ?_
        refine next (i + 1, r) (by dsimp only; omega) ⟨hl, h1, by dsimp only; omega, fun hr => ⟨fun j hj hlt => ?_, ?_⟩⟩
        all_goals dsimp only at hr
        rotate_left
        · have := (hs h0).2
          have := (h3 hr).2
          rw [cnts_succ hl]
          push_cast
          omega
        dsimp only at hlt
        rcases Nat.lt_or_ge j i with h | h
        · exact (hs h0).1 j hj h
        · obtain rfl : j = i := by omega
          exact (h3 hr).1
      · clear next
        repeat' (first
          | refine Go.seq ?_
          | refine Go.rg ?_
          | refine GoR.nil ?_
          | refine Go.skip ?_
          | refine Go.ret ?_
          | refine Go.block ?_
          | refine Go.exit ?_
          | refine Go.blkX ?_
          | refine Go.blkN ?_
          | refine Go.passX ?_
          | refine Go.lpX ?_
          | (refine Go.blkE (by decide) ?_)
          | (refine Go.rgS dmx (by decide) ?_)
          | ((first | refine GoR.op (by decide) (by rfl) ?_ | refine GoR.opG (by decide) (by rfl) (by rfl) ?_)
             conv => arg 1; simp only [G, Z, Y, un_neg, Int.reduceEq, Int.reduceLE, cutD, Nat.reduceBEq, Nat.reduceAdd, Nat.reduceMul, Nat.reduceSub, Nat.reducePow, Nat.reduceLT, Nat.reduceGT, Nat.reduceLeDiff, Nat.reduceEqDiff, Int.reduceToNat, gt_iff_lt, if_true, if_false, beq_self_eq_true, reduceIte, decide_true, decide_false, fd2_0, fd2_1, fd2_2, fd2_3, fd2_4, fd2_5, fd2_6, fd2_7, fd2_8, fd2_9, fd3_0, fd3_1, fd3_2, fd3_3, fd3_4, fd3_5, fd3_6, fd3_7, fd3_8, fd3_9, fd9_0, fd9_1, fd9_2, fd9_3, fd9_4, fd9_5, fd9_6, fd9_7, fd22_0, fd22_1, fd22_2, fd22_3, fd22_4, fd22_5, fd22_6, fd22_7, fd22_8, fd22_9, fd22_10, fd22_11, fd22_12, fd22_13, fd22_14, fd22_15, fd22_16, fd22_17, fd22_18, fd22_19, fd22_20, fd22_21, fd22_22, fd22_23, fd24_0, fd24_1, fd24_2, fd24_3, fd24_4, fd24_5, fd24_6, fd24_7, fd24_8, fd24_9, fd24_10, fd24_11, show decide ((i : Int) < (ks.length : Int)) = true by simp; omega, show decide (c ≥ 0) = false by simp; omega, show decide (0 ≤ c) = false by simp; omega]
             show GoR _ _ _ _ _ _ _ _ _ _)
          | refine Go.condT (by rfl) ?_
          | refine Go.condF (by rfl) ?_
          | refine GoR.skipG (by decide) rfl rfl ?_
          | (refine GoR.splitG rfl (fun hc => ?_) (fun hc => ?_) <;> simp only [hc])
          | refine Go.condB rfl (fun hc => ?_) (fun hc => ?_))
        refine ⟨(by first | exact .inl rfl | exact .inr rfl), fin ?_⟩
        rw [resD_tmp (fn := Try.f12) rfl]
        simp only [optThen_some, resultD_tmp, resultD_cell, G, Z, Y, un_neg, Int.reduceEq, Int.reduceLE, cutD, Nat.reduceBEq, Nat.reduceAdd, Nat.reduceMul, Nat.reduceSub, Nat.reducePow, Nat.reduceLT, Nat.reduceGT, Nat.reduceLeDiff, Nat.reduceEqDiff, Int.reduceToNat, gt_iff_lt, if_true, if_false, beq_self_eq_true, reduceIte, decide_true, decide_false, fd2_0, fd2_1, fd2_2, fd2_3, fd2_4, fd2_5, fd2_6, fd2_7, fd2_8, fd2_9, fd3_0, fd3_1, fd3_2, fd3_3, fd3_4, fd3_5, fd3_6, fd3_7, fd3_8, fd3_9, fd9_0, fd9_1, fd9_2, fd9_3, fd9_4, fd9_5, fd9_6, fd9_7, fd22_0, fd22_1, fd22_2, fd22_3, fd22_4, fd22_5, fd22_6, fd22_7, fd22_8, fd22_9, fd22_10, fd22_11, fd22_12, fd22_13, fd22_14, fd22_15, fd22_16, fd22_17, fd22_18, fd22_19, fd22_20, fd22_21, fd22_22, fd22_23, fd24_0, fd24_1, fd24_2, fd24_3, fd24_4, fd24_5, fd24_6, fd24_7, fd24_8, fd24_9, fd24_10, fd24_11]
        exact ⟨_, _, rfl, .int, c, rfl, hc1, by omega, fun h => absurd h h0⟩
    · clear next
      repeat' (first
        | refine Go.seq ?_
        | refine Go.rg ?_
        | refine GoR.nil ?_
        | refine Go.skip ?_
        | refine Go.ret ?_
        | refine Go.block ?_
        | refine Go.exit ?_
        | refine Go.blkX ?_
        | refine Go.blkN ?_
        | refine Go.passX ?_
        | refine Go.lpX ?_
        | (refine Go.blkE (by decide) ?_)
        | (refine Go.rgS dmx (by decide) ?_)
        | ((first | refine GoR.op (by decide) (by rfl) ?_ | refine GoR.opG (by decide) (by rfl) (by rfl) ?_)
           conv => arg 1; simp only [G, Z, Y, un_neg, Int.reduceEq, Int.reduceLE, cutD, Nat.reduceBEq, Nat.reduceAdd, Nat.reduceMul, Nat.reduceSub, Nat.reducePow, Nat.reduceLT, Nat.reduceGT, Nat.reduceLeDiff, Nat.reduceEqDiff, Int.reduceToNat, gt_iff_lt, if_true, if_false, beq_self_eq_true, reduceIte, decide_true, decide_false, fd2_0, fd2_1, fd2_2, fd2_3, fd2_4, fd2_5, fd2_6, fd2_7, fd2_8, fd2_9, fd3_0, fd3_1, fd3_2, fd3_3, fd3_4, fd3_5, fd3_6, fd3_7, fd3_8, fd3_9, fd9_0, fd9_1, fd9_2, fd9_3, fd9_4, fd9_5, fd9_6, fd9_7, fd22_0, fd22_1, fd22_2, fd22_3, fd22_4, fd22_5, fd22_6, fd22_7, fd22_8, fd22_9, fd22_10, fd22_11, fd22_12, fd22_13, fd22_14, fd22_15, fd22_16, fd22_17, fd22_18, fd22_19, fd22_20, fd22_21, fd22_22, fd22_23, fd24_0, fd24_1, fd24_2, fd24_3, fd24_4, fd24_5, fd24_6, fd24_7, fd24_8, fd24_9, fd24_10, fd24_11, show decide ((i : Int) < (ks.length : Int)) = false by simp; omega]
           show GoR _ _ _ _ _ _ _ _ _ _)
        | refine Go.condT (by rfl) ?_
        | refine Go.condF (by rfl) ?_
        | refine GoR.skipG (by decide) rfl rfl ?_
        | (refine GoR.splitG rfl (fun hc => ?_) (fun hc => ?_) <;> simp only [hc])
        | refine Go.condB rfl (fun hc => ?_) (fun hc => ?_))
      refine ⟨(by first | exact .inl rfl | exact .inr rfl), fin ?_⟩
      rw [resD_tmp (fn := Try.f12) rfl]
      simp only [optThen_some, resultD_tmp, resultD_cell, G, Z, Y, un_neg, Int.reduceEq, Int.reduceLE, cutD, Nat.reduceBEq, Nat.reduceAdd, Nat.reduceMul, Nat.reduceSub, Nat.reducePow, Nat.reduceLT, Nat.reduceGT, Nat.reduceLeDiff, Nat.reduceEqDiff, Int.reduceToNat, gt_iff_lt, if_true, if_false, beq_self_eq_true, reduceIte, decide_true, decide_false, fd2_0, fd2_1, fd2_2, fd2_3, fd2_4, fd2_5, fd2_6, fd2_7, fd2_8, fd2_9, fd3_0, fd3_1, fd3_2, fd3_3, fd3_4, fd3_5, fd3_6, fd3_7, fd3_8, fd3_9, fd9_0, fd9_1, fd9_2, fd9_3, fd9_4, fd9_5, fd9_6, fd9_7, fd22_0, fd22_1, fd22_2, fd22_3, fd22_4, fd22_5, fd22_6, fd22_7, fd22_8, fd22_9, fd22_10, fd22_11, fd22_12, fd22_13, fd22_14, fd22_15, fd22_16, fd22_17, fd22_18, fd22_19, fd22_20, fd22_21, fd22_22, fd22_23, fd24_0, fd24_1, fd24_2, fd24_3, fd24_4, fd24_5, fd24_6, fd24_7, fd24_8, fd24_9, fd24_10, fd24_11]
      refine ⟨_, _, rfl, .int, c, rfl, hc1, by omega, fun h => ⟨.mk hnm (by omega) fun x hx => ?_, ?_⟩⟩
      rotate_left
      · have := (hs h).2
        rw [List.take_of_length_le (by omega)] at this
        rw [cnt_mk]
        push_cast
        omega
      obtain ⟨j, hj, rfl⟩ := List.mem_iff_getElem.1 hx
      exact (hs h).1 j hj (by omega)

theorem few9 (n : Nd) (S : Mem) : CallD Try.prog orc 5 [.agg n.c] S fun d S' => S' = S ∧ ∃ b, d = .bool b ∧ (b = true → Slim 100 n ∧ cnt n ≤ 60) := by
  obtain ⟨op, nm, n, ks⟩ := n
  have hleft := fun S => left (orc := orc) (.mk op nm n ks) 60 (by omega) (by omega) S
  rw [Nd.c_mk] at hleft ⊢
  refine CallD.drop ?_
  refine CallD.body Try.func5 rfl (by simp [Try.ntmps5]) ?_
  rw [Try.ntmps5]
  repeat' (first
    | refine Go.seq ?_
    | refine Go.rg ?_
    | refine GoR.nil ?_
    | refine Go.skip ?_
    | refine Go.ret ?_
    | refine Go.block ?_
    | refine Go.exit ?_
    | refine Go.blkX ?_
    | refine Go.blkN ?_
    | refine Go.passX ?_
    | refine Go.lpX ?_
    | (refine Go.blkE (by decide) ?_)
    | (refine Go.rgS dmx (by decide) ?_)
    | ((first | refine GoR.op (by decide) (by rfl) ?_ | refine GoR.opG (by decide) (by rfl) (by rfl) ?_)
       conv => arg 1; simp only [G, Z, Y, un_neg, Int.reduceEq, Int.reduceLE, cutD, Nat.reduceBEq, Nat.reduceAdd, Nat.reduceMul, Nat.reduceSub, Nat.reducePow, Nat.reduceLT, Nat.reduceGT, Nat.reduceLeDiff, Nat.reduceEqDiff, Int.reduceToNat, gt_iff_lt, if_true, if_false, beq_self_eq_true, reduceIte, decide_true, decide_false, fd2_0, fd2_1, fd2_2, fd2_3, fd2_4, fd2_5, fd2_6, fd2_7, fd2_8, fd2_9, fd3_0, fd3_1, fd3_2, fd3_3, fd3_4, fd3_5, fd3_6, fd3_7, fd3_8, fd3_9, fd9_0, fd9_1, fd9_2, fd9_3, fd9_4, fd9_5, fd9_6, fd9_7, fd22_0, fd22_1, fd22_2, fd22_3, fd22_4, fd22_5, fd22_6, fd22_7, fd22_8, fd22_9, fd22_10, fd22_11, fd22_12, fd22_13, fd22_14, fd22_15, fd22_16, fd22_17, fd22_18, fd22_19, fd22_20, fd22_21, fd22_22, fd22_23, fd24_0, fd24_1, fd24_2, fd24_3, fd24_4, fd24_5, fd24_6, fd24_7, fd24_8, fd24_9, fd24_10, fd24_11]
       show GoR _ _ _ _ _ _ _ _ _ _)
    | ((first | refine GoR.call (f := 12) (by decide) (by rfl) rfl Try.func12 (by decide) (by rfl) ?_ | refine GoR.callG (f := 12) (by decide) (by rfl) (by rfl) rfl Try.func12 (by decide) (by rfl) ?_)
       (refine (hleft _).retE ?_; rintro _ ⟨r, rfl, h1, h2, h3⟩))
    | refine Go.condT (by rfl) ?_
    | refine Go.condF (by rfl) ?_
    | refine GoR.skipG (by decide) rfl rfl ?_
    | (refine GoR.splitG rfl (fun hc => ?_) (fun hc => ?_) <;> simp only [hc])
    | refine Go.condB rfl (fun hc => ?_) (fun hc => ?_))
  refine ⟨(by first | exact .inl rfl | exact .inr rfl), fin ?_⟩
  rw [resD_tmp (fn := Try.f5) rfl]
  simp only [optThen_some, resultD_tmp, resultD_cell, G, Z, Y, un_neg, Int.reduceEq, Int.reduceLE, cutD, Nat.reduceBEq, Nat.reduceAdd, Nat.reduceMul, Nat.reduceSub, Nat.reducePow, Nat.reduceLT, Nat.reduceGT, Nat.reduceLeDiff, Nat.reduceEqDiff, Int.reduceToNat, gt_iff_lt, if_true, if_false, beq_self_eq_true, reduceIte, decide_true, decide_false, fd2_0, fd2_1, fd2_2, fd2_3, fd2_4, fd2_5, fd2_6, fd2_7, fd2_8, fd2_9, fd3_0, fd3_1, fd3_2, fd3_3, fd3_4, fd3_5, fd3_6, fd3_7, fd3_8, fd3_9, fd9_0, fd9_1, fd9_2, fd9_3, fd9_4, fd9_5, fd9_6, fd9_7, fd22_0, fd22_1, fd22_2, fd22_3, fd22_4, fd22_5, fd22_6, fd22_7, fd22_8, fd22_9, fd22_10, fd22_11, fd22_12, fd22_13, fd22_14, fd22_15, fd22_16, fd22_17, fd22_18, fd22_19, fd22_20, fd22_21, fd22_22, fd22_23, fd24_0, fd24_1, fd24_2, fd24_3, fd24_4, fd24_5, fd24_6, fd24_7, fd24_8, fd24_9, fd24_10, fd24_11]
  exact ⟨_, _, rfl, .bool, _, rfl, fun h => by
    obtain ⟨q1, q2⟩ := h3 (by simpa using h)
    have : (0 : Int) ≤ r := by simpa using h
    exact ⟨q1, by omega⟩⟩

/-- Is there a division in a tree? -/
def divs : Nd → Bool
  | .mk op _ _ ks => decide (op = (⟨#[47]⟩ : ByteArray)) || decide (op = (⟨#[37]⟩ : ByteArray)) || (ks.attach.any fun ⟨k, _⟩ => divs k)
termination_by n => SizeOf.sizeOf n
decreasing_by exact Nd.kid_lt ‹_›
theorem divs_mk {op nm : ByteArray} {n : Int} {ks : List Nd} : divs (.mk op nm n ks) = (decide (op = (⟨#[47]⟩ : ByteArray)) || decide (op = (⟨#[37]⟩ : ByteArray)) || ks.any divs) := by
  rw [divs]
  simp
theorem any_true_at {α : Type} {p : α → Bool} {l : List α} {i : Nat} (h : i < l.length) (hp : p l[i] = true) : l.any p = true := by rw [List.any_eq_true]; exact ⟨l[i], List.getElem_mem _, hp⟩
theorem any_false_of {α : Type} {p : α → Bool} {l : List α} (h : ∀ j (hj : j < l.length), p l[j] = false) : l.any p = false := by
  rw [List.any_eq_false]
  intro x hx
  obtain ⟨j, hj, rfl⟩ := List.mem_iff_getElem.1 hx
  simp [h j hj]
theorem divides (n : Nd) (hs : Slim 100 n) : ∀ (S : Mem), CallD Try.prog orc 8 [.agg n.c] S fun d S' => S' = S ∧ d = .bool (divs n) := by
  induction n using Nd.ind with
  | h op nm n ks ih =>
    intro S
    obtain ⟨hnm, hks, hk⟩ := hs
    rw [Nd.c_mk, divs_mk]
    refine CallD.drop ?_
    refine CallD.body Try.func8 rfl (by simp [Try.ntmps8]) ?_
    rw [Try.ntmps8]
    repeat' (first
      | refine Go.seq ?_
      | refine Go.rg ?_
      | refine GoR.nil ?_
      | refine Go.skip ?_
      | refine Go.ret ?_
      | refine Go.block ?_
      | refine Go.exit ?_
      | refine Go.blkX ?_
      | refine Go.blkN ?_
      | refine Go.passX ?_
      | refine Go.lpX ?_
      | (refine Go.blkE (by decide) ?_)
      | (refine Go.rgS dmx (by decide) ?_)
      | ((first | refine GoR.op (by decide) (by rfl) ?_ | refine GoR.opG (by decide) (by rfl) (by rfl) ?_)
         conv => arg 1; simp only [G, Z, Y, un_neg, Int.reduceEq, Int.reduceLE, cutD, Nat.reduceBEq, Nat.reduceAdd, Nat.reduceMul, Nat.reduceSub, Nat.reducePow, Nat.reduceLT, Nat.reduceGT, Nat.reduceLeDiff, Nat.reduceEqDiff, Int.reduceToNat, gt_iff_lt, if_true, if_false, beq_self_eq_true, reduceIte, decide_true, decide_false, fd2_0, fd2_1, fd2_2, fd2_3, fd2_4, fd2_5, fd2_6, fd2_7, fd2_8, fd2_9, fd3_0, fd3_1, fd3_2, fd3_3, fd3_4, fd3_5, fd3_6, fd3_7, fd3_8, fd3_9, fd9_0, fd9_1, fd9_2, fd9_3, fd9_4, fd9_5, fd9_6, fd9_7, fd22_0, fd22_1, fd22_2, fd22_3, fd22_4, fd22_5, fd22_6, fd22_7, fd22_8, fd22_9, fd22_10, fd22_11, fd22_12, fd22_13, fd22_14, fd22_15, fd22_16, fd22_17, fd22_18, fd22_19, fd22_20, fd22_21, fd22_22, fd22_23, fd24_0, fd24_1, fd24_2, fd24_3, fd24_4, fd24_5, fd24_6, fd24_7, fd24_8, fd24_9, fd24_10, fd24_11]
         show GoR _ _ _ _ _ _ _ _ _ _)
      | refine Go.condT (by rfl) ?_
      | refine Go.condF (by rfl) ?_
      | refine GoR.skipG (by decide) rfl rfl ?_
      | (refine GoR.splitG rfl (fun hc => ?_) (fun hc => ?_) <;> simp only [hc])
      | refine Go.condB rfl (fun hc => ?_) (fun hc => ?_))
    all_goals first
      | (skip
         refine ⟨(by first | exact .inl rfl | exact .inr rfl), fin ?_⟩
         rw [resD_tmp (fn := Try.f8) rfl]
         simp only [optThen_some, resultD_tmp, resultD_cell, G, Z, Y, un_neg, Int.reduceEq, Int.reduceLE, cutD, Nat.reduceBEq, Nat.reduceAdd, Nat.reduceMul, Nat.reduceSub, Nat.reducePow, Nat.reduceLT, Nat.reduceGT, Nat.reduceLeDiff, Nat.reduceEqDiff, Int.reduceToNat, gt_iff_lt, if_true, if_false, beq_self_eq_true, reduceIte, decide_true, decide_false, fd2_0, fd2_1, fd2_2, fd2_3, fd2_4, fd2_5, fd2_6, fd2_7, fd2_8, fd2_9, fd3_0, fd3_1, fd3_2, fd3_3, fd3_4, fd3_5, fd3_6, fd3_7, fd3_8, fd3_9, fd9_0, fd9_1, fd9_2, fd9_3, fd9_4, fd9_5, fd9_6, fd9_7, fd22_0, fd22_1, fd22_2, fd22_3, fd22_4, fd22_5, fd22_6, fd22_7, fd22_8, fd22_9, fd22_10, fd22_11, fd22_12, fd22_13, fd22_14, fd22_15, fd22_16, fd22_17, fd22_18, fd22_19, fd22_20, fd22_21, fd22_22, fd22_23, fd24_0, fd24_1, fd24_2, fd24_3, fd24_4, fd24_5, fd24_6, fd24_7, fd24_8, fd24_9, fd24_10, fd24_11]
         refine ⟨_, _, rfl, .bool, ?_⟩
         simp_all
         done)
      | skip
    refine Go.keep [(1, .ptr S.length 0), (3, .int .i64 ((0 : Nat) : Int))] (.cons .refl (.cons .refl (.nil))) ?_
    refine Go.while (α := Nat) (fun a => ks.length - a) (fun a => [(1, .ptr S.length 0), (3, .int .i64 (a : Int))]) (fun _ => S ++ [.obj [.str op, .str nm, .int .i64 n, .sl none 4 ks.length (ndsC ks)]])
      (fun a => a ≤ ks.length ∧ ∀ j (h : j < ks.length), j < a → divs ks[j] = false) ?_ 0 ⟨Nat.zero_le _, by simp⟩
    rintro i ⟨hi, hk2⟩ next
    by_cases hl : i < ks.length
    · cases hq : divs ks[i] with
      | true =>
        repeat' (first
          | refine Go.seq ?_
          | refine Go.rg ?_
          | refine GoR.nil ?_
          | refine Go.skip ?_
          | refine Go.ret ?_
          | refine Go.block ?_
          | refine Go.exit ?_
          | refine Go.blkX ?_
          | refine Go.blkN ?_
          | refine Go.passX ?_
          | refine Go.lpX ?_
          | (refine Go.blkE (by decide) ?_)
          | (refine Go.rgS dmx (by decide) ?_)
          | ((first | refine GoR.op (by decide) (by rfl) ?_ | refine GoR.opG (by decide) (by rfl) (by rfl) ?_)
             conv => arg 1; simp only [G, Z, Y, un_neg, Int.reduceEq, Int.reduceLE, cutD, Nat.reduceBEq, Nat.reduceAdd, Nat.reduceMul, Nat.reduceSub, Nat.reducePow, Nat.reduceLT, Nat.reduceGT, Nat.reduceLeDiff, Nat.reduceEqDiff, Int.reduceToNat, gt_iff_lt, if_true, if_false, beq_self_eq_true, reduceIte, decide_true, decide_false, fd2_0, fd2_1, fd2_2, fd2_3, fd2_4, fd2_5, fd2_6, fd2_7, fd2_8, fd2_9, fd3_0, fd3_1, fd3_2, fd3_3, fd3_4, fd3_5, fd3_6, fd3_7, fd3_8, fd3_9, fd9_0, fd9_1, fd9_2, fd9_3, fd9_4, fd9_5, fd9_6, fd9_7, fd22_0, fd22_1, fd22_2, fd22_3, fd22_4, fd22_5, fd22_6, fd22_7, fd22_8, fd22_9, fd22_10, fd22_11, fd22_12, fd22_13, fd22_14, fd22_15, fd22_16, fd22_17, fd22_18, fd22_19, fd22_20, fd22_21, fd22_22, fd22_23, fd24_0, fd24_1, fd24_2, fd24_3, fd24_4, fd24_5, fd24_6, fd24_7, fd24_8, fd24_9, fd24_10, fd24_11, show decide ((i : Int) < (ks.length : Int)) = true by simp; omega, ndsAt hl, wrap_succ (show i < 4611686018427387904 by omega)]
             show GoR _ _ _ _ _ _ _ _ _ _)
          | ((first | refine GoR.call (f := 8) (by decide) (by rfl) rfl Try.func8 (by decide) (by rfl) ?_ | refine GoR.callG (f := 8) (by decide) (by rfl) (by rfl) rfl Try.func8 (by decide) (by rfl) ?_)
             (refine (ih _ (List.getElem_mem hl) (hk _ (List.getElem_mem hl)) _).ret ?_; rw [hq]))
          | refine Go.condT (by rfl) ?_
          | refine Go.condF (by rfl) ?_
          | refine GoR.skipG (by decide) rfl rfl ?_
          | (refine GoR.splitG rfl (fun hc => ?_) (fun hc => ?_) <;> simp only [hc])
          | refine Go.condB rfl (fun hc => ?_) (fun hc => ?_))
        clear next
        refine ⟨(by first | exact .inl rfl | exact .inr rfl), fin ?_⟩
        rw [resD_tmp (fn := Try.f8) rfl]
        simp only [optThen_some, resultD_tmp, resultD_cell, G, Z, Y, un_neg, Int.reduceEq, Int.reduceLE, cutD, Nat.reduceBEq, Nat.reduceAdd, Nat.reduceMul, Nat.reduceSub, Nat.reducePow, Nat.reduceLT, Nat.reduceGT, Nat.reduceLeDiff, Nat.reduceEqDiff, Int.reduceToNat, gt_iff_lt, if_true, if_false, beq_self_eq_true, reduceIte, decide_true, decide_false, fd2_0, fd2_1, fd2_2, fd2_3, fd2_4, fd2_5, fd2_6, fd2_7, fd2_8, fd2_9, fd3_0, fd3_1, fd3_2, fd3_3, fd3_4, fd3_5, fd3_6, fd3_7, fd3_8, fd3_9, fd9_0, fd9_1, fd9_2, fd9_3, fd9_4, fd9_5, fd9_6, fd9_7, fd22_0, fd22_1, fd22_2, fd22_3, fd22_4, fd22_5, fd22_6, fd22_7, fd22_8, fd22_9, fd22_10, fd22_11, fd22_12, fd22_13, fd22_14, fd22_15, fd22_16, fd22_17, fd22_18, fd22_19, fd22_20, fd22_21, fd22_22, fd22_23, fd24_0, fd24_1, fd24_2, fd24_3, fd24_4, fd24_5, fd24_6, fd24_7, fd24_8, fd24_9, fd24_10, fd24_11]
        refine ⟨_, _, rfl, .bool, ?_⟩
        rw [any_true_at hl hq]
        simp
      | false =>
        repeat' (first
          | refine Go.seq ?_
          | refine Go.rg ?_
          | refine GoR.nil ?_
          | refine Go.skip ?_
          | refine Go.ret ?_
          | refine Go.block ?_
          | refine Go.exit ?_
          | refine Go.blkX ?_
          | refine Go.blkN ?_
          | refine Go.passX ?_
          | refine Go.lpX ?_
          | (refine Go.blkE (by decide) ?_)
          | (refine Go.rgS dmx (by decide) ?_)
          | ((first | refine GoR.op (by decide) (by rfl) ?_ | refine GoR.opG (by decide) (by rfl) (by rfl) ?_)
             conv => arg 1; simp only [G, Z, Y, un_neg, Int.reduceEq, Int.reduceLE, cutD, Nat.reduceBEq, Nat.reduceAdd, Nat.reduceMul, Nat.reduceSub, Nat.reducePow, Nat.reduceLT, Nat.reduceGT, Nat.reduceLeDiff, Nat.reduceEqDiff, Int.reduceToNat, gt_iff_lt, if_true, if_false, beq_self_eq_true, reduceIte, decide_true, decide_false, fd2_0, fd2_1, fd2_2, fd2_3, fd2_4, fd2_5, fd2_6, fd2_7, fd2_8, fd2_9, fd3_0, fd3_1, fd3_2, fd3_3, fd3_4, fd3_5, fd3_6, fd3_7, fd3_8, fd3_9, fd9_0, fd9_1, fd9_2, fd9_3, fd9_4, fd9_5, fd9_6, fd9_7, fd22_0, fd22_1, fd22_2, fd22_3, fd22_4, fd22_5, fd22_6, fd22_7, fd22_8, fd22_9, fd22_10, fd22_11, fd22_12, fd22_13, fd22_14, fd22_15, fd22_16, fd22_17, fd22_18, fd22_19, fd22_20, fd22_21, fd22_22, fd22_23, fd24_0, fd24_1, fd24_2, fd24_3, fd24_4, fd24_5, fd24_6, fd24_7, fd24_8, fd24_9, fd24_10, fd24_11, show decide ((i : Int) < (ks.length : Int)) = true by simp; omega, ndsAt hl, wrap_succ (show i < 4611686018427387904 by omega)]
             show GoR _ _ _ _ _ _ _ _ _ _)
          | ((first | refine GoR.call (f := 8) (by decide) (by rfl) rfl Try.func8 (by decide) (by rfl) ?_ | refine GoR.callG (f := 8) (by decide) (by rfl) (by rfl) rfl Try.func8 (by decide) (by rfl) ?_)
             (refine (ih _ (List.getElem_mem hl) (hk _ (List.getElem_mem hl)) _).ret ?_; rw [hq]))
          | refine Go.condT (by rfl) ?_
          | refine Go.condF (by rfl) ?_
          | refine GoR.skipG (by decide) rfl rfl ?_
          | (refine GoR.splitG rfl (fun hc => ?_) (fun hc => ?_) <;> simp only [hc])
          | refine Go.condB rfl (fun hc => ?_) (fun hc => ?_))
        refine Go.lpN ?_
        refine Go.keep [(1, .ptr S.length 0), (3, .int .i64 ((i + 1 : Nat) : Int))] (.cons .refl (.cons .refl (.nil))) ?_
        refine next (i + 1) (by omega) ⟨hl, fun j hj hlt => ?_⟩
        rcases Nat.lt_or_ge j i with h | h
        · exact hk2 j hj h
        · obtain rfl : j = i := by omega
          exact hq
    · clear next
      repeat' (first
        | refine Go.seq ?_
        | refine Go.rg ?_
        | refine GoR.nil ?_
        | refine Go.skip ?_
        | refine Go.ret ?_
        | refine Go.block ?_
        | refine Go.exit ?_
        | refine Go.blkX ?_
        | refine Go.blkN ?_
        | refine Go.passX ?_
        | refine Go.lpX ?_
        | (refine Go.blkE (by decide) ?_)
        | (refine Go.rgS dmx (by decide) ?_)
        | ((first | refine GoR.op (by decide) (by rfl) ?_ | refine GoR.opG (by decide) (by rfl) (by rfl) ?_)
           conv => arg 1; simp only [G, Z, Y, un_neg, Int.reduceEq, Int.reduceLE, cutD, Nat.reduceBEq, Nat.reduceAdd, Nat.reduceMul, Nat.reduceSub, Nat.reducePow, Nat.reduceLT, Nat.reduceGT, Nat.reduceLeDiff, Nat.reduceEqDiff, Int.reduceToNat, gt_iff_lt, if_true, if_false, beq_self_eq_true, reduceIte, decide_true, decide_false, fd2_0, fd2_1, fd2_2, fd2_3, fd2_4, fd2_5, fd2_6, fd2_7, fd2_8, fd2_9, fd3_0, fd3_1, fd3_2, fd3_3, fd3_4, fd3_5, fd3_6, fd3_7, fd3_8, fd3_9, fd9_0, fd9_1, fd9_2, fd9_3, fd9_4, fd9_5, fd9_6, fd9_7, fd22_0, fd22_1, fd22_2, fd22_3, fd22_4, fd22_5, fd22_6, fd22_7, fd22_8, fd22_9, fd22_10, fd22_11, fd22_12, fd22_13, fd22_14, fd22_15, fd22_16, fd22_17, fd22_18, fd22_19, fd22_20, fd22_21, fd22_22, fd22_23, fd24_0, fd24_1, fd24_2, fd24_3, fd24_4, fd24_5, fd24_6, fd24_7, fd24_8, fd24_9, fd24_10, fd24_11, show decide ((i : Int) < (ks.length : Int)) = false by simp; omega]
           show GoR _ _ _ _ _ _ _ _ _ _)
        | refine Go.condT (by rfl) ?_
        | refine Go.condF (by rfl) ?_
        | refine GoR.skipG (by decide) rfl rfl ?_
        | (refine GoR.splitG rfl (fun hc => ?_) (fun hc => ?_) <;> simp only [hc])
        | refine Go.condB rfl (fun hc => ?_) (fun hc => ?_))
      refine ⟨(by first | exact .inl rfl | exact .inr rfl), fin ?_⟩
      rw [resD_tmp (fn := Try.f8) rfl]
      simp only [optThen_some, resultD_tmp, resultD_cell, G, Z, Y, un_neg, Int.reduceEq, Int.reduceLE, cutD, Nat.reduceBEq, Nat.reduceAdd, Nat.reduceMul, Nat.reduceSub, Nat.reducePow, Nat.reduceLT, Nat.reduceGT, Nat.reduceLeDiff, Nat.reduceEqDiff, Int.reduceToNat, gt_iff_lt, if_true, if_false, beq_self_eq_true, reduceIte, decide_true, decide_false, fd2_0, fd2_1, fd2_2, fd2_3, fd2_4, fd2_5, fd2_6, fd2_7, fd2_8, fd2_9, fd3_0, fd3_1, fd3_2, fd3_3, fd3_4, fd3_5, fd3_6, fd3_7, fd3_8, fd3_9, fd9_0, fd9_1, fd9_2, fd9_3, fd9_4, fd9_5, fd9_6, fd9_7, fd22_0, fd22_1, fd22_2, fd22_3, fd22_4, fd22_5, fd22_6, fd22_7, fd22_8, fd22_9, fd22_10, fd22_11, fd22_12, fd22_13, fd22_14, fd22_15, fd22_16, fd22_17, fd22_18, fd22_19, fd22_20, fd22_21, fd22_22, fd22_23, fd24_0, fd24_1, fd24_2, fd24_3, fd24_4, fd24_5, fd24_6, fd24_7, fd24_8, fd24_9, fd24_10, fd24_11]
      refine ⟨_, _, rfl, .bool, ?_⟩
      rw [any_false_of fun j hj => hk2 j hj (by omega)]
      simp_all
end Go.Proofs.DaT
