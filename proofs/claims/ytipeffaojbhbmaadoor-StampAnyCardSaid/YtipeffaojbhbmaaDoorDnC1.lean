/- Which of two stamps is the newer. -/
import Derived.Test.YtipeffaojbhbmaaDoorDnFacts
import Derived.Test.YtipeffaojbhbmaaDoorDpA
import Derived.Test.YtipeffaojbhbmaaDoorDmWx
set_option linter.unusedSimpArgs false
set_option linter.unusedVariables false
namespace Go.Proofs.DnT
open Go Go.DM
set_option maxRecDepth 100000
variable {orc : DOracle}

structure St where
  tick : Int
  inc : Int
  seq : Int
  org : ByteArray
def St.c (s : St) : List D := [.int .i64 s.tick, .int .i64 s.inc, .int .i64 s.seq, .str s.org]
theorem St.low {n : Nat} {a b c : Int} {s : ByteArray} : LowL n [.int .i64 a, .int .i64 b, .int .i64 c, .str s] := .cons (.int _ _) (.cons (.int _ _) (.cons (.int _ _) (.cons (.str _) .nil)))
def cmpI (a b : Int) : Int := if a < b then -1 else if b < a then 1 else 0
def orI : List Int → Int
  | [] => 0
  | x :: l => if x = 0 then orI l else x
def cmpSt (a b : St) : Int := orI [cmpI a.tick b.tick, cmpI a.inc b.inc, cmpI a.seq b.seq, cmpB a.org b.org]

theorem isNaNS (a : ByteArray) (S : Mem) : CallD Tryd.prog orc 64 [.str a] S fun d S' => S' = S ∧ d = .bool false := by
  refine CallD.drop ?_
  refine CallD.body Tryd.func64 rfl (by simp [Tryd.ntmps64]) ?_
  rw [Tryd.ntmps64]
  repeat' (first
    | refine Go.seq ?_
    | refine Go.rg ?_
    | refine GoR.nil ?_
    | refine Go.skip ?_
    | refine Go.ret ?_
    | refine Go.block ?_
    | refine Go.exit ?_
    | refine Go.blkX ?_
    | refine Go.blkN ?_
    | refine Go.passX ?_
    | refine Go.lpX ?_
    | (refine Go.blkE (by decide) ?_)
    | (refine Go.rgS dmx (by decide) ?_)
    | ((first | refine GoR.op (by decide) (by rfl) ?_ | refine GoR.opG (by decide) (by rfl) (by rfl) ?_)
       conv => arg 1; simp only [G, Z, Y, un_neg, Int.reduceEq, Int.reduceLE, cutD, Nat.reduceBEq, Nat.reduceAdd, Nat.reduceMul, Nat.reduceSub, Nat.reducePow, Nat.reduceLT, Nat.reduceGT, Nat.reduceLeDiff, Nat.reduceEqDiff, Int.reduceToNat, gt_iff_lt, if_true, if_false, beq_self_eq_true, reduceIte, decide_true, decide_false, fd9_0, fd9_1, fd9_2, fd9_3, fd9_4, fd9_5, fd9_6, fd9_7]
       show GoR _ _ _ _ _ _ _ _ _ _)
    | refine Go.condT (by rfl) ?_
    | refine Go.condF (by rfl) ?_
    | refine GoR.skipG (by decide) rfl rfl ?_
    | (refine GoR.splitG rfl (fun hc => ?_) (fun hc => ?_) <;> simp only [hc])
    | refine Go.condB rfl (fun hc => ?_) (fun hc => ?_))
  all_goals
    refine ⟨(by first | exact .inl rfl | exact .inr rfl), fin ?_⟩
    rw [resD_tmp (fn := Tryd.f64) rfl]
    simp only [optThen_some, resultD_tmp, resultD_cell, G, Z, Y, un_neg, Int.reduceEq, Int.reduceLE, cutD, Nat.reduceBEq, Nat.reduceAdd, Nat.reduceMul, Nat.reduceSub, Nat.reducePow, Nat.reduceLT, Nat.reduceGT, Nat.reduceLeDiff, Nat.reduceEqDiff, Int.reduceToNat, gt_iff_lt, if_true, if_false, beq_self_eq_true, reduceIte, decide_true, decide_false, fd9_0, fd9_1, fd9_2, fd9_3, fd9_4, fd9_5, fd9_6, fd9_7]
    refine ⟨_, [], by simp, .bool, ?_⟩
    simp
theorem compareS (a b : ByteArray) (S : Mem) : CallD Tryd.prog orc 36 [.str a, .str b] S fun d S' => S' = S ∧ d = .int .i64 (cmpB a b) := by
  refine CallD.drop ?_
  refine CallD.body Tryd.func36 rfl (by simp [Tryd.ntmps36]) ?_
  rw [Tryd.ntmps36]
  repeat' (first
    | refine Go.seq ?_
    | refine Go.rg ?_
    | refine GoR.nil ?_
    | refine Go.skip ?_
    | refine Go.ret ?_
    | refine Go.block ?_
    | refine Go.exit ?_
    | refine Go.blkX ?_
    | refine Go.blkN ?_
    | refine Go.passX ?_
    | refine Go.lpX ?_
    | (refine Go.blkE (by decide) ?_)
    | (refine Go.rgS dmx (by decide) ?_)
    | ((first | refine GoR.op (by decide) (by rfl) ?_ | refine GoR.opG (by decide) (by rfl) (by rfl) ?_)
       conv => arg 1; simp only [G, Z, Y, un_neg, Int.reduceEq, Int.reduceLE, cutD, Nat.reduceBEq, Nat.reduceAdd, Nat.reduceMul, Nat.reduceSub, Nat.reducePow, Nat.reduceLT, Nat.reduceGT, Nat.reduceLeDiff, Nat.reduceEqDiff, Int.reduceToNat, gt_iff_lt, if_true, if_false, beq_self_eq_true, reduceIte, decide_true, decide_false, fd9_0, fd9_1, fd9_2, fd9_3, fd9_4, fd9_5, fd9_6, fd9_7]
       show GoR _ _ _ _ _ _ _ _ _ _)
    | ((first | refine GoR.call (f := 64) (by decide) (by rfl) rfl Tryd.func64 (by decide) (by rfl) ?_ | refine GoR.callG (f := 64) (by decide) (by rfl) (by rfl) rfl Tryd.func64 (by decide) (by rfl) ?_)
       (refine (isNaNS _ _).ret ?_))
    | refine Go.condT (by rfl) ?_
    | refine Go.condF (by rfl) ?_
    | refine GoR.skipG (by decide) rfl rfl ?_
    | (refine GoR.splitG rfl (fun hc => ?_) (fun hc => ?_) <;> simp only [hc])
    | refine Go.condB rfl (fun hc => ?_) (fun hc => ?_))
  all_goals
    refine ⟨(by first | exact .inl rfl | exact .inr rfl), fin ?_⟩
    rw [resD_tmp (fn := Tryd.f36) rfl]
    simp only [optThen_some, resultD_tmp, resultD_cell, G, Z, Y, un_neg, Int.reduceEq, Int.reduceLE, cutD, Nat.reduceBEq, Nat.reduceAdd, Nat.reduceMul, Nat.reduceSub, Nat.reducePow, Nat.reduceLT, Nat.reduceGT, Nat.reduceLeDiff, Nat.reduceEqDiff, Int.reduceToNat, gt_iff_lt, if_true, if_false, beq_self_eq_true, reduceIte, decide_true, decide_false, fd9_0, fd9_1, fd9_2, fd9_3, fd9_4, fd9_5, fd9_6, fd9_7]
    refine ⟨_, [], by simp, .int, ?_⟩
    unfold cmpB ltB
    simp_all
theorem isNaNI (a : Int) (S : Mem) : CallD Tryd.prog orc 63 [.int .i64 a] S fun d S' => S' = S ∧ d = .bool false := by
  refine CallD.drop ?_
  refine CallD.body Tryd.func63 rfl (by simp [Tryd.ntmps63]) ?_
  rw [Tryd.ntmps63]
  repeat' (first
    | refine Go.seq ?_
    | refine Go.rg ?_
    | refine GoR.nil ?_
    | refine Go.skip ?_
    | refine Go.ret ?_
    | refine Go.block ?_
    | refine Go.exit ?_
    | refine Go.blkX ?_
    | refine Go.blkN ?_
    | refine Go.passX ?_
    | refine Go.lpX ?_
    | (refine Go.blkE (by decide) ?_)
    | (refine Go.rgS dmx (by decide) ?_)
    | ((first | refine GoR.op (by decide) (by rfl) ?_ | refine GoR.opG (by decide) (by rfl) (by rfl) ?_)
       conv => arg 1; simp only [G, Z, Y, un_neg, Int.reduceEq, Int.reduceLE, cutD, Nat.reduceBEq, Nat.reduceAdd, Nat.reduceMul, Nat.reduceSub, Nat.reducePow, Nat.reduceLT, Nat.reduceGT, Nat.reduceLeDiff, Nat.reduceEqDiff, Int.reduceToNat, gt_iff_lt, if_true, if_false, beq_self_eq_true, reduceIte, decide_true, decide_false, fd2_0, fd2_1, fd2_2, fd2_3, fd2_4, fd2_5, fd2_6]
       show GoR _ _ _ _ _ _ _ _ _ _)
    | refine Go.condT (by rfl) ?_
    | refine Go.condF (by rfl) ?_
    | refine GoR.skipG (by decide) rfl rfl ?_
    | (refine GoR.splitG rfl (fun hc => ?_) (fun hc => ?_) <;> simp only [hc])
    | refine Go.condB rfl (fun hc => ?_) (fun hc => ?_))
  all_goals
    refine ⟨(by first | exact .inl rfl | exact .inr rfl), fin ?_⟩
    rw [resD_tmp (fn := Tryd.f63) rfl]
    simp only [optThen_some, resultD_tmp, resultD_cell, G, Z, Y, un_neg, Int.reduceEq, Int.reduceLE, cutD, Nat.reduceBEq, Nat.reduceAdd, Nat.reduceMul, Nat.reduceSub, Nat.reducePow, Nat.reduceLT, Nat.reduceGT, Nat.reduceLeDiff, Nat.reduceEqDiff, Int.reduceToNat, gt_iff_lt, if_true, if_false, beq_self_eq_true, reduceIte, decide_true, decide_false, fd2_0, fd2_1, fd2_2, fd2_3, fd2_4, fd2_5, fd2_6]
    refine ⟨_, [], by simp, .bool, ?_⟩
    simp
theorem compareI (a b : Int) (S : Mem) : CallD Tryd.prog orc 35 [.int .i64 a, .int .i64 b] S fun d S' => S' = S ∧ d = .int .i64 (cmpI a b) := by
  refine CallD.drop ?_
  refine CallD.body Tryd.func35 rfl (by simp [Tryd.ntmps35]) ?_
  rw [Tryd.ntmps35]
  repeat' (first
    | refine Go.seq ?_
    | refine Go.rg ?_
    | refine GoR.nil ?_
    | refine Go.skip ?_
    | refine Go.ret ?_
    | refine Go.block ?_
    | refine Go.exit ?_
    | refine Go.blkX ?_
    | refine Go.blkN ?_
    | refine Go.passX ?_
    | refine Go.lpX ?_
    | (refine Go.blkE (by decide) ?_)
    | (refine Go.rgS dmx (by decide) ?_)
    | ((first | refine GoR.op (by decide) (by rfl) ?_ | refine GoR.opG (by decide) (by rfl) (by rfl) ?_)
       conv => arg 1; simp only [G, Z, Y, un_neg, Int.reduceEq, Int.reduceLE, cutD, Nat.reduceBEq, Nat.reduceAdd, Nat.reduceMul, Nat.reduceSub, Nat.reducePow, Nat.reduceLT, Nat.reduceGT, Nat.reduceLeDiff, Nat.reduceEqDiff, Int.reduceToNat, gt_iff_lt, if_true, if_false, beq_self_eq_true, reduceIte, decide_true, decide_false, fd2_0, fd2_1, fd2_2, fd2_3, fd2_4, fd2_5, fd2_6]
       show GoR _ _ _ _ _ _ _ _ _ _)
    | ((first | refine GoR.call (f := 63) (by decide) (by rfl) rfl Tryd.func63 (by decide) (by rfl) ?_ | refine GoR.callG (f := 63) (by decide) (by rfl) (by rfl) rfl Tryd.func63 (by decide) (by rfl) ?_)
       (refine (isNaNI _ _).ret ?_))
    | refine Go.condT (by rfl) ?_
    | refine Go.condF (by rfl) ?_
    | refine GoR.skipG (by decide) rfl rfl ?_
    | (refine GoR.splitG rfl (fun hc => ?_) (fun hc => ?_) <;> simp only [hc])
    | refine Go.condB rfl (fun hc => ?_) (fun hc => ?_))
  all_goals
    refine ⟨(by first | exact .inl rfl | exact .inr rfl), fin ?_⟩
    rw [resD_tmp (fn := Tryd.f35) rfl]
    simp only [optThen_some, resultD_tmp, resultD_cell, G, Z, Y, un_neg, Int.reduceEq, Int.reduceLE, cutD, Nat.reduceBEq, Nat.reduceAdd, Nat.reduceMul, Nat.reduceSub, Nat.reducePow, Nat.reduceLT, Nat.reduceGT, Nat.reduceLeDiff, Nat.reduceEqDiff, Int.reduceToNat, gt_iff_lt, if_true, if_false, beq_self_eq_true, reduceIte, decide_true, decide_false, fd2_0, fd2_1, fd2_2, fd2_3, fd2_4, fd2_5, fd2_6]
    refine ⟨_, [], by simp, .int, ?_⟩
    unfold cmpI
    first
      | (simp_all; done)
      | (simp at *
         rw [if_neg (by omega), if_neg (by omega)])
def intsD (l : List Int) : List D := l.map (.int .i64 ·)
theorem intsAt {l : List Int} {i : Nat} (h : i < l.length) : ((0 ≤ (i : Int) ∧ (i : Int) < (l.length : Int)) = True) ∧ (intsD l)[i]? = some (.int .i64 l[i]) := ⟨ix_ok h, by simp [intsD, h]⟩
theorem orI_drop {l : List Int} (h : ∀ x ∈ l, x = 0) : ∀ {m : List Int}, orI (l ++ m) = orI m := by
  intro m
  induction l with
  | nil => rfl
  | cons x l ih =>
    have := h x (by simp)
    subst this
    simp only [List.cons_append, orI, if_true]
    exact ih fun y hy => h y (by simp [hy])
theorem cmpOr (own : Option Nat) (l : List Int) (hl : l.length < 1000000) (S : Mem) : CallD Tryd.prog orc 34 [.sl own 1 l.length (intsD l)] S fun d S' => S' = S ∧ d = .int .i64 (orI l) := by
  refine CallD.drop ?_
  refine CallD.body Tryd.func34 rfl (by simp [Tryd.ntmps34]) ?_
  rw [Tryd.ntmps34]
  repeat' (first
    | refine Go.seq ?_
    | refine Go.rg ?_
    | refine GoR.nil ?_
    | refine Go.skip ?_
    | refine Go.ret ?_
    | refine Go.block ?_
    | refine Go.exit ?_
    | refine Go.blkX ?_
    | refine Go.blkN ?_
    | refine Go.passX ?_
    | refine Go.lpX ?_
    | (refine Go.blkE (by decide) ?_)
    | (refine Go.rgS dmx (by decide) ?_)
    | ((first | refine GoR.op (by decide) (by rfl) ?_ | refine GoR.opG (by decide) (by rfl) (by rfl) ?_)
       conv => arg 1; simp only [G, Z, Y, un_neg, Int.reduceEq, Int.reduceLE, cutD, Nat.reduceBEq, Nat.reduceAdd, Nat.reduceMul, Nat.reduceSub, Nat.reducePow, Nat.reduceLT, Nat.reduceGT, Nat.reduceLeDiff, Nat.reduceEqDiff, Int.reduceToNat, gt_iff_lt, if_true, if_false, beq_self_eq_true, reduceIte, decide_true, decide_false, fd3_0, fd3_1, fd3_2, fd3_3, fd3_4, fd3_5, fd3_6, fd64_0, fd64_1, fd64_2, fd64_3, fd64_4, fd64_5, fd64_6, fd64_7, fd64_8, fd64_9, fd64_10, fd64_11, fd64_12, fd64_13, fd64_14, fd64_15, fd64_16, fd64_17, fd64_18, fd64_19, fd64_20, fd64_21, fd64_22, fd64_23]
       show GoR _ _ _ _ _ _ _ _ _ _)
    | refine Go.condT (by rfl) ?_
    | refine Go.condF (by rfl) ?_
    | refine GoR.skipG (by decide) rfl rfl ?_
    | (refine GoR.splitG rfl (fun hc => ?_) (fun hc => ?_) <;> simp only [hc])
    | refine Go.condB rfl (fun hc => ?_) (fun hc => ?_))
  refine Go.keep [(3, .int .i64 0), (6, .sl own 1 l.length (intsD l)), (7, .int .i64 (l.length : Int)), (8, .int .i64 ((0 : Nat) : Int))] (.cons .refl (.cons .refl (.cons .refl (.cons .refl (.nil))))) ?_
  refine Go.while (α := Nat) (fun i => l.length - i) (fun i => [(3, .int .i64 0), (6, .sl own 1 l.length (intsD l)), (7, .int .i64 (l.length : Int)), (8, .int .i64 (i : Int))]) (fun _ => S) (fun i => i ≤ l.length ∧ ∀ x ∈ l.take i, x = 0) ?_ 0 ⟨Nat.zero_le _, by simp⟩
  rintro i ⟨hi, hz⟩ next
  repeat' (first
    | refine Go.seq ?_
    | refine Go.rg ?_
    | refine GoR.nil ?_
    | refine Go.skip ?_
    | refine Go.ret ?_
    | refine Go.block ?_
    | refine Go.exit ?_
    | refine Go.blkX ?_
    | refine Go.blkN ?_
    | refine Go.passX ?_
    | refine Go.lpX ?_
    | (refine Go.blkE (by decide) ?_)
    | (refine Go.rgS dmx (by decide) ?_)
    | ((first | refine GoR.op (by decide) (by rfl) ?_ | refine GoR.opG (by decide) (by rfl) (by rfl) ?_)
       conv => arg 1; simp only [G, Z, Y, un_neg, Int.reduceEq, Int.reduceLE, cutD, Nat.reduceBEq, Nat.reduceAdd, Nat.reduceMul, Nat.reduceSub, Nat.reducePow, Nat.reduceLT, Nat.reduceGT, Nat.reduceLeDiff, Nat.reduceEqDiff, Int.reduceToNat, gt_iff_lt, if_true, if_false, beq_self_eq_true, reduceIte, decide_true, decide_false, fd3_0, fd3_1, fd3_2, fd3_3, fd3_4, fd3_5, fd3_6, fd64_0, fd64_1, fd64_2, fd64_3, fd64_4, fd64_5, fd64_6, fd64_7, fd64_8, fd64_9, fd64_10, fd64_11, fd64_12, fd64_13, fd64_14, fd64_15, fd64_16, fd64_17, fd64_18, fd64_19, fd64_20, fd64_21, fd64_22, fd64_23]
       show GoR _ _ _ _ _ _ _ _ _ _)
    | refine Go.condT (by rfl) ?_
    | refine Go.condF (by rfl) ?_
    | refine GoR.skipG (by decide) rfl rfl ?_
    | (refine GoR.splitG rfl (fun hc => ?_) (fun hc => ?_) <;> simp only [hc])
    | refine Go.condB rfl (fun hc => ?_) (fun hc => ?_))
  · have h1 : i < l.length := by simpa using hc
    repeat' (first
      | refine Go.seq ?_
      | refine Go.rg ?_
      | refine GoR.nil ?_
      | refine Go.skip ?_
      | refine Go.ret ?_
      | refine Go.block ?_
      | refine Go.exit ?_
      | refine Go.blkX ?_
      | refine Go.blkN ?_
      | refine Go.passX ?_
      | refine Go.lpX ?_
      | (refine Go.blkE (by decide) ?_)
      | (refine Go.rgS dmx (by decide) ?_)
      | ((first | refine GoR.op (by decide) (by rfl) ?_ | refine GoR.opG (by decide) (by rfl) (by rfl) ?_)
         conv => arg 1; simp only [G, Z, Y, un_neg, Int.reduceEq, Int.reduceLE, cutD, Nat.reduceBEq, Nat.reduceAdd, Nat.reduceMul, Nat.reduceSub, Nat.reducePow, Nat.reduceLT, Nat.reduceGT, Nat.reduceLeDiff, Nat.reduceEqDiff, Int.reduceToNat, gt_iff_lt, if_true, if_false, beq_self_eq_true, reduceIte, decide_true, decide_false, fd3_0, fd3_1, fd3_2, fd3_3, fd3_4, fd3_5, fd3_6, fd64_0, fd64_1, fd64_2, fd64_3, fd64_4, fd64_5, fd64_6, fd64_7, fd64_8, fd64_9, fd64_10, fd64_11, fd64_12, fd64_13, fd64_14, fd64_15, fd64_16, fd64_17, fd64_18, fd64_19, fd64_20, fd64_21, fd64_22, fd64_23, intsAt h1, wrap_succ (show i < 4611686018427387904 by omega)]
         show GoR _ _ _ _ _ _ _ _ _ _)
      | refine Go.condT (by rfl) ?_
      | refine Go.condF (by rfl) ?_
      | refine GoR.skipG (by decide) rfl rfl ?_
      | (refine GoR.splitG rfl (fun hc => ?_) (fun hc => ?_) <;> simp only [hc])
      | refine Go.condB rfl (fun hc => ?_) (fun hc => ?_))
    · clear next
      refine ⟨(by first | exact .inl rfl | exact .inr rfl), fin ?_⟩
      rw [resD_tmp (fn := Tryd.f34) rfl]
      simp only [optThen_some, resultD_tmp, resultD_cell, G, Z, Y, un_neg, Int.reduceEq, Int.reduceLE, cutD, Nat.reduceBEq, Nat.reduceAdd, Nat.reduceMul, Nat.reduceSub, Nat.reducePow, Nat.reduceLT, Nat.reduceGT, Nat.reduceLeDiff, Nat.reduceEqDiff, Int.reduceToNat, gt_iff_lt, if_true, if_false, beq_self_eq_true, reduceIte, decide_true, decide_false, fd3_0, fd3_1, fd3_2, fd3_3, fd3_4, fd3_5, fd3_6, fd64_0, fd64_1, fd64_2, fd64_3, fd64_4, fd64_5, fd64_6, fd64_7, fd64_8, fd64_9, fd64_10, fd64_11, fd64_12, fd64_13, fd64_14, fd64_15, fd64_16, fd64_17, fd64_18, fd64_19, fd64_20, fd64_21, fd64_22, fd64_23]
      refine ⟨_, [], by simp, .int, ?_⟩
      have hne : l[i] ≠ 0 := by simpa using hc
      have : orI l = orI (l.take i ++ l.drop i) := by rw [List.take_append_drop]
      rw [this, orI_drop hz, List.drop_eq_getElem_cons h1]
      simp [orI, hne]
    · refine Go.lpN ?_
      refine Go.keep [(3, .int .i64 0), (6, .sl own 1 l.length (intsD l)), (7, .int .i64 (l.length : Int)), (8, .int .i64 ((i + 1 : Nat) : Int))] (.cons .refl (.cons .refl (.cons .refl (.cons .refl (.nil))))) ?_
      refine next (i + 1) (by omega) ⟨h1, fun x hx => ?_⟩
      clear next
      rw [List.take_succ_eq_append_getElem h1, List.mem_append] at hx
      rcases hx with hx | hx
      · exact hz x hx
      · have : l[i] = 0 := by simpa using hc
        simp at hx
        exact hx.trans this
  · clear next
    refine ⟨(by first | exact .inl rfl | exact .inr rfl), fin ?_⟩
    rw [resD_tmp (fn := Tryd.f34) rfl]
    simp only [optThen_some, resultD_tmp, resultD_cell, G, Z, Y, un_neg, Int.reduceEq, Int.reduceLE, cutD, Nat.reduceBEq, Nat.reduceAdd, Nat.reduceMul, Nat.reduceSub, Nat.reducePow, Nat.reduceLT, Nat.reduceGT, Nat.reduceLeDiff, Nat.reduceEqDiff, Int.reduceToNat, gt_iff_lt, if_true, if_false, beq_self_eq_true, reduceIte, decide_true, decide_false, fd3_0, fd3_1, fd3_2, fd3_3, fd3_4, fd3_5, fd3_6, fd64_0, fd64_1, fd64_2, fd64_3, fd64_4, fd64_5, fd64_6, fd64_7, fd64_8, fd64_9, fd64_10, fd64_11, fd64_12, fd64_13, fd64_14, fd64_15, fd64_16, fd64_17, fd64_18, fd64_19, fd64_20, fd64_21, fd64_22, fd64_23]
    refine ⟨_, [], by simp, .int, ?_⟩
    have : i = l.length := by simp at hc; omega
    subst this
    rw [List.take_length] at hz
    have := orI_drop hz (m := [])
    rw [List.append_nil] at this
    simp [this, orI]
theorem compareSt (a b : St) (S : Mem) : CallD Tryd.prog orc 14 [.agg a.c, .agg b.c] S fun d S' => S' = S ∧ d = .int .i64 (cmpSt a b) := by
  obtain ⟨a1, a2, a3, a4⟩ := a
  obtain ⟨b1, b2, b3, b4⟩ := b
  simp only [St.c]
  refine CallD.drop ?_
  refine CallD.body Tryd.func14 rfl (by simp [Tryd.ntmps14]) ?_
  rw [Tryd.ntmps14]
  repeat' (first
    | refine Go.seq ?_
    | refine Go.rg ?_
    | refine GoR.nil ?_
    | refine Go.skip ?_
    | refine Go.ret ?_
    | refine Go.block ?_
    | refine Go.exit ?_
    | refine Go.blkX ?_
    | refine Go.blkN ?_
    | refine Go.passX ?_
    | refine Go.lpX ?_
    | (refine Go.blkE (by decide) ?_)
    | (refine Go.rgS dmx (by decide) ?_)
    | (refine Go.rgD [6, 8, 11, 13, 16, 18] (fun H => objAt H S.length = some [.int .i64 a1, .int .i64 a2, .int .i64 a3, .str a4] ∧ objAt H (S.length + 1) = some [.int .i64 b1, .int .i64 b2, .int .i64 b3, .str b4]) dmx (by decide) 19 (by decide) ?_ ?_
       · (simp only [List.append_assoc, List.cons_append, List.nil_append, objAt_app, objAt_app0, objAt_succ, objAt_zero, and_self]))
    | refine GoW.nil rfl ?_
    | ((first | refine GoR.op (by decide) (by rfl) ?_ | refine GoR.opG (by decide) (by rfl) (by rfl) ?_ | refine GoW.op (by decide) (by rfl) rfl ?_ | refine GoW.opG (by decide) (by rfl) rfl (by rfl) ?_)
       conv => arg 1; simp only [G, Z, Y, un_neg, Int.reduceEq, Int.reduceLE, cutD, Nat.reduceBEq, Nat.reduceAdd, Nat.reduceMul, Nat.reduceSub, Nat.reducePow, Nat.reduceLT, Nat.reduceGT, Nat.reduceLeDiff, Nat.reduceEqDiff, Int.reduceToNat, gt_iff_lt, if_true, if_false, beq_self_eq_true, reduceIte, decide_true, decide_false, fd2_0, fd2_1, fd2_2, fd2_3, fd2_4, fd2_5, fd2_6, fd9_0, fd9_1, fd9_2, fd9_3, fd9_4, fd9_5, fd9_6, fd9_7, fd23_0, fd23_1, fd23_2, fd23_3, fd23_4, fd23_5, fd23_6, fd23_7, fd23_8, fd23_9, fd23_10, fd23_11, fd64_0, fd64_1, fd64_2, fd64_3, fd64_4, fd64_5, fd64_6, fd64_7, fd64_8, fd64_9, fd64_10, fd64_11, fd64_12, fd64_13, fd64_14, fd64_15, fd64_16, fd64_17, fd64_18, fd64_19, fd64_20, fd64_21, fd64_22, fd64_23]
       first | show GoR _ _ _ _ _ _ _ _ _ _ | (show _ ∧ _; refine ⟨by (first | exact fun h => absurd h (by decide) | (intro _; (simp only [List.append_assoc, List.cons_append, List.nil_append, objAt_app, objAt_app0, objAt_succ, objAt_zero, and_self]))), ?_⟩; show GoW _ _ _ _ _ _ _ _ _ _ _ _ _ _))
    | ((first | refine GoW.readT (by decide) (by rfl) ?_ | refine GoW.readTG (by decide) (by rfl) (by rfl) ?_)
       conv => arg 1; simp only [G, Z, Y, un_neg, Int.reduceEq, Int.reduceLE, cutD, Nat.reduceBEq, Nat.reduceAdd, Nat.reduceMul, Nat.reduceSub, Nat.reducePow, Nat.reduceLT, Nat.reduceGT, Nat.reduceLeDiff, Nat.reduceEqDiff, Int.reduceToNat, gt_iff_lt, if_true, if_false, beq_self_eq_true, reduceIte, decide_true, decide_false, fd2_0, fd2_1, fd2_2, fd2_3, fd2_4, fd2_5, fd2_6, fd9_0, fd9_1, fd9_2, fd9_3, fd9_4, fd9_5, fd9_6, fd9_7, fd23_0, fd23_1, fd23_2, fd23_3, fd23_4, fd23_5, fd23_6, fd23_7, fd23_8, fd23_9, fd23_10, fd23_11, fd64_0, fd64_1, fd64_2, fd64_3, fd64_4, fd64_5, fd64_6, fd64_7, fd64_8, fd64_9, fd64_10, fd64_11, fd64_12, fd64_13, fd64_14, fd64_15, fd64_16, fd64_17, fd64_18, fd64_19, fd64_20, fd64_21, fd64_22, fd64_23]
       show _ ∧ _ ∧ _ ∧ _
       refine ⟨rfl, by (simp only [List.append_assoc, List.cons_append, List.nil_append, objAt_app, objAt_app0, objAt_succ, objAt_zero, and_self]), (fun H hI => by (try dsimp only at hI); simp only [G, Z, Y, un_neg, Int.reduceEq, Int.reduceLE, cutD, Nat.reduceBEq, Nat.reduceAdd, Nat.reduceMul, Nat.reduceSub, Nat.reducePow, Nat.reduceLT, Nat.reduceGT, Nat.reduceLeDiff, Nat.reduceEqDiff, Int.reduceToNat, gt_iff_lt, if_true, if_false, beq_self_eq_true, reduceIte, decide_true, decide_false, fd2_0, fd2_1, fd2_2, fd2_3, fd2_4, fd2_5, fd2_6, fd9_0, fd9_1, fd9_2, fd9_3, fd9_4, fd9_5, fd9_6, fd9_7, fd23_0, fd23_1, fd23_2, fd23_3, fd23_4, fd23_5, fd23_6, fd23_7, fd23_8, fd23_9, fd23_10, fd23_11, fd64_0, fd64_1, fd64_2, fd64_3, fd64_4, fd64_5, fd64_6, fd64_7, fd64_8, fd64_9, fd64_10, fd64_11, fd64_12, fd64_13, fd64_14, fd64_15, fd64_16, fd64_17, fd64_18, fd64_19, fd64_20, fd64_21, fd64_22, fd64_23, hI]), ?_⟩
       show GoW _ _ _ _ _ _ _ _ _ _ _ _ _ _)
    | ((first | refine GoW.call (f := 35) (by decide) (by rfl) rfl Tryd.func35 (by rfl) (by decide) rfl ?_ | refine GoW.callG (f := 35) (by decide) (by rfl) (by rfl) rfl Tryd.func35 (by rfl) (by decide) rfl ?_)
       (refine (compareI _ _ _).ret ?_)
       refine ⟨by (first | exact fun h => absurd h (by decide) | (intro _; (simp only [List.append_assoc, List.cons_append, List.nil_append, objAt_app, objAt_app0, objAt_succ, objAt_zero, and_self]))), ?_⟩)
    | ((first | refine GoR.call (f := 35) (by decide) (by rfl) rfl Tryd.func35 (by decide) (by rfl) ?_ | refine GoR.callG (f := 35) (by decide) (by rfl) (by rfl) rfl Tryd.func35 (by decide) (by rfl) ?_)
       (refine (compareI _ _ _).ret ?_))
    | ((first | refine GoW.call (f := 36) (by decide) (by rfl) rfl Tryd.func36 (by rfl) (by decide) rfl ?_ | refine GoW.callG (f := 36) (by decide) (by rfl) (by rfl) rfl Tryd.func36 (by rfl) (by decide) rfl ?_)
       (refine (compareS _ _ _).ret ?_)
       refine ⟨by (first | exact fun h => absurd h (by decide) | (intro _; (simp only [List.append_assoc, List.cons_append, List.nil_append, objAt_app, objAt_app0, objAt_succ, objAt_zero, and_self]))), ?_⟩)
    | ((first | refine GoR.call (f := 36) (by decide) (by rfl) rfl Tryd.func36 (by decide) (by rfl) ?_ | refine GoR.callG (f := 36) (by decide) (by rfl) (by rfl) rfl Tryd.func36 (by decide) (by rfl) ?_)
       (refine (compareS _ _ _).ret ?_))
    | ((first | refine GoW.call (f := 34) (by decide) (by rfl) rfl Tryd.func34 (by rfl) (by decide) rfl ?_ | refine GoW.callG (f := 34) (by decide) (by rfl) (by rfl) rfl Tryd.func34 (by rfl) (by decide) rfl ?_)
       (refine (cmpOr _ [_, _, _, _] (by simp) _).ret ?_)
       refine ⟨by (first | exact fun h => absurd h (by decide) | (intro _; (simp only [List.append_assoc, List.cons_append, List.nil_append, objAt_app, objAt_app0, objAt_succ, objAt_zero, and_self]))), ?_⟩)
    | ((first | refine GoR.call (f := 34) (by decide) (by rfl) rfl Tryd.func34 (by decide) (by rfl) ?_ | refine GoR.callG (f := 34) (by decide) (by rfl) (by rfl) rfl Tryd.func34 (by decide) (by rfl) ?_)
       (refine (cmpOr _ [_, _, _, _] (by simp) _).ret ?_))
    | refine Go.condT (by rfl) ?_
    | refine Go.condF (by rfl) ?_
    | refine GoR.skipG (by decide) rfl rfl ?_
    | refine GoW.skipG (by decide) rfl rfl (by (first | exact fun h => absurd h (by decide) | (intro _; (simp only [List.append_assoc, List.cons_append, List.nil_append, objAt_app, objAt_app0, objAt_succ, objAt_zero, and_self])))) ?_
    | (refine GoR.splitG rfl (fun hc => ?_) (fun hc => ?_) <;> simp only [hc])
    | refine Go.condB rfl (fun hc => ?_) (fun hc => ?_))
  refine ⟨(by first | exact .inl rfl | exact .inr rfl), fin ?_⟩
  rw [resD_tmp (fn := Tryd.f14) rfl]
  simp only [optThen_some, resultD_tmp, resultD_cell, G, Z, Y, un_neg, Int.reduceEq, Int.reduceLE, cutD, Nat.reduceBEq, Nat.reduceAdd, Nat.reduceMul, Nat.reduceSub, Nat.reducePow, Nat.reduceLT, Nat.reduceGT, Nat.reduceLeDiff, Nat.reduceEqDiff, Int.reduceToNat, gt_iff_lt, if_true, if_false, beq_self_eq_true, reduceIte, decide_true, decide_false, fd2_0, fd2_1, fd2_2, fd2_3, fd2_4, fd2_5, fd2_6, fd9_0, fd9_1, fd9_2, fd9_3, fd9_4, fd9_5, fd9_6, fd9_7, fd23_0, fd23_1, fd23_2, fd23_3, fd23_4, fd23_5, fd23_6, fd23_7, fd23_8, fd23_9, fd23_10, fd23_11, fd64_0, fd64_1, fd64_2, fd64_3, fd64_4, fd64_5, fd64_6, fd64_7, fd64_8, fd64_9, fd64_10, fd64_11, fd64_12, fd64_13, fd64_14, fd64_15, fd64_16, fd64_17, fd64_18, fd64_19, fd64_20, fd64_21, fd64_22, fd64_23]
  exact ⟨_, _, rfl, .int, rfl⟩
theorem newer (a b : St) (S : Mem) : CallD Tryd.prog orc 15 [.agg a.c, .agg b.c] S fun d S' => S' = S ∧ d = .bool (decide (0 < cmpSt a b)) := by
  have h := compareSt (orc := orc) a b
  obtain ⟨a1, a2, a3, a4⟩ := a
  obtain ⟨b1, b2, b3, b4⟩ := b
  simp only [St.c] at h ⊢
  refine CallD.drop ?_
  refine CallD.body Tryd.func15 rfl (by simp [Tryd.ntmps15]) ?_
  rw [Tryd.ntmps15]
  repeat' (first
    | refine Go.seq ?_
    | refine Go.rg ?_
    | refine GoR.nil ?_
    | refine Go.skip ?_
    | refine Go.ret ?_
    | refine Go.block ?_
    | refine Go.exit ?_
    | refine Go.blkX ?_
    | refine Go.blkN ?_
    | refine Go.passX ?_
    | refine Go.lpX ?_
    | (refine Go.blkE (by decide) ?_)
    | (refine Go.rgS dmx (by decide) ?_)
    | ((first | refine GoR.op (by decide) (by rfl) ?_ | refine GoR.opG (by decide) (by rfl) (by rfl) ?_)
       conv => arg 1; simp only [G, Z, Y, un_neg, Int.reduceEq, Int.reduceLE, cutD, Nat.reduceBEq, Nat.reduceAdd, Nat.reduceMul, Nat.reduceSub, Nat.reducePow, Nat.reduceLT, Nat.reduceGT, Nat.reduceLeDiff, Nat.reduceEqDiff, Int.reduceToNat, gt_iff_lt, if_true, if_false, beq_self_eq_true, reduceIte, decide_true, decide_false, fd2_0, fd2_1, fd2_2, fd2_3, fd2_4, fd2_5, fd2_6, fd3_0, fd3_1, fd3_2, fd3_3, fd3_4, fd3_5, fd3_6, fd9_0, fd9_1, fd9_2, fd9_3, fd9_4, fd9_5, fd9_6, fd9_7, fd23_0, fd23_1, fd23_2, fd23_3, fd23_4, fd23_5, fd23_6, fd23_7, fd23_8, fd23_9, fd23_10, fd23_11]
       show GoR _ _ _ _ _ _ _ _ _ _)
    | ((first | refine GoR.call (f := 14) (by decide) (by rfl) rfl Tryd.func14 (by decide) (by rfl) ?_ | refine GoR.callG (f := 14) (by decide) (by rfl) (by rfl) rfl Tryd.func14 (by decide) (by rfl) ?_)
       (refine (h _).ret ?_))
    | refine Go.condT (by rfl) ?_
    | refine Go.condF (by rfl) ?_
    | refine GoR.skipG (by decide) rfl rfl ?_
    | (refine GoR.splitG rfl (fun hc => ?_) (fun hc => ?_) <;> simp only [hc])
    | refine Go.condB rfl (fun hc => ?_) (fun hc => ?_))
  refine ⟨(by first | exact .inl rfl | exact .inr rfl), fin ?_⟩
  rw [resD_tmp (fn := Tryd.f15) rfl]
  simp only [optThen_some, resultD_tmp, resultD_cell, G, Z, Y, un_neg, Int.reduceEq, Int.reduceLE, cutD, Nat.reduceBEq, Nat.reduceAdd, Nat.reduceMul, Nat.reduceSub, Nat.reducePow, Nat.reduceLT, Nat.reduceGT, Nat.reduceLeDiff, Nat.reduceEqDiff, Int.reduceToNat, gt_iff_lt, if_true, if_false, beq_self_eq_true, reduceIte, decide_true, decide_false, fd2_0, fd2_1, fd2_2, fd2_3, fd2_4, fd2_5, fd2_6, fd3_0, fd3_1, fd3_2, fd3_3, fd3_4, fd3_5, fd3_6, fd9_0, fd9_1, fd9_2, fd9_3, fd9_4, fd9_5, fd9_6, fd9_7, fd23_0, fd23_1, fd23_2, fd23_3, fd23_4, fd23_5, fd23_6, fd23_7, fd23_8, fd23_9, fd23_10, fd23_11]
  exact ⟨_, _, rfl, .bool, rfl⟩
end Go.Proofs.DnT
