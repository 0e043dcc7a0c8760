/- Of any stamps the newest is one, wherever it stands. -/
import Derived.Test.YtipeffaojbhbmaaDoorDnC5
import Derived.Test.YtipeffaojbhbmaaDoorDnEq
import Derived.Test.YtipeffaojbhbmaaDoorDmWx
set_option linter.unusedSimpArgs false
set_option linter.unusedVariables false
namespace Go.Proofs.DnT
open Go Go.DM
set_option maxRecDepth 100000

def stsC (l : List St) : List D := l.flatMap St.c
theorem stsC_length : ∀ (l : List St), (stsC l).length = l.length * 4
  | [] => rfl
  | x :: l => by
    have := stsC_length l
    simp only [stsC, List.flatMap_cons, List.length_append, List.length_cons] at *
    rw [this]
    show 4 + _ = _
    omega
theorem stsC_drop : ∀ {l : List St} {i : Nat} (h : i < l.length), (stsC l).drop (i * 4) = l[i].c ++ stsC (l.drop (i + 1))
  | x :: l, 0, _ => by simp [stsC]
  | x :: l, i + 1, h => by
    have := stsC_drop (l := l) (i := i) (by simpa using h)
    simp only [stsC, List.flatMap_cons] at *
    rw [show (i + 1) * 4 = x.c.length + i * 4 by show _ = 4 + _; omega, ← List.drop_drop, List.drop_left, this]
    simp
theorem stsAt {l : List St} {i : Nat} (h : i < l.length) : ((0 ≤ (i : Int) ∧ (i : Int) < (l.length : Int)) = True) ∧ (((stsC l).drop (i * 4)).take 4 = [.int .i64 l[i].tick, .int .i64 l[i].inc, .int .i64 l[i].seq, .str l[i].org]) ∧ ((i * 4 + 4 ≤ (stsC l).length) = True) ∧ (stsC l)[i * 4 + 3]? = some (.str l[i].org) := by
  refine ⟨ix_ok h, ?_, ?_, ?_⟩
  · rw [stsC_drop h]
    rfl
  · simp only [stsC_length, eq_iff_iff, iff_true]
    omega
  · have := congrArg (fun x => x[3]?) (stsC_drop h)
    simp only [List.getElem?_drop] at this
    rw [this]
    rfl
theorem rem_cast {P : Program} {t : TypeId} {x y : Operand} {a b : Nat} (hb : 0 < b) : binD P .rem t x y (.int .i64 (a : Int)) (.int .i64 (b : Int)) = some (.int .i64 ((a % b : Nat) : Int)) :=
  bin_int (v := .int .i64 ((a % b : Nat) : Int)) (by simp only [AM.intBin]; rw [if_neg (by omega), Int.ofNat_tmod]) rfl
theorem add_cast {i j : Nat} (h : i + j < 4611686018427387904) : IntKind.i64.wrap ((i : Int) + (j : Int)) = ((i + j : Nat) : Int) := by rw [wrap64 (by omega) (by omega)]; omega
theorem i64_cast {i : Nat} (h : i < 4611686018427387904) : IntKind.i64.wrap (i : Int) = (i : Int) := wrap64 (by omega) (by omega)
theorem onto {n t k : Nat} (hk : k < n) : ∃ j, j < n ∧ (j + t) % n = k := by
  refine ⟨(k + (n - t % n)) % n, Nat.mod_lt _ (by omega), ?_⟩
  have h1 : t % n < n := Nat.mod_lt _ (by omega)
  rw [Nat.mod_add_mod, ← Nat.add_mod_mod (n := t), show k + (n - t % n) + t % n = k + n by omega, Nat.add_mod_right, Nat.mod_eq_of_lt hk]

set_option maxHeartbeats 4000000 in
theorem lawNewest (l : List St) (t : Nat) (ht : t < 256) (S : Mem) : CallD Tryd.prog O 5 [.sl none 4 l.length (stsC l), .int .u8 (t : Int)] S fun d S' => S' = S ∧ d = .bool true := by
  refine CallD.drop ?_
  refine CallD.body Tryd.func5 rfl (by simp [Tryd.ntmps5]) ?_
  rw [Tryd.ntmps5]
  by_cases hl0 : l.length = 0
  · have hz : ((l.length : Int) == 0) = true := by rw [beq_iff_eq]; omega
    repeat' (first
      | refine Go.seq ?_
      | refine Go.rg ?_
      | refine GoR.nil ?_
      | refine Go.skip ?_
      | refine Go.ret ?_
      | refine Go.block ?_
      | refine Go.exit ?_
      | refine Go.blkX ?_
      | refine Go.blkN ?_
      | refine Go.passX ?_
      | refine Go.lpX ?_
      | (refine Go.blkE (by decide) ?_)
      | (refine Go.rgS dmx (by decide) ?_)
      | ((first | refine GoR.op (by decide) (by rfl) ?_ | refine GoR.opG (by decide) (by rfl) (by rfl) ?_)
         conv => arg 1; simp only [G, Z, Y, un_neg, Int.reduceEq, Int.reduceLE, cutD, Nat.reduceBEq, Nat.reduceAdd, Nat.reduceMul, Nat.reduceSub, Nat.reducePow, Nat.reduceLT, Nat.reduceGT, Nat.reduceLeDiff, Nat.reduceEqDiff, Int.reduceToNat, gt_iff_lt, if_true, if_false, beq_self_eq_true, reduceIte, decide_true, decide_false, fd2_0, fd2_1, fd2_2, fd2_3, fd2_4, fd2_5, fd2_6, fd3_0, fd3_1, fd3_2, fd3_3, fd3_4, fd3_5, fd3_6, fd5_0, fd5_1, fd5_2, fd5_3, fd5_4, fd5_5, fd5_6, fd9_0, fd9_1, fd9_2, fd9_3, fd9_4, fd9_5, fd9_6, fd9_7, fd23_0, fd23_1, fd23_2, fd23_3, fd23_4, fd23_5, fd23_6, fd23_7, fd23_8, fd23_9, fd23_10, fd23_11, fd36_0, fd36_1, fd36_2, fd36_3, fd36_4, fd36_5, fd36_6, fd36_7, fd36_8, fd36_9, fd36_10, fd36_11, fd36_12, fd36_13, fd36_14, fd36_15, fd36_16, fd36_17, fd36_18, fd36_19, fd36_20, fd36_21, fd36_22, fd36_23, hz]
         show GoR _ _ _ _ _ _ _ _ _ _)
      | ((first | refine GoR.call (f := 9) (by decide) (by rfl) rfl Tryd.func9 (by decide) (by rfl) ?_ | refine GoR.callG (f := 9) (by decide) (by rfl) (by rfl) rfl Tryd.func9 (by decide) (by rfl) ?_)
         (refine (known _).ret ?_))
      | refine Go.condT (by rfl) ?_
      | refine Go.condF (by rfl) ?_
      | refine GoR.skipG (by decide) rfl rfl ?_
      | (refine GoR.splitG rfl (fun hc => ?_) (fun hc => ?_) <;> simp only [hc])
      | refine Go.condB rfl (fun hc => ?_) (fun hc => ?_))
    refine ⟨(by first | exact .inl rfl | exact .inr rfl), fin ?_⟩
    rw [resD_tmp (fn := Tryd.f5) rfl]
    simp only [optThen_some, resultD_tmp, resultD_cell, G, Z, Y, un_neg, Int.reduceEq, Int.reduceLE, cutD, Nat.reduceBEq, Nat.reduceAdd, Nat.reduceMul, Nat.reduceSub, Nat.reducePow, Nat.reduceLT, Nat.reduceGT, Nat.reduceLeDiff, Nat.reduceEqDiff, Int.reduceToNat, gt_iff_lt, if_true, if_false, beq_self_eq_true, reduceIte, decide_true, decide_false, fd2_0, fd2_1, fd2_2, fd2_3, fd2_4, fd2_5, fd2_6, fd3_0, fd3_1, fd3_2, fd3_3, fd3_4, fd3_5, fd3_6, fd5_0, fd5_1, fd5_2, fd5_3, fd5_4, fd5_5, fd5_6, fd9_0, fd9_1, fd9_2, fd9_3, fd9_4, fd9_5, fd9_6, fd9_7, fd23_0, fd23_1, fd23_2, fd23_3, fd23_4, fd23_5, fd23_6, fd23_7, fd23_8, fd23_9, fd23_10, fd23_11, fd36_0, fd36_1, fd36_2, fd36_3, fd36_4, fd36_5, fd36_6, fd36_7, fd36_8, fd36_9, fd36_10, fd36_11, fd36_12, fd36_13, fd36_14, fd36_15, fd36_16, fd36_17, fd36_18, fd36_19, fd36_20, fd36_21, fd36_22, fd36_23]
    exact ⟨_, [], by simp, .bool, rfl⟩
  have hz : ((l.length : Int) == 0) = false := by rw [beq_eq_false_iff_ne]; omega
  by_cases hl1 : 40 < l.length
  · have h40 : decide (40 < (l.length : Int)) = true := by rw [decide_eq_true_iff]; omega
    repeat' (first
      | refine Go.seq ?_
      | refine Go.rg ?_
      | refine GoR.nil ?_
      | refine Go.skip ?_
      | refine Go.ret ?_
      | refine Go.block ?_
      | refine Go.exit ?_
      | refine Go.blkX ?_
      | refine Go.blkN ?_
      | refine Go.passX ?_
      | refine Go.lpX ?_
      | (refine Go.blkE (by decide) ?_)
      | (refine Go.rgS dmx (by decide) ?_)
      | ((first | refine GoR.op (by decide) (by rfl) ?_ | refine GoR.opG (by decide) (by rfl) (by rfl) ?_)
         conv => arg 1; simp only [G, Z, Y, un_neg, Int.reduceEq, Int.reduceLE, cutD, Nat.reduceBEq, Nat.reduceAdd, Nat.reduceMul, Nat.reduceSub, Nat.reducePow, Nat.reduceLT, Nat.reduceGT, Nat.reduceLeDiff, Nat.reduceEqDiff, Int.reduceToNat, gt_iff_lt, if_true, if_false, beq_self_eq_true, reduceIte, decide_true, decide_false, fd2_0, fd2_1, fd2_2, fd2_3, fd2_4, fd2_5, fd2_6, fd3_0, fd3_1, fd3_2, fd3_3, fd3_4, fd3_5, fd3_6, fd5_0, fd5_1, fd5_2, fd5_3, fd5_4, fd5_5, fd5_6, fd9_0, fd9_1, fd9_2, fd9_3, fd9_4, fd9_5, fd9_6, fd9_7, fd23_0, fd23_1, fd23_2, fd23_3, fd23_4, fd23_5, fd23_6, fd23_7, fd23_8, fd23_9, fd23_10, fd23_11, fd36_0, fd36_1, fd36_2, fd36_3, fd36_4, fd36_5, fd36_6, fd36_7, fd36_8, fd36_9, fd36_10, fd36_11, fd36_12, fd36_13, fd36_14, fd36_15, fd36_16, fd36_17, fd36_18, fd36_19, fd36_20, fd36_21, fd36_22, fd36_23, hz, h40]
         show GoR _ _ _ _ _ _ _ _ _ _)
      | ((first | refine GoR.call (f := 9) (by decide) (by rfl) rfl Tryd.func9 (by decide) (by rfl) ?_ | refine GoR.callG (f := 9) (by decide) (by rfl) (by rfl) rfl Tryd.func9 (by decide) (by rfl) ?_)
         (refine (known _).ret ?_))
      | refine Go.condT (by rfl) ?_
      | refine Go.condF (by rfl) ?_
      | refine GoR.skipG (by decide) rfl rfl ?_
      | (refine GoR.splitG rfl (fun hc => ?_) (fun hc => ?_) <;> simp only [hc])
      | refine Go.condB rfl (fun hc => ?_) (fun hc => ?_))
    refine ⟨(by first | exact .inl rfl | exact .inr rfl), fin ?_⟩
    rw [resD_tmp (fn := Tryd.f5) rfl]
    simp only [optThen_some, resultD_tmp, resultD_cell, G, Z, Y, un_neg, Int.reduceEq, Int.reduceLE, cutD, Nat.reduceBEq, Nat.reduceAdd, Nat.reduceMul, Nat.reduceSub, Nat.reducePow, Nat.reduceLT, Nat.reduceGT, Nat.reduceLeDiff, Nat.reduceEqDiff, Int.reduceToNat, gt_iff_lt, if_true, if_false, beq_self_eq_true, reduceIte, decide_true, decide_false, fd2_0, fd2_1, fd2_2, fd2_3, fd2_4, fd2_5, fd2_6, fd3_0, fd3_1, fd3_2, fd3_3, fd3_4, fd3_5, fd3_6, fd5_0, fd5_1, fd5_2, fd5_3, fd5_4, fd5_5, fd5_6, fd9_0, fd9_1, fd9_2, fd9_3, fd9_4, fd9_5, fd9_6, fd9_7, fd23_0, fd23_1, fd23_2, fd23_3, fd23_4, fd23_5, fd23_6, fd23_7, fd23_8, fd23_9, fd23_10, fd23_11, fd36_0, fd36_1, fd36_2, fd36_3, fd36_4, fd36_5, fd36_6, fd36_7, fd36_8, fd36_9, fd36_10, fd36_11, fd36_12, fd36_13, fd36_14, fd36_15, fd36_16, fd36_17, fd36_18, fd36_19, fd36_20, fd36_21, fd36_22, fd36_23]
    exact ⟨_, [], by simp, .bool, rfl⟩
  have hpos : 0 < l.length := by omega
  have h40 : decide (40 < (l.length : Int)) = false := by rw [decide_eq_false_iff_not]; omega
  have h00 := stsAt hpos
  have hm := stsAt (Nat.mod_lt t hpos)
  simp only [Nat.zero_mul, Nat.zero_add, List.drop_zero] at h00
  have h00' : ((0 : Int) < (l.length : Int)) = True := by rw [eq_iff_iff, iff_true]; omega
  repeat' (first
    | refine Go.seq ?_
    | refine Go.rg ?_
    | refine GoR.nil ?_
    | refine Go.skip ?_
    | refine Go.ret ?_
    | refine Go.block ?_
    | refine Go.exit ?_
    | refine Go.blkX ?_
    | refine Go.blkN ?_
    | refine Go.passX ?_
    | refine Go.lpX ?_
    | (refine Go.blkE (by decide) ?_)
    | (refine Go.rgS dmx (by decide) ?_)
    | ((first | refine GoR.op (by decide) (by rfl) ?_ | refine GoR.opG (by decide) (by rfl) (by rfl) ?_)
       conv => arg 1; simp only [G, Z, Y, un_neg, Int.reduceEq, Int.reduceLE, cutD, Nat.reduceBEq, Nat.reduceAdd, Nat.reduceMul, Nat.reduceSub, Nat.reducePow, Nat.reduceLT, Nat.reduceGT, Nat.reduceLeDiff, Nat.reduceEqDiff, Int.reduceToNat, gt_iff_lt, if_true, if_false, beq_self_eq_true, reduceIte, decide_true, decide_false, fd2_0, fd2_1, fd2_2, fd2_3, fd2_4, fd2_5, fd2_6, fd3_0, fd3_1, fd3_2, fd3_3, fd3_4, fd3_5, fd3_6, fd5_0, fd5_1, fd5_2, fd5_3, fd5_4, fd5_5, fd5_6, fd9_0, fd9_1, fd9_2, fd9_3, fd9_4, fd9_5, fd9_6, fd9_7, fd23_0, fd23_1, fd23_2, fd23_3, fd23_4, fd23_5, fd23_6, fd23_7, fd23_8, fd23_9, fd23_10, fd23_11, fd36_0, fd36_1, fd36_2, fd36_3, fd36_4, fd36_5, fd36_6, fd36_7, fd36_8, fd36_9, fd36_10, fd36_11, fd36_12, fd36_13, fd36_14, fd36_15, fd36_16, fd36_17, fd36_18, fd36_19, fd36_20, fd36_21, fd36_22, fd36_23, hz, h40, h00', true_and, Int.le_refl, h00.2, hm, rem_cast hpos, i64_cast (show t < 4611686018427387904 by omega), Int.toNat_zero, Nat.zero_mul, Nat.zero_add]
       show GoR _ _ _ _ _ _ _ _ _ _)
    | ((first | refine GoR.call (f := 9) (by decide) (by rfl) rfl Tryd.func9 (by decide) (by rfl) ?_ | refine GoR.callG (f := 9) (by decide) (by rfl) (by rfl) rfl Tryd.func9 (by decide) (by rfl) ?_)
       (refine (known _).ret ?_))
    | refine Go.condT (by rfl) ?_
    | refine Go.condF (by rfl) ?_
    | refine GoR.skipG (by decide) rfl rfl ?_
    | (refine GoR.splitG rfl (fun hc => ?_) (fun hc => ?_) <;> simp only [hc])
    | refine Go.condB rfl (fun hc => ?_) (fun hc => ?_))
  refine Go.keep [(0, .sl none 4 l.length (stsC l)), (1, .int .u8 (t : Int)), (5, .ptr S.length 0), (6, .ptr (S.length + 1) 0), (7, .int .i64 ((0 : Nat) : Int))] (.cons .refl (.cons .refl (.cons .refl (.cons .refl (.cons .refl (.nil)))))) ?_
  refine Go.while (α := Nat × St × St × Mem) (fun x => l.length - x.1) (fun x => [(0, .sl none 4 l.length (stsC l)), (1, .int .u8 (t : Int)), (5, .ptr S.length 0), (6, .ptr (S.length + 1) 0), (7, .int .i64 (x.1 : Int))])
    (fun x => S ++ (.obj [.int .i64 x.2.1.tick, .int .i64 x.2.1.inc, .int .i64 x.2.1.seq, .str x.2.1.org] :: .obj [.int .i64 x.2.2.1.tick, .int .i64 x.2.2.1.inc, .int .i64 x.2.2.1.seq, .str x.2.2.1.org] :: x.2.2.2))
    (fun x => x.1 ≤ l.length ∧ (x.2.1 ∈ l ∧ ∀ j (h : j < l.length), j < x.1 → ¬ ltSt x.2.1 l[j]) ∧ (x.2.2.1 ∈ l ∧ ∀ j (h : (j + t) % l.length < l.length), j < x.1 → ¬ ltSt x.2.2.1 (l[(j + t) % l.length]'h)))
    ?_ (0, l[0], l[t % l.length]'(Nat.mod_lt t hpos), []) ⟨Nat.zero_le _, ⟨List.getElem_mem _, by simp⟩, ⟨List.getElem_mem _, by simp⟩⟩
  rintro ⟨i, a, b, E⟩ ⟨hi, ⟨ha, hka⟩, ⟨hb, hkb⟩⟩ next
  dsimp only at hi ha hka hb hkb next
  by_cases h1 : i < l.length
  · have hmi := Nat.mod_lt (i + t) hpos
    have s1 := stsAt h1
    have s2 := stsAt hmi
    have hx1 : l[i] ∈ l := List.getElem_mem _
    have hx2 : l[(i + t) % l.length]'hmi ∈ l := List.getElem_mem _
    have hka2 : ∀ a', ¬ ltSt a' l[i] → (∀ j (h : j < l.length), j < i → ¬ ltSt a' l[j]) → ∀ j (h : j < l.length), j < i + 1 → ¬ ltSt a' l[j] := fun a' h0 hk j h hj => by
      rcases Nat.lt_or_ge j i with h2 | h2
      · exact hk j h h2
      · obtain rfl : j = i := by omega
        exact h0
    have hkb2 : ∀ b', ¬ ltSt b' (l[(i + t) % l.length]'hmi) → (∀ j (h : (j + t) % l.length < l.length), j < i → ¬ ltSt b' (l[(j + t) % l.length]'h)) → ∀ j (h : (j + t) % l.length < l.length), j < i + 1 → ¬ ltSt b' (l[(j + t) % l.length]'h) := fun b' h0 hk j h hj => by
      rcases Nat.lt_or_ge j i with h2 | h2
      · exact hk j h h2
      · obtain rfl : j = i := by omega
        exact h0
    generalize l[i] = x at *
    generalize l[(i + t) % l.length]'hmi = y at *
    have wi := wrap_succ (show i < 4611686018427387904 by omega)
    have ii := i64_cast (show t < 4611686018427387904 by omega)
    have ai := add_cast (show i + t < 4611686018427387904 by omega)
    have di : decide ((i : Int) < (l.length : Int)) = true := by simp; omega
    have hN1 := fun S => newer (orc := O) x a S
    have hN2 := fun S => newer (orc := O) y b S
    by_cases h100 : 100 < x.org.size
    · have e100 : decide (100 < (x.org.size : Int)) = true := by rw [decide_eq_true_iff]; omega
      clear next
      repeat' (first
        | refine Go.seq ?_
        | refine Go.rg ?_
        | refine GoR.nil ?_
        | refine Go.skip ?_
        | refine Go.ret ?_
        | refine Go.block ?_
        | refine Go.exit ?_
        | refine Go.blkX ?_
        | refine Go.blkN ?_
        | refine Go.passX ?_
        | refine Go.lpX ?_
        | (refine Go.blkE (by decide) ?_)
        | (refine Go.rgS dmx (by decide) ?_)
        | ((first | refine GoR.op (by decide) (by rfl) ?_ | refine GoR.opG (by decide) (by rfl) (by rfl) ?_)
           conv => arg 1; simp only [G, Z, Y, un_neg, Int.reduceEq, Int.reduceLE, cutD, Nat.reduceBEq, Nat.reduceAdd, Nat.reduceMul, Nat.reduceSub, Nat.reducePow, Nat.reduceLT, Nat.reduceGT, Nat.reduceLeDiff, Nat.reduceEqDiff, Int.reduceToNat, gt_iff_lt, if_true, if_false, beq_self_eq_true, reduceIte, decide_true, decide_false, fd2_0, fd2_1, fd2_2, fd2_3, fd2_4, fd2_5, fd2_6, fd3_0, fd3_1, fd3_2, fd3_3, fd3_4, fd3_5, fd3_6, fd5_0, fd5_1, fd5_2, fd5_3, fd5_4, fd5_5, fd5_6, fd9_0, fd9_1, fd9_2, fd9_3, fd9_4, fd9_5, fd9_6, fd9_7, fd23_0, fd23_1, fd23_2, fd23_3, fd23_4, fd23_5, fd23_6, fd23_7, fd23_8, fd23_9, fd23_10, fd23_11, fd36_0, fd36_1, fd36_2, fd36_3, fd36_4, fd36_5, fd36_6, fd36_7, fd36_8, fd36_9, fd36_10, fd36_11, fd36_12, fd36_13, fd36_14, fd36_15, fd36_16, fd36_17, fd36_18, fd36_19, fd36_20, fd36_21, fd36_22, fd36_23, s1, di, e100]
           show GoR _ _ _ _ _ _ _ _ _ _)
        | refine Go.condT (by rfl) ?_
        | refine Go.condF (by rfl) ?_
        | refine GoR.skipG (by decide) rfl rfl ?_
        | (refine GoR.splitG rfl (fun hc => ?_) (fun hc => ?_) <;> simp only [hc])
        | refine Go.condB rfl (fun hc => ?_) (fun hc => ?_))
      refine ⟨(by first | exact .inl rfl | exact .inr rfl), fin ?_⟩
      rw [resD_tmp (fn := Tryd.f5) rfl]
      simp only [optThen_some, resultD_tmp, resultD_cell, G, Z, Y, un_neg, Int.reduceEq, Int.reduceLE, cutD, Nat.reduceBEq, Nat.reduceAdd, Nat.reduceMul, Nat.reduceSub, Nat.reducePow, Nat.reduceLT, Nat.reduceGT, Nat.reduceLeDiff, Nat.reduceEqDiff, Int.reduceToNat, gt_iff_lt, if_true, if_false, beq_self_eq_true, reduceIte, decide_true, decide_false, fd2_0, fd2_1, fd2_2, fd2_3, fd2_4, fd2_5, fd2_6, fd3_0, fd3_1, fd3_2, fd3_3, fd3_4, fd3_5, fd3_6, fd5_0, fd5_1, fd5_2, fd5_3, fd5_4, fd5_5, fd5_6, fd9_0, fd9_1, fd9_2, fd9_3, fd9_4, fd9_5, fd9_6, fd9_7, fd23_0, fd23_1, fd23_2, fd23_3, fd23_4, fd23_5, fd23_6, fd23_7, fd23_8, fd23_9, fd23_10, fd23_11, fd36_0, fd36_1, fd36_2, fd36_3, fd36_4, fd36_5, fd36_6, fd36_7, fd36_8, fd36_9, fd36_10, fd36_11, fd36_12, fd36_13, fd36_14, fd36_15, fd36_16, fd36_17, fd36_18, fd36_19, fd36_20, fd36_21, fd36_22, fd36_23]
      exact ⟨_, _, rfl, .bool, rfl⟩
    have e100 : decide (100 < (x.org.size : Int)) = false := by rw [decide_eq_false_iff_not]; omega
    have hnext : ∀ a' b' E', (a' ∈ l ∧ ∀ j (h : j < l.length), j < i + 1 → ¬ ltSt a' l[j]) → (b' ∈ l ∧ ∀ j (h : (j + t) % l.length < l.length), j < i + 1 → ¬ ltSt b' (l[(j + t) % l.length]'h)) → _ := fun a' b' E' k1 k2 => next (i + 1, a', b', E') (by dsimp only; omega) ⟨h1, k1, k2⟩
    dsimp only at hnext
    clear next
    have kA0 : decide (0 < cmpSt x a) = false → (a ∈ l ∧ ∀ j (h : j < l.length), j < i + 1 → ¬ ltSt a l[j]) := fun e => ⟨ha, hka2 a (fun h => by rw [decide_eq_false_iff_not] at e; exact e (cmpSt_pos.2 h)) hka⟩
    have kA1 : decide (0 < cmpSt x a) = true → (x ∈ l ∧ ∀ j (h : j < l.length), j < i + 1 → ¬ ltSt x l[j]) := fun e => ⟨hx1, hka2 x (ltSt_irrefl _) fun j h hj hlt => hka j h hj (ltSt_trans (cmpSt_pos.1 (of_decide_eq_true e)) hlt)⟩
    have kB0 : decide (0 < cmpSt y b) = false → (b ∈ l ∧ ∀ j (h : (j + t) % l.length < l.length), j < i + 1 → ¬ ltSt b (l[(j + t) % l.length]'h)) := fun e => ⟨hb, hkb2 b (fun h => by rw [decide_eq_false_iff_not] at e; exact e (cmpSt_pos.2 h)) hkb⟩
    have kB1 : decide (0 < cmpSt y b) = true → (y ∈ l ∧ ∀ j (h : (j + t) % l.length < l.length), j < i + 1 → ¬ ltSt y (l[(j + t) % l.length]'h)) := fun e => ⟨hx2, hkb2 y (ltSt_irrefl _) fun j h hj hlt => hkb j h hj (ltSt_trans (cmpSt_pos.1 (of_decide_eq_true e)) hlt)⟩
    simp only [St.c] at hN1 hN2
    cases n1 : decide (0 < cmpSt x a) <;> cases n2 : decide (0 < cmpSt y b) <;> rw [n1] at hN1 <;> rw [n2] at hN2
    all_goals
      repeat' (first
        | refine Go.seq ?_
        | refine Go.rg ?_
        | refine GoR.nil ?_
        | refine Go.skip ?_
        | refine Go.ret ?_
        | refine Go.block ?_
        | refine Go.exit ?_
        | refine Go.blkX ?_
        | refine Go.blkN ?_
        | refine Go.passX ?_
        | refine Go.lpX ?_
        | (refine Go.blkE (by decide) ?_)
        | (refine Go.rgS dmx (by decide) ?_)
        | ((first | refine GoR.op (by decide) (by rfl) ?_ | refine GoR.opG (by decide) (by rfl) (by rfl) ?_)
           conv => arg 1; simp only [G, Z, Y, un_neg, Int.reduceEq, Int.reduceLE, cutD, Nat.reduceBEq, Nat.reduceAdd, Nat.reduceMul, Nat.reduceSub, Nat.reducePow, Nat.reduceLT, Nat.reduceGT, Nat.reduceLeDiff, Nat.reduceEqDiff, Int.reduceToNat, gt_iff_lt, if_true, if_false, beq_self_eq_true, reduceIte, decide_true, decide_false, fd2_0, fd2_1, fd2_2, fd2_3, fd2_4, fd2_5, fd2_6, fd3_0, fd3_1, fd3_2, fd3_3, fd3_4, fd3_5, fd3_6, fd5_0, fd5_1, fd5_2, fd5_3, fd5_4, fd5_5, fd5_6, fd9_0, fd9_1, fd9_2, fd9_3, fd9_4, fd9_5, fd9_6, fd9_7, fd23_0, fd23_1, fd23_2, fd23_3, fd23_4, fd23_5, fd23_6, fd23_7, fd23_8, fd23_9, fd23_10, fd23_11, fd36_0, fd36_1, fd36_2, fd36_3, fd36_4, fd36_5, fd36_6, fd36_7, fd36_8, fd36_9, fd36_10, fd36_11, fd36_12, fd36_13, fd36_14, fd36_15, fd36_16, fd36_17, fd36_18, fd36_19, fd36_20, fd36_21, fd36_22, fd36_23, s1, s2, wr_full, rem_cast hpos, ai, ii, wi, di, e100]
           show GoR _ _ _ _ _ _ _ _ _ _)
        | ((first | refine GoR.call (f := 15) (by decide) (by rfl) rfl Tryd.func15 (by decide) (by rfl) ?_ | refine GoR.callG (f := 15) (by decide) (by rfl) (by rfl) rfl Tryd.func15 (by decide) (by rfl) ?_)
           (first | (refine (hN1 _).ret ?_) | (refine (hN2 _).ret ?_)))
        | refine Go.condT (by rfl) ?_
        | refine Go.condF (by rfl) ?_
        | refine GoR.skipG (by decide) rfl rfl ?_
        | (refine GoR.splitG rfl (fun hc => ?_) (fun hc => ?_) <;> simp only [hc])
        | refine Go.condB rfl (fun hc => ?_) (fun hc => ?_))
      refine Go.lpN ?_
      refine Go.keep [(0, .sl none 4 l.length (stsC l)), (1, .int .u8 (t : Int)), (5, .ptr S.length 0), (6, .ptr (S.length + 1) 0), (7, .int .i64 ((i + 1 : Nat) : Int))] (.cons .refl (.cons .refl (.cons .refl (.cons .refl (.cons .refl (.nil)))))) ?_
      refine hnext _ _ _ ?_ ?_
      · first | exact kA0 n1 | exact kA1 n1
      · first | exact kB0 n2 | exact kB1 n2
  · clear next
    have hil : i = l.length := by omega
    subst hil
    have hab : a = b := by
      rcases ltSt_total a b with h | h | h
      · obtain ⟨k, hk, rfl⟩ := List.mem_iff_getElem.1 hb
        exact absurd h (hka k hk hk)
      · exact h
      · obtain ⟨k, hk, rfl⟩ := List.mem_iff_getElem.1 ha
        obtain ⟨j, hj, e⟩ := onto (t := t) hk
        have := hkb j (by omega) hj
        simp only [e] at this
        exact absurd h this
    subst hab
    repeat' (first
      | refine Go.seq ?_
      | refine Go.rg ?_
      | refine GoR.nil ?_
      | refine Go.skip ?_
      | refine Go.ret ?_
      | refine Go.block ?_
      | refine Go.exit ?_
      | refine Go.blkX ?_
      | refine Go.blkN ?_
      | refine Go.passX ?_
      | refine Go.lpX ?_
      | (refine Go.blkE (by decide) ?_)
      | (refine Go.rgS dmx (by decide) ?_)
      | ((first | refine GoR.op (by decide) (by rfl) ?_ | refine GoR.opG (by decide) (by rfl) (by rfl) ?_)
         conv => arg 1; simp only [G, Z, Y, un_neg, Int.reduceEq, Int.reduceLE, cutD, Nat.reduceBEq, Nat.reduceAdd, Nat.reduceMul, Nat.reduceSub, Nat.reducePow, Nat.reduceLT, Nat.reduceGT, Nat.reduceLeDiff, Nat.reduceEqDiff, Int.reduceToNat, gt_iff_lt, if_true, if_false, beq_self_eq_true, reduceIte, decide_true, decide_false, fd2_0, fd2_1, fd2_2, fd2_3, fd2_4, fd2_5, fd2_6, fd3_0, fd3_1, fd3_2, fd3_3, fd3_4, fd3_5, fd3_6, fd5_0, fd5_1, fd5_2, fd5_3, fd5_4, fd5_5, fd5_6, fd9_0, fd9_1, fd9_2, fd9_3, fd9_4, fd9_5, fd9_6, fd9_7, fd23_0, fd23_1, fd23_2, fd23_3, fd23_4, fd23_5, fd23_6, fd23_7, fd23_8, fd23_9, fd23_10, fd23_11, fd36_0, fd36_1, fd36_2, fd36_3, fd36_4, fd36_5, fd36_6, fd36_7, fd36_8, fd36_9, fd36_10, fd36_11, fd36_12, fd36_13, fd36_14, fd36_15, fd36_16, fd36_17, fd36_18, fd36_19, fd36_20, fd36_21, fd36_22, fd36_23, show decide ((l.length : Int) < (l.length : Int)) = false by simp]
         show GoR _ _ _ _ _ _ _ _ _ _)
      | refine Go.condT (by rfl) ?_
      | refine Go.condF (by rfl) ?_
      | refine GoR.skipG (by decide) rfl rfl ?_
      | (refine GoR.splitG rfl (fun hc => ?_) (fun hc => ?_) <;> simp only [hc])
      | refine Go.condB rfl (fun hc => ?_) (fun hc => ?_))
    refine Go.keep [(0, .sl none 4 l.length (stsC l)), (5, .ptr S.length 0), (6, .ptr (S.length + 1) 0), (9, .int .i64 ((0 : Nat) : Int))] (.cons .refl (.cons .refl (.cons .refl (.cons .refl (.nil))))) ?_
    refine Go.while (α := Nat) (fun x => l.length - x) (fun x => [(0, .sl none 4 l.length (stsC l)), (5, .ptr S.length 0), (6, .ptr (S.length + 1) 0), (9, .int .i64 (x : Int))])
      (fun x => S ++ (.obj [.int .i64 a.tick, .int .i64 a.inc, .int .i64 a.seq, .str a.org] :: .obj [.int .i64 a.tick, .int .i64 a.inc, .int .i64 a.seq, .str a.org] :: E)) (fun x => x ≤ l.length) ?_ 0 (Nat.zero_le _)
    intro i hi next
    by_cases h1 : i < l.length
    · have s1 := stsAt h1
      have hx := hka i h1 h1
      generalize l[i] = x at *
      have wi := wrap_succ (show i < 4611686018427387904 by omega)
      have di : decide ((i : Int) < (l.length : Int)) = true := by simp; omega
      have n1 : decide (0 < cmpSt x a) = false := by rw [decide_eq_false_iff_not]; exact fun h => hx (cmpSt_pos.1 h)
      have hN1 := fun S => newer (orc := O) x a S
      simp only [St.c, n1] at hN1
      repeat' (first
        | refine Go.seq ?_
        | refine Go.rg ?_
        | refine GoR.nil ?_
        | refine Go.skip ?_
        | refine Go.ret ?_
        | refine Go.block ?_
        | refine Go.exit ?_
        | refine Go.blkX ?_
        | refine Go.blkN ?_
        | refine Go.passX ?_
        | refine Go.lpX ?_
        | (refine Go.blkE (by decide) ?_)
        | (refine Go.rgS dmx (by decide) ?_)
        | ((first | refine GoR.op (by decide) (by rfl) ?_ | refine GoR.opG (by decide) (by rfl) (by rfl) ?_)
           conv => arg 1; simp only [G, Z, Y, un_neg, Int.reduceEq, Int.reduceLE, cutD, Nat.reduceBEq, Nat.reduceAdd, Nat.reduceMul, Nat.reduceSub, Nat.reducePow, Nat.reduceLT, Nat.reduceGT, Nat.reduceLeDiff, Nat.reduceEqDiff, Int.reduceToNat, gt_iff_lt, if_true, if_false, beq_self_eq_true, reduceIte, decide_true, decide_false, fd2_0, fd2_1, fd2_2, fd2_3, fd2_4, fd2_5, fd2_6, fd3_0, fd3_1, fd3_2, fd3_3, fd3_4, fd3_5, fd3_6, fd5_0, fd5_1, fd5_2, fd5_3, fd5_4, fd5_5, fd5_6, fd9_0, fd9_1, fd9_2, fd9_3, fd9_4, fd9_5, fd9_6, fd9_7, fd23_0, fd23_1, fd23_2, fd23_3, fd23_4, fd23_5, fd23_6, fd23_7, fd23_8, fd23_9, fd23_10, fd23_11, fd36_0, fd36_1, fd36_2, fd36_3, fd36_4, fd36_5, fd36_6, fd36_7, fd36_8, fd36_9, fd36_10, fd36_11, fd36_12, fd36_13, fd36_14, fd36_15, fd36_16, fd36_17, fd36_18, fd36_19, fd36_20, fd36_21, fd36_22, fd36_23, s1, wi, di]
           show GoR _ _ _ _ _ _ _ _ _ _)
        | ((first | refine GoR.call (f := 15) (by decide) (by rfl) rfl Tryd.func15 (by decide) (by rfl) ?_ | refine GoR.callG (f := 15) (by decide) (by rfl) (by rfl) rfl Tryd.func15 (by decide) (by rfl) ?_)
           (refine (hN1 _).ret ?_))
        | refine Go.condT (by rfl) ?_
        | refine Go.condF (by rfl) ?_
        | refine GoR.skipG (by decide) rfl rfl ?_
        | (refine GoR.splitG rfl (fun hc => ?_) (fun hc => ?_) <;> simp only [hc])
        | refine Go.condB rfl (fun hc => ?_) (fun hc => ?_))
      refine Go.lpN ?_
      refine Go.keep [(0, .sl none 4 l.length (stsC l)), (5, .ptr S.length 0), (6, .ptr (S.length + 1) 0), (9, .int .i64 ((i + 1 : Nat) : Int))] (.cons .refl (.cons .refl (.cons .refl (.cons .refl (.nil))))) ?_
      exact next (i + 1) (by omega) h1
    · clear next
      repeat' (first
        | refine Go.seq ?_
        | refine Go.rg ?_
        | refine GoR.nil ?_
        | refine Go.skip ?_
        | refine Go.ret ?_
        | refine Go.block ?_
        | refine Go.exit ?_
        | refine Go.blkX ?_
        | refine Go.blkN ?_
        | refine Go.passX ?_
        | refine Go.lpX ?_
        | (refine Go.blkE (by decide) ?_)
        | (refine Go.rgS dmx (by decide) ?_)
        | ((first | refine GoR.op (by decide) (by rfl) ?_ | refine GoR.opG (by decide) (by rfl) (by rfl) ?_)
           conv => arg 1; simp only [G, Z, Y, un_neg, Int.reduceEq, Int.reduceLE, cutD, Nat.reduceBEq, Nat.reduceAdd, Nat.reduceMul, Nat.reduceSub, Nat.reducePow, Nat.reduceLT, Nat.reduceGT, Nat.reduceLeDiff, Nat.reduceEqDiff, Int.reduceToNat, gt_iff_lt, if_true, if_false, beq_self_eq_true, reduceIte, decide_true, decide_false, fd2_0, fd2_1, fd2_2, fd2_3, fd2_4, fd2_5, fd2_6, fd3_0, fd3_1, fd3_2, fd3_3, fd3_4, fd3_5, fd3_6, fd5_0, fd5_1, fd5_2, fd5_3, fd5_4, fd5_5, fd5_6, fd9_0, fd9_1, fd9_2, fd9_3, fd9_4, fd9_5, fd9_6, fd9_7, fd23_0, fd23_1, fd23_2, fd23_3, fd23_4, fd23_5, fd23_6, fd23_7, fd23_8, fd23_9, fd23_10, fd23_11, fd36_0, fd36_1, fd36_2, fd36_3, fd36_4, fd36_5, fd36_6, fd36_7, fd36_8, fd36_9, fd36_10, fd36_11, fd36_12, fd36_13, fd36_14, fd36_15, fd36_16, fd36_17, fd36_18, fd36_19, fd36_20, fd36_21, fd36_22, fd36_23, show decide ((i : Int) < (l.length : Int)) = false by simp; omega, eq_st, and_self]
           show GoR _ _ _ _ _ _ _ _ _ _)
        | refine Go.condT (by rfl) ?_
        | refine Go.condF (by rfl) ?_
        | refine GoR.skipG (by decide) rfl rfl ?_
        | (refine GoR.splitG rfl (fun hc => ?_) (fun hc => ?_) <;> simp only [hc])
        | refine Go.condB rfl (fun hc => ?_) (fun hc => ?_))
      refine ⟨(by first | exact .inl rfl | exact .inr rfl), fin ?_⟩
      rw [resD_tmp (fn := Tryd.f5) rfl]
      simp only [optThen_some, resultD_tmp, resultD_cell, G, Z, Y, un_neg, Int.reduceEq, Int.reduceLE, cutD, Nat.reduceBEq, Nat.reduceAdd, Nat.reduceMul, Nat.reduceSub, Nat.reducePow, Nat.reduceLT, Nat.reduceGT, Nat.reduceLeDiff, Nat.reduceEqDiff, Int.reduceToNat, gt_iff_lt, if_true, if_false, beq_self_eq_true, reduceIte, decide_true, decide_false, fd2_0, fd2_1, fd2_2, fd2_3, fd2_4, fd2_5, fd2_6, fd3_0, fd3_1, fd3_2, fd3_3, fd3_4, fd3_5, fd3_6, fd5_0, fd5_1, fd5_2, fd5_3, fd5_4, fd5_5, fd5_6, fd9_0, fd9_1, fd9_2, fd9_3, fd9_4, fd9_5, fd9_6, fd9_7, fd23_0, fd23_1, fd23_2, fd23_3, fd23_4, fd23_5, fd23_6, fd23_7, fd23_8, fd23_9, fd23_10, fd23_11, fd36_0, fd36_1, fd36_2, fd36_3, fd36_4, fd36_5, fd36_6, fd36_7, fd36_8, fd36_9, fd36_10, fd36_11, fd36_12, fd36_13, fd36_14, fd36_15, fd36_16, fd36_17, fd36_18, fd36_19, fd36_20, fd36_21, fd36_22, fd36_23]
      exact ⟨_, _, rfl, .bool, rfl⟩
end Go.Proofs.DnT
