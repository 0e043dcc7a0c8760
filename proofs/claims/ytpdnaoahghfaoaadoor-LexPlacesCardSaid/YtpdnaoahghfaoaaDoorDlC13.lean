/- Each word stands where it says. -/
import Derived.Test.YtpdnaoahghfaoaaDoorDlC9
set_option linter.unusedSimpArgs false
set_option linter.unusedVariables false
namespace Go.Proofs.DlT
open Go Go.DM
set_option maxRecDepth 100000

theorem lexOne_err' {l : List UInt8} {e : Int} (h : lexOne l = .error e) : e ≠ 0 := by
  match l, h with
  | [], h => cases h; decide
  | b :: r, h =>
    rw [lexOne] at h
    repeat' split at h
    all_goals first
      | (cases h; done)
      | (injection h with h; rw [← h]; decide)
theorem lexAll_err' : ∀ (f : Nat) (l : List UInt8) (a x : Nat) (e : Int), lexAll f l a = .error (x, e) → e ≠ 0
  | 0, _, _, _, _, h => by cases h
  | _ + 1, [], _, _, _, h => by cases h
  | f + 1, b :: r, a, x, e, h => by
    unfold lexAll at h
    split at h
    · exact lexAll_err' f r (a + 1) x e h
    · cases ho : lexOne (b :: r) with
      | error e' => rw [ho] at h; cases h; exact lexOne_err' ho
      | ok y =>
        obtain ⟨k, n, v⟩ := y
        rw [ho] at h
        simp only at h
        cases hl : lexAll f ((b :: r).drop n) (a + n) with
        | error z =>
          rw [hl] at h
          cases h
          exact lexAll_err' f _ _ x e hl
        | ok ts => rw [hl] at h; cases h
theorem blank_at {s : ByteArray} {i : Nat} (h : s.data.toList[i]? = some 32) (hi : i < s.size) : (((s.data[i]'hi).toNat : Int) != 32) = false := by
  rw [Array.getElem?_toList, Array.getElem?_eq_getElem hi, Option.some.injEq] at h
  rw [h]
  rfl
set_option maxHeartbeats 2000000 in
theorem lawPlaces (s : ByteArray) (S : Mem) : CallD Tryd.prog O 5 [.str s] S fun d S' => S' = S ∧ d = .bool true := by
  refine CallD.drop ?_
  refine CallD.body Tryd.func5 rfl (by simp [Tryd.ntmps5]) ?_
  rw [Tryd.ntmps5]
  by_cases h5 : 500 < s.size
  · have d0 : decide (500 < (s.size : Int)) = true := by rw [decide_eq_true_iff]; omega
    repeat' (first
      | refine Go.seq ?_
      | refine Go.rg ?_
      | refine GoR.nil ?_
      | refine Go.skip ?_
      | refine Go.ret ?_
      | refine Go.block ?_
      | refine Go.exit ?_
      | refine Go.blkX ?_
      | refine Go.blkN ?_
      | refine Go.passX ?_
      | refine Go.lpX ?_
      | (refine Go.blkE (by decide) ?_)
      | (refine Go.rgS dmx (by decide) ?_)
      | ((first | refine GoR.op (by decide) (by rfl) ?_ | refine GoR.opG (by decide) (by rfl) (by rfl) ?_)
         conv => arg 1; simp only [G, Z, Y, un_neg, Int.reduceEq, Int.reduceLE, cutD, Nat.reduceBEq, Nat.reduceAdd, Nat.reduceMul, Nat.reduceSub, Nat.reducePow, Nat.reduceLT, Nat.reduceGT, Nat.reduceLeDiff, Nat.reduceEqDiff, Int.reduceToNat, gt_iff_lt, if_true, if_false, beq_self_eq_true, reduceIte, decide_true, decide_false, fd2_0, fd2_1, fd2_2, fd2_3, fd2_4, fd2_5, fd2_6, fd2_7, fd2_8, fd3_0, fd3_1, fd3_2, fd3_3, fd3_4, fd3_5, fd3_6, fd3_7, fd3_8, fd5_0, fd5_1, fd5_2, fd5_3, fd5_4, fd5_5, fd5_6, fd5_7, fd5_8, fd9_0, fd9_1, fd9_2, fd9_3, fd9_4, fd9_5, fd9_6, fd9_7, fd23_0, fd23_1, fd23_2, fd23_3, fd23_4, fd23_5, fd23_6, fd23_7, fd23_8, fd23_9, fd23_10, fd23_11, fd23_12, fd23_13, fd23_14, fd23_15, fd23_16, fd23_17, fd23_18, fd23_19, fd23_20, fd23_21, fd23_22, fd23_23, fd35_0, fd35_1, fd35_2, fd35_3, fd35_4, fd35_5, fd35_6, fd35_7, fd35_8, fd35_9, fd35_10, fd35_11, d0]
         show GoR _ _ _ _ _ _ _ _ _ _)
      | ((first | refine GoR.call (f := 6) (by decide) (by rfl) rfl Tryd.func6 (by decide) (by rfl) ?_ | refine GoR.callG (f := 6) (by decide) (by rfl) (by rfl) rfl Tryd.func6 (by decide) (by rfl) ?_)
         (refine (known _).ret ?_))
      | refine Go.condT (by rfl) ?_
      | refine Go.condF (by rfl) ?_
      | refine GoR.skipG (by decide) rfl rfl ?_
      | (refine GoR.splitG rfl (fun hc => ?_) (fun hc => ?_) <;> simp only [hc])
      | refine Go.condB rfl (fun hc => ?_) (fun hc => ?_))
    refine ⟨(by first | exact .inl rfl | exact .inr rfl), fin ?_⟩
    rw [resD_tmp (fn := Tryd.f5) rfl]
    simp only [optThen_some, resultD_tmp, resultD_cell, G, Z, Y, un_neg, Int.reduceEq, Int.reduceLE, cutD, Nat.reduceBEq, Nat.reduceAdd, Nat.reduceMul, Nat.reduceSub, Nat.reducePow, Nat.reduceLT, Nat.reduceGT, Nat.reduceLeDiff, Nat.reduceEqDiff, Int.reduceToNat, gt_iff_lt, if_true, if_false, beq_self_eq_true, reduceIte, decide_true, decide_false, fd2_0, fd2_1, fd2_2, fd2_3, fd2_4, fd2_5, fd2_6, fd2_7, fd2_8, fd3_0, fd3_1, fd3_2, fd3_3, fd3_4, fd3_5, fd3_6, fd3_7, fd3_8, fd5_0, fd5_1, fd5_2, fd5_3, fd5_4, fd5_5, fd5_6, fd5_7, fd5_8, fd9_0, fd9_1, fd9_2, fd9_3, fd9_4, fd9_5, fd9_6, fd9_7, fd23_0, fd23_1, fd23_2, fd23_3, fd23_4, fd23_5, fd23_6, fd23_7, fd23_8, fd23_9, fd23_10, fd23_11, fd23_12, fd23_13, fd23_14, fd23_15, fd23_16, fd23_17, fd23_18, fd23_19, fd23_20, fd23_21, fd23_22, fd23_23, fd35_0, fd35_1, fd35_2, fd35_3, fd35_4, fd35_5, fd35_6, fd35_7, fd35_8, fd35_9, fd35_10, fd35_11]
    exact ⟨_, [], by simp, .bool, rfl⟩
  have d0 : decide (500 < (s.size : Int)) = false := by rw [decide_eq_false_iff_not]; omega
  have ha := lexTokens s (by omega)
  rw [lexF, if_neg (by omega)] at ha
  cases h : lexS s.data.toList 0 with
  | error x =>
    obtain ⟨a, e⟩ := x
    rw [h] at ha
    have he : (e != 0) = true := by rw [bne_iff_ne]; exact lexAll_err' _ _ _ _ _ h
    simp only [toksD] at ha
    repeat' (first
      | refine Go.seq ?_
      | refine Go.rg ?_
      | refine GoR.nil ?_
      | refine Go.skip ?_
      | refine Go.ret ?_
      | refine Go.block ?_
      | refine Go.exit ?_
      | refine Go.blkX ?_
      | refine Go.blkN ?_
      | refine Go.passX ?_
      | refine Go.lpX ?_
      | (refine Go.blkE (by decide) ?_)
      | (refine Go.rgS dmx (by decide) ?_)
      | ((first | refine GoR.op (by decide) (by rfl) ?_ | refine GoR.opG (by decide) (by rfl) (by rfl) ?_)
         conv => arg 1; simp only [G, Z, Y, un_neg, Int.reduceEq, Int.reduceLE, cutD, Nat.reduceBEq, Nat.reduceAdd, Nat.reduceMul, Nat.reduceSub, Nat.reducePow, Nat.reduceLT, Nat.reduceGT, Nat.reduceLeDiff, Nat.reduceEqDiff, Int.reduceToNat, gt_iff_lt, if_true, if_false, beq_self_eq_true, reduceIte, decide_true, decide_false, fd2_0, fd2_1, fd2_2, fd2_3, fd2_4, fd2_5, fd2_6, fd2_7, fd2_8, fd3_0, fd3_1, fd3_2, fd3_3, fd3_4, fd3_5, fd3_6, fd3_7, fd3_8, fd5_0, fd5_1, fd5_2, fd5_3, fd5_4, fd5_5, fd5_6, fd5_7, fd5_8, fd9_0, fd9_1, fd9_2, fd9_3, fd9_4, fd9_5, fd9_6, fd9_7, fd23_0, fd23_1, fd23_2, fd23_3, fd23_4, fd23_5, fd23_6, fd23_7, fd23_8, fd23_9, fd23_10, fd23_11, fd23_12, fd23_13, fd23_14, fd23_15, fd23_16, fd23_17, fd23_18, fd23_19, fd23_20, fd23_21, fd23_22, fd23_23, fd35_0, fd35_1, fd35_2, fd35_3, fd35_4, fd35_5, fd35_6, fd35_7, fd35_8, fd35_9, fd35_10, fd35_11, d0, he, show (((0 : Nat) : Int) == 0) = true by decide]
         show GoR _ _ _ _ _ _ _ _ _ _)
      | ((first | refine GoR.call (f := 6) (by decide) (by rfl) rfl Tryd.func6 (by decide) (by rfl) ?_ | refine GoR.callG (f := 6) (by decide) (by rfl) (by rfl) rfl Tryd.func6 (by decide) (by rfl) ?_)
         (refine (known _).ret ?_))
      | ((first | refine GoR.call (f := 7) (by decide) (by rfl) rfl Tryd.func7 (by decide) (by rfl) ?_ | refine GoR.callG (f := 7) (by decide) (by rfl) (by rfl) rfl Tryd.func7 (by decide) (by rfl) ?_)
         (refine (ha _).ret ?_))
      | refine Go.condT (by rfl) ?_
      | refine Go.condF (by rfl) ?_
      | refine GoR.skipG (by decide) rfl rfl ?_
      | (refine GoR.splitG rfl (fun hc => ?_) (fun hc => ?_) <;> simp only [hc])
      | refine Go.condB rfl (fun hc => ?_) (fun hc => ?_))
    refine ⟨(by first | exact .inl rfl | exact .inr rfl), fin ?_⟩
    rw [resD_tmp (fn := Tryd.f5) rfl]
    simp only [optThen_some, resultD_tmp, resultD_cell, G, Z, Y, un_neg, Int.reduceEq, Int.reduceLE, cutD, Nat.reduceBEq, Nat.reduceAdd, Nat.reduceMul, Nat.reduceSub, Nat.reducePow, Nat.reduceLT, Nat.reduceGT, Nat.reduceLeDiff, Nat.reduceEqDiff, Int.reduceToNat, gt_iff_lt, if_true, if_false, beq_self_eq_true, reduceIte, decide_true, decide_false, fd2_0, fd2_1, fd2_2, fd2_3, fd2_4, fd2_5, fd2_6, fd2_7, fd2_8, fd3_0, fd3_1, fd3_2, fd3_3, fd3_4, fd3_5, fd3_6, fd3_7, fd3_8, fd5_0, fd5_1, fd5_2, fd5_3, fd5_4, fd5_5, fd5_6, fd5_7, fd5_8, fd9_0, fd9_1, fd9_2, fd9_3, fd9_4, fd9_5, fd9_6, fd9_7, fd23_0, fd23_1, fd23_2, fd23_3, fd23_4, fd23_5, fd23_6, fd23_7, fd23_8, fd23_9, fd23_10, fd23_11, fd23_12, fd23_13, fd23_14, fd23_15, fd23_16, fd23_17, fd23_18, fd23_19, fd23_20, fd23_21, fd23_22, fd23_23, fd35_0, fd35_1, fd35_2, fd35_3, fd35_4, fd35_5, fd35_6, fd35_7, fd35_8, fd35_9, fd35_10, fd35_11]
    exact ⟨_, [], by simp, .bool, rfl⟩
  | ok ts =>
    rw [h] at ha
    obtain ⟨hf, c1, c2⟩ := fit_of (by omega) h
    have hplaced := lexS_placed h
    have hsl : s.data.toList.length = s.size := by simp
    simp only [toksD] at ha
    repeat' (first
      | refine Go.seq ?_
      | refine Go.rg ?_
      | refine GoR.nil ?_
      | refine Go.skip ?_
      | refine Go.ret ?_
      | refine Go.block ?_
      | refine Go.exit ?_
      | refine Go.blkX ?_
      | refine Go.blkN ?_
      | refine Go.passX ?_
      | refine Go.lpX ?_
      | (refine Go.blkE (by decide) ?_)
      | (refine Go.rgS dmx (by decide) ?_)
      | ((first | refine GoR.op (by decide) (by rfl) ?_ | refine GoR.opG (by decide) (by rfl) (by rfl) ?_)
         conv => arg 1; simp only [G, Z, Y, un_neg, Int.reduceEq, Int.reduceLE, cutD, Nat.reduceBEq, Nat.reduceAdd, Nat.reduceMul, Nat.reduceSub, Nat.reducePow, Nat.reduceLT, Nat.reduceGT, Nat.reduceLeDiff, Nat.reduceEqDiff, Int.reduceToNat, gt_iff_lt, if_true, if_false, beq_self_eq_true, reduceIte, decide_true, decide_false, fd2_0, fd2_1, fd2_2, fd2_3, fd2_4, fd2_5, fd2_6, fd2_7, fd2_8, fd3_0, fd3_1, fd3_2, fd3_3, fd3_4, fd3_5, fd3_6, fd3_7, fd3_8, fd5_0, fd5_1, fd5_2, fd5_3, fd5_4, fd5_5, fd5_6, fd5_7, fd5_8, fd9_0, fd9_1, fd9_2, fd9_3, fd9_4, fd9_5, fd9_6, fd9_7, fd23_0, fd23_1, fd23_2, fd23_3, fd23_4, fd23_5, fd23_6, fd23_7, fd23_8, fd23_9, fd23_10, fd23_11, fd23_12, fd23_13, fd23_14, fd23_15, fd23_16, fd23_17, fd23_18, fd23_19, fd23_20, fd23_21, fd23_22, fd23_23, fd35_0, fd35_1, fd35_2, fd35_3, fd35_4, fd35_5, fd35_6, fd35_7, fd35_8, fd35_9, fd35_10, fd35_11, d0, show ((0 : Int) != 0) = false by decide]
         show GoR _ _ _ _ _ _ _ _ _ _)
      | ((first | refine GoR.call (f := 6) (by decide) (by rfl) rfl Tryd.func6 (by decide) (by rfl) ?_ | refine GoR.callG (f := 6) (by decide) (by rfl) (by rfl) rfl Tryd.func6 (by decide) (by rfl) ?_)
         (refine (known _).ret ?_))
      | ((first | refine GoR.call (f := 7) (by decide) (by rfl) rfl Tryd.func7 (by decide) (by rfl) ?_ | refine GoR.callG (f := 7) (by decide) (by rfl) (by rfl) rfl Tryd.func7 (by decide) (by rfl) ?_)
         (refine (ha _).ret ?_))
      | refine Go.condT (by rfl) ?_
      | refine Go.condF (by rfl) ?_
      | refine GoR.skipG (by decide) rfl rfl ?_
      | (refine GoR.splitG rfl (fun hc => ?_) (fun hc => ?_) <;> simp only [hc])
      | refine Go.condB rfl (fun hc => ?_) (fun hc => ?_))
    refine Go.keep [(0, .str s), (3, .sl none 4 ts.length (toksC ts)), (6, .int .i64 ((0 : Nat) : Int)), (7, .int .i64 ((0 : Nat) : Int))] (.cons .refl (.cons .refl (.cons .refl (.cons .refl (.nil))))) ?_
    refine Go.while (α := Nat × Nat × Mem) (fun x => ts.length - x.1) (fun x => [(0, .str s), (3, .sl none 4 ts.length (toksC ts)), (6, .int .i64 (x.2.1 : Int)), (7, .int .i64 (x.1 : Int))]) (fun x => x.2.2)
      (fun x => x.1 ≤ ts.length ∧ Placed s.data.toList x.2.1 (ts.drop x.1) ∧ ∃ E, x.2.2 = S ++ E) ?_ (0, 0, S) ⟨Nat.zero_le _, by simpa using hplaced, [], by simp⟩
    rintro ⟨i, a, M⟩ ⟨hi, hp, E, hE⟩ next
    dsimp only at hi hp hE next
    by_cases h1 : i < ts.length
    · have d1 : decide ((i : Int) < (ts.length : Int)) = true := by rw [decide_eq_true_iff]; omega
      have ht := toksAt h1
      have hdrop : ts.drop i = ts[i] :: ts.drop (i + 1) := List.drop_eq_getElem_cons h1
      rw [hdrop] at hp
      generalize ts[i] = t at *
      cases hp with
      | cons q1 q2 q3 q4 q5 q6 q7 q8 rest =>
      obtain ⟨k, b, n, p⟩ := t
      simp only at q1 q2 q3 q4 q5 q6 q7 q8 rest
      simp only [Tok.c] at ht
      have e1 : decide ((p : Int) < (a : Int)) = false := by rw [decide_eq_false_iff_not]; omega
      have e2 : decide (b = (⟨#[]⟩ : ByteArray)) = false := by
        rw [decide_eq_false_iff_not]
        rintro rfl
        exact absurd q4 (by decide)
      have e3 : IntKind.i64.wrap ((p : Int) + (b.size : Int)) = ((p + b.size : Nat) : Int) := bin_add (P := Tryd.prog) (t := 0) (x := .tmp 0) (y := .tmp 0) (by omega)
      have e4 : decide ((s.size : Int) < ((p + b.size : Nat) : Int)) = false := by rw [decide_eq_false_iff_not]; omega
      have e5 : s.extract p (p + b.size) = b := by
        refine AM.bytes_ext ?_
        rw [extract_eq (by omega), sub_list, q3]
        congr 1
        omega
      have e6 : (p ≤ p + b.size ∧ p + b.size ≤ s.size) = True := by simp; omega
      have e7 : (k != 2) = false ∨ ((k != 2) = true ∧ (n != 0) = false) := by
        by_cases hk : k = 2
        · subst hk; exact .inl rfl
        · exact .inr ⟨by simp [hk], by simp [q6 hk]⟩
      rcases e7 with e7 | ⟨e7, e8⟩
      all_goals first | have e9 := e8 | have e9 := e7
      all_goals
        repeat' (first
          | refine Go.seq ?_
          | refine Go.rg ?_
          | refine GoR.nil ?_
          | refine Go.skip ?_
          | refine Go.ret ?_
          | refine Go.block ?_
          | refine Go.exit ?_
          | refine Go.blkX ?_
          | refine Go.blkN ?_
          | refine Go.passX ?_
          | refine Go.lpX ?_
          | (refine Go.blkE (by decide) ?_)
          | (refine Go.rgS dmx (by decide) ?_)
          | ((first | refine GoR.op (by decide) (by rfl) ?_ | refine GoR.opG (by decide) (by rfl) (by rfl) ?_)
             conv => arg 1; simp only [G, Z, Y, un_neg, Int.reduceEq, Int.reduceLE, cutD, Nat.reduceBEq, Nat.reduceAdd, Nat.reduceMul, Nat.reduceSub, Nat.reducePow, Nat.reduceLT, Nat.reduceGT, Nat.reduceLeDiff, Nat.reduceEqDiff, Int.reduceToNat, gt_iff_lt, if_true, if_false, beq_self_eq_true, reduceIte, decide_true, decide_false, fd2_0, fd2_1, fd2_2, fd2_3, fd2_4, fd2_5, fd2_6, fd2_7, fd2_8, fd3_0, fd3_1, fd3_2, fd3_3, fd3_4, fd3_5, fd3_6, fd3_7, fd3_8, fd5_0, fd5_1, fd5_2, fd5_3, fd5_4, fd5_5, fd5_6, fd5_7, fd5_8, fd9_0, fd9_1, fd9_2, fd9_3, fd9_4, fd9_5, fd9_6, fd9_7, fd23_0, fd23_1, fd23_2, fd23_3, fd23_4, fd23_5, fd23_6, fd23_7, fd23_8, fd23_9, fd23_10, fd23_11, fd23_12, fd23_13, fd23_14, fd23_15, fd23_16, fd23_17, fd23_18, fd23_19, fd23_20, fd23_21, fd23_22, fd23_23, fd35_0, fd35_1, fd35_2, fd35_3, fd35_4, fd35_5, fd35_6, fd35_7, fd35_8, fd35_9, fd35_10, fd35_11, d1, ht, e1, e2, e3, e4, e5, e6, e7, e9, eq_self, decide_true, Bool.not_true, natD_cast, Option.map_some, optNatD_some, Option.getD_some]
             show GoR _ _ _ _ _ _ _ _ _ _)
          | refine Go.condT (by rfl) ?_
          | refine Go.condF (by rfl) ?_
          | refine GoR.skipG (by decide) rfl rfl ?_
          | (refine GoR.splitG rfl (fun hc => ?_) (fun hc => ?_) <;> simp only [hc])
          | refine Go.condB rfl (fun hc => ?_) (fun hc => ?_))
        refine Go.keep [(0, .str s), (3, .sl none 4 ts.length (toksC ts)), (7, .int .i64 (i : Int)), (8, .ptr M.length 0), (9, .int .i64 (a : Int))] (.cons .refl (.cons .refl (.cons .refl (.cons .refl (.cons .refl (.nil)))))) ?_
        refine Go.while (α := Nat) (fun j => p - j) (fun j => [(0, .str s), (3, .sl none 4 ts.length (toksC ts)), (7, .int .i64 (i : Int)), (8, .ptr M.length 0), (9, .int .i64 (j : Int))]) (fun _ => M ++ [.obj [.int .i64 k, .str b, .int .i64 n, .int .i64 (p : Int)]]) (fun j => a ≤ j ∧ j ≤ p) ?_ a ⟨Nat.le_refl _, q1⟩
        rintro j ⟨ja, jp⟩ next2
        by_cases h2 : j < p
        · have f1 : decide ((j : Int) < (p : Int)) = true := by rw [decide_eq_true_iff]; omega
          have hj : j < s.size := by omega
          have f2 := blank_at (q2 j ja h2) hj
          repeat' (first
            | refine Go.seq ?_
            | refine Go.rg ?_
            | refine GoR.nil ?_
            | refine Go.skip ?_
            | refine Go.ret ?_
            | refine Go.block ?_
            | refine Go.exit ?_
            | refine Go.blkX ?_
            | refine Go.blkN ?_
            | refine Go.passX ?_
            | refine Go.lpX ?_
            | (refine Go.blkE (by decide) ?_)
            | (refine Go.rgS dmx (by decide) ?_)
            | ((first | refine GoR.op (by decide) (by rfl) ?_ | refine GoR.opG (by decide) (by rfl) (by rfl) ?_)
               conv => arg 1; simp only [G, Z, Y, un_neg, Int.reduceEq, Int.reduceLE, cutD, Nat.reduceBEq, Nat.reduceAdd, Nat.reduceMul, Nat.reduceSub, Nat.reducePow, Nat.reduceLT, Nat.reduceGT, Nat.reduceLeDiff, Nat.reduceEqDiff, Int.reduceToNat, gt_iff_lt, if_true, if_false, beq_self_eq_true, reduceIte, decide_true, decide_false, fd2_0, fd2_1, fd2_2, fd2_3, fd2_4, fd2_5, fd2_6, fd2_7, fd2_8, fd3_0, fd3_1, fd3_2, fd3_3, fd3_4, fd3_5, fd3_6, fd3_7, fd3_8, fd5_0, fd5_1, fd5_2, fd5_3, fd5_4, fd5_5, fd5_6, fd5_7, fd5_8, fd9_0, fd9_1, fd9_2, fd9_3, fd9_4, fd9_5, fd9_6, fd9_7, fd23_0, fd23_1, fd23_2, fd23_3, fd23_4, fd23_5, fd23_6, fd23_7, fd23_8, fd23_9, fd23_10, fd23_11, fd23_12, fd23_13, fd23_14, fd23_15, fd23_16, fd23_17, fd23_18, fd23_19, fd23_20, fd23_21, fd23_22, fd23_23, fd35_0, fd35_1, fd35_2, fd35_3, fd35_4, fd35_5, fd35_6, fd35_7, fd35_8, fd35_9, fd35_10, fd35_11, f1, f2, indexStr_cast hj, wrap_succ (show j < 4611686018427387904 by omega)]
               show GoR _ _ _ _ _ _ _ _ _ _)
            | refine Go.condT (by rfl) ?_
            | refine Go.condF (by rfl) ?_
            | refine GoR.skipG (by decide) rfl rfl ?_
            | (refine GoR.splitG rfl (fun hc => ?_) (fun hc => ?_) <;> simp only [hc])
            | refine Go.condB rfl (fun hc => ?_) (fun hc => ?_))
          refine Go.lpN ?_
          refine Go.keep [(0, .str s), (3, .sl none 4 ts.length (toksC ts)), (7, .int .i64 (i : Int)), (8, .ptr M.length 0), (9, .int .i64 ((j + 1 : Nat) : Int))] (.cons .refl (.cons .refl (.cons .refl (.cons .refl (.cons .refl (.nil)))))) ?_
          exact next2 (j + 1) (by omega) ⟨by omega, h2⟩
        · have f1 : decide ((j : Int) < (p : Int)) = false := by rw [decide_eq_false_iff_not]; omega
          clear next2
          repeat' (first
            | refine Go.seq ?_
            | refine Go.rg ?_
            | refine GoR.nil ?_
            | refine Go.skip ?_
            | refine Go.ret ?_
            | refine Go.block ?_
            | refine Go.exit ?_
            | refine Go.blkX ?_
            | refine Go.blkN ?_
            | refine Go.passX ?_
            | refine Go.lpX ?_
            | (refine Go.blkE (by decide) ?_)
            | (refine Go.rgS dmx (by decide) ?_)
            | ((first | refine GoR.op (by decide) (by rfl) ?_ | refine GoR.opG (by decide) (by rfl) (by rfl) ?_)
               conv => arg 1; simp only [G, Z, Y, un_neg, Int.reduceEq, Int.reduceLE, cutD, Nat.reduceBEq, Nat.reduceAdd, Nat.reduceMul, Nat.reduceSub, Nat.reducePow, Nat.reduceLT, Nat.reduceGT, Nat.reduceLeDiff, Nat.reduceEqDiff, Int.reduceToNat, gt_iff_lt, if_true, if_false, beq_self_eq_true, reduceIte, decide_true, decide_false, fd2_0, fd2_1, fd2_2, fd2_3, fd2_4, fd2_5, fd2_6, fd2_7, fd2_8, fd3_0, fd3_1, fd3_2, fd3_3, fd3_4, fd3_5, fd3_6, fd3_7, fd3_8, fd5_0, fd5_1, fd5_2, fd5_3, fd5_4, fd5_5, fd5_6, fd5_7, fd5_8, fd9_0, fd9_1, fd9_2, fd9_3, fd9_4, fd9_5, fd9_6, fd9_7, fd23_0, fd23_1, fd23_2, fd23_3, fd23_4, fd23_5, fd23_6, fd23_7, fd23_8, fd23_9, fd23_10, fd23_11, fd23_12, fd23_13, fd23_14, fd23_15, fd23_16, fd23_17, fd23_18, fd23_19, fd23_20, fd23_21, fd23_22, fd23_23, fd35_0, fd35_1, fd35_2, fd35_3, fd35_4, fd35_5, fd35_6, fd35_7, fd35_8, fd35_9, fd35_10, fd35_11, f1, e3, wrap_succ (show i < 4611686018427387904 by omega)]
               show GoR _ _ _ _ _ _ _ _ _ _)
            | refine Go.condT (by rfl) ?_
            | refine Go.condF (by rfl) ?_
            | refine GoR.skipG (by decide) rfl rfl ?_
            | (refine GoR.splitG rfl (fun hc => ?_) (fun hc => ?_) <;> simp only [hc])
            | refine Go.condB rfl (fun hc => ?_) (fun hc => ?_))
          refine Go.lpN ?_
          refine Go.keep [(0, .str s), (3, .sl none 4 ts.length (toksC ts)), (6, .int .i64 ((p + b.size : Nat) : Int)), (7, .int .i64 ((i + 1 : Nat) : Int))] (.cons .refl (.cons .refl (.cons .refl (.cons .refl (.nil))))) ?_
          exact next (i + 1, p + b.size, _) (by dsimp only; omega) ⟨h1, rest, E ++ [.obj [.int .i64 k, .str b, .int .i64 n, .int .i64 (p : Int)]], by dsimp only; rw [hE]; simp⟩
    · have d1 : decide ((i : Int) < (ts.length : Int)) = false := by rw [decide_eq_false_iff_not]; omega
      clear next
      have hnil : ts.drop i = [] := List.drop_of_length_le (by omega)
      rw [hnil] at hp
      cases hp with
      | nil hall =>
      repeat' (first
        | refine Go.seq ?_
        | refine Go.rg ?_
        | refine GoR.nil ?_
        | refine Go.skip ?_
        | refine Go.ret ?_
        | refine Go.block ?_
        | refine Go.exit ?_
        | refine Go.blkX ?_
        | refine Go.blkN ?_
        | refine Go.passX ?_
        | refine Go.lpX ?_
        | (refine Go.blkE (by decide) ?_)
        | (refine Go.rgS dmx (by decide) ?_)
        | ((first | refine GoR.op (by decide) (by rfl) ?_ | refine GoR.opG (by decide) (by rfl) (by rfl) ?_)
           conv => arg 1; simp only [G, Z, Y, un_neg, Int.reduceEq, Int.reduceLE, cutD, Nat.reduceBEq, Nat.reduceAdd, Nat.reduceMul, Nat.reduceSub, Nat.reducePow, Nat.reduceLT, Nat.reduceGT, Nat.reduceLeDiff, Nat.reduceEqDiff, Int.reduceToNat, gt_iff_lt, if_true, if_false, beq_self_eq_true, reduceIte, decide_true, decide_false, fd2_0, fd2_1, fd2_2, fd2_3, fd2_4, fd2_5, fd2_6, fd2_7, fd2_8, fd3_0, fd3_1, fd3_2, fd3_3, fd3_4, fd3_5, fd3_6, fd3_7, fd3_8, fd5_0, fd5_1, fd5_2, fd5_3, fd5_4, fd5_5, fd5_6, fd5_7, fd5_8, fd9_0, fd9_1, fd9_2, fd9_3, fd9_4, fd9_5, fd9_6, fd9_7, fd23_0, fd23_1, fd23_2, fd23_3, fd23_4, fd23_5, fd23_6, fd23_7, fd23_8, fd23_9, fd23_10, fd23_11, fd23_12, fd23_13, fd23_14, fd23_15, fd23_16, fd23_17, fd23_18, fd23_19, fd23_20, fd23_21, fd23_22, fd23_23, fd35_0, fd35_1, fd35_2, fd35_3, fd35_4, fd35_5, fd35_6, fd35_7, fd35_8, fd35_9, fd35_10, fd35_11, d1]
           show GoR _ _ _ _ _ _ _ _ _ _)
        | refine Go.condT (by rfl) ?_
        | refine Go.condF (by rfl) ?_
        | refine GoR.skipG (by decide) rfl rfl ?_
        | (refine GoR.splitG rfl (fun hc => ?_) (fun hc => ?_) <;> simp only [hc])
        | refine Go.condB rfl (fun hc => ?_) (fun hc => ?_))
      refine Go.keep [(0, .str s), (10, .int .i64 (a : Int))] (.cons .refl (.cons .refl (.nil))) ?_
      refine Go.while (α := Nat) (fun j => s.size - j) (fun j => [(0, .str s), (10, .int .i64 (j : Int))]) (fun _ => M) (fun j => a ≤ j) ?_ a (Nat.le_refl _)
      intro j ja next
      by_cases h2 : j < s.size
      · have f1 : decide ((j : Int) < (s.size : Int)) = true := by rw [decide_eq_true_iff]; omega
        have f2 := blank_at (hall j ja (by omega)) h2
        repeat' (first
          | refine Go.seq ?_
          | refine Go.rg ?_
          | refine GoR.nil ?_
          | refine Go.skip ?_
          | refine Go.ret ?_
          | refine Go.block ?_
          | refine Go.exit ?_
          | refine Go.blkX ?_
          | refine Go.blkN ?_
          | refine Go.passX ?_
          | refine Go.lpX ?_
          | (refine Go.blkE (by decide) ?_)
          | (refine Go.rgS dmx (by decide) ?_)
          | ((first | refine GoR.op (by decide) (by rfl) ?_ | refine GoR.opG (by decide) (by rfl) (by rfl) ?_)
             conv => arg 1; simp only [G, Z, Y, un_neg, Int.reduceEq, Int.reduceLE, cutD, Nat.reduceBEq, Nat.reduceAdd, Nat.reduceMul, Nat.reduceSub, Nat.reducePow, Nat.reduceLT, Nat.reduceGT, Nat.reduceLeDiff, Nat.reduceEqDiff, Int.reduceToNat, gt_iff_lt, if_true, if_false, beq_self_eq_true, reduceIte, decide_true, decide_false, fd2_0, fd2_1, fd2_2, fd2_3, fd2_4, fd2_5, fd2_6, fd2_7, fd2_8, fd3_0, fd3_1, fd3_2, fd3_3, fd3_4, fd3_5, fd3_6, fd3_7, fd3_8, fd5_0, fd5_1, fd5_2, fd5_3, fd5_4, fd5_5, fd5_6, fd5_7, fd5_8, fd9_0, fd9_1, fd9_2, fd9_3, fd9_4, fd9_5, fd9_6, fd9_7, fd23_0, fd23_1, fd23_2, fd23_3, fd23_4, fd23_5, fd23_6, fd23_7, fd23_8, fd23_9, fd23_10, fd23_11, fd23_12, fd23_13, fd23_14, fd23_15, fd23_16, fd23_17, fd23_18, fd23_19, fd23_20, fd23_21, fd23_22, fd23_23, fd35_0, fd35_1, fd35_2, fd35_3, fd35_4, fd35_5, fd35_6, fd35_7, fd35_8, fd35_9, fd35_10, fd35_11, f1, f2, indexStr_cast h2, wrap_succ (show j < 4611686018427387904 by omega)]
             show GoR _ _ _ _ _ _ _ _ _ _)
          | refine Go.condT (by rfl) ?_
          | refine Go.condF (by rfl) ?_
          | refine GoR.skipG (by decide) rfl rfl ?_
          | (refine GoR.splitG rfl (fun hc => ?_) (fun hc => ?_) <;> simp only [hc])
          | refine Go.condB rfl (fun hc => ?_) (fun hc => ?_))
        refine Go.lpN ?_
        refine Go.keep [(0, .str s), (10, .int .i64 ((j + 1 : Nat) : Int))] (.cons .refl (.cons .refl (.nil))) ?_
        exact next (j + 1) (by omega) (by omega)
      · have f1 : decide ((j : Int) < (s.size : Int)) = false := by rw [decide_eq_false_iff_not]; omega
        clear next
        repeat' (first
          | refine Go.seq ?_
          | refine Go.rg ?_
          | refine GoR.nil ?_
          | refine Go.skip ?_
          | refine Go.ret ?_
          | refine Go.block ?_
          | refine Go.exit ?_
          | refine Go.blkX ?_
          | refine Go.blkN ?_
          | refine Go.passX ?_
          | refine Go.lpX ?_
          | (refine Go.blkE (by decide) ?_)
          | (refine Go.rgS dmx (by decide) ?_)
          | ((first | refine GoR.op (by decide) (by rfl) ?_ | refine GoR.opG (by decide) (by rfl) (by rfl) ?_)
             conv => arg 1; simp only [G, Z, Y, un_neg, Int.reduceEq, Int.reduceLE, cutD, Nat.reduceBEq, Nat.reduceAdd, Nat.reduceMul, Nat.reduceSub, Nat.reducePow, Nat.reduceLT, Nat.reduceGT, Nat.reduceLeDiff, Nat.reduceEqDiff, Int.reduceToNat, gt_iff_lt, if_true, if_false, beq_self_eq_true, reduceIte, decide_true, decide_false, fd2_0, fd2_1, fd2_2, fd2_3, fd2_4, fd2_5, fd2_6, fd2_7, fd2_8, fd3_0, fd3_1, fd3_2, fd3_3, fd3_4, fd3_5, fd3_6, fd3_7, fd3_8, fd5_0, fd5_1, fd5_2, fd5_3, fd5_4, fd5_5, fd5_6, fd5_7, fd5_8, fd9_0, fd9_1, fd9_2, fd9_3, fd9_4, fd9_5, fd9_6, fd9_7, fd23_0, fd23_1, fd23_2, fd23_3, fd23_4, fd23_5, fd23_6, fd23_7, fd23_8, fd23_9, fd23_10, fd23_11, fd23_12, fd23_13, fd23_14, fd23_15, fd23_16, fd23_17, fd23_18, fd23_19, fd23_20, fd23_21, fd23_22, fd23_23, fd35_0, fd35_1, fd35_2, fd35_3, fd35_4, fd35_5, fd35_6, fd35_7, fd35_8, fd35_9, fd35_10, fd35_11, f1]
             show GoR _ _ _ _ _ _ _ _ _ _)
          | refine Go.condT (by rfl) ?_
          | refine Go.condF (by rfl) ?_
          | refine GoR.skipG (by decide) rfl rfl ?_
          | (refine GoR.splitG rfl (fun hc => ?_) (fun hc => ?_) <;> simp only [hc])
          | refine Go.condB rfl (fun hc => ?_) (fun hc => ?_))
        refine ⟨(by first | exact .inl rfl | exact .inr rfl), fin ?_⟩
        rw [resD_tmp (fn := Tryd.f5) rfl]
        simp only [optThen_some, resultD_tmp, resultD_cell, G, Z, Y, un_neg, Int.reduceEq, Int.reduceLE, cutD, Nat.reduceBEq, Nat.reduceAdd, Nat.reduceMul, Nat.reduceSub, Nat.reducePow, Nat.reduceLT, Nat.reduceGT, Nat.reduceLeDiff, Nat.reduceEqDiff, Int.reduceToNat, gt_iff_lt, if_true, if_false, beq_self_eq_true, reduceIte, decide_true, decide_false, fd2_0, fd2_1, fd2_2, fd2_3, fd2_4, fd2_5, fd2_6, fd2_7, fd2_8, fd3_0, fd3_1, fd3_2, fd3_3, fd3_4, fd3_5, fd3_6, fd3_7, fd3_8, fd5_0, fd5_1, fd5_2, fd5_3, fd5_4, fd5_5, fd5_6, fd5_7, fd5_8, fd9_0, fd9_1, fd9_2, fd9_3, fd9_4, fd9_5, fd9_6, fd9_7, fd23_0, fd23_1, fd23_2, fd23_3, fd23_4, fd23_5, fd23_6, fd23_7, fd23_8, fd23_9, fd23_10, fd23_11, fd23_12, fd23_13, fd23_14, fd23_15, fd23_16, fd23_17, fd23_18, fd23_19, fd23_20, fd23_21, fd23_22, fd23_23, fd35_0, fd35_1, fd35_2, fd35_3, fd35_4, fd35_5, fd35_6, fd35_7, fd35_8, fd35_9, fd35_10, fd35_11]
        exact ⟨_, E, hE, .bool, rfl⟩
end Go.Proofs.DlT
