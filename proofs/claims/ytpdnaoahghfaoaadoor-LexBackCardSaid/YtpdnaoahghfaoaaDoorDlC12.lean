/- Words with blanks between are those again. -/
import Derived.Test.YtpdnaoahghfaoaaDoorDlC9
set_option linter.unusedSimpArgs false
set_option linter.unusedVariables false
namespace Go.Proofs.DlT
open Go Go.DM
set_option maxRecDepth 100000

theorem stands_of {s : ByteArray} {ts : List Tok} (h : lexS s.data.toList 0 = .ok ts) : ∀ t ∈ ts, Stands t := lexAll_stands _ _ _ _ h
theorem back {s : ByteArray} (hs : s.size ≤ 500) {ts : List Tok} (h : lexS s.data.toList 0 = .ok ts) :
    ∃ ts', lexF (textT ts) = .ok ts' ∧ ts'.length = ts.length ∧ (textT ts).size < 1000000 ∧ ∀ (i : Nat) (x y : Tok), ts'[i]? = some x → ts[i]? = some y → Tok.eqv x y := by
  obtain ⟨ts', h1, h2, h3⟩ := lex_back ts 0 (stands_of h)
  obtain ⟨hf, c1, c2⟩ := fit_of (by omega) h
  have hj := joinT_length (ts.map (·.t))
  rw [List.map_map, List.length_map] at hj
  have e : (ts.map ((·.size) ∘ (·.t))) = ts.map fun t => t.t.size := rfl
  rw [e] at hj
  have hsz : (textT ts).size ≤ 1000 := by
    show (joinT (ts.map (·.t))).toArray.size ≤ _
    rw [List.size_toArray]
    omega
  refine ⟨ts', ?_, h2, by omega, h3⟩
  rw [lexF, if_neg (by omega)]
  have : (textT ts).data.toList = joinT (ts.map (·.t)) := by simp [textT]
  rw [this]
  exact h1
theorem lexOne_err {l : List UInt8} {e : Int} (h : lexOne l = .error e) : e ≠ 0 := by
  match l, h with
  | [], h => cases h; decide
  | b :: r, h =>
    rw [lexOne] at h
    repeat' split at h
    all_goals first
      | (cases h; done)
      | (injection h with h; rw [← h]; decide)
theorem lexAll_err : ∀ (f : Nat) (l : List UInt8) (a x : Nat) (e : Int), lexAll f l a = .error (x, e) → e ≠ 0
  | 0, _, _, _, _, h => by cases h
  | _ + 1, [], _, _, _, h => by cases h
  | f + 1, b :: r, a, x, e, h => by
    unfold lexAll at h
    split at h
    · exact lexAll_err f r (a + 1) x e h
    · cases ho : lexOne (b :: r) with
      | error e' => rw [ho] at h; cases h; exact lexOne_err ho
      | ok y =>
        obtain ⟨k, n, v⟩ := y
        rw [ho] at h
        simp only at h
        cases hl : lexAll f ((b :: r).drop n) (a + n) with
        | error z =>
          rw [hl] at h
          cases h
          exact lexAll_err f _ _ x e hl
        | ok ts => rw [hl] at h; cases h
theorem refLong (s : ByteArray) (h24 : 1024 < s.size) (S : Mem) : CallD Tryd.prog O 8 [.str s] S fun d S' => S' = S ∧ d = toksD (.error (0, 4)) := by
  refine CallD.drop ?_
  refine CallD.body Tryd.func8 rfl (by simp [Tryd.ntmps8]) ?_
  rw [Tryd.ntmps8]
  have d0 : decide (1024 < (s.size : Int)) = true := by rw [decide_eq_true_iff]; omega
  repeat' (first
    | refine Go.seq ?_
    | refine Go.rg ?_
    | refine GoR.nil ?_
    | refine Go.skip ?_
    | refine Go.ret ?_
    | refine Go.block ?_
    | refine Go.exit ?_
    | refine Go.blkX ?_
    | refine Go.blkN ?_
    | refine Go.passX ?_
    | refine Go.lpX ?_
    | (refine Go.blkE (by decide) ?_)
    | (refine Go.rgS dmx (by decide) ?_)
    | ((first | refine GoR.op (by decide) (by rfl) ?_ | refine GoR.opG (by decide) (by rfl) (by rfl) ?_)
       conv => arg 1; simp only [G, Z, Y, un_neg, Int.reduceEq, Int.reduceLE, cutD, Nat.reduceBEq, Nat.reduceAdd, Nat.reduceMul, Nat.reduceSub, Nat.reducePow, Nat.reduceLT, Nat.reduceGT, Nat.reduceLeDiff, Nat.reduceEqDiff, Int.reduceToNat, gt_iff_lt, if_true, if_false, beq_self_eq_true, reduceIte, decide_true, decide_false, fd2_0, fd2_1, fd2_2, fd2_3, fd2_4, fd2_5, fd2_6, fd2_7, fd2_8, fd3_0, fd3_1, fd3_2, fd3_3, fd3_4, fd3_5, fd3_6, fd3_7, fd3_8, fd5_0, fd5_1, fd5_2, fd5_3, fd5_4, fd5_5, fd5_6, fd5_7, fd5_8, fd9_0, fd9_1, fd9_2, fd9_3, fd9_4, fd9_5, fd9_6, fd9_7, fd27_0, fd27_1, fd27_2, fd27_3, fd27_4, fd27_5, fd27_6, fd27_7, fd27_8, fd27_9, fd27_10, fd27_11, fd27_12, fd27_13, fd27_14, fd27_15, fd27_16, fd27_17, fd27_18, fd27_19, fd27_20, fd27_21, fd27_22, fd27_23, fd36_0, fd36_1, fd36_2, fd36_3, fd36_4, fd36_5, fd36_6, fd36_7, fd36_8, fd36_9, fd36_10, fd36_11, d0]
       show GoR _ _ _ _ _ _ _ _ _ _)
    | refine Go.condT (by rfl) ?_
    | refine Go.condF (by rfl) ?_
    | refine GoR.skipG (by decide) rfl rfl ?_
    | (refine GoR.splitG rfl (fun hc => ?_) (fun hc => ?_) <;> simp only [hc])
    | refine Go.condB rfl (fun hc => ?_) (fun hc => ?_))
  refine ⟨(by first | exact .inl rfl | exact .inr rfl), fin ?_⟩
  rw [resD_three (fn := Tryd.f8) rfl]
  simp only [optThen_some, resultD_tmp, resultD_cell, G, Z, Y, un_neg, Int.reduceEq, Int.reduceLE, cutD, Nat.reduceBEq, Nat.reduceAdd, Nat.reduceMul, Nat.reduceSub, Nat.reducePow, Nat.reduceLT, Nat.reduceGT, Nat.reduceLeDiff, Nat.reduceEqDiff, Int.reduceToNat, gt_iff_lt, if_true, if_false, beq_self_eq_true, reduceIte, decide_true, decide_false, fd2_0, fd2_1, fd2_2, fd2_3, fd2_4, fd2_5, fd2_6, fd2_7, fd2_8, fd3_0, fd3_1, fd3_2, fd3_3, fd3_4, fd3_5, fd3_6, fd3_7, fd3_8, fd5_0, fd5_1, fd5_2, fd5_3, fd5_4, fd5_5, fd5_6, fd5_7, fd5_8, fd9_0, fd9_1, fd9_2, fd9_3, fd9_4, fd9_5, fd9_6, fd9_7, fd27_0, fd27_1, fd27_2, fd27_3, fd27_4, fd27_5, fd27_6, fd27_7, fd27_8, fd27_9, fd27_10, fd27_11, fd27_12, fd27_13, fd27_14, fd27_15, fd27_16, fd27_17, fd27_18, fd27_19, fd27_20, fd27_21, fd27_22, fd27_23, fd36_0, fd36_1, fd36_2, fd36_3, fd36_4, fd36_5, fd36_6, fd36_7, fd36_8, fd36_9, fd36_10, fd36_11]
  exact ⟨_, [], by simp, toks_err, rfl⟩
set_option maxHeartbeats 1000000 in
theorem lawBack (s : ByteArray) (S : Mem) : CallD Tryd.prog O 4 [.str s] S fun d S' => S' = S ∧ d = .bool true := by
  refine CallD.drop ?_
  refine CallD.body Tryd.func4 rfl (by simp [Tryd.ntmps4]) ?_
  rw [Tryd.ntmps4]
  by_cases h24 : 1024 < s.size
  · have d0 : decide (500 < (s.size : Int)) = true := by rw [decide_eq_true_iff]; omega
    have hr := refLong s h24
    simp only [toksD] at hr
    repeat' (first
      | refine Go.seq ?_
      | refine Go.rg ?_
      | refine GoR.nil ?_
      | refine Go.skip ?_
      | refine Go.ret ?_
      | refine Go.block ?_
      | refine Go.exit ?_
      | refine Go.blkX ?_
      | refine Go.blkN ?_
      | refine Go.passX ?_
      | refine Go.lpX ?_
      | (refine Go.blkE (by decide) ?_)
      | (refine Go.rgS dmx (by decide) ?_)
      | ((first | refine GoR.op (by decide) (by rfl) ?_ | refine GoR.opG (by decide) (by rfl) (by rfl) ?_)
         conv => arg 1; simp only [G, Z, Y, un_neg, Int.reduceEq, Int.reduceLE, cutD, Nat.reduceBEq, Nat.reduceAdd, Nat.reduceMul, Nat.reduceSub, Nat.reducePow, Nat.reduceLT, Nat.reduceGT, Nat.reduceLeDiff, Nat.reduceEqDiff, Int.reduceToNat, gt_iff_lt, if_true, if_false, beq_self_eq_true, reduceIte, decide_true, decide_false, fd2_0, fd2_1, fd2_2, fd2_3, fd2_4, fd2_5, fd2_6, fd2_7, fd2_8, fd3_0, fd3_1, fd3_2, fd3_3, fd3_4, fd3_5, fd3_6, fd3_7, fd3_8, fd9_0, fd9_1, fd9_2, fd9_3, fd9_4, fd9_5, fd9_6, fd9_7, fd23_0, fd23_1, fd23_2, fd23_3, fd23_4, fd23_5, fd23_6, fd23_7, fd23_8, fd23_9, fd23_10, fd23_11, fd23_12, fd23_13, fd23_14, fd23_15, fd23_16, fd23_17, fd23_18, fd23_19, fd23_20, fd23_21, fd23_22, fd23_23, fd27_0, fd27_1, fd27_2, fd27_3, fd27_4, fd27_5, fd27_6, fd27_7, fd27_8, fd27_9, fd27_10, fd27_11, fd27_12, fd27_13, fd27_14, fd27_15, fd27_16, fd27_17, fd27_18, fd27_19, fd27_20, fd27_21, fd27_22, fd27_23, fd35_0, fd35_1, fd35_2, fd35_3, fd35_4, fd35_5, fd35_6, fd35_7, fd35_8, fd35_9, fd35_10, fd35_11, fd36_0, fd36_1, fd36_2, fd36_3, fd36_4, fd36_5, fd36_6, fd36_7, fd36_8, fd36_9, fd36_10, fd36_11, d0]
         show GoR _ _ _ _ _ _ _ _ _ _)
      | ((first | refine GoR.call (f := 6) (by decide) (by rfl) rfl Tryd.func6 (by decide) (by rfl) ?_ | refine GoR.callG (f := 6) (by decide) (by rfl) (by rfl) rfl Tryd.func6 (by decide) (by rfl) ?_)
         (refine (known _).ret ?_))
      | ((first | refine GoR.call (f := 8) (by decide) (by rfl) rfl Tryd.func8 (by decide) (by rfl) ?_ | refine GoR.callG (f := 8) (by decide) (by rfl) (by rfl) rfl Tryd.func8 (by decide) (by rfl) ?_)
         (refine (hr _).ret ?_))
      | refine Go.condT (by rfl) ?_
      | refine Go.condF (by rfl) ?_
      | refine GoR.skipG (by decide) rfl rfl ?_
      | (refine GoR.splitG rfl (fun hc => ?_) (fun hc => ?_) <;> simp only [hc])
      | refine Go.condB rfl (fun hc => ?_) (fun hc => ?_))
    refine ⟨(by first | exact .inl rfl | exact .inr rfl), fin ?_⟩
    rw [resD_tmp (fn := Tryd.f4) rfl]
    simp only [optThen_some, resultD_tmp, resultD_cell, G, Z, Y, un_neg, Int.reduceEq, Int.reduceLE, cutD, Nat.reduceBEq, Nat.reduceAdd, Nat.reduceMul, Nat.reduceSub, Nat.reducePow, Nat.reduceLT, Nat.reduceGT, Nat.reduceLeDiff, Nat.reduceEqDiff, Int.reduceToNat, gt_iff_lt, if_true, if_false, beq_self_eq_true, reduceIte, decide_true, decide_false, fd2_0, fd2_1, fd2_2, fd2_3, fd2_4, fd2_5, fd2_6, fd2_7, fd2_8, fd3_0, fd3_1, fd3_2, fd3_3, fd3_4, fd3_5, fd3_6, fd3_7, fd3_8, fd9_0, fd9_1, fd9_2, fd9_3, fd9_4, fd9_5, fd9_6, fd9_7, fd23_0, fd23_1, fd23_2, fd23_3, fd23_4, fd23_5, fd23_6, fd23_7, fd23_8, fd23_9, fd23_10, fd23_11, fd23_12, fd23_13, fd23_14, fd23_15, fd23_16, fd23_17, fd23_18, fd23_19, fd23_20, fd23_21, fd23_22, fd23_23, fd27_0, fd27_1, fd27_2, fd27_3, fd27_4, fd27_5, fd27_6, fd27_7, fd27_8, fd27_9, fd27_10, fd27_11, fd27_12, fd27_13, fd27_14, fd27_15, fd27_16, fd27_17, fd27_18, fd27_19, fd27_20, fd27_21, fd27_22, fd27_23, fd35_0, fd35_1, fd35_2, fd35_3, fd35_4, fd35_5, fd35_6, fd35_7, fd35_8, fd35_9, fd35_10, fd35_11, fd36_0, fd36_1, fd36_2, fd36_3, fd36_4, fd36_5, fd36_6, fd36_7, fd36_8, fd36_9, fd36_10, fd36_11]
    exact ⟨_, [], by simp, .bool, rfl⟩
  have hr := refTokens (orc := O) s (by omega)
  rw [lexF, if_neg h24] at hr
  by_cases h5 : 500 < s.size
  · have d0 : decide (500 < (s.size : Int)) = true := by rw [decide_eq_true_iff]; omega
    have hx : ∃ ts a e, toksD (lexS s.data.toList 0) = .tup [.sl none 4 ts.length (toksC ts), .int .i64 a, .int .i64 e] := by
      cases h : lexS s.data.toList 0 with
      | error x => exact ⟨[], x.1, x.2, rfl⟩
      | ok ts => exact ⟨ts, 0, 0, rfl⟩
    obtain ⟨ts, a, e, hd⟩ := hx
    rw [hd] at hr
    repeat' (first
      | refine Go.seq ?_
      | refine Go.rg ?_
      | refine GoR.nil ?_
      | refine Go.skip ?_
      | refine Go.ret ?_
      | refine Go.block ?_
      | refine Go.exit ?_
      | refine Go.blkX ?_
      | refine Go.blkN ?_
      | refine Go.passX ?_
      | refine Go.lpX ?_
      | (refine Go.blkE (by decide) ?_)
      | (refine Go.rgS dmx (by decide) ?_)
      | ((first | refine GoR.op (by decide) (by rfl) ?_ | refine GoR.opG (by decide) (by rfl) (by rfl) ?_)
         conv => arg 1; simp only [G, Z, Y, un_neg, Int.reduceEq, Int.reduceLE, cutD, Nat.reduceBEq, Nat.reduceAdd, Nat.reduceMul, Nat.reduceSub, Nat.reducePow, Nat.reduceLT, Nat.reduceGT, Nat.reduceLeDiff, Nat.reduceEqDiff, Int.reduceToNat, gt_iff_lt, if_true, if_false, beq_self_eq_true, reduceIte, decide_true, decide_false, fd2_0, fd2_1, fd2_2, fd2_3, fd2_4, fd2_5, fd2_6, fd2_7, fd2_8, fd3_0, fd3_1, fd3_2, fd3_3, fd3_4, fd3_5, fd3_6, fd3_7, fd3_8, fd9_0, fd9_1, fd9_2, fd9_3, fd9_4, fd9_5, fd9_6, fd9_7, fd23_0, fd23_1, fd23_2, fd23_3, fd23_4, fd23_5, fd23_6, fd23_7, fd23_8, fd23_9, fd23_10, fd23_11, fd23_12, fd23_13, fd23_14, fd23_15, fd23_16, fd23_17, fd23_18, fd23_19, fd23_20, fd23_21, fd23_22, fd23_23, fd27_0, fd27_1, fd27_2, fd27_3, fd27_4, fd27_5, fd27_6, fd27_7, fd27_8, fd27_9, fd27_10, fd27_11, fd27_12, fd27_13, fd27_14, fd27_15, fd27_16, fd27_17, fd27_18, fd27_19, fd27_20, fd27_21, fd27_22, fd27_23, fd35_0, fd35_1, fd35_2, fd35_3, fd35_4, fd35_5, fd35_6, fd35_7, fd35_8, fd35_9, fd35_10, fd35_11, fd36_0, fd36_1, fd36_2, fd36_3, fd36_4, fd36_5, fd36_6, fd36_7, fd36_8, fd36_9, fd36_10, fd36_11, d0]
         show GoR _ _ _ _ _ _ _ _ _ _)
      | ((first | refine GoR.call (f := 6) (by decide) (by rfl) rfl Tryd.func6 (by decide) (by rfl) ?_ | refine GoR.callG (f := 6) (by decide) (by rfl) (by rfl) rfl Tryd.func6 (by decide) (by rfl) ?_)
         (refine (known _).ret ?_))
      | ((first | refine GoR.call (f := 8) (by decide) (by rfl) rfl Tryd.func8 (by decide) (by rfl) ?_ | refine GoR.callG (f := 8) (by decide) (by rfl) (by rfl) rfl Tryd.func8 (by decide) (by rfl) ?_)
         (refine (hr _).ret ?_))
      | refine Go.condT (by rfl) ?_
      | refine Go.condF (by rfl) ?_
      | refine GoR.skipG (by decide) rfl rfl ?_
      | (refine GoR.splitG rfl (fun hc => ?_) (fun hc => ?_) <;> simp only [hc])
      | refine Go.condB rfl (fun hc => ?_) (fun hc => ?_))
    refine ⟨(by first | exact .inl rfl | exact .inr rfl), fin ?_⟩
    rw [resD_tmp (fn := Tryd.f4) rfl]
    simp only [optThen_some, resultD_tmp, resultD_cell, G, Z, Y, un_neg, Int.reduceEq, Int.reduceLE, cutD, Nat.reduceBEq, Nat.reduceAdd, Nat.reduceMul, Nat.reduceSub, Nat.reducePow, Nat.reduceLT, Nat.reduceGT, Nat.reduceLeDiff, Nat.reduceEqDiff, Int.reduceToNat, gt_iff_lt, if_true, if_false, beq_self_eq_true, reduceIte, decide_true, decide_false, fd2_0, fd2_1, fd2_2, fd2_3, fd2_4, fd2_5, fd2_6, fd2_7, fd2_8, fd3_0, fd3_1, fd3_2, fd3_3, fd3_4, fd3_5, fd3_6, fd3_7, fd3_8, fd9_0, fd9_1, fd9_2, fd9_3, fd9_4, fd9_5, fd9_6, fd9_7, fd23_0, fd23_1, fd23_2, fd23_3, fd23_4, fd23_5, fd23_6, fd23_7, fd23_8, fd23_9, fd23_10, fd23_11, fd23_12, fd23_13, fd23_14, fd23_15, fd23_16, fd23_17, fd23_18, fd23_19, fd23_20, fd23_21, fd23_22, fd23_23, fd27_0, fd27_1, fd27_2, fd27_3, fd27_4, fd27_5, fd27_6, fd27_7, fd27_8, fd27_9, fd27_10, fd27_11, fd27_12, fd27_13, fd27_14, fd27_15, fd27_16, fd27_17, fd27_18, fd27_19, fd27_20, fd27_21, fd27_22, fd27_23, fd35_0, fd35_1, fd35_2, fd35_3, fd35_4, fd35_5, fd35_6, fd35_7, fd35_8, fd35_9, fd35_10, fd35_11, fd36_0, fd36_1, fd36_2, fd36_3, fd36_4, fd36_5, fd36_6, fd36_7, fd36_8, fd36_9, fd36_10, fd36_11]
    exact ⟨_, [], by simp, .bool, rfl⟩
  have d0 : decide (500 < (s.size : Int)) = false := by rw [decide_eq_false_iff_not]; omega
  cases h : lexS s.data.toList 0 with
  | error x =>
    obtain ⟨a, e⟩ := x
    rw [h] at hr
    have he : (e != 0) = true := by rw [bne_iff_ne]; exact lexAll_err _ _ _ _ _ h
    simp only [toksD] at hr
    repeat' (first
      | refine Go.seq ?_
      | refine Go.rg ?_
      | refine GoR.nil ?_
      | refine Go.skip ?_
      | refine Go.ret ?_
      | refine Go.block ?_
      | refine Go.exit ?_
      | refine Go.blkX ?_
      | refine Go.blkN ?_
      | refine Go.passX ?_
      | refine Go.lpX ?_
      | (refine Go.blkE (by decide) ?_)
      | (refine Go.rgS dmx (by decide) ?_)
      | ((first | refine GoR.op (by decide) (by rfl) ?_ | refine GoR.opG (by decide) (by rfl) (by rfl) ?_)
         conv => arg 1; simp only [G, Z, Y, un_neg, Int.reduceEq, Int.reduceLE, cutD, Nat.reduceBEq, Nat.reduceAdd, Nat.reduceMul, Nat.reduceSub, Nat.reducePow, Nat.reduceLT, Nat.reduceGT, Nat.reduceLeDiff, Nat.reduceEqDiff, Int.reduceToNat, gt_iff_lt, if_true, if_false, beq_self_eq_true, reduceIte, decide_true, decide_false, fd2_0, fd2_1, fd2_2, fd2_3, fd2_4, fd2_5, fd2_6, fd2_7, fd2_8, fd3_0, fd3_1, fd3_2, fd3_3, fd3_4, fd3_5, fd3_6, fd3_7, fd3_8, fd9_0, fd9_1, fd9_2, fd9_3, fd9_4, fd9_5, fd9_6, fd9_7, fd23_0, fd23_1, fd23_2, fd23_3, fd23_4, fd23_5, fd23_6, fd23_7, fd23_8, fd23_9, fd23_10, fd23_11, fd23_12, fd23_13, fd23_14, fd23_15, fd23_16, fd23_17, fd23_18, fd23_19, fd23_20, fd23_21, fd23_22, fd23_23, fd27_0, fd27_1, fd27_2, fd27_3, fd27_4, fd27_5, fd27_6, fd27_7, fd27_8, fd27_9, fd27_10, fd27_11, fd27_12, fd27_13, fd27_14, fd27_15, fd27_16, fd27_17, fd27_18, fd27_19, fd27_20, fd27_21, fd27_22, fd27_23, fd35_0, fd35_1, fd35_2, fd35_3, fd35_4, fd35_5, fd35_6, fd35_7, fd35_8, fd35_9, fd35_10, fd35_11, fd36_0, fd36_1, fd36_2, fd36_3, fd36_4, fd36_5, fd36_6, fd36_7, fd36_8, fd36_9, fd36_10, fd36_11, d0, he]
         show GoR _ _ _ _ _ _ _ _ _ _)
      | ((first | refine GoR.call (f := 6) (by decide) (by rfl) rfl Tryd.func6 (by decide) (by rfl) ?_ | refine GoR.callG (f := 6) (by decide) (by rfl) (by rfl) rfl Tryd.func6 (by decide) (by rfl) ?_)
         (refine (known _).ret ?_))
      | ((first | refine GoR.call (f := 8) (by decide) (by rfl) rfl Tryd.func8 (by decide) (by rfl) ?_ | refine GoR.callG (f := 8) (by decide) (by rfl) (by rfl) rfl Tryd.func8 (by decide) (by rfl) ?_)
         (refine (hr _).ret ?_))
      | refine Go.condT (by rfl) ?_
      | refine Go.condF (by rfl) ?_
      | refine GoR.skipG (by decide) rfl rfl ?_
      | (refine GoR.splitG rfl (fun hc => ?_) (fun hc => ?_) <;> simp only [hc])
      | refine Go.condB rfl (fun hc => ?_) (fun hc => ?_))
    refine ⟨(by first | exact .inl rfl | exact .inr rfl), fin ?_⟩
    rw [resD_tmp (fn := Tryd.f4) rfl]
    simp only [optThen_some, resultD_tmp, resultD_cell, G, Z, Y, un_neg, Int.reduceEq, Int.reduceLE, cutD, Nat.reduceBEq, Nat.reduceAdd, Nat.reduceMul, Nat.reduceSub, Nat.reducePow, Nat.reduceLT, Nat.reduceGT, Nat.reduceLeDiff, Nat.reduceEqDiff, Int.reduceToNat, gt_iff_lt, if_true, if_false, beq_self_eq_true, reduceIte, decide_true, decide_false, fd2_0, fd2_1, fd2_2, fd2_3, fd2_4, fd2_5, fd2_6, fd2_7, fd2_8, fd3_0, fd3_1, fd3_2, fd3_3, fd3_4, fd3_5, fd3_6, fd3_7, fd3_8, fd9_0, fd9_1, fd9_2, fd9_3, fd9_4, fd9_5, fd9_6, fd9_7, fd23_0, fd23_1, fd23_2, fd23_3, fd23_4, fd23_5, fd23_6, fd23_7, fd23_8, fd23_9, fd23_10, fd23_11, fd23_12, fd23_13, fd23_14, fd23_15, fd23_16, fd23_17, fd23_18, fd23_19, fd23_20, fd23_21, fd23_22, fd23_23, fd27_0, fd27_1, fd27_2, fd27_3, fd27_4, fd27_5, fd27_6, fd27_7, fd27_8, fd27_9, fd27_10, fd27_11, fd27_12, fd27_13, fd27_14, fd27_15, fd27_16, fd27_17, fd27_18, fd27_19, fd27_20, fd27_21, fd27_22, fd27_23, fd35_0, fd35_1, fd35_2, fd35_3, fd35_4, fd35_5, fd35_6, fd35_7, fd35_8, fd35_9, fd35_10, fd35_11, fd36_0, fd36_1, fd36_2, fd36_3, fd36_4, fd36_5, fd36_6, fd36_7, fd36_8, fd36_9, fd36_10, fd36_11]
    exact ⟨_, [], by simp, .bool, rfl⟩
  | ok ts =>
    rw [h] at hr
    obtain ⟨hf, c1, c2⟩ := fit_of (by omega) h
    obtain ⟨ts', hb, hlen, hsz, heqv⟩ := back (by omega) h
    have hx := refText (orc := O) ts hf
    have ha := lexTokens (textT ts) hsz
    rw [hb] at ha
    simp only [toksD] at hr ha
    rw [hlen] at ha
    have hn : ((ts.length : Int) != (ts.length : Int)) = false := by simp
    generalize textT ts = x at *
    repeat' (first
      | refine Go.seq ?_
      | refine Go.rg ?_
      | refine GoR.nil ?_
      | refine Go.skip ?_
      | refine Go.ret ?_
      | refine Go.block ?_
      | refine Go.exit ?_
      | refine Go.blkX ?_
      | refine Go.blkN ?_
      | refine Go.passX ?_
      | refine Go.lpX ?_
      | (refine Go.blkE (by decide) ?_)
      | (refine Go.rgS dmx (by decide) ?_)
      | ((first | refine GoR.op (by decide) (by rfl) ?_ | refine GoR.opG (by decide) (by rfl) (by rfl) ?_)
         conv => arg 1; simp only [G, Z, Y, un_neg, Int.reduceEq, Int.reduceLE, cutD, Nat.reduceBEq, Nat.reduceAdd, Nat.reduceMul, Nat.reduceSub, Nat.reducePow, Nat.reduceLT, Nat.reduceGT, Nat.reduceLeDiff, Nat.reduceEqDiff, Int.reduceToNat, gt_iff_lt, if_true, if_false, beq_self_eq_true, reduceIte, decide_true, decide_false, fd2_0, fd2_1, fd2_2, fd2_3, fd2_4, fd2_5, fd2_6, fd2_7, fd2_8, fd3_0, fd3_1, fd3_2, fd3_3, fd3_4, fd3_5, fd3_6, fd3_7, fd3_8, fd9_0, fd9_1, fd9_2, fd9_3, fd9_4, fd9_5, fd9_6, fd9_7, fd23_0, fd23_1, fd23_2, fd23_3, fd23_4, fd23_5, fd23_6, fd23_7, fd23_8, fd23_9, fd23_10, fd23_11, fd23_12, fd23_13, fd23_14, fd23_15, fd23_16, fd23_17, fd23_18, fd23_19, fd23_20, fd23_21, fd23_22, fd23_23, fd27_0, fd27_1, fd27_2, fd27_3, fd27_4, fd27_5, fd27_6, fd27_7, fd27_8, fd27_9, fd27_10, fd27_11, fd27_12, fd27_13, fd27_14, fd27_15, fd27_16, fd27_17, fd27_18, fd27_19, fd27_20, fd27_21, fd27_22, fd27_23, fd35_0, fd35_1, fd35_2, fd35_3, fd35_4, fd35_5, fd35_6, fd35_7, fd35_8, fd35_9, fd35_10, fd35_11, fd36_0, fd36_1, fd36_2, fd36_3, fd36_4, fd36_5, fd36_6, fd36_7, fd36_8, fd36_9, fd36_10, fd36_11, d0, hn, show ((0 : Int) != 0) = false by decide]
         show GoR _ _ _ _ _ _ _ _ _ _)
      | ((first | refine GoR.call (f := 6) (by decide) (by rfl) rfl Tryd.func6 (by decide) (by rfl) ?_ | refine GoR.callG (f := 6) (by decide) (by rfl) (by rfl) rfl Tryd.func6 (by decide) (by rfl) ?_)
         (refine (known _).ret ?_))
      | ((first | refine GoR.call (f := 8) (by decide) (by rfl) rfl Tryd.func8 (by decide) (by rfl) ?_ | refine GoR.callG (f := 8) (by decide) (by rfl) (by rfl) rfl Tryd.func8 (by decide) (by rfl) ?_)
         (refine (hr _).ret ?_))
      | ((first | refine GoR.call (f := 11) (by decide) (by rfl) rfl Tryd.func11 (by decide) (by rfl) ?_ | refine GoR.callG (f := 11) (by decide) (by rfl) (by rfl) rfl Tryd.func11 (by decide) (by rfl) ?_)
         (refine (hx _).ret ?_))
      | ((first | refine GoR.call (f := 7) (by decide) (by rfl) rfl Tryd.func7 (by decide) (by rfl) ?_ | refine GoR.callG (f := 7) (by decide) (by rfl) (by rfl) rfl Tryd.func7 (by decide) (by rfl) ?_)
         (refine (ha _).ret ?_))
      | refine Go.condT (by rfl) ?_
      | refine Go.condF (by rfl) ?_
      | refine GoR.skipG (by decide) rfl rfl ?_
      | (refine GoR.splitG rfl (fun hc => ?_) (fun hc => ?_) <;> simp only [hc])
      | refine Go.condB rfl (fun hc => ?_) (fun hc => ?_))
    refine Go.keep [(3, .sl none 4 ts.length (toksC ts)), (7, .sl none 4 ts.length (toksC ts')), (10, .int .i64 ((0 : Nat) : Int))] (.cons .refl (.cons .refl (.cons .refl (.nil)))) ?_
    refine Go.while (α := Nat) (fun i => ts.length - i) (fun i => [(3, .sl none 4 ts.length (toksC ts)), (7, .sl none 4 ts.length (toksC ts')), (10, .int .i64 (i : Int))]) (fun _ => S) (fun i => i ≤ ts.length) ?_ 0 (Nat.zero_le _)
    intro i hi next
    by_cases h1 : i < ts.length
    · have d1 : decide ((i : Int) < (ts.length : Int)) = true := by rw [decide_eq_true_iff]; omega
      have h1' : i < ts'.length := by omega
      have ht := toksAt h1
      have ht' := toksAt h1'
      obtain ⟨e1, e2, e3⟩ := heqv i ts'[i] ts[i] (List.getElem?_eq_getElem h1') (List.getElem?_eq_getElem h1)
      rw [e1, e2, e3] at ht'
      rw [hlen] at ht'
      generalize ts[i].k = a at *
      generalize ts[i].t = b at *
      generalize ts[i].n = c at *
      repeat' (first
        | refine Go.seq ?_
        | refine Go.rg ?_
        | refine GoR.nil ?_
        | refine Go.skip ?_
        | refine Go.ret ?_
        | refine Go.block ?_
        | refine Go.exit ?_
        | refine Go.blkX ?_
        | refine Go.blkN ?_
        | refine Go.passX ?_
        | refine Go.lpX ?_
        | (refine Go.blkE (by decide) ?_)
        | (refine Go.rgS dmx (by decide) ?_)
        | ((first | refine GoR.op (by decide) (by rfl) ?_ | refine GoR.opG (by decide) (by rfl) (by rfl) ?_)
           conv => arg 1; simp only [G, Z, Y, un_neg, Int.reduceEq, Int.reduceLE, cutD, Nat.reduceBEq, Nat.reduceAdd, Nat.reduceMul, Nat.reduceSub, Nat.reducePow, Nat.reduceLT, Nat.reduceGT, Nat.reduceLeDiff, Nat.reduceEqDiff, Int.reduceToNat, gt_iff_lt, if_true, if_false, beq_self_eq_true, reduceIte, decide_true, decide_false, fd2_0, fd2_1, fd2_2, fd2_3, fd2_4, fd2_5, fd2_6, fd2_7, fd2_8, fd3_0, fd3_1, fd3_2, fd3_3, fd3_4, fd3_5, fd3_6, fd3_7, fd3_8, fd9_0, fd9_1, fd9_2, fd9_3, fd9_4, fd9_5, fd9_6, fd9_7, fd23_0, fd23_1, fd23_2, fd23_3, fd23_4, fd23_5, fd23_6, fd23_7, fd23_8, fd23_9, fd23_10, fd23_11, fd23_12, fd23_13, fd23_14, fd23_15, fd23_16, fd23_17, fd23_18, fd23_19, fd23_20, fd23_21, fd23_22, fd23_23, fd27_0, fd27_1, fd27_2, fd27_3, fd27_4, fd27_5, fd27_6, fd27_7, fd27_8, fd27_9, fd27_10, fd27_11, fd27_12, fd27_13, fd27_14, fd27_15, fd27_16, fd27_17, fd27_18, fd27_19, fd27_20, fd27_21, fd27_22, fd27_23, fd35_0, fd35_1, fd35_2, fd35_3, fd35_4, fd35_5, fd35_6, fd35_7, fd35_8, fd35_9, fd35_10, fd35_11, fd36_0, fd36_1, fd36_2, fd36_3, fd36_4, fd36_5, fd36_6, fd36_7, fd36_8, fd36_9, fd36_10, fd36_11, d1, ht.1, ht.2.1, ht.2.2.2, ht'.2.2.2, bne_self_eq_false, eq_self, decide_true, Bool.not_true, wrap_succ (show i < 4611686018427387904 by omega)]
           show GoR _ _ _ _ _ _ _ _ _ _)
        | refine Go.condT (by rfl) ?_
        | refine Go.condF (by rfl) ?_
        | refine GoR.skipG (by decide) rfl rfl ?_
        | (refine GoR.splitG rfl (fun hc => ?_) (fun hc => ?_) <;> simp only [hc])
        | refine Go.condB rfl (fun hc => ?_) (fun hc => ?_))
      refine Go.lpN ?_
      refine Go.keep [(3, .sl none 4 ts.length (toksC ts)), (7, .sl none 4 ts.length (toksC ts')), (10, .int .i64 ((i + 1 : Nat) : Int))] (.cons .refl (.cons .refl (.cons .refl (.nil)))) ?_
      exact next (i + 1) (by omega) h1
    · have d1 : decide ((i : Int) < (ts.length : Int)) = false := by rw [decide_eq_false_iff_not]; omega
      clear next
      repeat' (first
        | refine Go.seq ?_
        | refine Go.rg ?_
        | refine GoR.nil ?_
        | refine Go.skip ?_
        | refine Go.ret ?_
        | refine Go.block ?_
        | refine Go.exit ?_
        | refine Go.blkX ?_
        | refine Go.blkN ?_
        | refine Go.passX ?_
        | refine Go.lpX ?_
        | (refine Go.blkE (by decide) ?_)
        | (refine Go.rgS dmx (by decide) ?_)
        | ((first | refine GoR.op (by decide) (by rfl) ?_ | refine GoR.opG (by decide) (by rfl) (by rfl) ?_)
           conv => arg 1; simp only [G, Z, Y, un_neg, Int.reduceEq, Int.reduceLE, cutD, Nat.reduceBEq, Nat.reduceAdd, Nat.reduceMul, Nat.reduceSub, Nat.reducePow, Nat.reduceLT, Nat.reduceGT, Nat.reduceLeDiff, Nat.reduceEqDiff, Int.reduceToNat, gt_iff_lt, if_true, if_false, beq_self_eq_true, reduceIte, decide_true, decide_false, fd2_0, fd2_1, fd2_2, fd2_3, fd2_4, fd2_5, fd2_6, fd2_7, fd2_8, fd3_0, fd3_1, fd3_2, fd3_3, fd3_4, fd3_5, fd3_6, fd3_7, fd3_8, fd9_0, fd9_1, fd9_2, fd9_3, fd9_4, fd9_5, fd9_6, fd9_7, fd23_0, fd23_1, fd23_2, fd23_3, fd23_4, fd23_5, fd23_6, fd23_7, fd23_8, fd23_9, fd23_10, fd23_11, fd23_12, fd23_13, fd23_14, fd23_15, fd23_16, fd23_17, fd23_18, fd23_19, fd23_20, fd23_21, fd23_22, fd23_23, fd27_0, fd27_1, fd27_2, fd27_3, fd27_4, fd27_5, fd27_6, fd27_7, fd27_8, fd27_9, fd27_10, fd27_11, fd27_12, fd27_13, fd27_14, fd27_15, fd27_16, fd27_17, fd27_18, fd27_19, fd27_20, fd27_21, fd27_22, fd27_23, fd35_0, fd35_1, fd35_2, fd35_3, fd35_4, fd35_5, fd35_6, fd35_7, fd35_8, fd35_9, fd35_10, fd35_11, fd36_0, fd36_1, fd36_2, fd36_3, fd36_4, fd36_5, fd36_6, fd36_7, fd36_8, fd36_9, fd36_10, fd36_11, d1]
           show GoR _ _ _ _ _ _ _ _ _ _)
        | refine Go.condT (by rfl) ?_
        | refine Go.condF (by rfl) ?_
        | refine GoR.skipG (by decide) rfl rfl ?_
        | (refine GoR.splitG rfl (fun hc => ?_) (fun hc => ?_) <;> simp only [hc])
        | refine Go.condB rfl (fun hc => ?_) (fun hc => ?_))
      refine ⟨(by first | exact .inl rfl | exact .inr rfl), fin ?_⟩
      rw [resD_tmp (fn := Tryd.f4) rfl]
      simp only [optThen_some, resultD_tmp, resultD_cell, G, Z, Y, un_neg, Int.reduceEq, Int.reduceLE, cutD, Nat.reduceBEq, Nat.reduceAdd, Nat.reduceMul, Nat.reduceSub, Nat.reducePow, Nat.reduceLT, Nat.reduceGT, Nat.reduceLeDiff, Nat.reduceEqDiff, Int.reduceToNat, gt_iff_lt, if_true, if_false, beq_self_eq_true, reduceIte, decide_true, decide_false, fd2_0, fd2_1, fd2_2, fd2_3, fd2_4, fd2_5, fd2_6, fd2_7, fd2_8, fd3_0, fd3_1, fd3_2, fd3_3, fd3_4, fd3_5, fd3_6, fd3_7, fd3_8, fd9_0, fd9_1, fd9_2, fd9_3, fd9_4, fd9_5, fd9_6, fd9_7, fd23_0, fd23_1, fd23_2, fd23_3, fd23_4, fd23_5, fd23_6, fd23_7, fd23_8, fd23_9, fd23_10, fd23_11, fd23_12, fd23_13, fd23_14, fd23_15, fd23_16, fd23_17, fd23_18, fd23_19, fd23_20, fd23_21, fd23_22, fd23_23, fd27_0, fd27_1, fd27_2, fd27_3, fd27_4, fd27_5, fd27_6, fd27_7, fd27_8, fd27_9, fd27_10, fd27_11, fd27_12, fd27_13, fd27_14, fd27_15, fd27_16, fd27_17, fd27_18, fd27_19, fd27_20, fd27_21, fd27_22, fd27_23, fd35_0, fd35_1, fd35_2, fd35_3, fd35_4, fd35_5, fd35_6, fd35_7, fd35_8, fd35_9, fd35_10, fd35_11, fd36_0, fd36_1, fd36_2, fd36_3, fd36_4, fd36_5, fd36_6, fd36_7, fd36_8, fd36_9, fd36_10, fd36_11]
      exact ⟨_, [], by simp, .bool, rfl⟩
end Go.Proofs.DlT
