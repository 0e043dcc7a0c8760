/- Words as a text, by both; a number, by the document. -/
import Derived.Test.YtpdnaoahghfaoaaDoorDlC5
set_option linter.unusedSimpArgs false
set_option linter.unusedVariables false
namespace Go.Proofs.DlT
open Go Go.DM
set_option maxRecDepth 100000
variable {orc : DOracle}

theorem add_str {P : Program} {t : TypeId} {x y : Operand} {a b : ByteArray} (h : a.size + b.size < 4611686018427387904) : binD P .add t x y (.str a) (.str b) = some (.str (a ++ b)) :=
  bin_str (v := .string (a ++ b)) (by simp only [AM.strBin]; rw [if_neg]; show ¬ ((a.size + b.size : Nat) : Int) > 9223372036854775807; omega)
theorem fits_str {n : Nat} {s : ByteArray} (h : n < 1000000) : fitsD 16 n [.str s] := ⟨by omega, by omega, by omega, rfl⟩
/-- Words with blanks between, as a text. -/
def textT (ts : List Tok) : ByteArray := ⟨(joinT (ts.map (·.t))).toArray⟩
theorem join_eq : ∀ (l : List ByteArray), Lib.join (l.map (·.data.toList)) [32] = joinT l
  | [] => rfl
  | [x] => by simp [Lib.join, joinT]
  | x :: y :: l => by
    have := join_eq (y :: l)
    have e : ∀ (a b : List UInt8) (m : List (List UInt8)), Lib.join (a :: b :: m) [32] = a ++ 32 :: Lib.join (b :: m) [32] := fun a b m => by simp [Lib.join, List.intercalate, List.intersperse]
    rw [List.map_cons, List.map_cons, e, joinT, ← this, List.map_cons]
theorem joinB_eq (ts : List Tok) : joinB (ts.map (·.t)) ⟨#[32]⟩ = textT ts := by
  rw [joinB, textT]
  congr 2
  exact join_eq _
def Fit (ts : List Tok) : Prop := ts.length < 1000000 ∧ (ts.map fun t => t.t.size).sum < 1000000
theorem textT_size {ts : List Tok} (h : Fit ts) : (textT ts).size < 2000000 := by
  have := joinT_length (ts.map (·.t))
  rw [List.map_map] at this
  show (joinT (ts.map (·.t))).toArray.size < _
  rw [List.size_toArray]
  have h2 := h.2
  have h1 := h.1
  rw [List.length_map] at this
  have e : (ts.map ((·.size) ∘ (·.t))) = ts.map fun t => t.t.size := rfl
  rw [e] at this
  omega
theorem Fit.take {ts : List Tok} (h : Fit ts) (i : Nat) : Fit (ts.take i) := by
  refine ⟨by have := h.1; rw [List.length_take]; omega, ?_⟩
  have e : (ts.map fun t => t.t.size).sum = ((ts.take i).map fun t => t.t.size).sum + ((ts.drop i).map fun t => t.t.size).sum := by
    conv => lhs; rw [← List.take_append_drop i ts]
    rw [List.map_append, List.sum_append_nat]
  have := h.2
  omega
theorem Fit.get {ts : List Tok} (h : Fit ts) {i : Nat} (hi : i < ts.length) : ts[i].t.size < 1000000 := by
  have h2 := (h.take (i + 1)).2
  rw [List.take_succ_eq_append_getElem hi, List.map_append, List.sum_append_nat] at h2
  simp at h2
  omega

theorem lexText (ts : List Tok) (hf : Fit ts) (S : Mem) : CallD Tryd.prog O 10 [.sl none 4 ts.length (toksC ts)] S fun d S' => S' = S ∧ d = .str (textT ts) := by
  have hlen := hf.1
  refine CallD.drop ?_
  refine CallD.body Tryd.func10 rfl (by simp [Tryd.ntmps10]) ?_
  rw [Tryd.ntmps10]
  repeat' (first
    | refine Go.seq ?_
    | refine Go.rg ?_
    | refine GoR.nil ?_
    | refine Go.skip ?_
    | refine Go.ret ?_
    | refine Go.block ?_
    | refine Go.exit ?_
    | refine Go.blkX ?_
    | refine Go.blkN ?_
    | refine Go.passX ?_
    | refine Go.lpX ?_
    | (refine Go.blkE (by decide) ?_)
    | (refine Go.rgS dmx (by decide) ?_)
    | ((first | refine GoR.op (by decide) (by rfl) ?_ | refine GoR.opG (by decide) (by rfl) (by rfl) ?_)
       conv => arg 1; simp only [G, Z, Y, un_neg, Int.reduceEq, Int.reduceLE, cutD, Nat.reduceBEq, Nat.reduceAdd, Nat.reduceMul, Nat.reduceSub, Nat.reducePow, Nat.reduceLT, Nat.reduceGT, Nat.reduceLeDiff, Nat.reduceEqDiff, Int.reduceToNat, gt_iff_lt, if_true, if_false, beq_self_eq_true, reduceIte, decide_true, decide_false, fd2_0, fd2_1, fd2_2, fd2_3, fd2_4, fd2_5, fd2_6, fd2_7, fd2_8, fd3_0, fd3_1, fd3_2, fd3_3, fd3_4, fd3_5, fd3_6, fd3_7, fd3_8, fd9_0, fd9_1, fd9_2, fd9_3, fd9_4, fd9_5, fd9_6, fd9_7, fd23_0, fd23_1, fd23_2, fd23_3, fd23_4, fd23_5, fd23_6, fd23_7, fd23_8, fd23_9, fd23_10, fd23_11, fd23_12, fd23_13, fd23_14, fd23_15, fd23_16, fd23_17, fd23_18, fd23_19, fd23_20, fd23_21, fd23_22, fd23_23, fd35_0, fd35_1, fd35_2, fd35_3, fd35_4, fd35_5, fd35_6, fd35_7, fd35_8, fd35_9, fd35_10, fd35_11, fd45_0, fd45_1, fd45_2, fd45_3, fd45_4, fd45_5, fd45_6, fd45_7, fd45_8, fd45_9, fd45_10, fd45_11, fd45_12, fd45_13, fd45_14, fd45_15, fd45_16, fd45_17, fd45_18, fd45_19, fd45_20, fd45_21, fd45_22, fd45_23]
       show GoR _ _ _ _ _ _ _ _ _ _)
    | refine Go.condT (by rfl) ?_
    | refine Go.condF (by rfl) ?_
    | refine GoR.skipG (by decide) rfl rfl ?_
    | (refine GoR.splitG rfl (fun hc => ?_) (fun hc => ?_) <;> simp only [hc])
    | refine Go.condB rfl (fun hc => ?_) (fun hc => ?_))
  refine Go.keep [(3, .nils), (6, .sl none 4 ts.length (toksC ts)), (7, .int .i64 (ts.length : Int)), (8, .int .i64 ((0 : Nat) : Int))] (.cons .refl (.cons .refl (.cons .refl (.cons .refl (.nil))))) ?_
  refine Go.while (α := Nat × D × Mem) (fun x => ts.length - x.1) (fun x => [(3, x.2.1), (6, .sl none 4 ts.length (toksC ts)), (7, .int .i64 (ts.length : Int)), (8, .int .i64 (x.1 : Int))]) (fun x => x.2.2)
    (fun x => x.1 ≤ ts.length ∧ AccD S.length x.2.1 1 x.1 (((ts.take x.1).map (·.t)).map .str) x.2.2 ∧ Grown S.length S x.2.2) ?_ (0, .nils, S) ⟨Nat.zero_le _, .inl ⟨rfl, rfl, rfl⟩, .refl⟩
  rintro ⟨i, o, S1⟩ ⟨hi, hacc, hg⟩ next
  dsimp only at hi hacc hg next
  by_cases h1 : i < ts.length
  · have d1 : decide ((i : Int) < (ts.length : Int)) = true := by rw [decide_eq_true_iff]; omega
    have ht := toksAt h1
    have hsucc : ((ts.take (i + 1)).map (·.t)).map D.str = ((ts.take i).map (·.t)).map D.str ++ [.str ts[i].t] := by rw [List.take_succ_eq_append_getElem h1, List.map_append, List.map_append]; rfl
    generalize ts[i] = t at *
    simp only [Tok.c] at ht
    obtain ⟨o', S2, hap, hacc2, hg2⟩ := (hacc.app [.obj (Tok.c t), .own]).append (P := Tryd.prog) del45 (own := some (S1.length + 1)) (m := 1) (new := [.str t.t]) (by simp; have := hg.len; omega) (by omega) (fits_str (by omega))
    simp only [Tok.c] at hap
    repeat' (first
      | refine Go.seq ?_
      | refine Go.rg ?_
      | refine GoR.nil ?_
      | refine Go.skip ?_
      | refine Go.ret ?_
      | refine Go.block ?_
      | refine Go.exit ?_
      | refine Go.blkX ?_
      | refine Go.blkN ?_
      | refine Go.passX ?_
      | refine Go.lpX ?_
      | (refine Go.blkE (by decide) ?_)
      | (refine Go.rgS dmx (by decide) ?_)
      | ((first | refine GoR.op (by decide) (by rfl) ?_ | refine GoR.opG (by decide) (by rfl) (by rfl) ?_)
         conv => arg 1; simp only [G, Z, Y, un_neg, Int.reduceEq, Int.reduceLE, cutD, Nat.reduceBEq, Nat.reduceAdd, Nat.reduceMul, Nat.reduceSub, Nat.reducePow, Nat.reduceLT, Nat.reduceGT, Nat.reduceLeDiff, Nat.reduceEqDiff, Int.reduceToNat, gt_iff_lt, if_true, if_false, beq_self_eq_true, reduceIte, decide_true, decide_false, fd2_0, fd2_1, fd2_2, fd2_3, fd2_4, fd2_5, fd2_6, fd2_7, fd2_8, fd3_0, fd3_1, fd3_2, fd3_3, fd3_4, fd3_5, fd3_6, fd3_7, fd3_8, fd9_0, fd9_1, fd9_2, fd9_3, fd9_4, fd9_5, fd9_6, fd9_7, fd23_0, fd23_1, fd23_2, fd23_3, fd23_4, fd23_5, fd23_6, fd23_7, fd23_8, fd23_9, fd23_10, fd23_11, fd23_12, fd23_13, fd23_14, fd23_15, fd23_16, fd23_17, fd23_18, fd23_19, fd23_20, fd23_21, fd23_22, fd23_23, fd35_0, fd35_1, fd35_2, fd35_3, fd35_4, fd35_5, fd35_6, fd35_7, fd35_8, fd35_9, fd35_10, fd35_11, fd45_0, fd45_1, fd45_2, fd45_3, fd45_4, fd45_5, fd45_6, fd45_7, fd45_8, fd45_9, fd45_10, fd45_11, fd45_12, fd45_13, fd45_14, fd45_15, fd45_16, fd45_17, fd45_18, fd45_19, fd45_20, fd45_21, fd45_22, fd45_23, d1, ht, hap, builtin_append, wrap_succ (show i < 4611686018427387904 by omega), List.append_assoc, List.cons_append, List.nil_append, List.length_append, List.length_cons, List.length_nil]
         show GoR _ _ _ _ _ _ _ _ _ _)
      | refine Go.condT (by rfl) ?_
      | refine Go.condF (by rfl) ?_
      | refine GoR.skipG (by decide) rfl rfl ?_
      | (refine GoR.splitG rfl (fun hc => ?_) (fun hc => ?_) <;> simp only [hc])
      | refine Go.condB rfl (fun hc => ?_) (fun hc => ?_))
    refine Go.lpN ?_
    refine Go.keep [(3, o'), (6, .sl none 4 ts.length (toksC ts)), (7, .int .i64 (ts.length : Int)), (8, .int .i64 ((i + 1 : Nat) : Int))] (.cons .refl (.cons .refl (.cons .refl (.cons .refl (.nil))))) ?_
    refine next (i + 1, o', S2) (by dsimp only; omega) ⟨h1, ?_, hg.trans (Grown.app.trans hg2)⟩
    dsimp only
    rw [hsucc]
    exact hacc2
  · have d1 : decide ((i : Int) < (ts.length : Int)) = false := by rw [decide_eq_false_iff_not]; omega
    clear next
    have hi' : i = ts.length := by omega
    subst hi'
    rw [List.take_length] at hacc
    obtain ⟨E, hE⟩ := hg.pre [] S rfl (by simp)
    have hsz : (joinB (ts.map (·.t)) ⟨#[32]⟩).size ≤ 140737488355328 := by rw [joinB_eq]; have := textT_size hf; omega
    have hj := join none (ts.map (·.t)) ⟨#[32]⟩ (by simp; omega) hsz
    rw [joinB_eq, List.length_map] at hj
    repeat' (first
      | refine Go.seq ?_
      | refine Go.rg ?_
      | refine GoR.nil ?_
      | refine Go.skip ?_
      | refine Go.ret ?_
      | refine Go.block ?_
      | refine Go.exit ?_
      | refine Go.blkX ?_
      | refine Go.blkN ?_
      | refine Go.passX ?_
      | refine Go.lpX ?_
      | (refine Go.blkE (by decide) ?_)
      | (refine Go.rgS dmx (by decide) ?_)
      | ((first | refine GoR.op (by decide) (by rfl) ?_ | refine GoR.opG (by decide) (by rfl) (by rfl) ?_)
         conv => arg 1; simp only [G, Z, Y, un_neg, Int.reduceEq, Int.reduceLE, cutD, Nat.reduceBEq, Nat.reduceAdd, Nat.reduceMul, Nat.reduceSub, Nat.reducePow, Nat.reduceLT, Nat.reduceGT, Nat.reduceLeDiff, Nat.reduceEqDiff, Int.reduceToNat, gt_iff_lt, if_true, if_false, beq_self_eq_true, reduceIte, decide_true, decide_false, fd2_0, fd2_1, fd2_2, fd2_3, fd2_4, fd2_5, fd2_6, fd2_7, fd2_8, fd3_0, fd3_1, fd3_2, fd3_3, fd3_4, fd3_5, fd3_6, fd3_7, fd3_8, fd9_0, fd9_1, fd9_2, fd9_3, fd9_4, fd9_5, fd9_6, fd9_7, fd23_0, fd23_1, fd23_2, fd23_3, fd23_4, fd23_5, fd23_6, fd23_7, fd23_8, fd23_9, fd23_10, fd23_11, fd23_12, fd23_13, fd23_14, fd23_15, fd23_16, fd23_17, fd23_18, fd23_19, fd23_20, fd23_21, fd23_22, fd23_23, fd35_0, fd35_1, fd35_2, fd35_3, fd35_4, fd35_5, fd35_6, fd35_7, fd35_8, fd35_9, fd35_10, fd35_11, fd45_0, fd45_1, fd45_2, fd45_3, fd45_4, fd45_5, fd45_6, fd45_7, fd45_8, fd45_9, fd45_10, fd45_11, fd45_12, fd45_13, fd45_14, fd45_15, fd45_16, fd45_17, fd45_18, fd45_19, fd45_20, fd45_21, fd45_22, fd45_23, d1]
         show GoR _ _ _ _ _ _ _ _ _ _)
      | ((first | refine GoR.call (f := 19) (by decide) (by rfl) rfl Tryd.func19 (by decide) (by rfl) ?_ | refine GoR.callG (f := 19) (by decide) (by rfl) (by rfl) rfl Tryd.func19 (by decide) (by rfl) ?_)
         (refine CallD.weak (args' := [.sl none 1 ts.length ((ts.map Tok.t).map .str), .str ⟨#[32]⟩]) (.cons hacc.wf (.cons .refl .nil)) ((hj _).ret ?_)))
      | refine Go.condT (by rfl) ?_
      | refine Go.condF (by rfl) ?_
      | refine GoR.skipG (by decide) rfl rfl ?_
      | (refine GoR.splitG rfl (fun hc => ?_) (fun hc => ?_) <;> simp only [hc])
      | refine Go.condB rfl (fun hc => ?_) (fun hc => ?_))
    refine ⟨(by first | exact .inl rfl | exact .inr rfl), fin ?_⟩
    rw [resD_tmp (fn := Tryd.f10) rfl]
    simp only [optThen_some, resultD_tmp, resultD_cell, G, Z, Y, un_neg, Int.reduceEq, Int.reduceLE, cutD, Nat.reduceBEq, Nat.reduceAdd, Nat.reduceMul, Nat.reduceSub, Nat.reducePow, Nat.reduceLT, Nat.reduceGT, Nat.reduceLeDiff, Nat.reduceEqDiff, Int.reduceToNat, gt_iff_lt, if_true, if_false, beq_self_eq_true, reduceIte, decide_true, decide_false, fd2_0, fd2_1, fd2_2, fd2_3, fd2_4, fd2_5, fd2_6, fd2_7, fd2_8, fd3_0, fd3_1, fd3_2, fd3_3, fd3_4, fd3_5, fd3_6, fd3_7, fd3_8, fd9_0, fd9_1, fd9_2, fd9_3, fd9_4, fd9_5, fd9_6, fd9_7, fd23_0, fd23_1, fd23_2, fd23_3, fd23_4, fd23_5, fd23_6, fd23_7, fd23_8, fd23_9, fd23_10, fd23_11, fd23_12, fd23_13, fd23_14, fd23_15, fd23_16, fd23_17, fd23_18, fd23_19, fd23_20, fd23_21, fd23_22, fd23_23, fd35_0, fd35_1, fd35_2, fd35_3, fd35_4, fd35_5, fd35_6, fd35_7, fd35_8, fd35_9, fd35_10, fd35_11, fd45_0, fd45_1, fd45_2, fd45_3, fd45_4, fd45_5, fd45_6, fd45_7, fd45_8, fd45_9, fd45_10, fd45_11, fd45_12, fd45_13, fd45_14, fd45_15, fd45_16, fd45_17, fd45_18, fd45_19, fd45_20, fd45_21, fd45_22, fd45_23]
    exact ⟨_, E, hE, .str, rfl⟩

theorem joinT_snoc : ∀ (l : List ByteArray) (x : ByteArray), joinT (l ++ [x]) = if l = [] then x.data.toList else joinT l ++ 32 :: x.data.toList
  | [], x => rfl
  | [y], x => by simp [joinT]
  | y :: z :: l, x => by
    have := joinT_snoc (z :: l) x
    rw [if_neg (by simp)] at this ⊢
    simp only [List.cons_append, joinT] at this ⊢
    rw [this]
    simp
theorem textT_snoc (l : List Tok) (t : Tok) (h : l ≠ []) : textT (l ++ [t]) = (textT l ++ ⟨#[32]⟩) ++ t.t := by
  refine AM.bytes_ext ?_
  simp only [textT, List.map_append, List.map_cons, List.map_nil]
  rw [joinT_snoc, if_neg (by simpa using h)]
  simp
theorem textT_one (t : Tok) : textT [t] = (⟨#[]⟩ : ByteArray) ++ t.t := by
  refine AM.bytes_ext ?_
  simp [textT, joinT]
theorem refText (ts : List Tok) (hf : Fit ts) (S : Mem) : CallD Tryd.prog orc 11 [.sl none 4 ts.length (toksC ts)] S fun d S' => S' = S ∧ d = .str (textT ts) := by
  have hlen := hf.1
  refine CallD.drop ?_
  refine CallD.body Tryd.func11 rfl (by simp [Tryd.ntmps11]) ?_
  rw [Tryd.ntmps11]
  repeat' (first
    | refine Go.seq ?_
    | refine Go.rg ?_
    | refine GoR.nil ?_
    | refine Go.skip ?_
    | refine Go.ret ?_
    | refine Go.block ?_
    | refine Go.exit ?_
    | refine Go.blkX ?_
    | refine Go.blkN ?_
    | refine Go.passX ?_
    | refine Go.lpX ?_
    | (refine Go.blkE (by decide) ?_)
    | (refine Go.rgS dmx (by decide) ?_)
    | ((first | refine GoR.op (by decide) (by rfl) ?_ | refine GoR.opG (by decide) (by rfl) (by rfl) ?_)
       conv => arg 1; simp only [G, Z, Y, un_neg, Int.reduceEq, Int.reduceLE, cutD, Nat.reduceBEq, Nat.reduceAdd, Nat.reduceMul, Nat.reduceSub, Nat.reducePow, Nat.reduceLT, Nat.reduceGT, Nat.reduceLeDiff, Nat.reduceEqDiff, Int.reduceToNat, gt_iff_lt, if_true, if_false, beq_self_eq_true, reduceIte, decide_true, decide_false, fd2_0, fd2_1, fd2_2, fd2_3, fd2_4, fd2_5, fd2_6, fd2_7, fd2_8, fd3_0, fd3_1, fd3_2, fd3_3, fd3_4, fd3_5, fd3_6, fd3_7, fd3_8, fd9_0, fd9_1, fd9_2, fd9_3, fd9_4, fd9_5, fd9_6, fd9_7, fd27_0, fd27_1, fd27_2, fd27_3, fd27_4, fd27_5, fd27_6, fd27_7, fd27_8, fd27_9, fd27_10, fd27_11, fd27_12, fd27_13, fd27_14, fd27_15, fd27_16, fd27_17, fd27_18, fd27_19, fd27_20, fd27_21, fd27_22, fd27_23, fd36_0, fd36_1, fd36_2, fd36_3, fd36_4, fd36_5, fd36_6, fd36_7, fd36_8, fd36_9, fd36_10, fd36_11]
       show GoR _ _ _ _ _ _ _ _ _ _)
    | refine Go.condT (by rfl) ?_
    | refine Go.condF (by rfl) ?_
    | refine GoR.skipG (by decide) rfl rfl ?_
    | (refine GoR.splitG rfl (fun hc => ?_) (fun hc => ?_) <;> simp only [hc])
    | refine Go.condB rfl (fun hc => ?_) (fun hc => ?_))
  refine Go.keep [(0, .sl none 4 ts.length (toksC ts)), (3, .str (textT [])), (4, .int .i64 ((0 : Nat) : Int))] (.cons .refl (.cons .refl (.cons .refl (.nil)))) ?_
  refine Go.while (α := Nat) (fun i => ts.length - i) (fun i => [(0, .sl none 4 ts.length (toksC ts)), (3, .str (textT (ts.take i))), (4, .int .i64 (i : Int))]) (fun _ => S) (fun i => i ≤ ts.length) ?_ 0 (Nat.zero_le _)
  intro i hi next
  by_cases h1 : i < ts.length
  · have d1 : decide ((i : Int) < (ts.length : Int)) = true := by rw [decide_eq_true_iff]; omega
    have ht := toksAt h1
    have hts := hf.get h1
    have hpre := textT_size (hf.take i)
    have hsucc : ts.take (i + 1) = ts.take i ++ [ts[i]] := List.take_succ_eq_append_getElem h1
    by_cases h0 : i = 0
    · subst h0
      have e : textT (ts.take (0 + 1)) = textT (ts.take 0) ++ ts[0].t := by rw [hsucc]; exact textT_one _
      generalize textT (ts.take 0) = pre at *
      generalize ts[0] = t at *
      have ha := fun {ty : TypeId} {x y : Operand} => add_str (P := Tryd.prog) (t := ty) (x := x) (y := y) (a := pre) (b := t.t) (by omega)
      repeat' (first
        | refine Go.seq ?_
        | refine Go.rg ?_
        | refine GoR.nil ?_
        | refine Go.skip ?_
        | refine Go.ret ?_
        | refine Go.block ?_
        | refine Go.exit ?_
        | refine Go.blkX ?_
        | refine Go.blkN ?_
        | refine Go.passX ?_
        | refine Go.lpX ?_
        | (refine Go.blkE (by decide) ?_)
        | (refine Go.rgS dmx (by decide) ?_)
        | ((first | refine GoR.op (by decide) (by rfl) ?_ | refine GoR.opG (by decide) (by rfl) (by rfl) ?_)
           conv => arg 1; simp only [G, Z, Y, un_neg, Int.reduceEq, Int.reduceLE, cutD, Nat.reduceBEq, Nat.reduceAdd, Nat.reduceMul, Nat.reduceSub, Nat.reducePow, Nat.reduceLT, Nat.reduceGT, Nat.reduceLeDiff, Nat.reduceEqDiff, Int.reduceToNat, gt_iff_lt, if_true, if_false, beq_self_eq_true, reduceIte, decide_true, decide_false, fd2_0, fd2_1, fd2_2, fd2_3, fd2_4, fd2_5, fd2_6, fd2_7, fd2_8, fd3_0, fd3_1, fd3_2, fd3_3, fd3_4, fd3_5, fd3_6, fd3_7, fd3_8, fd9_0, fd9_1, fd9_2, fd9_3, fd9_4, fd9_5, fd9_6, fd9_7, fd27_0, fd27_1, fd27_2, fd27_3, fd27_4, fd27_5, fd27_6, fd27_7, fd27_8, fd27_9, fd27_10, fd27_11, fd27_12, fd27_13, fd27_14, fd27_15, fd27_16, fd27_17, fd27_18, fd27_19, fd27_20, fd27_21, fd27_22, fd27_23, fd36_0, fd36_1, fd36_2, fd36_3, fd36_4, fd36_5, fd36_6, fd36_7, fd36_8, fd36_9, fd36_10, fd36_11, d1, ht, ha, show decide ((0 : Int) < ((0 : Nat) : Int)) = false by decide, wrap_succ (show 0 < 4611686018427387904 by omega)]
           show GoR _ _ _ _ _ _ _ _ _ _)
        | refine Go.condT (by rfl) ?_
        | refine Go.condF (by rfl) ?_
        | refine GoR.skipG (by decide) rfl rfl ?_
        | (refine GoR.splitG rfl (fun hc => ?_) (fun hc => ?_) <;> simp only [hc])
        | refine Go.condB rfl (fun hc => ?_) (fun hc => ?_))
      refine Go.lpN ?_
      refine Go.keep [(0, .sl none 4 ts.length (toksC ts)), (3, .str (pre ++ t.t)), (4, .int .i64 ((0 + 1 : Nat) : Int))] (.cons .refl (.cons .refl (.cons .refl (.nil)))) ?_
      rw [← e]
      exact next (0 + 1) (by omega) h1
    · have e : textT (ts.take (i + 1)) = (textT (ts.take i) ++ ⟨#[32]⟩) ++ ts[i].t := by
        rw [hsucc]
        exact textT_snoc _ _ (by intro h; have := congrArg List.length h; rw [List.length_take, List.length_nil] at this; omega)
      generalize textT (ts.take i) = pre at *
      generalize ts[i] = t at *
      have ha := fun {ty : TypeId} {x y : Operand} => add_str (P := Tryd.prog) (t := ty) (x := x) (y := y) (a := pre) (b := ⟨#[32]⟩) (by show _ + 1 < _; omega)
      have hb := fun {ty : TypeId} {x y : Operand} => add_str (P := Tryd.prog) (t := ty) (x := x) (y := y) (a := pre ++ ⟨#[32]⟩) (b := t.t) (by rw [ByteArray.size_append]; show _ + 1 + _ < _; omega)
      repeat' (first
        | refine Go.seq ?_
        | refine Go.rg ?_
        | refine GoR.nil ?_
        | refine Go.skip ?_
        | refine Go.ret ?_
        | refine Go.block ?_
        | refine Go.exit ?_
        | refine Go.blkX ?_
        | refine Go.blkN ?_
        | refine Go.passX ?_
        | refine Go.lpX ?_
        | (refine Go.blkE (by decide) ?_)
        | (refine Go.rgS dmx (by decide) ?_)
        | ((first | refine GoR.op (by decide) (by rfl) ?_ | refine GoR.opG (by decide) (by rfl) (by rfl) ?_)
           conv => arg 1; simp only [G, Z, Y, un_neg, Int.reduceEq, Int.reduceLE, cutD, Nat.reduceBEq, Nat.reduceAdd, Nat.reduceMul, Nat.reduceSub, Nat.reducePow, Nat.reduceLT, Nat.reduceGT, Nat.reduceLeDiff, Nat.reduceEqDiff, Int.reduceToNat, gt_iff_lt, if_true, if_false, beq_self_eq_true, reduceIte, decide_true, decide_false, fd2_0, fd2_1, fd2_2, fd2_3, fd2_4, fd2_5, fd2_6, fd2_7, fd2_8, fd3_0, fd3_1, fd3_2, fd3_3, fd3_4, fd3_5, fd3_6, fd3_7, fd3_8, fd9_0, fd9_1, fd9_2, fd9_3, fd9_4, fd9_5, fd9_6, fd9_7, fd27_0, fd27_1, fd27_2, fd27_3, fd27_4, fd27_5, fd27_6, fd27_7, fd27_8, fd27_9, fd27_10, fd27_11, fd27_12, fd27_13, fd27_14, fd27_15, fd27_16, fd27_17, fd27_18, fd27_19, fd27_20, fd27_21, fd27_22, fd27_23, fd36_0, fd36_1, fd36_2, fd36_3, fd36_4, fd36_5, fd36_6, fd36_7, fd36_8, fd36_9, fd36_10, fd36_11, d1, ht, ha, hb, show decide ((0 : Int) < (i : Int)) = true by rw [decide_eq_true_iff]; omega, wrap_succ (show i < 4611686018427387904 by omega)]
           show GoR _ _ _ _ _ _ _ _ _ _)
        | refine Go.condT (by rfl) ?_
        | refine Go.condF (by rfl) ?_
        | refine GoR.skipG (by decide) rfl rfl ?_
        | (refine GoR.splitG rfl (fun hc => ?_) (fun hc => ?_) <;> simp only [hc])
        | refine Go.condB rfl (fun hc => ?_) (fun hc => ?_))
      refine Go.lpN ?_
      refine Go.keep [(0, .sl none 4 ts.length (toksC ts)), (3, .str ((pre ++ ⟨#[32]⟩) ++ t.t)), (4, .int .i64 ((i + 1 : Nat) : Int))] (.cons .refl (.cons .refl (.cons .refl (.nil)))) ?_
      rw [← e]
      exact next (i + 1) (by omega) h1
  · have d1 : decide ((i : Int) < (ts.length : Int)) = false := by rw [decide_eq_false_iff_not]; omega
    clear next
    repeat' (first
      | refine Go.seq ?_
      | refine Go.rg ?_
      | refine GoR.nil ?_
      | refine Go.skip ?_
      | refine Go.ret ?_
      | refine Go.block ?_
      | refine Go.exit ?_
      | refine Go.blkX ?_
      | refine Go.blkN ?_
      | refine Go.passX ?_
      | refine Go.lpX ?_
      | (refine Go.blkE (by decide) ?_)
      | (refine Go.rgS dmx (by decide) ?_)
      | ((first | refine GoR.op (by decide) (by rfl) ?_ | refine GoR.opG (by decide) (by rfl) (by rfl) ?_)
         conv => arg 1; simp only [G, Z, Y, un_neg, Int.reduceEq, Int.reduceLE, cutD, Nat.reduceBEq, Nat.reduceAdd, Nat.reduceMul, Nat.reduceSub, Nat.reducePow, Nat.reduceLT, Nat.reduceGT, Nat.reduceLeDiff, Nat.reduceEqDiff, Int.reduceToNat, gt_iff_lt, if_true, if_false, beq_self_eq_true, reduceIte, decide_true, decide_false, fd2_0, fd2_1, fd2_2, fd2_3, fd2_4, fd2_5, fd2_6, fd2_7, fd2_8, fd3_0, fd3_1, fd3_2, fd3_3, fd3_4, fd3_5, fd3_6, fd3_7, fd3_8, fd9_0, fd9_1, fd9_2, fd9_3, fd9_4, fd9_5, fd9_6, fd9_7, fd27_0, fd27_1, fd27_2, fd27_3, fd27_4, fd27_5, fd27_6, fd27_7, fd27_8, fd27_9, fd27_10, fd27_11, fd27_12, fd27_13, fd27_14, fd27_15, fd27_16, fd27_17, fd27_18, fd27_19, fd27_20, fd27_21, fd27_22, fd27_23, fd36_0, fd36_1, fd36_2, fd36_3, fd36_4, fd36_5, fd36_6, fd36_7, fd36_8, fd36_9, fd36_10, fd36_11, d1]
         show GoR _ _ _ _ _ _ _ _ _ _)
      | refine Go.condT (by rfl) ?_
      | refine Go.condF (by rfl) ?_
      | refine GoR.skipG (by decide) rfl rfl ?_
      | (refine GoR.splitG rfl (fun hc => ?_) (fun hc => ?_) <;> simp only [hc])
      | refine Go.condB rfl (fun hc => ?_) (fun hc => ?_))
    refine ⟨(by first | exact .inl rfl | exact .inr rfl), fin ?_⟩
    rw [resD_tmp (fn := Tryd.f11) rfl]
    simp only [optThen_some, resultD_tmp, resultD_cell, G, Z, Y, un_neg, Int.reduceEq, Int.reduceLE, cutD, Nat.reduceBEq, Nat.reduceAdd, Nat.reduceMul, Nat.reduceSub, Nat.reducePow, Nat.reduceLT, Nat.reduceGT, Nat.reduceLeDiff, Nat.reduceEqDiff, Int.reduceToNat, gt_iff_lt, if_true, if_false, beq_self_eq_true, reduceIte, decide_true, decide_false, fd2_0, fd2_1, fd2_2, fd2_3, fd2_4, fd2_5, fd2_6, fd2_7, fd2_8, fd3_0, fd3_1, fd3_2, fd3_3, fd3_4, fd3_5, fd3_6, fd3_7, fd3_8, fd9_0, fd9_1, fd9_2, fd9_3, fd9_4, fd9_5, fd9_6, fd9_7, fd27_0, fd27_1, fd27_2, fd27_3, fd27_4, fd27_5, fd27_6, fd27_7, fd27_8, fd27_9, fd27_10, fd27_11, fd27_12, fd27_13, fd27_14, fd27_15, fd27_16, fd27_17, fd27_18, fd27_19, fd27_20, fd27_21, fd27_22, fd27_23, fd36_0, fd36_1, fd36_2, fd36_3, fd36_4, fd36_5, fd36_6, fd36_7, fd36_8, fd36_9, fd36_10, fd36_11]
    have hi' : i = ts.length := by omega
    subst hi'
    rw [List.take_length]
    exact ⟨_, [], by simp, .str, rfl⟩

theorem wrap8 {b : Nat} (h1 : 48 ≤ b) (h2 : b ≤ 57) : IntKind.u8.wrap ((b : Int) - 48) = ((b - 48 : Nat) : Int) := by
  rw [IntKind.wrap_u8]
  omega
theorem u64N {n : Nat} (h : n < 18446744073709551616) : IntKind.u64.wrap (n : Int) = (n : Int) := wrapu64 (by omega) (by omega)
theorem numF_take {l : List UInt8} {i : Nat} (h : i < l.length) : numF 0 (l.take (i + 1)) = numF 0 (l.take i) * 10 + (l[i].toNat - 48) := by
  rw [List.take_succ_eq_append_getElem h]
  unfold numF
  rw [List.foldl_append]
  rfl
theorem refNumber (t : ByteArray) (hd : ∀ b ∈ t.data.toList, dgtB b = true) (h0 : 0 < t.size) (hz : 1 < t.size → t.data[0]? ≠ some 48) (hs : t.size < 1000000) (S : Mem) :
    CallD Tryd.prog orc 16 [.str t] S fun d S' => S' = S ∧ d = .tup [.int .i64 (if numV t.data.toList < 9223372036854775808 then (numV t.data.toList : Int) else 0), .bool (decide (numV t.data.toList < 9223372036854775808))] := by
  have hsz : t.data.toList.length = t.size := by simp
  have hdig : ∀ i (h : i < t.size), 48 ≤ (t.data[i]'h).toNat ∧ (t.data[i]'h).toNat ≤ 57 := fun i h => by
    have := hd (t.data[i]'h) (by simp)
    simpa only [dgtB, Bool.and_eq_true, decide_eq_true_eq] using this
  have hd0 := hdig 0 h0
  have hix := fun {k : IntKind} {S : Mem} => indexStr_zero (s := t) (k := k) (S := S) h0
  have hzz : t.data[0]? = some (t.data[0]'h0) := Array.getElem?_eq_getElem h0
  have d0 : decide (0 < (t.size : Int)) = true := by rw [decide_eq_true_iff]; omega
  have d1 : (((t.data[0]'h0).toNat : Int) == 45) = false := by rw [beq_eq_false_iff_ne]; omega
  have d2 : ((t.size : Int) == 0) = false := by rw [beq_eq_false_iff_ne]; omega
  refine CallD.drop ?_
  refine CallD.body Tryd.func16 rfl (by simp [Tryd.ntmps16]) ?_
  rw [Tryd.ntmps16]
  by_cases h19 : 19 < t.size
  · have d3 : decide (19 < (t.size : Int)) = true := by rw [decide_eq_true_iff]; omega
    have hv : 9223372036854775808 ≤ numV t.data.toList := by
      have e : t.data.toList = t.data[0]'h0 :: t.data.toList.drop 1 := by have := drop_at (s := t) (i := 0) h0; simpa using this
      rw [e] at hd ⊢
      refine numV_long hd (fun e => hz (by omega) (by rw [hzz, e])) ?_
      rw [List.length_drop]
      omega
    rw [if_neg (by omega), decide_eq_false (by omega)]
    repeat' (first
      | refine Go.seq ?_
      | refine Go.rg ?_
      | refine GoR.nil ?_
      | refine Go.skip ?_
      | refine Go.ret ?_
      | refine Go.block ?_
      | refine Go.exit ?_
      | refine Go.blkX ?_
      | refine Go.blkN ?_
      | refine Go.passX ?_
      | refine Go.lpX ?_
      | (refine Go.blkE (by decide) ?_)
      | (refine Go.rgS dmx (by decide) ?_)
      | ((first | refine GoR.op (by decide) (by rfl) ?_ | refine GoR.opG (by decide) (by rfl) (by rfl) ?_)
         conv => arg 1; simp only [G, Z, Y, un_neg, Int.reduceEq, Int.reduceLE, cutD, Nat.reduceBEq, Nat.reduceAdd, Nat.reduceMul, Nat.reduceSub, Nat.reducePow, Nat.reduceLT, Nat.reduceGT, Nat.reduceLeDiff, Nat.reduceEqDiff, Int.reduceToNat, gt_iff_lt, if_true, if_false, beq_self_eq_true, reduceIte, decide_true, decide_false, fd2_0, fd2_1, fd2_2, fd2_3, fd2_4, fd2_5, fd2_6, fd2_7, fd2_8, fd3_0, fd3_1, fd3_2, fd3_3, fd3_4, fd3_5, fd3_6, fd3_7, fd3_8, fd5_0, fd5_1, fd5_2, fd5_3, fd5_4, fd5_5, fd5_6, fd5_7, fd5_8, fd9_0, fd9_1, fd9_2, fd9_3, fd9_4, fd9_5, fd9_6, fd9_7, fd47_0, fd47_1, fd47_2, fd47_3, fd47_4, fd47_5, fd47_6, fd47_7, fd47_8, d0, d1, d2, d3, hix]
         show GoR _ _ _ _ _ _ _ _ _ _)
      | refine Go.condT (by rfl) ?_
      | refine Go.condF (by rfl) ?_
      | refine GoR.skipG (by decide) rfl rfl ?_
      | (refine GoR.splitG rfl (fun hc => ?_) (fun hc => ?_) <;> simp only [hc])
      | refine Go.condB rfl (fun hc => ?_) (fun hc => ?_))
    refine ⟨(by first | exact .inl rfl | exact .inr rfl), fin ?_⟩
    rw [resD_two (fn := Tryd.f16) rfl]
    simp only [optThen_some, resultD_tmp, resultD_cell, G, Z, Y, un_neg, Int.reduceEq, Int.reduceLE, cutD, Nat.reduceBEq, Nat.reduceAdd, Nat.reduceMul, Nat.reduceSub, Nat.reducePow, Nat.reduceLT, Nat.reduceGT, Nat.reduceLeDiff, Nat.reduceEqDiff, Int.reduceToNat, gt_iff_lt, if_true, if_false, beq_self_eq_true, reduceIte, decide_true, decide_false, fd2_0, fd2_1, fd2_2, fd2_3, fd2_4, fd2_5, fd2_6, fd2_7, fd2_8, fd3_0, fd3_1, fd3_2, fd3_3, fd3_4, fd3_5, fd3_6, fd3_7, fd3_8, fd5_0, fd5_1, fd5_2, fd5_3, fd5_4, fd5_5, fd5_6, fd5_7, fd5_8, fd9_0, fd9_1, fd9_2, fd9_3, fd9_4, fd9_5, fd9_6, fd9_7, fd47_0, fd47_1, fd47_2, fd47_3, fd47_4, fd47_5, fd47_6, fd47_7, fd47_8]
    exact ⟨_, [], by simp, .of_low (.tup' (.cons (.int _ _) (.cons (.bool _) .nil))), rfl⟩
  have d3 : decide (19 < (t.size : Int)) = false := by rw [decide_eq_false_iff_not]; omega
  have d4 : (((t.data[0]'h0).toNat : Int) == 48) = true → decide (1 < (t.size : Int)) = false := by
    intro h
    rw [beq_iff_eq] at h
    rw [decide_eq_false_iff_not]
    intro h1
    exact hz (by omega) (by rw [hzz, Option.some.injEq]; exact UInt8.toNat_inj.1 (show _ = (48 : UInt8).toNat by simp; omega))
  cases h48 : (((t.data[0]'h0).toNat : Int) == 48)
  all_goals
    first | have d5 := d4 h48 | have d5 := d3
    repeat' (first
      | refine Go.seq ?_
      | refine Go.rg ?_
      | refine GoR.nil ?_
      | refine Go.skip ?_
      | refine Go.ret ?_
      | refine Go.block ?_
      | refine Go.exit ?_
      | refine Go.blkX ?_
      | refine Go.blkN ?_
      | refine Go.passX ?_
      | refine Go.lpX ?_
      | (refine Go.blkE (by decide) ?_)
      | (refine Go.rgS dmx (by decide) ?_)
      | ((first | refine GoR.op (by decide) (by rfl) ?_ | refine GoR.opG (by decide) (by rfl) (by rfl) ?_)
         conv => arg 1; simp only [G, Z, Y, un_neg, Int.reduceEq, Int.reduceLE, cutD, Nat.reduceBEq, Nat.reduceAdd, Nat.reduceMul, Nat.reduceSub, Nat.reducePow, Nat.reduceLT, Nat.reduceGT, Nat.reduceLeDiff, Nat.reduceEqDiff, Int.reduceToNat, gt_iff_lt, if_true, if_false, beq_self_eq_true, reduceIte, decide_true, decide_false, fd2_0, fd2_1, fd2_2, fd2_3, fd2_4, fd2_5, fd2_6, fd2_7, fd2_8, fd3_0, fd3_1, fd3_2, fd3_3, fd3_4, fd3_5, fd3_6, fd3_7, fd3_8, fd5_0, fd5_1, fd5_2, fd5_3, fd5_4, fd5_5, fd5_6, fd5_7, fd5_8, fd9_0, fd9_1, fd9_2, fd9_3, fd9_4, fd9_5, fd9_6, fd9_7, fd47_0, fd47_1, fd47_2, fd47_3, fd47_4, fd47_5, fd47_6, fd47_7, fd47_8, d0, d1, d2, d3, h48, d5, hix]
         show GoR _ _ _ _ _ _ _ _ _ _)
      | refine Go.condT (by rfl) ?_
      | refine Go.condF (by rfl) ?_
      | refine GoR.skipG (by decide) rfl rfl ?_
      | (refine GoR.splitG rfl (fun hc => ?_) (fun hc => ?_) <;> simp only [hc])
      | refine Go.condB rfl (fun hc => ?_) (fun hc => ?_))
    refine Go.keep [(4, .bool false), (5, .str t), (6, .int .u64 ((0 : Nat) : Int)), (7, .int .i64 ((0 : Nat) : Int))] (.cons .refl (.cons .refl (.cons .refl (.cons .refl (.nil))))) ?_
    refine Go.while (α := Nat) (fun i => t.size - i) (fun i => [(4, .bool false), (5, .str t), (6, .int .u64 ((numF 0 (t.data.toList.take i) : Nat) : Int)), (7, .int .i64 (i : Int))]) (fun _ => S) (fun i => i ≤ t.size) ?_ 0 (Nat.zero_le _)
    intro i hi next
    have hlt := numF_lt (t.data.toList.take i) 0 fun b hb => hd b (List.mem_of_mem_take hb)
    have hp : (10 : Nat) ^ (t.data.toList.take i).length ≤ 10 ^ 19 := Nat.pow_le_pow_right (by decide) (by rw [List.length_take]; omega)
    have hp2 : (10 : Nat) ^ 19 = 10000000000000000000 := by decide
    by_cases h1 : i < t.size
    · have e1 : decide ((i : Int) < (t.size : Int)) = true := by rw [decide_eq_true_iff]; omega
      have hb := hdig i h1
      have hstep := numF_take (l := t.data.toList) (i := i) (by omega)
      have hgi : t.data.toList[i]'(by omega) = t.data[i]'h1 := by simp
      rw [hgi] at hstep
      have hp3 : (10 : Nat) ^ (t.data.toList.take i).length ≤ 10 ^ 18 := Nat.pow_le_pow_right (by decide) (by rw [List.length_take]; omega)
      have hp4 : (10 : Nat) ^ 18 = 1000000000000000000 := by decide
      have e2 : decide (((t.data[i]'h1).toNat : Int) < 48) = false := by rw [decide_eq_false_iff_not]; omega
      have e3 : decide (57 < ((t.data[i]'h1).toNat : Int)) = false := by rw [decide_eq_false_iff_not]; omega
      generalize numF 0 (t.data.toList.take i) = u at *
      have e4 : IntKind.u64.wrap (10 * (u : Int)) = ((10 * u : Nat) : Int) := by rw [wrapu64 (by omega) (by omega)]; omega
      have e5 := wrap8 hb.1 hb.2
      have e6 : IntKind.u64.wrap (((t.data[i]'h1).toNat - 48 : Nat) : Int) = (((t.data[i]'h1).toNat - 48 : Nat) : Int) := u64N (by omega)
      have e7 : IntKind.u64.wrap (((10 * u : Nat) : Int) + (((t.data[i]'h1).toNat - 48 : Nat) : Int)) = ((u * 10 + ((t.data[i]'h1).toNat - 48) : Nat) : Int) := by rw [wrapu64 (by omega) (by omega)]; omega
      repeat' (first
        | refine Go.seq ?_
        | refine Go.rg ?_
        | refine GoR.nil ?_
        | refine Go.skip ?_
        | refine Go.ret ?_
        | refine Go.block ?_
        | refine Go.exit ?_
        | refine Go.blkX ?_
        | refine Go.blkN ?_
        | refine Go.passX ?_
        | refine Go.lpX ?_
        | (refine Go.blkE (by decide) ?_)
        | (refine Go.rgS dmx (by decide) ?_)
        | ((first | refine GoR.op (by decide) (by rfl) ?_ | refine GoR.opG (by decide) (by rfl) (by rfl) ?_)
           conv => arg 1; simp only [G, Z, Y, un_neg, Int.reduceEq, Int.reduceLE, cutD, Nat.reduceBEq, Nat.reduceAdd, Nat.reduceMul, Nat.reduceSub, Nat.reducePow, Nat.reduceLT, Nat.reduceGT, Nat.reduceLeDiff, Nat.reduceEqDiff, Int.reduceToNat, gt_iff_lt, if_true, if_false, beq_self_eq_true, reduceIte, decide_true, decide_false, fd2_0, fd2_1, fd2_2, fd2_3, fd2_4, fd2_5, fd2_6, fd2_7, fd2_8, fd3_0, fd3_1, fd3_2, fd3_3, fd3_4, fd3_5, fd3_6, fd3_7, fd3_8, fd5_0, fd5_1, fd5_2, fd5_3, fd5_4, fd5_5, fd5_6, fd5_7, fd5_8, fd9_0, fd9_1, fd9_2, fd9_3, fd9_4, fd9_5, fd9_6, fd9_7, fd47_0, fd47_1, fd47_2, fd47_3, fd47_4, fd47_5, fd47_6, fd47_7, fd47_8, e1, e2, e3, e4, e5, e6, e7, indexStr_cast h1, wrap_succ (show i < 4611686018427387904 by omega)]
           show GoR _ _ _ _ _ _ _ _ _ _)
        | refine Go.condT (by rfl) ?_
        | refine Go.condF (by rfl) ?_
        | refine GoR.skipG (by decide) rfl rfl ?_
        | (refine GoR.splitG rfl (fun hc => ?_) (fun hc => ?_) <;> simp only [hc])
        | refine Go.condB rfl (fun hc => ?_) (fun hc => ?_))
      refine Go.lpN ?_
      refine Go.keep [(4, .bool false), (5, .str t), (6, .int .u64 ((u * 10 + ((t.data[i]'h1).toNat - 48) : Nat) : Int)), (7, .int .i64 ((i + 1 : Nat) : Int))] (.cons .refl (.cons .refl (.cons .refl (.cons .refl (.nil))))) ?_
      rw [← hstep]
      exact next (i + 1) (by omega) h1
    · have e1 : decide ((i : Int) < (t.size : Int)) = false := by rw [decide_eq_false_iff_not]; omega
      clear next
      have hi' : i = t.size := by omega
      have htake : t.data.toList.take i = t.data.toList := List.take_of_length_le (by omega)
      rw [htake] at hlt ⊢
      have hv : numV t.data.toList = numF 0 t.data.toList := rfl
      rw [hv]
      generalize numF 0 t.data.toList = u at *
      by_cases hu : u < 9223372036854775808
      · have e2 : decide (9223372036854775808 ≤ (u : Int)) = false := by rw [decide_eq_false_iff_not]; omega
        have e3 : IntKind.i64.wrap (u : Int) = (u : Int) := wrap64 (by omega) (by omega)
        rw [if_pos hu, decide_eq_true hu]
        repeat' (first
          | refine Go.seq ?_
          | refine Go.rg ?_
          | refine GoR.nil ?_
          | refine Go.skip ?_
          | refine Go.ret ?_
          | refine Go.block ?_
          | refine Go.exit ?_
          | refine Go.blkX ?_
          | refine Go.blkN ?_
          | refine Go.passX ?_
          | refine Go.lpX ?_
          | (refine Go.blkE (by decide) ?_)
          | (refine Go.rgS dmx (by decide) ?_)
          | ((first | refine GoR.op (by decide) (by rfl) ?_ | refine GoR.opG (by decide) (by rfl) (by rfl) ?_)
             conv => arg 1; simp only [G, Z, Y, un_neg, Int.reduceEq, Int.reduceLE, cutD, Nat.reduceBEq, Nat.reduceAdd, Nat.reduceMul, Nat.reduceSub, Nat.reducePow, Nat.reduceLT, Nat.reduceGT, Nat.reduceLeDiff, Nat.reduceEqDiff, Int.reduceToNat, gt_iff_lt, if_true, if_false, beq_self_eq_true, reduceIte, decide_true, decide_false, fd2_0, fd2_1, fd2_2, fd2_3, fd2_4, fd2_5, fd2_6, fd2_7, fd2_8, fd3_0, fd3_1, fd3_2, fd3_3, fd3_4, fd3_5, fd3_6, fd3_7, fd3_8, fd5_0, fd5_1, fd5_2, fd5_3, fd5_4, fd5_5, fd5_6, fd5_7, fd5_8, fd9_0, fd9_1, fd9_2, fd9_3, fd9_4, fd9_5, fd9_6, fd9_7, fd47_0, fd47_1, fd47_2, fd47_3, fd47_4, fd47_5, fd47_6, fd47_7, fd47_8, e1, e2, e3, ge_iff_le]
             show GoR _ _ _ _ _ _ _ _ _ _)
          | refine Go.condT (by rfl) ?_
          | refine Go.condF (by rfl) ?_
          | refine GoR.skipG (by decide) rfl rfl ?_
          | (refine GoR.splitG rfl (fun hc => ?_) (fun hc => ?_) <;> simp only [hc])
          | refine Go.condB rfl (fun hc => ?_) (fun hc => ?_))
        refine ⟨(by first | exact .inl rfl | exact .inr rfl), fin ?_⟩
        rw [resD_two (fn := Tryd.f16) rfl]
        simp only [optThen_some, resultD_tmp, resultD_cell, G, Z, Y, un_neg, Int.reduceEq, Int.reduceLE, cutD, Nat.reduceBEq, Nat.reduceAdd, Nat.reduceMul, Nat.reduceSub, Nat.reducePow, Nat.reduceLT, Nat.reduceGT, Nat.reduceLeDiff, Nat.reduceEqDiff, Int.reduceToNat, gt_iff_lt, if_true, if_false, beq_self_eq_true, reduceIte, decide_true, decide_false, fd2_0, fd2_1, fd2_2, fd2_3, fd2_4, fd2_5, fd2_6, fd2_7, fd2_8, fd3_0, fd3_1, fd3_2, fd3_3, fd3_4, fd3_5, fd3_6, fd3_7, fd3_8, fd5_0, fd5_1, fd5_2, fd5_3, fd5_4, fd5_5, fd5_6, fd5_7, fd5_8, fd9_0, fd9_1, fd9_2, fd9_3, fd9_4, fd9_5, fd9_6, fd9_7, fd47_0, fd47_1, fd47_2, fd47_3, fd47_4, fd47_5, fd47_6, fd47_7, fd47_8]
        exact ⟨_, [], by simp, .of_low (.tup' (.cons (.int _ _) (.cons (.bool _) .nil))), rfl⟩
      · have e2 : decide (9223372036854775808 ≤ (u : Int)) = true := by rw [decide_eq_true_iff]; omega
        rw [if_neg hu, decide_eq_false hu]
        repeat' (first
          | refine Go.seq ?_
          | refine Go.rg ?_
          | refine GoR.nil ?_
          | refine Go.skip ?_
          | refine Go.ret ?_
          | refine Go.block ?_
          | refine Go.exit ?_
          | refine Go.blkX ?_
          | refine Go.blkN ?_
          | refine Go.passX ?_
          | refine Go.lpX ?_
          | (refine Go.blkE (by decide) ?_)
          | (refine Go.rgS dmx (by decide) ?_)
          | ((first | refine GoR.op (by decide) (by rfl) ?_ | refine GoR.opG (by decide) (by rfl) (by rfl) ?_)
             conv => arg 1; simp only [G, Z, Y, un_neg, Int.reduceEq, Int.reduceLE, cutD, Nat.reduceBEq, Nat.reduceAdd, Nat.reduceMul, Nat.reduceSub, Nat.reducePow, Nat.reduceLT, Nat.reduceGT, Nat.reduceLeDiff, Nat.reduceEqDiff, Int.reduceToNat, gt_iff_lt, if_true, if_false, beq_self_eq_true, reduceIte, decide_true, decide_false, fd2_0, fd2_1, fd2_2, fd2_3, fd2_4, fd2_5, fd2_6, fd2_7, fd2_8, fd3_0, fd3_1, fd3_2, fd3_3, fd3_4, fd3_5, fd3_6, fd3_7, fd3_8, fd5_0, fd5_1, fd5_2, fd5_3, fd5_4, fd5_5, fd5_6, fd5_7, fd5_8, fd9_0, fd9_1, fd9_2, fd9_3, fd9_4, fd9_5, fd9_6, fd9_7, fd47_0, fd47_1, fd47_2, fd47_3, fd47_4, fd47_5, fd47_6, fd47_7, fd47_8, e1, e2, ge_iff_le]
             show GoR _ _ _ _ _ _ _ _ _ _)
          | refine Go.condT (by rfl) ?_
          | refine Go.condF (by rfl) ?_
          | refine GoR.skipG (by decide) rfl rfl ?_
          | (refine GoR.splitG rfl (fun hc => ?_) (fun hc => ?_) <;> simp only [hc])
          | refine Go.condB rfl (fun hc => ?_) (fun hc => ?_))
        refine ⟨(by first | exact .inl rfl | exact .inr rfl), fin ?_⟩
        rw [resD_two (fn := Tryd.f16) rfl]
        simp only [optThen_some, resultD_tmp, resultD_cell, G, Z, Y, un_neg, Int.reduceEq, Int.reduceLE, cutD, Nat.reduceBEq, Nat.reduceAdd, Nat.reduceMul, Nat.reduceSub, Nat.reducePow, Nat.reduceLT, Nat.reduceGT, Nat.reduceLeDiff, Nat.reduceEqDiff, Int.reduceToNat, gt_iff_lt, if_true, if_false, beq_self_eq_true, reduceIte, decide_true, decide_false, fd2_0, fd2_1, fd2_2, fd2_3, fd2_4, fd2_5, fd2_6, fd2_7, fd2_8, fd3_0, fd3_1, fd3_2, fd3_3, fd3_4, fd3_5, fd3_6, fd3_7, fd3_8, fd5_0, fd5_1, fd5_2, fd5_3, fd5_4, fd5_5, fd5_6, fd5_7, fd5_8, fd9_0, fd9_1, fd9_2, fd9_3, fd9_4, fd9_5, fd9_6, fd9_7, fd47_0, fd47_1, fd47_2, fd47_3, fd47_4, fd47_5, fd47_6, fd47_7, fd47_8]
        exact ⟨_, [], by simp, .of_low (.tup' (.cons (.int _ _) (.cons (.bool _) .nil))), rfl⟩
end Go.Proofs.DlT
