/- What the Lex laws call; any text as words. -/
import Derived.Test.YtpdnaoahghfaoaaDoorDlC8
import Derived.Laws.StructEq
import Derived.Test.YtpdnaoahghfaoaaDoorDmWx
set_option linter.unusedSimpArgs false
set_option linter.unusedVariables false
namespace Go.AM
open Go
theorem pureRun_bind {α β : Type} {P : Program} : ∀ (s : Sem α) (k : α → Sem β), pureRun P (s >>= k) = (pureRun P s).bind fun a => pureRun P (k a)
  | .pure a, k => rfl
  | .program c, k => by
    show pureRun P (Sem.bind (c P) k) = _
    exact pureRun_bind (c P) k
  | .mark m c, k => by
    show pureRun P (Sem.bind c k) = _
    exact pureRun_bind c k
  | .load .., k => rfl
  | .store .., k => rfl
  | .new .., k => rfl
  | .shape .., k => rfl
  | .freeze .., k => rfl
  | .frozen .., k => rfl
  | .getObj .., k => rfl
  | .setObj .., k => rfl
  | .choose .., k => rfl
  | .sys .., k => rfl
  | .halt .., k => rfl
theorem pureRun_pure {α : Type} {P : Program} {a : α} : pureRun P (pure a : Sem α) = some a := rfl
theorem pureRun_program {P : Program} : pureRun P (program : Sem Program) = some P := rfl
theorem pureRun_underlying {P : Program} {t : TypeId} {d : TypeDesc} (h : P.underlying t = some d) : pureRun P (underlying t) = some d := by
  unfold underlying
  simp [pureRun_bind, pureRun_program, h, pureRun_pure]
theorem pureRun_isAgg {P : Program} {t : TypeId} {b : Bool} (h : isAggA P t = some b) : pureRun P (isAgg t) = some b := by
  unfold isAggA at h
  cases hu : P.underlying t with
  | none => rw [hu] at h; cases h
  | some d =>
    rw [hu] at h
    simp only [Option.map_some, Option.some.injEq] at h
    subst h
    unfold isAgg
    simp only [pureRun_bind, pureRun_underlying hu, Option.bind_some]
    cases d <;> rfl
theorem pureRun_part {P : Program} {t : TypeId} {cs : Array Value} {off : Nat} {v : Value} (h : isAggA P t = some false) (hv : cs[off]? = some v) : pureRun P (part t cs off) = some v := by
  unfold part
  simp [pureRun_bind, pureRun_isAgg h, hv, pureRun_pure]
end Go.AM
namespace Go.Proofs.DlT
open Go Go.AM Go.DM
set_option maxRecDepth 100000
theorem eqI {P : Program} {d : Nat} {t : TypeId} {k k' : IntKind} {a b : Int} (h : P.underlying t = some (.int k')) : pureRun P (Op.equalIn (d + 1) t (.int k a) (.int k b)) = some (a == b) := by
  simp [Op.equalIn, pureRun_bind, pureRun_underlying h, pureRun_pure]
theorem eqS {P : Program} {d : Nat} {t : TypeId} {a b : ByteArray} (h : P.underlying t = some .string) : pureRun P (Op.equalIn (d + 1) t (.string a) (.string b)) = some (a == b) := by
  simp [Op.equalIn, pureRun_bind, pureRun_underlying h, pureRun_pure]
theorem neq_tok {x y : Operand} {a1 a2 a3 : Int} {a4 : ByteArray} :
    binD Tryd.prog .neq 36 x y (.agg [.int .i64 a1, .str a4, .int .i64 a2, .int .i64 a3]) (.agg [.int .i64 a1, .str a4, .int .i64 a2, .int .i64 a3]) = some (.bool false) := by
  have hg : Tryd.prog.eqGuardType Tryd.prog.depth 36 = false := by kernel_rfl
  have hs : Tryd.prog.stoodInHeld 36 = false := by kernel_rfl
  have hrun : pureRun Tryd.prog (Op.equalIn (9998 + 1 + 1) 36 (.agg #[.int .i64 a1, .string a4, .int .i64 a2, .int .i64 a3]) (.agg #[.int .i64 a1, .string a4, .int .i64 a2, .int .i64 a3])) = some true := by
    rw [Op.equalIn]
    simp only [pureRun_bind, pureRun_underlying Tryd.underlying36, Option.bind_some, pureRun_program, hs]
    have i9 : ∀ {a b : Int}, pureRun Tryd.prog (Op.equalIn 9999 3 (.int .i64 a) (.int .i64 b)) = some (a == b) := eqI (d := 9998) Tryd.underlying3
    have j9 : ∀ {a b : Int}, pureRun Tryd.prog (Op.equalIn 9999 2 (.int .i64 a) (.int .i64 b)) = some (a == b) := eqI (d := 9998) Tryd.underlying2
    have s9 : ∀ {a b : ByteArray}, pureRun Tryd.prog (Op.equalIn 9999 9 (.string a) (.string b)) = some (a == b) := eqS (d := 9998) Tryd.underlying9
    have h4 : (a4 == a4) = true := by
      have h : (a4 == a4) = decide (a4 = a4) := by rw [beq_toListBytes]; exact str_eq
      rw [h]
      simp
    simp [pureRun_bind, pureRun_pure, pureRun_part dag3, pureRun_part dag2, pureRun_part dag9, i9, j9, s9, h4]
  simp only [binD, toV, toSs, toS, Option.map_some, binV, binA, nilEq, eqA, closedV, scalarV]
  have hmap : pureRun Tryd.prog ((fun x => Value.bool !x) <$> Op.equalIn 10000 36 (.agg #[.int .i64 a1, .string a4, .int .i64 a2, .int .i64 a3]) (.agg #[.int .i64 a1, .string a4, .int .i64 a2, .int .i64 a3])) = some (.bool false) := by
    rw [map_eq_pure_bind, pureRun_bind, hrun]
    rfl
  simp [eqGuard, binOp, pureRun_bind, pureRun_program, hg, pureRun_pure, Op.equal, Op.maxDepth, hmap, hrun, scalarV, ofV, ofS]
end Go.Proofs.DlT
namespace Go.Proofs.DlT
open Go Go.DM
set_option maxRecDepth 100000
theorem ofToks (ts : List Tok) (hl : ts.length < 1000000) (S : Mem) {orc : DOracle} : CallD Tryd.prog orc 18 [.sl none 4 ts.length (toksC ts)] S fun d S' => S' = S ∧ d = .sl none 4 ts.length (toksC ts) := by
  refine CallD.drop ?_
  refine CallD.body Tryd.func18 rfl (by simp [Tryd.ntmps18]) ?_
  rw [Tryd.ntmps18]
  repeat' (first
    | refine Go.seq ?_
    | refine Go.rg ?_
    | refine GoR.nil ?_
    | refine Go.skip ?_
    | refine Go.ret ?_
    | refine Go.block ?_
    | refine Go.exit ?_
    | refine Go.blkX ?_
    | refine Go.blkN ?_
    | refine Go.passX ?_
    | refine Go.lpX ?_
    | (refine Go.blkE (by decide) ?_)
    | (refine Go.rgS dmx (by decide) ?_)
    | ((first | refine GoR.op (by decide) (by rfl) ?_ | refine GoR.opG (by decide) (by rfl) (by rfl) ?_)
       conv => arg 1; simp only [G, Z, Y, un_neg, Int.reduceEq, Int.reduceLE, cutD, Nat.reduceBEq, Nat.reduceAdd, Nat.reduceMul, Nat.reduceSub, Nat.reducePow, Nat.reduceLT, Nat.reduceGT, Nat.reduceLeDiff, Nat.reduceEqDiff, Int.reduceToNat, gt_iff_lt, if_true, if_false, beq_self_eq_true, reduceIte, decide_true, decide_false, fd2_0, fd2_1, fd2_2, fd2_3, fd2_4, fd2_5, fd2_6, fd2_7, fd2_8, fd3_0, fd3_1, fd3_2, fd3_3, fd3_4, fd3_5, fd3_6, fd3_7, fd3_8, fd9_0, fd9_1, fd9_2, fd9_3, fd9_4, fd9_5, fd9_6, fd9_7, fd23_0, fd23_1, fd23_2, fd23_3, fd23_4, fd23_5, fd23_6, fd23_7, fd23_8, fd23_9, fd23_10, fd23_11, fd23_12, fd23_13, fd23_14, fd23_15, fd23_16, fd23_17, fd23_18, fd23_19, fd23_20, fd23_21, fd23_22, fd23_23, fd27_0, fd27_1, fd27_2, fd27_3, fd27_4, fd27_5, fd27_6, fd27_7, fd27_8, fd27_9, fd27_10, fd27_11, fd27_12, fd27_13, fd27_14, fd27_15, fd27_16, fd27_17, fd27_18, fd27_19, fd27_20, fd27_21, fd27_22, fd27_23, fd35_0, fd35_1, fd35_2, fd35_3, fd35_4, fd35_5, fd35_6, fd35_7, fd35_8, fd35_9, fd35_10, fd35_11, fd36_0, fd36_1, fd36_2, fd36_3, fd36_4, fd36_5, fd36_6, fd36_7, fd36_8, fd36_9, fd36_10, fd36_11]
       show GoR _ _ _ _ _ _ _ _ _ _)
    | refine Go.condT (by rfl) ?_
    | refine Go.condF (by rfl) ?_
    | refine GoR.skipG (by decide) rfl rfl ?_
    | (refine GoR.splitG rfl (fun hc => ?_) (fun hc => ?_) <;> simp only [hc])
    | refine Go.condB rfl (fun hc => ?_) (fun hc => ?_))
  refine Go.keep [(0, .sl none 4 ts.length (toksC ts)), (3, .nils), (4, .int .i64 ((0 : Nat) : Int))] (.cons .refl (.cons .refl (.cons .refl (.nil)))) ?_
  refine Go.while (α := Nat × D × Mem) (fun a => ts.length - a.1) (fun a => [(0, .sl none 4 ts.length (toksC ts)), (3, a.2.1), (4, .int .i64 (a.1 : Int))]) (fun a => a.2.2)
    (fun a => a.1 ≤ ts.length ∧ AccD S.length a.2.1 4 a.1 (toksC (ts.take a.1)) a.2.2 ∧ Grown S.length S a.2.2) ?_ (0, .nils, S) ⟨Nat.zero_le _, .inl ⟨rfl, rfl, rfl⟩, .refl⟩
  rintro ⟨i, o, S1⟩ ⟨hi, hacc, hg⟩ next
  dsimp only at hi hacc hg next
  by_cases h1 : i < ts.length
  · have d1 : decide ((i : Int) < (ts.length : Int)) = true := by rw [decide_eq_true_iff]; omega
    obtain ⟨o', S2, hap, hacc2, hg2⟩ := (hacc.app [.own]).append (P := Tryd.prog) del27 (own := some S1.length) (m := 1) (new := Tok.c ts[i]) (by simp; have := hg.len; omega) (by omega) ⟨by omega, by omega, by omega, rfl⟩
    have e := toksC_succ h1
    have ht := toksAt h1
    generalize ts[i] = t at *
    simp only [Tok.c] at hap ht
    repeat' (first
      | refine Go.seq ?_
      | refine Go.rg ?_
      | refine GoR.nil ?_
      | refine Go.skip ?_
      | refine Go.ret ?_
      | refine Go.block ?_
      | refine Go.exit ?_
      | refine Go.blkX ?_
      | refine Go.blkN ?_
      | refine Go.passX ?_
      | refine Go.lpX ?_
      | (refine Go.blkE (by decide) ?_)
      | (refine Go.rgS dmx (by decide) ?_)
      | ((first | refine GoR.op (by decide) (by rfl) ?_ | refine GoR.opG (by decide) (by rfl) (by rfl) ?_)
         conv => arg 1; simp only [G, Z, Y, un_neg, Int.reduceEq, Int.reduceLE, cutD, Nat.reduceBEq, Nat.reduceAdd, Nat.reduceMul, Nat.reduceSub, Nat.reducePow, Nat.reduceLT, Nat.reduceGT, Nat.reduceLeDiff, Nat.reduceEqDiff, Int.reduceToNat, gt_iff_lt, if_true, if_false, beq_self_eq_true, reduceIte, decide_true, decide_false, fd2_0, fd2_1, fd2_2, fd2_3, fd2_4, fd2_5, fd2_6, fd2_7, fd2_8, fd3_0, fd3_1, fd3_2, fd3_3, fd3_4, fd3_5, fd3_6, fd3_7, fd3_8, fd9_0, fd9_1, fd9_2, fd9_3, fd9_4, fd9_5, fd9_6, fd9_7, fd23_0, fd23_1, fd23_2, fd23_3, fd23_4, fd23_5, fd23_6, fd23_7, fd23_8, fd23_9, fd23_10, fd23_11, fd23_12, fd23_13, fd23_14, fd23_15, fd23_16, fd23_17, fd23_18, fd23_19, fd23_20, fd23_21, fd23_22, fd23_23, fd27_0, fd27_1, fd27_2, fd27_3, fd27_4, fd27_5, fd27_6, fd27_7, fd27_8, fd27_9, fd27_10, fd27_11, fd27_12, fd27_13, fd27_14, fd27_15, fd27_16, fd27_17, fd27_18, fd27_19, fd27_20, fd27_21, fd27_22, fd27_23, fd35_0, fd35_1, fd35_2, fd35_3, fd35_4, fd35_5, fd35_6, fd35_7, fd35_8, fd35_9, fd35_10, fd35_11, fd36_0, fd36_1, fd36_2, fd36_3, fd36_4, fd36_5, fd36_6, fd36_7, fd36_8, fd36_9, fd36_10, fd36_11, d1, ht, wrap_succ (show i < 4611686018427387904 by omega), hap, builtin_append]
         show GoR _ _ _ _ _ _ _ _ _ _)
      | refine Go.condT (by rfl) ?_
      | refine Go.condF (by rfl) ?_
      | refine GoR.skipG (by decide) rfl rfl ?_
      | (refine GoR.splitG rfl (fun hc => ?_) (fun hc => ?_) <;> simp only [hc])
      | refine Go.condB rfl (fun hc => ?_) (fun hc => ?_))
    refine Go.lpN ?_
    refine Go.keep [(0, .sl none 4 ts.length (toksC ts)), (3, o'), (4, .int .i64 ((i + 1 : Nat) : Int))] (.cons .refl (.cons .refl (.cons .refl (.nil)))) ?_
    refine next (i + 1, o', S2) (by dsimp only; omega) ⟨h1, ?_, hg.trans (Grown.app.trans hg2)⟩
    dsimp only
    rw [e]
    exact hacc2
  · have d1 : decide ((i : Int) < (ts.length : Int)) = false := by rw [decide_eq_false_iff_not]; omega
    clear next
    repeat' (first
      | refine Go.seq ?_
      | refine Go.rg ?_
      | refine GoR.nil ?_
      | refine Go.skip ?_
      | refine Go.ret ?_
      | refine Go.block ?_
      | refine Go.exit ?_
      | refine Go.blkX ?_
      | refine Go.blkN ?_
      | refine Go.passX ?_
      | refine Go.lpX ?_
      | (refine Go.blkE (by decide) ?_)
      | (refine Go.rgS dmx (by decide) ?_)
      | ((first | refine GoR.op (by decide) (by rfl) ?_ | refine GoR.opG (by decide) (by rfl) (by rfl) ?_)
         conv => arg 1; simp only [G, Z, Y, un_neg, Int.reduceEq, Int.reduceLE, cutD, Nat.reduceBEq, Nat.reduceAdd, Nat.reduceMul, Nat.reduceSub, Nat.reducePow, Nat.reduceLT, Nat.reduceGT, Nat.reduceLeDiff, Nat.reduceEqDiff, Int.reduceToNat, gt_iff_lt, if_true, if_false, beq_self_eq_true, reduceIte, decide_true, decide_false, fd2_0, fd2_1, fd2_2, fd2_3, fd2_4, fd2_5, fd2_6, fd2_7, fd2_8, fd3_0, fd3_1, fd3_2, fd3_3, fd3_4, fd3_5, fd3_6, fd3_7, fd3_8, fd9_0, fd9_1, fd9_2, fd9_3, fd9_4, fd9_5, fd9_6, fd9_7, fd23_0, fd23_1, fd23_2, fd23_3, fd23_4, fd23_5, fd23_6, fd23_7, fd23_8, fd23_9, fd23_10, fd23_11, fd23_12, fd23_13, fd23_14, fd23_15, fd23_16, fd23_17, fd23_18, fd23_19, fd23_20, fd23_21, fd23_22, fd23_23, fd27_0, fd27_1, fd27_2, fd27_3, fd27_4, fd27_5, fd27_6, fd27_7, fd27_8, fd27_9, fd27_10, fd27_11, fd27_12, fd27_13, fd27_14, fd27_15, fd27_16, fd27_17, fd27_18, fd27_19, fd27_20, fd27_21, fd27_22, fd27_23, fd35_0, fd35_1, fd35_2, fd35_3, fd35_4, fd35_5, fd35_6, fd35_7, fd35_8, fd35_9, fd35_10, fd35_11, fd36_0, fd36_1, fd36_2, fd36_3, fd36_4, fd36_5, fd36_6, fd36_7, fd36_8, fd36_9, fd36_10, fd36_11, d1]
         show GoR _ _ _ _ _ _ _ _ _ _)
      | refine Go.condT (by rfl) ?_
      | refine Go.condF (by rfl) ?_
      | refine GoR.skipG (by decide) rfl rfl ?_
      | (refine GoR.splitG rfl (fun hc => ?_) (fun hc => ?_) <;> simp only [hc])
      | refine Go.condB rfl (fun hc => ?_) (fun hc => ?_))
    refine ⟨(by first | exact .inl rfl | exact .inr rfl), fin ?_⟩
    rw [resD_tmp (fn := Tryd.f18) rfl]
    simp only [optThen_some, resultD_tmp, resultD_cell, G, Z, Y, un_neg, Int.reduceEq, Int.reduceLE, cutD, Nat.reduceBEq, Nat.reduceAdd, Nat.reduceMul, Nat.reduceSub, Nat.reducePow, Nat.reduceLT, Nat.reduceGT, Nat.reduceLeDiff, Nat.reduceEqDiff, Int.reduceToNat, gt_iff_lt, if_true, if_false, beq_self_eq_true, reduceIte, decide_true, decide_false, fd2_0, fd2_1, fd2_2, fd2_3, fd2_4, fd2_5, fd2_6, fd2_7, fd2_8, fd3_0, fd3_1, fd3_2, fd3_3, fd3_4, fd3_5, fd3_6, fd3_7, fd3_8, fd9_0, fd9_1, fd9_2, fd9_3, fd9_4, fd9_5, fd9_6, fd9_7, fd23_0, fd23_1, fd23_2, fd23_3, fd23_4, fd23_5, fd23_6, fd23_7, fd23_8, fd23_9, fd23_10, fd23_11, fd23_12, fd23_13, fd23_14, fd23_15, fd23_16, fd23_17, fd23_18, fd23_19, fd23_20, fd23_21, fd23_22, fd23_23, fd27_0, fd27_1, fd27_2, fd27_3, fd27_4, fd27_5, fd27_6, fd27_7, fd27_8, fd27_9, fd27_10, fd27_11, fd27_12, fd27_13, fd27_14, fd27_15, fd27_16, fd27_17, fd27_18, fd27_19, fd27_20, fd27_21, fd27_22, fd27_23, fd35_0, fd35_1, fd35_2, fd35_3, fd35_4, fd35_5, fd35_6, fd35_7, fd35_8, fd35_9, fd35_10, fd35_11, fd36_0, fd36_1, fd36_2, fd36_3, fd36_4, fd36_5, fd36_6, fd36_7, fd36_8, fd36_9, fd36_10, fd36_11]
    have hi' : i = ts.length := by omega
    subst hi'
    rw [List.take_length] at hacc
    obtain ⟨E, hE⟩ := hg.pre [] S rfl (by simp)
    exact ⟨_, E, hE, hacc.wf.to_Wk (.sl' (toks_low ts)), rfl⟩
theorem sameToks (ts : List Tok) (hl : ts.length < 1000000) (S : Mem) {orc : DOracle} : CallD Tryd.prog orc 9 [.sl none 4 ts.length (toksC ts), .sl none 4 ts.length (toksC ts)] S fun d S' => S' = S ∧ d = .bool true := by
  refine CallD.drop ?_
  refine CallD.body Tryd.func9 rfl (by simp [Tryd.ntmps9]) ?_
  rw [Tryd.ntmps9]
  have d0 : ((ts.length : Int) != (ts.length : Int)) = false := by simp
  repeat' (first
    | refine Go.seq ?_
    | refine Go.rg ?_
    | refine GoR.nil ?_
    | refine Go.skip ?_
    | refine Go.ret ?_
    | refine Go.block ?_
    | refine Go.exit ?_
    | refine Go.blkX ?_
    | refine Go.blkN ?_
    | refine Go.passX ?_
    | refine Go.lpX ?_
    | (refine Go.blkE (by decide) ?_)
    | (refine Go.rgS dmx (by decide) ?_)
    | ((first | refine GoR.op (by decide) (by rfl) ?_ | refine GoR.opG (by decide) (by rfl) (by rfl) ?_)
       conv => arg 1; simp only [G, Z, Y, un_neg, Int.reduceEq, Int.reduceLE, cutD, Nat.reduceBEq, Nat.reduceAdd, Nat.reduceMul, Nat.reduceSub, Nat.reducePow, Nat.reduceLT, Nat.reduceGT, Nat.reduceLeDiff, Nat.reduceEqDiff, Int.reduceToNat, gt_iff_lt, if_true, if_false, beq_self_eq_true, reduceIte, decide_true, decide_false, fd2_0, fd2_1, fd2_2, fd2_3, fd2_4, fd2_5, fd2_6, fd2_7, fd2_8, fd3_0, fd3_1, fd3_2, fd3_3, fd3_4, fd3_5, fd3_6, fd3_7, fd3_8, fd9_0, fd9_1, fd9_2, fd9_3, fd9_4, fd9_5, fd9_6, fd9_7, fd27_0, fd27_1, fd27_2, fd27_3, fd27_4, fd27_5, fd27_6, fd27_7, fd27_8, fd27_9, fd27_10, fd27_11, fd27_12, fd27_13, fd27_14, fd27_15, fd27_16, fd27_17, fd27_18, fd27_19, fd27_20, fd27_21, fd27_22, fd27_23, fd36_0, fd36_1, fd36_2, fd36_3, fd36_4, fd36_5, fd36_6, fd36_7, fd36_8, fd36_9, fd36_10, fd36_11, d0]
       show GoR _ _ _ _ _ _ _ _ _ _)
    | ((first | refine GoR.call (f := 18) (by decide) (by rfl) rfl Tryd.func18 (by decide) (by rfl) ?_ | refine GoR.callG (f := 18) (by decide) (by rfl) (by rfl) rfl Tryd.func18 (by decide) (by rfl) ?_)
       (refine (ofToks ts hl _).ret ?_))
    | refine Go.condT (by rfl) ?_
    | refine Go.condF (by rfl) ?_
    | refine GoR.skipG (by decide) rfl rfl ?_
    | (refine GoR.splitG rfl (fun hc => ?_) (fun hc => ?_) <;> simp only [hc])
    | refine Go.condB rfl (fun hc => ?_) (fun hc => ?_))
  refine Go.keep [(1, .sl none 4 ts.length (toksC ts)), (5, .sl none 4 ts.length (toksC ts)), (6, .int .i64 ((0 : Nat) : Int))] (.cons .refl (.cons .refl (.cons .refl (.nil)))) ?_
  refine Go.while (α := Nat) (fun i => ts.length - i) (fun i => [(1, .sl none 4 ts.length (toksC ts)), (5, .sl none 4 ts.length (toksC ts)), (6, .int .i64 (i : Int))]) (fun _ => S) (fun i => i ≤ ts.length) ?_ 0 (Nat.zero_le _)
  intro i hi next
  by_cases h1 : i < ts.length
  · have d1 : decide ((i : Int) < (ts.length : Int)) = true := by rw [decide_eq_true_iff]; omega
    have ht := toksAt h1
    generalize ts[i] = t at *
    simp only [Tok.c] at ht
    repeat' (first
      | refine Go.seq ?_
      | refine Go.rg ?_
      | refine GoR.nil ?_
      | refine Go.skip ?_
      | refine Go.ret ?_
      | refine Go.block ?_
      | refine Go.exit ?_
      | refine Go.blkX ?_
      | refine Go.blkN ?_
      | refine Go.passX ?_
      | refine Go.lpX ?_
      | (refine Go.blkE (by decide) ?_)
      | (refine Go.rgS dmx (by decide) ?_)
      | ((first | refine GoR.op (by decide) (by rfl) ?_ | refine GoR.opG (by decide) (by rfl) (by rfl) ?_)
         conv => arg 1; simp only [G, Z, Y, un_neg, Int.reduceEq, Int.reduceLE, cutD, Nat.reduceBEq, Nat.reduceAdd, Nat.reduceMul, Nat.reduceSub, Nat.reducePow, Nat.reduceLT, Nat.reduceGT, Nat.reduceLeDiff, Nat.reduceEqDiff, Int.reduceToNat, gt_iff_lt, if_true, if_false, beq_self_eq_true, reduceIte, decide_true, decide_false, fd2_0, fd2_1, fd2_2, fd2_3, fd2_4, fd2_5, fd2_6, fd2_7, fd2_8, fd3_0, fd3_1, fd3_2, fd3_3, fd3_4, fd3_5, fd3_6, fd3_7, fd3_8, fd9_0, fd9_1, fd9_2, fd9_3, fd9_4, fd9_5, fd9_6, fd9_7, fd27_0, fd27_1, fd27_2, fd27_3, fd27_4, fd27_5, fd27_6, fd27_7, fd27_8, fd27_9, fd27_10, fd27_11, fd27_12, fd27_13, fd27_14, fd27_15, fd27_16, fd27_17, fd27_18, fd27_19, fd27_20, fd27_21, fd27_22, fd27_23, fd36_0, fd36_1, fd36_2, fd36_3, fd36_4, fd36_5, fd36_6, fd36_7, fd36_8, fd36_9, fd36_10, fd36_11, d1, ht, neq_tok, wrap_succ (show i < 4611686018427387904 by omega)]
         show GoR _ _ _ _ _ _ _ _ _ _)
      | refine Go.condT (by rfl) ?_
      | refine Go.condF (by rfl) ?_
      | refine GoR.skipG (by decide) rfl rfl ?_
      | (refine GoR.splitG rfl (fun hc => ?_) (fun hc => ?_) <;> simp only [hc])
      | refine Go.condB rfl (fun hc => ?_) (fun hc => ?_))
    refine Go.lpN ?_
    refine Go.keep [(1, .sl none 4 ts.length (toksC ts)), (5, .sl none 4 ts.length (toksC ts)), (6, .int .i64 ((i + 1 : Nat) : Int))] (.cons .refl (.cons .refl (.cons .refl (.nil)))) ?_
    exact next (i + 1) (by omega) h1
  · have d1 : decide ((i : Int) < (ts.length : Int)) = false := by rw [decide_eq_false_iff_not]; omega
    clear next
    repeat' (first
      | refine Go.seq ?_
      | refine Go.rg ?_
      | refine GoR.nil ?_
      | refine Go.skip ?_
      | refine Go.ret ?_
      | refine Go.block ?_
      | refine Go.exit ?_
      | refine Go.blkX ?_
      | refine Go.blkN ?_
      | refine Go.passX ?_
      | refine Go.lpX ?_
      | (refine Go.blkE (by decide) ?_)
      | (refine Go.rgS dmx (by decide) ?_)
      | ((first | refine GoR.op (by decide) (by rfl) ?_ | refine GoR.opG (by decide) (by rfl) (by rfl) ?_)
         conv => arg 1; simp only [G, Z, Y, un_neg, Int.reduceEq, Int.reduceLE, cutD, Nat.reduceBEq, Nat.reduceAdd, Nat.reduceMul, Nat.reduceSub, Nat.reducePow, Nat.reduceLT, Nat.reduceGT, Nat.reduceLeDiff, Nat.reduceEqDiff, Int.reduceToNat, gt_iff_lt, if_true, if_false, beq_self_eq_true, reduceIte, decide_true, decide_false, fd2_0, fd2_1, fd2_2, fd2_3, fd2_4, fd2_5, fd2_6, fd2_7, fd2_8, fd3_0, fd3_1, fd3_2, fd3_3, fd3_4, fd3_5, fd3_6, fd3_7, fd3_8, fd9_0, fd9_1, fd9_2, fd9_3, fd9_4, fd9_5, fd9_6, fd9_7, fd27_0, fd27_1, fd27_2, fd27_3, fd27_4, fd27_5, fd27_6, fd27_7, fd27_8, fd27_9, fd27_10, fd27_11, fd27_12, fd27_13, fd27_14, fd27_15, fd27_16, fd27_17, fd27_18, fd27_19, fd27_20, fd27_21, fd27_22, fd27_23, fd36_0, fd36_1, fd36_2, fd36_3, fd36_4, fd36_5, fd36_6, fd36_7, fd36_8, fd36_9, fd36_10, fd36_11, d1]
         show GoR _ _ _ _ _ _ _ _ _ _)
      | refine Go.condT (by rfl) ?_
      | refine Go.condF (by rfl) ?_
      | refine GoR.skipG (by decide) rfl rfl ?_
      | (refine GoR.splitG rfl (fun hc => ?_) (fun hc => ?_) <;> simp only [hc])
      | refine Go.condB rfl (fun hc => ?_) (fun hc => ?_))
    refine ⟨(by first | exact .inl rfl | exact .inr rfl), fin ?_⟩
    rw [resD_tmp (fn := Tryd.f9) rfl]
    simp only [optThen_some, resultD_tmp, resultD_cell, G, Z, Y, un_neg, Int.reduceEq, Int.reduceLE, cutD, Nat.reduceBEq, Nat.reduceAdd, Nat.reduceMul, Nat.reduceSub, Nat.reducePow, Nat.reduceLT, Nat.reduceGT, Nat.reduceLeDiff, Nat.reduceEqDiff, Int.reduceToNat, gt_iff_lt, if_true, if_false, beq_self_eq_true, reduceIte, decide_true, decide_false, fd2_0, fd2_1, fd2_2, fd2_3, fd2_4, fd2_5, fd2_6, fd2_7, fd2_8, fd3_0, fd3_1, fd3_2, fd3_3, fd3_4, fd3_5, fd3_6, fd3_7, fd3_8, fd9_0, fd9_1, fd9_2, fd9_3, fd9_4, fd9_5, fd9_6, fd9_7, fd27_0, fd27_1, fd27_2, fd27_3, fd27_4, fd27_5, fd27_6, fd27_7, fd27_8, fd27_9, fd27_10, fd27_11, fd27_12, fd27_13, fd27_14, fd27_15, fd27_16, fd27_17, fd27_18, fd27_19, fd27_20, fd27_21, fd27_22, fd27_23, fd36_0, fd36_1, fd36_2, fd36_3, fd36_4, fd36_5, fd36_6, fd36_7, fd36_8, fd36_9, fd36_10, fd36_11]
    exact ⟨_, [], by simp, .bool, rfl⟩

theorem fit_of {s : ByteArray} (hs : s.size < 1000000) {ts : List Tok} (h : lexS s.data.toList 0 = .ok ts) : Fit ts ∧ ts.length ≤ s.size ∧ (ts.map fun t => t.t.size).sum ≤ s.size := by
  have := (lexS_placed h).count
  have e : s.data.toList.length = s.size := by simp
  rw [e] at this
  exact ⟨⟨by omega, by omega⟩, by omega, by omega⟩
/-- The words and what is told beside them. -/
theorem toksD_form {s : ByteArray} (hs : s.size < 1000000) : ∃ ts a e, toksD (lexF s) = .tup [.sl none 4 ts.length (toksC ts), .int .i64 a, .int .i64 e] ∧ Fit ts := by
  unfold lexF
  split
  · exact ⟨[], 0, 4, rfl, by decide, by decide⟩
  · cases h : lexS s.data.toList 0 with
    | error x => exact ⟨[], x.1, x.2, rfl, by decide, by decide⟩
    | ok ts => exact ⟨ts, 0, 0, rfl, (fit_of hs h).1⟩

def kT : List Tok := [⟨1, (⟨#[115, 117, 109]⟩ : ByteArray), 0, 0⟩, ⟨3, (⟨#[40]⟩ : ByteArray), 0, 3⟩, ⟨1, (⟨#[97, 49]⟩ : ByteArray), 0, 4⟩, ⟨3, (⟨#[43]⟩ : ByteArray), 0, 7⟩, ⟨2, (⟨#[49, 50]⟩ : ByteArray), 12, 8⟩, ⟨3, (⟨#[41]⟩ : ByteArray), 0, 10⟩, ⟨3, (⟨#[62, 61]⟩ : ByteArray), 0, 11⟩, ⟨2, (⟨#[51]⟩ : ByteArray), 3, 13⟩]
theorem k1 : lexF (⟨#[115, 117, 109, 40, 97, 49, 32, 43, 49, 50, 41, 62, 61, 51]⟩ : ByteArray) = .ok kT := by kernel_rfl
theorem k2 : lexF (⟨#[97, 32, 48, 49]⟩ : ByteArray) = .error (2, 2) := by kernel_rfl
theorem k3 : textT kT = (⟨#[115, 117, 109, 32, 40, 32, 97, 49, 32, 43, 32, 49, 50, 32, 41, 32, 62, 61, 32, 51]⟩ : ByteArray) := by kernel_rfl
theorem k4 : Fit kT := ⟨by decide, by decide⟩
theorem known (S : Mem) : CallD Tryd.prog O 6 [] S fun d S' => S' = S ∧ d = .bool true := by
  have h1 := lexTokens (⟨#[115, 117, 109, 40, 97, 49, 32, 43, 49, 50, 41, 62, 61, 51]⟩ : ByteArray) (by decide)
  have h2 := lexTokens (⟨#[97, 32, 48, 49]⟩ : ByteArray) (by decide)
  have h3 := lexText kT k4
  rw [k1] at h1
  rw [k2] at h2
  rw [k3] at h3
  simp only [toksD] at h1 h2
  have e : toksC kT = [.int .i64 1, .str (⟨#[115, 117, 109]⟩ : ByteArray), .int .i64 0, .int .i64 0, .int .i64 3, .str (⟨#[40]⟩ : ByteArray), .int .i64 0, .int .i64 3, .int .i64 1, .str (⟨#[97, 49]⟩ : ByteArray), .int .i64 0, .int .i64 4, .int .i64 3, .str (⟨#[43]⟩ : ByteArray), .int .i64 0, .int .i64 7,
    .int .i64 2, .str (⟨#[49, 50]⟩ : ByteArray), .int .i64 12, .int .i64 8, .int .i64 3, .str (⟨#[41]⟩ : ByteArray), .int .i64 0, .int .i64 10, .int .i64 3, .str (⟨#[62, 61]⟩ : ByteArray), .int .i64 0, .int .i64 11, .int .i64 2, .str (⟨#[51]⟩ : ByteArray), .int .i64 3, .int .i64 13] := rfl
  have el : kT.length = 8 := rfl
  rw [e, el] at h1 h3
  refine CallD.drop ?_
  refine CallD.body Tryd.func6 rfl (by simp [Tryd.ntmps6]) ?_
  rw [Tryd.ntmps6]
  repeat' (first
    | refine Go.seq ?_
    | refine Go.rg ?_
    | refine GoR.nil ?_
    | refine Go.skip ?_
    | refine Go.ret ?_
    | refine Go.block ?_
    | refine Go.exit ?_
    | refine Go.blkX ?_
    | refine Go.blkN ?_
    | refine Go.passX ?_
    | refine Go.lpX ?_
    | (refine Go.blkE (by decide) ?_)
    | (refine Go.rgS dmx (by decide) ?_)
    | ((first | refine GoR.op (by decide) (by rfl) ?_ | refine GoR.opG (by decide) (by rfl) (by rfl) ?_)
       conv => arg 1; simp only [G, Z, Y, un_neg, Int.reduceEq, Int.reduceLE, cutD, Nat.reduceBEq, Nat.reduceAdd, Nat.reduceMul, Nat.reduceSub, Nat.reducePow, Nat.reduceLT, Nat.reduceGT, Nat.reduceLeDiff, Nat.reduceEqDiff, Int.reduceToNat, gt_iff_lt, if_true, if_false, beq_self_eq_true, reduceIte, decide_true, decide_false, fd2_0, fd2_1, fd2_2, fd2_3, fd2_4, fd2_5, fd2_6, fd2_7, fd2_8, fd3_0, fd3_1, fd3_2, fd3_3, fd3_4, fd3_5, fd3_6, fd3_7, fd3_8, fd9_0, fd9_1, fd9_2, fd9_3, fd9_4, fd9_5, fd9_6, fd9_7, fd23_0, fd23_1, fd23_2, fd23_3, fd23_4, fd23_5, fd23_6, fd23_7, fd23_8, fd23_9, fd23_10, fd23_11, fd23_12, fd23_13, fd23_14, fd23_15, fd23_16, fd23_17, fd23_18, fd23_19, fd23_20, fd23_21, fd23_22, fd23_23, fd35_0, fd35_1, fd35_2, fd35_3, fd35_4, fd35_5, fd35_6, fd35_7, fd35_8, fd35_9, fd35_10, fd35_11, eq_self, decide_true, show ((8 : Nat) : Int) = 8 from rfl, show ((2 : Nat) : Int) = 2 from rfl]
       show GoR _ _ _ _ _ _ _ _ _ _)
    | ((first | refine GoR.call (f := 7) (by decide) (by rfl) rfl Tryd.func7 (by decide) (by rfl) ?_ | refine GoR.callG (f := 7) (by decide) (by rfl) (by rfl) rfl Tryd.func7 (by decide) (by rfl) ?_)
       (first | (refine (h1 _).ret ?_) | (refine (h2 _).ret ?_)))
    | ((first | refine GoR.call (f := 10) (by decide) (by rfl) rfl Tryd.func10 (by decide) (by rfl) ?_ | refine GoR.callG (f := 10) (by decide) (by rfl) (by rfl) rfl Tryd.func10 (by decide) (by rfl) ?_)
       (refine (h3 _).ret ?_))
    | refine Go.condT (by rfl) ?_
    | refine Go.condF (by rfl) ?_
    | refine GoR.skipG (by decide) rfl rfl ?_
    | (refine GoR.splitG rfl (fun hc => ?_) (fun hc => ?_) <;> simp only [hc])
    | refine Go.condB rfl (fun hc => ?_) (fun hc => ?_))
  refine ⟨(by first | exact .inl rfl | exact .inr rfl), fin ?_⟩
  rw [resD_tmp (fn := Tryd.f6) rfl]
  simp only [optThen_some, resultD_tmp, resultD_cell, G, Z, Y, un_neg, Int.reduceEq, Int.reduceLE, cutD, Nat.reduceBEq, Nat.reduceAdd, Nat.reduceMul, Nat.reduceSub, Nat.reducePow, Nat.reduceLT, Nat.reduceGT, Nat.reduceLeDiff, Nat.reduceEqDiff, Int.reduceToNat, gt_iff_lt, if_true, if_false, beq_self_eq_true, reduceIte, decide_true, decide_false, fd2_0, fd2_1, fd2_2, fd2_3, fd2_4, fd2_5, fd2_6, fd2_7, fd2_8, fd3_0, fd3_1, fd3_2, fd3_3, fd3_4, fd3_5, fd3_6, fd3_7, fd3_8, fd9_0, fd9_1, fd9_2, fd9_3, fd9_4, fd9_5, fd9_6, fd9_7, fd23_0, fd23_1, fd23_2, fd23_3, fd23_4, fd23_5, fd23_6, fd23_7, fd23_8, fd23_9, fd23_10, fd23_11, fd23_12, fd23_13, fd23_14, fd23_15, fd23_16, fd23_17, fd23_18, fd23_19, fd23_20, fd23_21, fd23_22, fd23_23, fd35_0, fd35_1, fd35_2, fd35_3, fd35_4, fd35_5, fd35_6, fd35_7, fd35_8, fd35_9, fd35_10, fd35_11]
  exact ⟨_, [], by simp, .bool, rfl⟩

theorem lawTexts (s : ByteArray) (S : Mem) : CallD Tryd.prog O 3 [.str s] S fun d S' => S' = S ∧ d = .bool true := by
  refine CallD.drop ?_
  refine CallD.body Tryd.func3 rfl (by simp [Tryd.ntmps3]) ?_
  rw [Tryd.ntmps3]
  by_cases h : 1100 < s.size
  · have d0 : decide (1100 < (s.size : Int)) = true := by rw [decide_eq_true_iff]; omega
    repeat' (first
      | refine Go.seq ?_
      | refine Go.rg ?_
      | refine GoR.nil ?_
      | refine Go.skip ?_
      | refine Go.ret ?_
      | refine Go.block ?_
      | refine Go.exit ?_
      | refine Go.blkX ?_
      | refine Go.blkN ?_
      | refine Go.passX ?_
      | refine Go.lpX ?_
      | (refine Go.blkE (by decide) ?_)
      | (refine Go.rgS dmx (by decide) ?_)
      | ((first | refine GoR.op (by decide) (by rfl) ?_ | refine GoR.opG (by decide) (by rfl) (by rfl) ?_)
         conv => arg 1; simp only [G, Z, Y, un_neg, Int.reduceEq, Int.reduceLE, cutD, Nat.reduceBEq, Nat.reduceAdd, Nat.reduceMul, Nat.reduceSub, Nat.reducePow, Nat.reduceLT, Nat.reduceGT, Nat.reduceLeDiff, Nat.reduceEqDiff, Int.reduceToNat, gt_iff_lt, if_true, if_false, beq_self_eq_true, reduceIte, decide_true, decide_false, fd3_0, fd3_1, fd3_2, fd3_3, fd3_4, fd3_5, fd3_6, fd3_7, fd3_8, fd9_0, fd9_1, fd9_2, fd9_3, fd9_4, fd9_5, fd9_6, fd9_7, d0]
         show GoR _ _ _ _ _ _ _ _ _ _)
      | ((first | refine GoR.call (f := 6) (by decide) (by rfl) rfl Tryd.func6 (by decide) (by rfl) ?_ | refine GoR.callG (f := 6) (by decide) (by rfl) (by rfl) rfl Tryd.func6 (by decide) (by rfl) ?_)
         (refine (known _).ret ?_))
      | refine Go.condT (by rfl) ?_
      | refine Go.condF (by rfl) ?_
      | refine GoR.skipG (by decide) rfl rfl ?_
      | (refine GoR.splitG rfl (fun hc => ?_) (fun hc => ?_) <;> simp only [hc])
      | refine Go.condB rfl (fun hc => ?_) (fun hc => ?_))
    refine ⟨(by first | exact .inl rfl | exact .inr rfl), fin ?_⟩
    rw [resD_tmp (fn := Tryd.f3) rfl]
    simp only [optThen_some, resultD_tmp, resultD_cell, G, Z, Y, un_neg, Int.reduceEq, Int.reduceLE, cutD, Nat.reduceBEq, Nat.reduceAdd, Nat.reduceMul, Nat.reduceSub, Nat.reducePow, Nat.reduceLT, Nat.reduceGT, Nat.reduceLeDiff, Nat.reduceEqDiff, Int.reduceToNat, gt_iff_lt, if_true, if_false, beq_self_eq_true, reduceIte, decide_true, decide_false, fd3_0, fd3_1, fd3_2, fd3_3, fd3_4, fd3_5, fd3_6, fd3_7, fd3_8, fd9_0, fd9_1, fd9_2, fd9_3, fd9_4, fd9_5, fd9_6, fd9_7]
    exact ⟨_, [], by simp, .bool, rfl⟩
  · have d0 : decide (1100 < (s.size : Int)) = false := by rw [decide_eq_false_iff_not]; omega
    have ha := lexTokens s (by omega)
    have hb := refTokens (orc := O) s (by omega)
    obtain ⟨ts, a, e, hd, hf⟩ := toksD_form (s := s) (by omega)
    rw [hd] at ha hb
    have hsm := sameToks (orc := O) ts hf.1
    have ht := lexText ts hf
    have hr := refText (orc := O) ts hf
    generalize textT ts = x at *
    repeat' (first
      | refine Go.seq ?_
      | refine Go.rg ?_
      | refine GoR.nil ?_
      | refine Go.skip ?_
      | refine Go.ret ?_
      | refine Go.block ?_
      | refine Go.exit ?_
      | refine Go.blkX ?_
      | refine Go.blkN ?_
      | refine Go.passX ?_
      | refine Go.lpX ?_
      | (refine Go.blkE (by decide) ?_)
      | (refine Go.rgS dmx (by decide) ?_)
      | ((first | refine GoR.op (by decide) (by rfl) ?_ | refine GoR.opG (by decide) (by rfl) (by rfl) ?_)
         conv => arg 1; simp only [G, Z, Y, un_neg, Int.reduceEq, Int.reduceLE, cutD, Nat.reduceBEq, Nat.reduceAdd, Nat.reduceMul, Nat.reduceSub, Nat.reducePow, Nat.reduceLT, Nat.reduceGT, Nat.reduceLeDiff, Nat.reduceEqDiff, Int.reduceToNat, gt_iff_lt, if_true, if_false, beq_self_eq_true, reduceIte, decide_true, decide_false, fd3_0, fd3_1, fd3_2, fd3_3, fd3_4, fd3_5, fd3_6, fd3_7, fd3_8, fd9_0, fd9_1, fd9_2, fd9_3, fd9_4, fd9_5, fd9_6, fd9_7, d0, beq_self_eq_true, eq_self, decide_true]
         show GoR _ _ _ _ _ _ _ _ _ _)
      | ((first | refine GoR.call (f := 6) (by decide) (by rfl) rfl Tryd.func6 (by decide) (by rfl) ?_ | refine GoR.callG (f := 6) (by decide) (by rfl) (by rfl) rfl Tryd.func6 (by decide) (by rfl) ?_)
         (refine (known _).ret ?_))
      | ((first | refine GoR.call (f := 7) (by decide) (by rfl) rfl Tryd.func7 (by decide) (by rfl) ?_ | refine GoR.callG (f := 7) (by decide) (by rfl) (by rfl) rfl Tryd.func7 (by decide) (by rfl) ?_)
         (refine (ha _).ret ?_))
      | ((first | refine GoR.call (f := 8) (by decide) (by rfl) rfl Tryd.func8 (by decide) (by rfl) ?_ | refine GoR.callG (f := 8) (by decide) (by rfl) (by rfl) rfl Tryd.func8 (by decide) (by rfl) ?_)
         (refine (hb _).ret ?_))
      | ((first | refine GoR.call (f := 9) (by decide) (by rfl) rfl Tryd.func9 (by decide) (by rfl) ?_ | refine GoR.callG (f := 9) (by decide) (by rfl) (by rfl) rfl Tryd.func9 (by decide) (by rfl) ?_)
         (refine (hsm _).ret ?_))
      | ((first | refine GoR.call (f := 10) (by decide) (by rfl) rfl Tryd.func10 (by decide) (by rfl) ?_ | refine GoR.callG (f := 10) (by decide) (by rfl) (by rfl) rfl Tryd.func10 (by decide) (by rfl) ?_)
         (refine (ht _).ret ?_))
      | ((first | refine GoR.call (f := 11) (by decide) (by rfl) rfl Tryd.func11 (by decide) (by rfl) ?_ | refine GoR.callG (f := 11) (by decide) (by rfl) (by rfl) rfl Tryd.func11 (by decide) (by rfl) ?_)
         (refine (hr _).ret ?_))
      | refine Go.condT (by rfl) ?_
      | refine Go.condF (by rfl) ?_
      | refine GoR.skipG (by decide) rfl rfl ?_
      | (refine GoR.splitG rfl (fun hc => ?_) (fun hc => ?_) <;> simp only [hc])
      | refine Go.condB rfl (fun hc => ?_) (fun hc => ?_))
    refine ⟨(by first | exact .inl rfl | exact .inr rfl), fin ?_⟩
    rw [resD_tmp (fn := Tryd.f3) rfl]
    simp only [optThen_some, resultD_tmp, resultD_cell, G, Z, Y, un_neg, Int.reduceEq, Int.reduceLE, cutD, Nat.reduceBEq, Nat.reduceAdd, Nat.reduceMul, Nat.reduceSub, Nat.reducePow, Nat.reduceLT, Nat.reduceGT, Nat.reduceLeDiff, Nat.reduceEqDiff, Int.reduceToNat, gt_iff_lt, if_true, if_false, beq_self_eq_true, reduceIte, decide_true, decide_false, fd3_0, fd3_1, fd3_2, fd3_3, fd3_4, fd3_5, fd3_6, fd3_7, fd3_8, fd9_0, fd9_1, fd9_2, fd9_3, fd9_4, fd9_5, fd9_6, fd9_7]
    exact ⟨_, [], by simp, .bool, by simp⟩
end Go.Proofs.DlT
