/- What an expression is, by the program. -/
import Derived.Test.YtcnjndjahloifaaDaD8
set_option linter.unusedSimpArgs false
set_option linter.unusedVariables false
namespace Go.Proofs.DaT
open Go Go.DM
set_option maxRecDepth 100000
variable {orc : DOracle}

/-- What an expression comes to: a number, or nothing. -/
def gotC (x : Option Int) : List D := [.int .i64 (x.getD 0), .bool x.isSome]
def gotsC (l : List (Option Int)) : List D := l.flatMap gotC
theorem got_low {n : Nat} (x : Option Int) : LowL n (gotC x) := .cons (.int _ _) (.cons (.bool _) .nil)
theorem got_len (x : Option Int) : (gotC x).length = 2 := rfl
theorem gotsAt {l : List (Option Int)} {i : Nat} (h : i < l.length) :
    ((0 ≤ (i : Int) ∧ (i : Int) < (l.length : Int)) = True) ∧ ((i * 2 + 2 ≤ (gotsC l).length) = True) ∧ ((gotsC l).drop (i * 2)).take 2 = gotC l[i] ∧ (gotsC l)[i * 2]? = some (.int .i64 (l[i].getD 0)) :=
  ⟨ix_ok h, flat_fits0 got_len l i h, flat_all got_len l i h, flat_cell0 got_len l i h (by omega)⟩
def twoS (op : ByteArray) (a b : Int) : Option Int :=
  if op = (⟨#[43]⟩ : ByteArray) then some (clamp (a + b)) else if op = (⟨#[45]⟩ : ByteArray) then some (clamp (a - b)) else if op = (⟨#[42]⟩ : ByteArray) then some (clamp (a * b)) else
  if op = (⟨#[47]⟩ : ByteArray) then (if b = 0 then none else some (clamp (a.tdiv b))) else if op = (⟨#[37]⟩ : ByteArray) then (if b = 0 then none else some (a.tmod b)) else none
def oin (x : Option Int) : Prop := ∀ n, x = some n → in64 n

theorem two (op : ByteArray) (a b : Int) (ha : in64 a) (hb : in64 b) (S : Mem) : CallD Try.prog orc 25 [.str op, .int .i64 a, .int .i64 b] S fun d S' => S' = S ∧ d = .agg (gotC (twoS op a b)) := by
  refine CallD.drop ?_
  refine CallD.body Try.func25 rfl (by simp [Try.ntmps25]) ?_
  rw [Try.ntmps25]
  repeat' (first
    | refine Go.seq ?_
    | refine Go.rg ?_
    | refine GoR.nil ?_
    | refine Go.skip ?_
    | refine Go.ret ?_
    | refine Go.block ?_
    | refine Go.exit ?_
    | refine Go.blkX ?_
    | refine Go.blkN ?_
    | refine Go.passX ?_
    | refine Go.lpX ?_
    | (refine Go.blkE (by decide) ?_)
    | (refine Go.rgS dmx (by decide) ?_)
    | ((first | refine GoR.op (by decide) (by rfl) ?_ | refine GoR.opG (by decide) (by rfl) (by rfl) ?_)
       conv => arg 1; simp only [G, Z, Y, un_neg, Int.reduceEq, Int.reduceLE, cutD, Nat.reduceBEq, Nat.reduceAdd, Nat.reduceMul, Nat.reduceSub, Nat.reducePow, Nat.reduceLT, Nat.reduceGT, Nat.reduceLeDiff, Nat.reduceEqDiff, Int.reduceToNat, gt_iff_lt, if_true, if_false, beq_self_eq_true, reduceIte, decide_true, decide_false, fd2_0, fd2_1, fd2_2, fd2_3, fd2_4, fd2_5, fd2_6, fd2_7, fd2_8, fd2_9, fd4_0, fd4_1, fd4_2, fd4_3, fd4_4, fd9_0, fd9_1, fd9_2, fd9_3, fd9_4, fd9_5, fd9_6, fd9_7, fd56_0, fd56_1, fd56_2, fd56_3, fd56_4, fd56_5, fd56_6, fd56_7]
       show GoR _ _ _ _ _ _ _ _ _ _)
    | ((first | refine GoR.call (f := 33) (by decide) (by rfl) rfl Try.func33 (by decide) (by rfl) ?_ | refine GoR.callG (f := 33) (by decide) (by rfl) (by rfl) rfl Try.func33 (by decide) (by rfl) ?_)
       (refine (valAdd _ _ ha hb _).ret ?_))
    | ((first | refine GoR.call (f := 24) (by decide) (by rfl) rfl Try.func24 (by decide) (by rfl) ?_ | refine GoR.callG (f := 24) (by decide) (by rfl) (by rfl) rfl Try.func24 (by decide) (by rfl) ?_)
       (refine (valSub _ _ ha hb _).ret ?_))
    | ((first | refine GoR.call (f := 34) (by decide) (by rfl) rfl Try.func34 (by decide) (by rfl) ?_ | refine GoR.callG (f := 34) (by decide) (by rfl) (by rfl) rfl Try.func34 (by decide) (by rfl) ?_)
       (refine (valMul _ _ ha hb _).ret ?_))
    | ((first | refine GoR.call (f := 35) (by decide) (by rfl) rfl Try.func35 (by decide) (by rfl) ?_ | refine GoR.callG (f := 35) (by decide) (by rfl) (by rfl) rfl Try.func35 (by decide) (by rfl) ?_)
       (refine (valDiv _ _ ha hb _).ret ?_))
    | ((first | refine GoR.call (f := 36) (by decide) (by rfl) rfl Try.func36 (by decide) (by rfl) ?_ | refine GoR.callG (f := 36) (by decide) (by rfl) (by rfl) rfl Try.func36 (by decide) (by rfl) ?_)
       (refine (valMod _ _ _).ret ?_))
    | refine Go.condT (by rfl) ?_
    | refine Go.condF (by rfl) ?_
    | refine GoR.skipG (by decide) rfl rfl ?_
    | (refine GoR.splitG rfl (fun hc => ?_) (fun hc => ?_) <;> simp only [hc])
    | refine Go.condB rfl (fun hc => ?_) (fun hc => ?_))
  all_goals
    refine ⟨(by first | exact .inl rfl | exact .inr rfl), fin ?_⟩
    rw [resD_cell (fn := Try.f25) rfl]
    simp only [optThen_some, resultD_tmp, resultD_cell, G, Z, Y, un_neg, Int.reduceEq, Int.reduceLE, cutD, Nat.reduceBEq, Nat.reduceAdd, Nat.reduceMul, Nat.reduceSub, Nat.reducePow, Nat.reduceLT, Nat.reduceGT, Nat.reduceLeDiff, Nat.reduceEqDiff, Int.reduceToNat, gt_iff_lt, if_true, if_false, beq_self_eq_true, reduceIte, decide_true, decide_false, fd2_0, fd2_1, fd2_2, fd2_3, fd2_4, fd2_5, fd2_6, fd2_7, fd2_8, fd2_9, fd4_0, fd4_1, fd4_2, fd4_3, fd4_4, fd9_0, fd9_1, fd9_2, fd9_3, fd9_4, fd9_5, fd9_6, fd9_7, fd56_0, fd56_1, fd56_2, fd56_3, fd56_4, fd56_5, fd56_6, fd56_7]
    refine ⟨_, _, rfl, .of_low (.agg' (.cons (.int _ _) (.cons (.bool _) .nil))), ?_⟩
    simp at *
    by_cases h0 : b = 0
    · simp_all [twoS, gotC, divS, modS]
    · simp_all [twoS, gotC, divS, modS]

def lookN (l : List Att) (s : ByteArray) : Option Int := match look l s with | some v => if v.k = 1 then some v.i else none | none => none
theorem named (l : List Att) (s : ByteArray) (hr : RiseB Att.n l) (hl : l.length < 1000000) (hv : ∀ a ∈ l, a.v.l.length < 1000000) (S : Mem) :
    CallD Try.prog orc 23 [.sl none 5 l.length (attsC l), .str s] S fun d S' => S' = S ∧ d = .agg (gotC (lookN l s)) := by
  refine CallD.drop ?_
  refine CallD.body Try.func23 rfl (by simp [Try.ntmps23]) ?_
  rw [Try.ntmps23]
  have hg := rowGet (orc := orc) l s hr hl hv
  cases hlk : look l s with
  | none =>
    simp only [hlk, Option.getD_none, Option.isSome_none, Val.c] at hg
    repeat' (first
      | refine Go.seq ?_
      | refine Go.rg ?_
      | refine GoR.nil ?_
      | refine Go.skip ?_
      | refine Go.ret ?_
      | refine Go.block ?_
      | refine Go.exit ?_
      | refine Go.blkX ?_
      | refine Go.blkN ?_
      | refine Go.passX ?_
      | refine Go.lpX ?_
      | (refine Go.blkE (by decide) ?_)
      | (refine Go.rgS dmx (by decide) ?_)
      | ((first | refine GoR.op (by decide) (by rfl) ?_ | refine GoR.opG (by decide) (by rfl) (by rfl) ?_)
         conv => arg 1; simp only [G, Z, Y, un_neg, Int.reduceEq, Int.reduceLE, cutD, Nat.reduceBEq, Nat.reduceAdd, Nat.reduceMul, Nat.reduceSub, Nat.reducePow, Nat.reduceLT, Nat.reduceGT, Nat.reduceLeDiff, Nat.reduceEqDiff, Int.reduceToNat, gt_iff_lt, if_true, if_false, beq_self_eq_true, reduceIte, decide_true, decide_false, fd2_0, fd2_1, fd2_2, fd2_3, fd2_4, fd2_5, fd2_6, fd2_7, fd2_8, fd2_9, fd3_0, fd3_1, fd3_2, fd3_3, fd3_4, fd3_5, fd3_6, fd3_7, fd3_8, fd3_9, fd4_0, fd4_1, fd4_2, fd4_3, fd4_4, fd9_0, fd9_1, fd9_2, fd9_3, fd9_4, fd9_5, fd9_6, fd9_7, fd25_0, fd25_1, fd25_2, fd25_3, fd25_4, fd25_5, fd25_6, fd25_7, fd25_8, fd25_9, fd25_10, fd25_11, fd25_12, fd25_13, fd25_14, fd25_15, fd25_16, fd25_17, fd25_18, fd25_19, fd25_20, fd25_21, fd25_22, fd25_23, fd39_0, fd39_1, fd39_2, fd39_3, fd39_4, fd39_5, fd39_6, fd39_7, fd39_8, fd39_9, fd39_10, fd39_11, fd56_0, fd56_1, fd56_2, fd56_3, fd56_4, fd56_5, fd56_6, fd56_7]
         show GoR _ _ _ _ _ _ _ _ _ _)
      | ((first | refine GoR.call (f := 31) (by decide) (by rfl) rfl Try.func31 (by decide) (by rfl) ?_ | refine GoR.callG (f := 31) (by decide) (by rfl) (by rfl) rfl Try.func31 (by decide) (by rfl) ?_)
         (refine (hg _).ret ?_))
      | refine Go.condT (by rfl) ?_
      | refine Go.condF (by rfl) ?_
      | refine GoR.skipG (by decide) rfl rfl ?_
      | (refine GoR.splitG rfl (fun hc => ?_) (fun hc => ?_) <;> simp only [hc])
      | refine Go.condB rfl (fun hc => ?_) (fun hc => ?_))
    refine ⟨(by first | exact .inl rfl | exact .inr rfl), fin ?_⟩
    rw [resD_cell (fn := Try.f23) rfl]
    simp only [optThen_some, resultD_tmp, resultD_cell, G, Z, Y, un_neg, Int.reduceEq, Int.reduceLE, cutD, Nat.reduceBEq, Nat.reduceAdd, Nat.reduceMul, Nat.reduceSub, Nat.reducePow, Nat.reduceLT, Nat.reduceGT, Nat.reduceLeDiff, Nat.reduceEqDiff, Int.reduceToNat, gt_iff_lt, if_true, if_false, beq_self_eq_true, reduceIte, decide_true, decide_false, fd2_0, fd2_1, fd2_2, fd2_3, fd2_4, fd2_5, fd2_6, fd2_7, fd2_8, fd2_9, fd3_0, fd3_1, fd3_2, fd3_3, fd3_4, fd3_5, fd3_6, fd3_7, fd3_8, fd3_9, fd4_0, fd4_1, fd4_2, fd4_3, fd4_4, fd9_0, fd9_1, fd9_2, fd9_3, fd9_4, fd9_5, fd9_6, fd9_7, fd25_0, fd25_1, fd25_2, fd25_3, fd25_4, fd25_5, fd25_6, fd25_7, fd25_8, fd25_9, fd25_10, fd25_11, fd25_12, fd25_13, fd25_14, fd25_15, fd25_16, fd25_17, fd25_18, fd25_19, fd25_20, fd25_21, fd25_22, fd25_23, fd39_0, fd39_1, fd39_2, fd39_3, fd39_4, fd39_5, fd39_6, fd39_7, fd39_8, fd39_9, fd39_10, fd39_11, fd56_0, fd56_1, fd56_2, fd56_3, fd56_4, fd56_5, fd56_6, fd56_7]
    exact ⟨_, _, rfl, .of_low (.agg' (.cons (.int _ _) (.cons (.bool _) .nil))), by simp [lookN, hlk, gotC]⟩
  | some v =>
    simp only [hlk, Option.getD_some, Option.isSome_some, Val.c] at hg
    repeat' (first
      | refine Go.seq ?_
      | refine Go.rg ?_
      | refine GoR.nil ?_
      | refine Go.skip ?_
      | refine Go.ret ?_
      | refine Go.block ?_
      | refine Go.exit ?_
      | refine Go.blkX ?_
      | refine Go.blkN ?_
      | refine Go.passX ?_
      | refine Go.lpX ?_
      | (refine Go.blkE (by decide) ?_)
      | (refine Go.rgS dmx (by decide) ?_)
      | ((first | refine GoR.op (by decide) (by rfl) ?_ | refine GoR.opG (by decide) (by rfl) (by rfl) ?_)
         conv => arg 1; simp only [G, Z, Y, un_neg, Int.reduceEq, Int.reduceLE, cutD, Nat.reduceBEq, Nat.reduceAdd, Nat.reduceMul, Nat.reduceSub, Nat.reducePow, Nat.reduceLT, Nat.reduceGT, Nat.reduceLeDiff, Nat.reduceEqDiff, Int.reduceToNat, gt_iff_lt, if_true, if_false, beq_self_eq_true, reduceIte, decide_true, decide_false, fd2_0, fd2_1, fd2_2, fd2_3, fd2_4, fd2_5, fd2_6, fd2_7, fd2_8, fd2_9, fd3_0, fd3_1, fd3_2, fd3_3, fd3_4, fd3_5, fd3_6, fd3_7, fd3_8, fd3_9, fd4_0, fd4_1, fd4_2, fd4_3, fd4_4, fd9_0, fd9_1, fd9_2, fd9_3, fd9_4, fd9_5, fd9_6, fd9_7, fd25_0, fd25_1, fd25_2, fd25_3, fd25_4, fd25_5, fd25_6, fd25_7, fd25_8, fd25_9, fd25_10, fd25_11, fd25_12, fd25_13, fd25_14, fd25_15, fd25_16, fd25_17, fd25_18, fd25_19, fd25_20, fd25_21, fd25_22, fd25_23, fd39_0, fd39_1, fd39_2, fd39_3, fd39_4, fd39_5, fd39_6, fd39_7, fd39_8, fd39_9, fd39_10, fd39_11, fd56_0, fd56_1, fd56_2, fd56_3, fd56_4, fd56_5, fd56_6, fd56_7]
         show GoR _ _ _ _ _ _ _ _ _ _)
      | ((first | refine GoR.call (f := 31) (by decide) (by rfl) rfl Try.func31 (by decide) (by rfl) ?_ | refine GoR.callG (f := 31) (by decide) (by rfl) (by rfl) rfl Try.func31 (by decide) (by rfl) ?_)
         (refine (hg _).ret ?_))
      | refine Go.condT (by rfl) ?_
      | refine Go.condF (by rfl) ?_
      | refine GoR.skipG (by decide) rfl rfl ?_
      | (refine GoR.splitG rfl (fun hc => ?_) (fun hc => ?_) <;> simp only [hc])
      | refine Go.condB rfl (fun hc => ?_) (fun hc => ?_))
    all_goals
      refine ⟨(by first | exact .inl rfl | exact .inr rfl), fin ?_⟩
      rw [resD_cell (fn := Try.f23) rfl]
      simp only [optThen_some, resultD_tmp, resultD_cell, G, Z, Y, un_neg, Int.reduceEq, Int.reduceLE, cutD, Nat.reduceBEq, Nat.reduceAdd, Nat.reduceMul, Nat.reduceSub, Nat.reducePow, Nat.reduceLT, Nat.reduceGT, Nat.reduceLeDiff, Nat.reduceEqDiff, Int.reduceToNat, gt_iff_lt, if_true, if_false, beq_self_eq_true, reduceIte, decide_true, decide_false, fd2_0, fd2_1, fd2_2, fd2_3, fd2_4, fd2_5, fd2_6, fd2_7, fd2_8, fd2_9, fd3_0, fd3_1, fd3_2, fd3_3, fd3_4, fd3_5, fd3_6, fd3_7, fd3_8, fd3_9, fd4_0, fd4_1, fd4_2, fd4_3, fd4_4, fd9_0, fd9_1, fd9_2, fd9_3, fd9_4, fd9_5, fd9_6, fd9_7, fd25_0, fd25_1, fd25_2, fd25_3, fd25_4, fd25_5, fd25_6, fd25_7, fd25_8, fd25_9, fd25_10, fd25_11, fd25_12, fd25_13, fd25_14, fd25_15, fd25_16, fd25_17, fd25_18, fd25_19, fd25_20, fd25_21, fd25_22, fd25_23, fd39_0, fd39_1, fd39_2, fd39_3, fd39_4, fd39_5, fd39_6, fd39_7, fd39_8, fd39_9, fd39_10, fd39_11, fd56_0, fd56_1, fd56_2, fd56_3, fd56_4, fd56_5, fd56_6, fd56_7]
      refine ⟨_, _, rfl, .of_low (.agg' (.cons (.int _ _) (.cons (.bool _) .nil))), ?_⟩
      simp_all [lookN, gotC]

/-- What a node comes to, out of its parts. -/
def nodeS (l : List Att) (op nm : ByteArray) (n : Int) (ks : List (Option Int)) : Option Int :=
  if ks.any (·.isNone) then none else
  if op = (⟨#[110, 117, 109]⟩ : ByteArray) then some n else if op = (⟨#[110, 97, 109, 101]⟩ : ByteArray) then lookN l nm else
  match ks with
  | [some a] => if op = (⟨#[110, 101, 103]⟩ : ByteArray) then some (clamp (0 - a)) else none
  | [some a, some b] => twoS op a b
  | _ => none

theorem eval1 (l : List Att) (hr : RiseB Att.n l) (hl : l.length < 1000000) (hv : ∀ a ∈ l, a.v.l.length < 1000000) (op nm : ByteArray) (n : Int) (kc : List D) (kl : Nat) (ks : List (Option Int)) (hks : ks.length ≤ 1000) (hin : ∀ k ∈ ks, oin k) (own : Option Nat) (p : Nat) (S : Mem)
    (hp : objAt S p = some [.sl none 5 l.length (attsC l)]) :
    CallD Try.prog orc 22 [.agg [.str op, .str nm, .int .i64 n, .sl none 4 kl kc], .sl own 2 ks.length (gotsC ks), .ptr p 0] S fun d S' => S' = S ∧ d = .agg (gotC (nodeS l op nm n ks)) := by
  have hpa : ∀ E, objAt (S ++ E) p = some [.sl none 5 l.length (attsC l)] := fun E => objAt_old hp
  refine CallD.drop ?_
  refine CallD.body Try.func22 rfl (by simp [Try.ntmps22]) ?_
  rw [Try.ntmps22]
  repeat' (first
    | refine Go.seq ?_
    | refine Go.rg ?_
    | refine GoR.nil ?_
    | refine Go.skip ?_
    | refine Go.ret ?_
    | refine Go.block ?_
    | refine Go.exit ?_
    | refine Go.blkX ?_
    | refine Go.blkN ?_
    | refine Go.passX ?_
    | refine Go.lpX ?_
    | (refine Go.blkE (by decide) ?_)
    | (refine Go.rgS dmx (by decide) ?_)
    | ((first | refine GoR.op (by decide) (by rfl) ?_ | refine GoR.opG (by decide) (by rfl) (by rfl) ?_)
       conv => arg 1; simp only [G, Z, Y, un_neg, Int.reduceEq, Int.reduceLE, cutD, Nat.reduceBEq, Nat.reduceAdd, Nat.reduceMul, Nat.reduceSub, Nat.reducePow, Nat.reduceLT, Nat.reduceGT, Nat.reduceLeDiff, Nat.reduceEqDiff, Int.reduceToNat, gt_iff_lt, if_true, if_false, beq_self_eq_true, reduceIte, decide_true, decide_false, fd2_0, fd2_1, fd2_2, fd2_3, fd2_4, fd2_5, fd2_6, fd2_7, fd2_8, fd2_9, fd3_0, fd3_1, fd3_2, fd3_3, fd3_4, fd3_5, fd3_6, fd3_7, fd3_8, fd3_9, fd4_0, fd4_1, fd4_2, fd4_3, fd4_4, fd9_0, fd9_1, fd9_2, fd9_3, fd9_4, fd9_5, fd9_6, fd9_7, fd22_0, fd22_1, fd22_2, fd22_3, fd22_4, fd22_5, fd22_6, fd22_7, fd22_8, fd22_9, fd22_10, fd22_11, fd22_12, fd22_13, fd22_14, fd22_15, fd22_16, fd22_17, fd22_18, fd22_19, fd22_20, fd22_21, fd22_22, fd22_23, fd24_0, fd24_1, fd24_2, fd24_3, fd24_4, fd24_5, fd24_6, fd24_7, fd24_8, fd24_9, fd24_10, fd24_11, fd36_0, fd36_1, fd36_2, fd36_3, fd36_4, fd36_5, fd36_6, fd36_7, fd36_8, fd36_9, fd36_10, fd36_11, fd36_12, fd36_13, fd36_14, fd36_15, fd36_16, fd36_17, fd36_18, fd36_19, fd36_20, fd36_21, fd36_22, fd36_23, fd56_0, fd56_1, fd56_2, fd56_3, fd56_4, fd56_5, fd56_6, fd56_7, fd58_0, fd58_1, fd58_2, fd58_3, fd58_4, fd58_5, fd58_6, fd58_7, fd58_8, fd58_9, fd58_10, fd58_11, fd58_12, fd58_13, fd58_14, fd58_15, fd58_16, fd58_17, fd58_18, fd58_19, fd58_20, fd58_21, fd58_22, fd58_23]
       show GoR _ _ _ _ _ _ _ _ _ _)
    | refine Go.condT (by rfl) ?_
    | refine Go.condF (by rfl) ?_
    | refine GoR.skipG (by decide) rfl rfl ?_
    | (refine GoR.splitG rfl (fun hc => ?_) (fun hc => ?_) <;> simp only [hc])
    | refine Go.condB rfl (fun hc => ?_) (fun hc => ?_))
  refine Go.keep [(1, .sl own 2 ks.length (gotsC ks)), (2, .ptr p 0), (3, .ptr S.length 0), (5, .ptr (S.length + 1) 0), (8, .sl own 2 ks.length (gotsC ks)), (9, .int .i64 (ks.length : Int)), (10, .int .i64 ((0 : Nat) : Int))] (.cons .refl (.cons .refl (.cons .refl (.cons .refl (.cons .refl (.cons .refl (.cons .refl (.nil)))))))) ?_
  refine Go.while (α := Nat × Mem) (fun a => ks.length - a.1) (fun a => [(1, .sl own 2 ks.length (gotsC ks)), (2, .ptr p 0), (3, .ptr S.length 0), (5, .ptr (S.length + 1) 0), (8, .sl own 2 ks.length (gotsC ks)), (9, .int .i64 (ks.length : Int)), (10, .int .i64 (a.1 : Int))])
    (fun a => S ++ (.obj [.str op, .str nm, .int .i64 n, .sl none 4 kl kc] :: .obj [.int .i64 0, .bool false] :: a.2)) (fun a => a.1 ≤ ks.length ∧ ∀ j (h : j < ks.length), j < a.1 → ks[j].isSome = true) ?_ (0, []) ⟨Nat.zero_le _, by simp⟩
  rintro ⟨i, E⟩ ⟨hi, hk⟩ next
  dsimp only at hi hk next
  by_cases h1 : i < ks.length
  · cases hq : ks[i] with
    | none =>
      repeat' (first
        | refine Go.seq ?_
        | refine Go.rg ?_
        | refine GoR.nil ?_
        | refine Go.skip ?_
        | refine Go.ret ?_
        | refine Go.block ?_
        | refine Go.exit ?_
        | refine Go.blkX ?_
        | refine Go.blkN ?_
        | refine Go.passX ?_
        | refine Go.lpX ?_
        | (refine Go.blkE (by decide) ?_)
        | (refine Go.rgS dmx (by decide) ?_)
        | ((first | refine GoR.op (by decide) (by rfl) ?_ | refine GoR.opG (by decide) (by rfl) (by rfl) ?_)
           conv => arg 1; simp only [G, Z, Y, un_neg, Int.reduceEq, Int.reduceLE, cutD, Nat.reduceBEq, Nat.reduceAdd, Nat.reduceMul, Nat.reduceSub, Nat.reducePow, Nat.reduceLT, Nat.reduceGT, Nat.reduceLeDiff, Nat.reduceEqDiff, Int.reduceToNat, gt_iff_lt, if_true, if_false, beq_self_eq_true, reduceIte, decide_true, decide_false, fd2_0, fd2_1, fd2_2, fd2_3, fd2_4, fd2_5, fd2_6, fd2_7, fd2_8, fd2_9, fd3_0, fd3_1, fd3_2, fd3_3, fd3_4, fd3_5, fd3_6, fd3_7, fd3_8, fd3_9, fd4_0, fd4_1, fd4_2, fd4_3, fd4_4, fd9_0, fd9_1, fd9_2, fd9_3, fd9_4, fd9_5, fd9_6, fd9_7, fd22_0, fd22_1, fd22_2, fd22_3, fd22_4, fd22_5, fd22_6, fd22_7, fd22_8, fd22_9, fd22_10, fd22_11, fd22_12, fd22_13, fd22_14, fd22_15, fd22_16, fd22_17, fd22_18, fd22_19, fd22_20, fd22_21, fd22_22, fd22_23, fd24_0, fd24_1, fd24_2, fd24_3, fd24_4, fd24_5, fd24_6, fd24_7, fd24_8, fd24_9, fd24_10, fd24_11, fd36_0, fd36_1, fd36_2, fd36_3, fd36_4, fd36_5, fd36_6, fd36_7, fd36_8, fd36_9, fd36_10, fd36_11, fd36_12, fd36_13, fd36_14, fd36_15, fd36_16, fd36_17, fd36_18, fd36_19, fd36_20, fd36_21, fd36_22, fd36_23, fd56_0, fd56_1, fd56_2, fd56_3, fd56_4, fd56_5, fd56_6, fd56_7, fd58_0, fd58_1, fd58_2, fd58_3, fd58_4, fd58_5, fd58_6, fd58_7, fd58_8, fd58_9, fd58_10, fd58_11, fd58_12, fd58_13, fd58_14, fd58_15, fd58_16, fd58_17, fd58_18, fd58_19, fd58_20, fd58_21, fd58_22, fd58_23, show decide ((i : Int) < (ks.length : Int)) = true by simp; omega, gotsAt h1, hq, gotC, Option.isSome_none, Option.getD_none, show S.length + (E.length + 1 + 1) = S.length + (E.length + 1 + 1) from rfl]
           show GoR _ _ _ _ _ _ _ _ _ _)
        | refine Go.condT (by rfl) ?_
        | refine Go.condF (by rfl) ?_
        | refine GoR.skipG (by decide) rfl rfl ?_
        | (refine GoR.splitG rfl (fun hc => ?_) (fun hc => ?_) <;> simp only [hc])
        | refine Go.condB rfl (fun hc => ?_) (fun hc => ?_))
      clear next
      refine ⟨(by first | exact .inl rfl | exact .inr rfl), fin ?_⟩
      rw [resD_cell (fn := Try.f22) rfl]
      simp only [optThen_some, resultD_tmp, resultD_cell, G, Z, Y, un_neg, Int.reduceEq, Int.reduceLE, cutD, Nat.reduceBEq, Nat.reduceAdd, Nat.reduceMul, Nat.reduceSub, Nat.reducePow, Nat.reduceLT, Nat.reduceGT, Nat.reduceLeDiff, Nat.reduceEqDiff, Int.reduceToNat, gt_iff_lt, if_true, if_false, beq_self_eq_true, reduceIte, decide_true, decide_false, fd2_0, fd2_1, fd2_2, fd2_3, fd2_4, fd2_5, fd2_6, fd2_7, fd2_8, fd2_9, fd3_0, fd3_1, fd3_2, fd3_3, fd3_4, fd3_5, fd3_6, fd3_7, fd3_8, fd3_9, fd4_0, fd4_1, fd4_2, fd4_3, fd4_4, fd9_0, fd9_1, fd9_2, fd9_3, fd9_4, fd9_5, fd9_6, fd9_7, fd22_0, fd22_1, fd22_2, fd22_3, fd22_4, fd22_5, fd22_6, fd22_7, fd22_8, fd22_9, fd22_10, fd22_11, fd22_12, fd22_13, fd22_14, fd22_15, fd22_16, fd22_17, fd22_18, fd22_19, fd22_20, fd22_21, fd22_22, fd22_23, fd24_0, fd24_1, fd24_2, fd24_3, fd24_4, fd24_5, fd24_6, fd24_7, fd24_8, fd24_9, fd24_10, fd24_11, fd36_0, fd36_1, fd36_2, fd36_3, fd36_4, fd36_5, fd36_6, fd36_7, fd36_8, fd36_9, fd36_10, fd36_11, fd36_12, fd36_13, fd36_14, fd36_15, fd36_16, fd36_17, fd36_18, fd36_19, fd36_20, fd36_21, fd36_22, fd36_23, fd56_0, fd56_1, fd56_2, fd56_3, fd56_4, fd56_5, fd56_6, fd56_7, fd58_0, fd58_1, fd58_2, fd58_3, fd58_4, fd58_5, fd58_6, fd58_7, fd58_8, fd58_9, fd58_10, fd58_11, fd58_12, fd58_13, fd58_14, fd58_15, fd58_16, fd58_17, fd58_18, fd58_19, fd58_20, fd58_21, fd58_22, fd58_23]
      have hnone : nodeS l op nm n ks = none := by
        have : ks.any (·.isNone) = true := by rw [List.any_eq_true]; exact ⟨ks[i], List.getElem_mem _, by simp [hq]⟩
        simp [nodeS, this]
      rw [hnone]
      exact ⟨_, _, rfl, .of_low (.agg' (got_low none)), rfl⟩
    | some x =>
      repeat' (first
        | refine Go.seq ?_
        | refine Go.rg ?_
        | refine GoR.nil ?_
        | refine Go.skip ?_
        | refine Go.ret ?_
        | refine Go.block ?_
        | refine Go.exit ?_
        | refine Go.blkX ?_
        | refine Go.blkN ?_
        | refine Go.passX ?_
        | refine Go.lpX ?_
        | (refine Go.blkE (by decide) ?_)
        | (refine Go.rgS dmx (by decide) ?_)
        | ((first | refine GoR.op (by decide) (by rfl) ?_ | refine GoR.opG (by decide) (by rfl) (by rfl) ?_)
           conv => arg 1; simp only [G, Z, Y, un_neg, Int.reduceEq, Int.reduceLE, cutD, Nat.reduceBEq, Nat.reduceAdd, Nat.reduceMul, Nat.reduceSub, Nat.reducePow, Nat.reduceLT, Nat.reduceGT, Nat.reduceLeDiff, Nat.reduceEqDiff, Int.reduceToNat, gt_iff_lt, if_true, if_false, beq_self_eq_true, reduceIte, decide_true, decide_false, fd2_0, fd2_1, fd2_2, fd2_3, fd2_4, fd2_5, fd2_6, fd2_7, fd2_8, fd2_9, fd3_0, fd3_1, fd3_2, fd3_3, fd3_4, fd3_5, fd3_6, fd3_7, fd3_8, fd3_9, fd4_0, fd4_1, fd4_2, fd4_3, fd4_4, fd9_0, fd9_1, fd9_2, fd9_3, fd9_4, fd9_5, fd9_6, fd9_7, fd22_0, fd22_1, fd22_2, fd22_3, fd22_4, fd22_5, fd22_6, fd22_7, fd22_8, fd22_9, fd22_10, fd22_11, fd22_12, fd22_13, fd22_14, fd22_15, fd22_16, fd22_17, fd22_18, fd22_19, fd22_20, fd22_21, fd22_22, fd22_23, fd24_0, fd24_1, fd24_2, fd24_3, fd24_4, fd24_5, fd24_6, fd24_7, fd24_8, fd24_9, fd24_10, fd24_11, fd36_0, fd36_1, fd36_2, fd36_3, fd36_4, fd36_5, fd36_6, fd36_7, fd36_8, fd36_9, fd36_10, fd36_11, fd36_12, fd36_13, fd36_14, fd36_15, fd36_16, fd36_17, fd36_18, fd36_19, fd36_20, fd36_21, fd36_22, fd36_23, fd56_0, fd56_1, fd56_2, fd56_3, fd56_4, fd56_5, fd56_6, fd56_7, fd58_0, fd58_1, fd58_2, fd58_3, fd58_4, fd58_5, fd58_6, fd58_7, fd58_8, fd58_9, fd58_10, fd58_11, fd58_12, fd58_13, fd58_14, fd58_15, fd58_16, fd58_17, fd58_18, fd58_19, fd58_20, fd58_21, fd58_22, fd58_23, show decide ((i : Int) < (ks.length : Int)) = true by simp; omega, gotsAt h1, hq, gotC, wrap_succ (show i < 4611686018427387904 by omega)]
           show GoR _ _ _ _ _ _ _ _ _ _)
        | refine Go.condT (by rfl) ?_
        | refine Go.condF (by rfl) ?_
        | refine GoR.skipG (by decide) rfl rfl ?_
        | (refine GoR.splitG rfl (fun hc => ?_) (fun hc => ?_) <;> simp only [hc])
        | refine Go.condB rfl (fun hc => ?_) (fun hc => ?_))
      refine Go.lpN ?_
      refine Go.keep [(1, .sl own 2 ks.length (gotsC ks)), (2, .ptr p 0), (3, .ptr S.length 0), (5, .ptr (S.length + 1) 0), (8, .sl own 2 ks.length (gotsC ks)), (9, .int .i64 (ks.length : Int)), (10, .int .i64 ((i + 1 : Nat) : Int))] (.cons .refl (.cons .refl (.cons .refl (.cons .refl (.cons .refl (.cons .refl (.cons .refl (.nil)))))))) ?_
      refine next (i + 1, E ++ [.obj (gotC (some x))]) (by dsimp only; omega) ⟨h1, fun j hj hlt => ?_⟩
      dsimp only at hlt
      rcases Nat.lt_or_ge j i with h | h
      · exact hk j hj h
      · obtain rfl : j = i := by omega
        simp [hq]
  · clear next
    have hall : ∀ k ∈ ks, k.isSome = true := by
      intro k hkm
      obtain ⟨j, hj, rfl⟩ := List.mem_iff_getElem.1 hkm
      exact hk j hj (by omega)
    have hii : i = ks.length := by omega
    subst hii
    clear hk hi h1
    have hany : ks.any (·.isNone) = false := by
      rw [List.any_eq_false]
      intro k hkm
      cases k with
      | none => have := hall none hkm; simp at this
      | some k => simp
    have hname := fun S => named (orc := orc) l nm hr hl hv S
    rcases ks with _ | ⟨x, _ | ⟨y, _ | ⟨z, r⟩⟩⟩
    · repeat' (first
        | refine Go.seq ?_
        | refine Go.rg ?_
        | refine GoR.nil ?_
        | refine Go.skip ?_
        | refine Go.ret ?_
        | refine Go.block ?_
        | refine Go.exit ?_
        | refine Go.blkX ?_
        | refine Go.blkN ?_
        | refine Go.passX ?_
        | refine Go.lpX ?_
        | (refine Go.blkE (by decide) ?_)
        | (refine Go.rgS dmx (by decide) ?_)
        | ((first | refine GoR.op (by decide) (by rfl) ?_ | refine GoR.opG (by decide) (by rfl) (by rfl) ?_)
           conv => arg 1; simp only [G, Z, Y, un_neg, Int.reduceEq, Int.reduceLE, cutD, Nat.reduceBEq, Nat.reduceAdd, Nat.reduceMul, Nat.reduceSub, Nat.reducePow, Nat.reduceLT, Nat.reduceGT, Nat.reduceLeDiff, Nat.reduceEqDiff, Int.reduceToNat, gt_iff_lt, if_true, if_false, beq_self_eq_true, reduceIte, decide_true, decide_false, fd2_0, fd2_1, fd2_2, fd2_3, fd2_4, fd2_5, fd2_6, fd2_7, fd2_8, fd2_9, fd3_0, fd3_1, fd3_2, fd3_3, fd3_4, fd3_5, fd3_6, fd3_7, fd3_8, fd3_9, fd4_0, fd4_1, fd4_2, fd4_3, fd4_4, fd9_0, fd9_1, fd9_2, fd9_3, fd9_4, fd9_5, fd9_6, fd9_7, fd22_0, fd22_1, fd22_2, fd22_3, fd22_4, fd22_5, fd22_6, fd22_7, fd22_8, fd22_9, fd22_10, fd22_11, fd22_12, fd22_13, fd22_14, fd22_15, fd22_16, fd22_17, fd22_18, fd22_19, fd22_20, fd22_21, fd22_22, fd22_23, fd24_0, fd24_1, fd24_2, fd24_3, fd24_4, fd24_5, fd24_6, fd24_7, fd24_8, fd24_9, fd24_10, fd24_11, fd36_0, fd36_1, fd36_2, fd36_3, fd36_4, fd36_5, fd36_6, fd36_7, fd36_8, fd36_9, fd36_10, fd36_11, fd36_12, fd36_13, fd36_14, fd36_15, fd36_16, fd36_17, fd36_18, fd36_19, fd36_20, fd36_21, fd36_22, fd36_23, fd56_0, fd56_1, fd56_2, fd56_3, fd56_4, fd56_5, fd56_6, fd56_7, fd58_0, fd58_1, fd58_2, fd58_3, fd58_4, fd58_5, fd58_6, fd58_7, fd58_8, fd58_9, fd58_10, fd58_11, fd58_12, fd58_13, fd58_14, fd58_15, fd58_16, fd58_17, fd58_18, fd58_19, fd58_20, fd58_21, fd58_22, fd58_23, hpa, List.length_nil, show decide (((0 : Nat) : Int) < ((0 : Nat) : Int)) = false by decide, show (((0 : Nat) : Int) == 1) = false by decide, show (((0 : Nat) : Int) == 2) = false by decide, gotC]
           show GoR _ _ _ _ _ _ _ _ _ _)
        | ((first | refine GoR.call (f := 23) (by decide) (by rfl) rfl Try.func23 (by decide) (by rfl) ?_ | refine GoR.callG (f := 23) (by decide) (by rfl) (by rfl) rfl Try.func23 (by decide) (by rfl) ?_)
           (refine (hname _).ret ?_))
        | refine Go.condT (by rfl) ?_
        | refine Go.condF (by rfl) ?_
        | refine GoR.skipG (by decide) rfl rfl ?_
        | (refine GoR.splitG rfl (fun hc => ?_) (fun hc => ?_) <;> simp only [hc])
        | refine Go.condB rfl (fun hc => ?_) (fun hc => ?_))
      all_goals
        refine ⟨(by first | exact .inl rfl | exact .inr rfl), fin ?_⟩
        rw [resD_cell (fn := Try.f22) rfl]
        simp only [optThen_some, resultD_tmp, resultD_cell, G, Z, Y, un_neg, Int.reduceEq, Int.reduceLE, cutD, Nat.reduceBEq, Nat.reduceAdd, Nat.reduceMul, Nat.reduceSub, Nat.reducePow, Nat.reduceLT, Nat.reduceGT, Nat.reduceLeDiff, Nat.reduceEqDiff, Int.reduceToNat, gt_iff_lt, if_true, if_false, beq_self_eq_true, reduceIte, decide_true, decide_false, fd2_0, fd2_1, fd2_2, fd2_3, fd2_4, fd2_5, fd2_6, fd2_7, fd2_8, fd2_9, fd3_0, fd3_1, fd3_2, fd3_3, fd3_4, fd3_5, fd3_6, fd3_7, fd3_8, fd3_9, fd4_0, fd4_1, fd4_2, fd4_3, fd4_4, fd9_0, fd9_1, fd9_2, fd9_3, fd9_4, fd9_5, fd9_6, fd9_7, fd22_0, fd22_1, fd22_2, fd22_3, fd22_4, fd22_5, fd22_6, fd22_7, fd22_8, fd22_9, fd22_10, fd22_11, fd22_12, fd22_13, fd22_14, fd22_15, fd22_16, fd22_17, fd22_18, fd22_19, fd22_20, fd22_21, fd22_22, fd22_23, fd24_0, fd24_1, fd24_2, fd24_3, fd24_4, fd24_5, fd24_6, fd24_7, fd24_8, fd24_9, fd24_10, fd24_11, fd36_0, fd36_1, fd36_2, fd36_3, fd36_4, fd36_5, fd36_6, fd36_7, fd36_8, fd36_9, fd36_10, fd36_11, fd36_12, fd36_13, fd36_14, fd36_15, fd36_16, fd36_17, fd36_18, fd36_19, fd36_20, fd36_21, fd36_22, fd36_23, fd56_0, fd56_1, fd56_2, fd56_3, fd56_4, fd56_5, fd56_6, fd56_7, fd58_0, fd58_1, fd58_2, fd58_3, fd58_4, fd58_5, fd58_6, fd58_7, fd58_8, fd58_9, fd58_10, fd58_11, fd58_12, fd58_13, fd58_14, fd58_15, fd58_16, fd58_17, fd58_18, fd58_19, fd58_20, fd58_21, fd58_22, fd58_23]
        refine ⟨_, _, rfl, .of_low (.agg' (.cons (.int _ _) (.cons (.bool _) .nil))), ?_⟩
        simp_all [nodeS, gotC]
    · cases x with
      | none => have := hall none (by simp); simp at this
      | some a =>
        have ha : in64 a := hin (some a) (by simp) a rfl
        repeat' (first
          | refine Go.seq ?_
          | refine Go.rg ?_
          | refine GoR.nil ?_
          | refine Go.skip ?_
          | refine Go.ret ?_
          | refine Go.block ?_
          | refine Go.exit ?_
          | refine Go.blkX ?_
          | refine Go.blkN ?_
          | refine Go.passX ?_
          | refine Go.lpX ?_
          | (refine Go.blkE (by decide) ?_)
          | (refine Go.rgS dmx (by decide) ?_)
          | ((first | refine GoR.op (by decide) (by rfl) ?_ | refine GoR.opG (by decide) (by rfl) (by rfl) ?_)
             conv => arg 1; simp only [G, Z, Y, un_neg, Int.reduceEq, Int.reduceLE, cutD, Nat.reduceBEq, Nat.reduceAdd, Nat.reduceMul, Nat.reduceSub, Nat.reducePow, Nat.reduceLT, Nat.reduceGT, Nat.reduceLeDiff, Nat.reduceEqDiff, Int.reduceToNat, gt_iff_lt, if_true, if_false, beq_self_eq_true, reduceIte, decide_true, decide_false, fd2_0, fd2_1, fd2_2, fd2_3, fd2_4, fd2_5, fd2_6, fd2_7, fd2_8, fd2_9, fd3_0, fd3_1, fd3_2, fd3_3, fd3_4, fd3_5, fd3_6, fd3_7, fd3_8, fd3_9, fd4_0, fd4_1, fd4_2, fd4_3, fd4_4, fd9_0, fd9_1, fd9_2, fd9_3, fd9_4, fd9_5, fd9_6, fd9_7, fd22_0, fd22_1, fd22_2, fd22_3, fd22_4, fd22_5, fd22_6, fd22_7, fd22_8, fd22_9, fd22_10, fd22_11, fd22_12, fd22_13, fd22_14, fd22_15, fd22_16, fd22_17, fd22_18, fd22_19, fd22_20, fd22_21, fd22_22, fd22_23, fd24_0, fd24_1, fd24_2, fd24_3, fd24_4, fd24_5, fd24_6, fd24_7, fd24_8, fd24_9, fd24_10, fd24_11, fd36_0, fd36_1, fd36_2, fd36_3, fd36_4, fd36_5, fd36_6, fd36_7, fd36_8, fd36_9, fd36_10, fd36_11, fd36_12, fd36_13, fd36_14, fd36_15, fd36_16, fd36_17, fd36_18, fd36_19, fd36_20, fd36_21, fd36_22, fd36_23, fd56_0, fd56_1, fd56_2, fd56_3, fd56_4, fd56_5, fd56_6, fd56_7, fd58_0, fd58_1, fd58_2, fd58_3, fd58_4, fd58_5, fd58_6, fd58_7, fd58_8, fd58_9, fd58_10, fd58_11, fd58_12, fd58_13, fd58_14, fd58_15, fd58_16, fd58_17, fd58_18, fd58_19, fd58_20, fd58_21, fd58_22, fd58_23, hpa, show gotsC [some a] = [.int .i64 a, .bool true] from rfl, show decide (((1 : Nat) : Int) < ((1 : Nat) : Int)) = false by decide, show (((1 : Nat) : Int) == 1) = true by decide, show (((1 : Nat) : Int) == 2) = false by decide, show ((0 : Int) < ((1 : Nat) : Int)) = True by simp, gotC]
             show GoR _ _ _ _ _ _ _ _ _ _)
          | ((first | refine GoR.call (f := 23) (by decide) (by rfl) rfl Try.func23 (by decide) (by rfl) ?_ | refine GoR.callG (f := 23) (by decide) (by rfl) (by rfl) rfl Try.func23 (by decide) (by rfl) ?_)
             (refine (hname _).ret ?_))
          | ((first | refine GoR.call (f := 24) (by decide) (by rfl) rfl Try.func24 (by decide) (by rfl) ?_ | refine GoR.callG (f := 24) (by decide) (by rfl) (by rfl) rfl Try.func24 (by decide) (by rfl) ?_)
             (refine (valSub _ _ ⟨by decide, by decide⟩ ha _).ret ?_))
          | refine Go.condT (by rfl) ?_
          | refine Go.condF (by rfl) ?_
          | refine GoR.skipG (by decide) rfl rfl ?_
          | (refine GoR.splitG rfl (fun hc => ?_) (fun hc => ?_) <;> simp only [hc])
          | refine Go.condB rfl (fun hc => ?_) (fun hc => ?_))
        all_goals
          refine ⟨(by first | exact .inl rfl | exact .inr rfl), fin ?_⟩
          rw [resD_cell (fn := Try.f22) rfl]
          simp only [optThen_some, resultD_tmp, resultD_cell, G, Z, Y, un_neg, Int.reduceEq, Int.reduceLE, cutD, Nat.reduceBEq, Nat.reduceAdd, Nat.reduceMul, Nat.reduceSub, Nat.reducePow, Nat.reduceLT, Nat.reduceGT, Nat.reduceLeDiff, Nat.reduceEqDiff, Int.reduceToNat, gt_iff_lt, if_true, if_false, beq_self_eq_true, reduceIte, decide_true, decide_false, fd2_0, fd2_1, fd2_2, fd2_3, fd2_4, fd2_5, fd2_6, fd2_7, fd2_8, fd2_9, fd3_0, fd3_1, fd3_2, fd3_3, fd3_4, fd3_5, fd3_6, fd3_7, fd3_8, fd3_9, fd4_0, fd4_1, fd4_2, fd4_3, fd4_4, fd9_0, fd9_1, fd9_2, fd9_3, fd9_4, fd9_5, fd9_6, fd9_7, fd22_0, fd22_1, fd22_2, fd22_3, fd22_4, fd22_5, fd22_6, fd22_7, fd22_8, fd22_9, fd22_10, fd22_11, fd22_12, fd22_13, fd22_14, fd22_15, fd22_16, fd22_17, fd22_18, fd22_19, fd22_20, fd22_21, fd22_22, fd22_23, fd24_0, fd24_1, fd24_2, fd24_3, fd24_4, fd24_5, fd24_6, fd24_7, fd24_8, fd24_9, fd24_10, fd24_11, fd36_0, fd36_1, fd36_2, fd36_3, fd36_4, fd36_5, fd36_6, fd36_7, fd36_8, fd36_9, fd36_10, fd36_11, fd36_12, fd36_13, fd36_14, fd36_15, fd36_16, fd36_17, fd36_18, fd36_19, fd36_20, fd36_21, fd36_22, fd36_23, fd56_0, fd56_1, fd56_2, fd56_3, fd56_4, fd56_5, fd56_6, fd56_7, fd58_0, fd58_1, fd58_2, fd58_3, fd58_4, fd58_5, fd58_6, fd58_7, fd58_8, fd58_9, fd58_10, fd58_11, fd58_12, fd58_13, fd58_14, fd58_15, fd58_16, fd58_17, fd58_18, fd58_19, fd58_20, fd58_21, fd58_22, fd58_23]
          refine ⟨_, _, rfl, .of_low (.agg' (.cons (.int _ _) (.cons (.bool _) .nil))), ?_⟩
          simp_all [nodeS, gotC]
    · cases x with
      | none => have := hall none (by simp); simp at this
      | some a =>
        cases y with
        | none => have := hall none (by simp); simp at this
        | some b =>
          have ha : in64 a := hin (some a) (by simp) a rfl
          have hb : in64 b := hin (some b) (by simp) b rfl
          repeat' (first
            | refine Go.seq ?_
            | refine Go.rg ?_
            | refine GoR.nil ?_
            | refine Go.skip ?_
            | refine Go.ret ?_
            | refine Go.block ?_
            | refine Go.exit ?_
            | refine Go.blkX ?_
            | refine Go.blkN ?_
            | refine Go.passX ?_
            | refine Go.lpX ?_
            | (refine Go.blkE (by decide) ?_)
            | (refine Go.rgS dmx (by decide) ?_)
            | ((first | refine GoR.op (by decide) (by rfl) ?_ | refine GoR.opG (by decide) (by rfl) (by rfl) ?_)
               conv => arg 1; simp only [G, Z, Y, un_neg, Int.reduceEq, Int.reduceLE, cutD, Nat.reduceBEq, Nat.reduceAdd, Nat.reduceMul, Nat.reduceSub, Nat.reducePow, Nat.reduceLT, Nat.reduceGT, Nat.reduceLeDiff, Nat.reduceEqDiff, Int.reduceToNat, gt_iff_lt, if_true, if_false, beq_self_eq_true, reduceIte, decide_true, decide_false, fd2_0, fd2_1, fd2_2, fd2_3, fd2_4, fd2_5, fd2_6, fd2_7, fd2_8, fd2_9, fd3_0, fd3_1, fd3_2, fd3_3, fd3_4, fd3_5, fd3_6, fd3_7, fd3_8, fd3_9, fd4_0, fd4_1, fd4_2, fd4_3, fd4_4, fd9_0, fd9_1, fd9_2, fd9_3, fd9_4, fd9_5, fd9_6, fd9_7, fd22_0, fd22_1, fd22_2, fd22_3, fd22_4, fd22_5, fd22_6, fd22_7, fd22_8, fd22_9, fd22_10, fd22_11, fd22_12, fd22_13, fd22_14, fd22_15, fd22_16, fd22_17, fd22_18, fd22_19, fd22_20, fd22_21, fd22_22, fd22_23, fd24_0, fd24_1, fd24_2, fd24_3, fd24_4, fd24_5, fd24_6, fd24_7, fd24_8, fd24_9, fd24_10, fd24_11, fd36_0, fd36_1, fd36_2, fd36_3, fd36_4, fd36_5, fd36_6, fd36_7, fd36_8, fd36_9, fd36_10, fd36_11, fd36_12, fd36_13, fd36_14, fd36_15, fd36_16, fd36_17, fd36_18, fd36_19, fd36_20, fd36_21, fd36_22, fd36_23, fd56_0, fd56_1, fd56_2, fd56_3, fd56_4, fd56_5, fd56_6, fd56_7, fd58_0, fd58_1, fd58_2, fd58_3, fd58_4, fd58_5, fd58_6, fd58_7, fd58_8, fd58_9, fd58_10, fd58_11, fd58_12, fd58_13, fd58_14, fd58_15, fd58_16, fd58_17, fd58_18, fd58_19, fd58_20, fd58_21, fd58_22, fd58_23, hpa, show gotsC [some a, some b] = [.int .i64 a, .bool true, .int .i64 b, .bool true] from rfl, show decide (((2 : Nat) : Int) < ((2 : Nat) : Int)) = false by decide, show (((2 : Nat) : Int) == 1) = false by decide, show (((2 : Nat) : Int) == 2) = true by decide, show ((0 : Int) < ((2 : Nat) : Int)) = True by simp, show ((1 : Int) < ((2 : Nat) : Int)) = True by simp, gotC]
               show GoR _ _ _ _ _ _ _ _ _ _)
            | ((first | refine GoR.call (f := 23) (by decide) (by rfl) rfl Try.func23 (by decide) (by rfl) ?_ | refine GoR.callG (f := 23) (by decide) (by rfl) (by rfl) rfl Try.func23 (by decide) (by rfl) ?_)
               (refine (hname _).ret ?_))
            | ((first | refine GoR.call (f := 25) (by decide) (by rfl) rfl Try.func25 (by decide) (by rfl) ?_ | refine GoR.callG (f := 25) (by decide) (by rfl) (by rfl) rfl Try.func25 (by decide) (by rfl) ?_)
               (refine (two _ _ _ ha hb _).ret ?_))
            | refine Go.condT (by rfl) ?_
            | refine Go.condF (by rfl) ?_
            | refine GoR.skipG (by decide) rfl rfl ?_
            | (refine GoR.splitG rfl (fun hc => ?_) (fun hc => ?_) <;> simp only [hc])
            | refine Go.condB rfl (fun hc => ?_) (fun hc => ?_))
          all_goals
            refine ⟨(by first | exact .inl rfl | exact .inr rfl), fin ?_⟩
            rw [resD_cell (fn := Try.f22) rfl]
            simp only [optThen_some, resultD_tmp, resultD_cell, G, Z, Y, un_neg, Int.reduceEq, Int.reduceLE, cutD, Nat.reduceBEq, Nat.reduceAdd, Nat.reduceMul, Nat.reduceSub, Nat.reducePow, Nat.reduceLT, Nat.reduceGT, Nat.reduceLeDiff, Nat.reduceEqDiff, Int.reduceToNat, gt_iff_lt, if_true, if_false, beq_self_eq_true, reduceIte, decide_true, decide_false, fd2_0, fd2_1, fd2_2, fd2_3, fd2_4, fd2_5, fd2_6, fd2_7, fd2_8, fd2_9, fd3_0, fd3_1, fd3_2, fd3_3, fd3_4, fd3_5, fd3_6, fd3_7, fd3_8, fd3_9, fd4_0, fd4_1, fd4_2, fd4_3, fd4_4, fd9_0, fd9_1, fd9_2, fd9_3, fd9_4, fd9_5, fd9_6, fd9_7, fd22_0, fd22_1, fd22_2, fd22_3, fd22_4, fd22_5, fd22_6, fd22_7, fd22_8, fd22_9, fd22_10, fd22_11, fd22_12, fd22_13, fd22_14, fd22_15, fd22_16, fd22_17, fd22_18, fd22_19, fd22_20, fd22_21, fd22_22, fd22_23, fd24_0, fd24_1, fd24_2, fd24_3, fd24_4, fd24_5, fd24_6, fd24_7, fd24_8, fd24_9, fd24_10, fd24_11, fd36_0, fd36_1, fd36_2, fd36_3, fd36_4, fd36_5, fd36_6, fd36_7, fd36_8, fd36_9, fd36_10, fd36_11, fd36_12, fd36_13, fd36_14, fd36_15, fd36_16, fd36_17, fd36_18, fd36_19, fd36_20, fd36_21, fd36_22, fd36_23, fd56_0, fd56_1, fd56_2, fd56_3, fd56_4, fd56_5, fd56_6, fd56_7, fd58_0, fd58_1, fd58_2, fd58_3, fd58_4, fd58_5, fd58_6, fd58_7, fd58_8, fd58_9, fd58_10, fd58_11, fd58_12, fd58_13, fd58_14, fd58_15, fd58_16, fd58_17, fd58_18, fd58_19, fd58_20, fd58_21, fd58_22, fd58_23]
            refine ⟨_, _, rfl, .of_low (.agg' (.cons (.int _ _) (.cons (.bool _) .nil))), ?_⟩
            simp_all [nodeS, gotC]
    · have hnode : nodeS l op nm n (x :: y :: z :: r) = if op = (⟨#[110, 117, 109]⟩ : ByteArray) then some n else if op = (⟨#[110, 97, 109, 101]⟩ : ByteArray) then lookN l nm else none := by
        simp only [nodeS, hany, Bool.false_eq_true, if_false]
      rw [hnode]
      clear hnode hany hall hin
      repeat' (first
        | refine Go.seq ?_
        | refine Go.rg ?_
        | refine GoR.nil ?_
        | refine Go.skip ?_
        | refine Go.ret ?_
        | refine Go.block ?_
        | refine Go.exit ?_
        | refine Go.blkX ?_
        | refine Go.blkN ?_
        | refine Go.passX ?_
        | refine Go.lpX ?_
        | (refine Go.blkE (by decide) ?_)
        | (refine Go.rgS dmx (by decide) ?_)
        | ((first | refine GoR.op (by decide) (by rfl) ?_ | refine GoR.opG (by decide) (by rfl) (by rfl) ?_)
           conv => arg 1; simp only [G, Z, Y, un_neg, Int.reduceEq, Int.reduceLE, cutD, Nat.reduceBEq, Nat.reduceAdd, Nat.reduceMul, Nat.reduceSub, Nat.reducePow, Nat.reduceLT, Nat.reduceGT, Nat.reduceLeDiff, Nat.reduceEqDiff, Int.reduceToNat, gt_iff_lt, if_true, if_false, beq_self_eq_true, reduceIte, decide_true, decide_false, fd2_0, fd2_1, fd2_2, fd2_3, fd2_4, fd2_5, fd2_6, fd2_7, fd2_8, fd2_9, fd3_0, fd3_1, fd3_2, fd3_3, fd3_4, fd3_5, fd3_6, fd3_7, fd3_8, fd3_9, fd4_0, fd4_1, fd4_2, fd4_3, fd4_4, fd9_0, fd9_1, fd9_2, fd9_3, fd9_4, fd9_5, fd9_6, fd9_7, fd22_0, fd22_1, fd22_2, fd22_3, fd22_4, fd22_5, fd22_6, fd22_7, fd22_8, fd22_9, fd22_10, fd22_11, fd22_12, fd22_13, fd22_14, fd22_15, fd22_16, fd22_17, fd22_18, fd22_19, fd22_20, fd22_21, fd22_22, fd22_23, fd24_0, fd24_1, fd24_2, fd24_3, fd24_4, fd24_5, fd24_6, fd24_7, fd24_8, fd24_9, fd24_10, fd24_11, fd36_0, fd36_1, fd36_2, fd36_3, fd36_4, fd36_5, fd36_6, fd36_7, fd36_8, fd36_9, fd36_10, fd36_11, fd36_12, fd36_13, fd36_14, fd36_15, fd36_16, fd36_17, fd36_18, fd36_19, fd36_20, fd36_21, fd36_22, fd36_23, fd56_0, fd56_1, fd56_2, fd56_3, fd56_4, fd56_5, fd56_6, fd56_7, fd58_0, fd58_1, fd58_2, fd58_3, fd58_4, fd58_5, fd58_6, fd58_7, fd58_8, fd58_9, fd58_10, fd58_11, fd58_12, fd58_13, fd58_14, fd58_15, fd58_16, fd58_17, fd58_18, fd58_19, fd58_20, fd58_21, fd58_22, fd58_23, hpa, show decide (((r.length + 1 + 1 + 1 : Nat) : Int) < ((r.length + 1 + 1 + 1 : Nat) : Int)) = false by simp, show (((r.length + 1 + 1 + 1 : Nat) : Int) == 1) = false by simp; omega, show (((r.length + 1 + 1 + 1 : Nat) : Int) == 2) = false by simp; omega, gotC]
           show GoR _ _ _ _ _ _ _ _ _ _)
        | ((first | refine GoR.call (f := 23) (by decide) (by rfl) rfl Try.func23 (by decide) (by rfl) ?_ | refine GoR.callG (f := 23) (by decide) (by rfl) (by rfl) rfl Try.func23 (by decide) (by rfl) ?_)
           (refine (hname _).ret ?_))
        | refine Go.condT (by rfl) ?_
        | refine Go.condF (by rfl) ?_
        | refine GoR.skipG (by decide) rfl rfl ?_
        | (refine GoR.splitG rfl (fun hc => ?_) (fun hc => ?_) <;> simp only [hc])
        | refine Go.condB rfl (fun hc => ?_) (fun hc => ?_))
      all_goals
        refine ⟨(by first | exact .inl rfl | exact .inr rfl), fin ?_⟩
        rw [resD_cell (fn := Try.f22) rfl]
        simp only [optThen_some, resultD_tmp, resultD_cell, G, Z, Y, un_neg, Int.reduceEq, Int.reduceLE, cutD, Nat.reduceBEq, Nat.reduceAdd, Nat.reduceMul, Nat.reduceSub, Nat.reducePow, Nat.reduceLT, Nat.reduceGT, Nat.reduceLeDiff, Nat.reduceEqDiff, Int.reduceToNat, gt_iff_lt, if_true, if_false, beq_self_eq_true, reduceIte, decide_true, decide_false, fd2_0, fd2_1, fd2_2, fd2_3, fd2_4, fd2_5, fd2_6, fd2_7, fd2_8, fd2_9, fd3_0, fd3_1, fd3_2, fd3_3, fd3_4, fd3_5, fd3_6, fd3_7, fd3_8, fd3_9, fd4_0, fd4_1, fd4_2, fd4_3, fd4_4, fd9_0, fd9_1, fd9_2, fd9_3, fd9_4, fd9_5, fd9_6, fd9_7, fd22_0, fd22_1, fd22_2, fd22_3, fd22_4, fd22_5, fd22_6, fd22_7, fd22_8, fd22_9, fd22_10, fd22_11, fd22_12, fd22_13, fd22_14, fd22_15, fd22_16, fd22_17, fd22_18, fd22_19, fd22_20, fd22_21, fd22_22, fd22_23, fd24_0, fd24_1, fd24_2, fd24_3, fd24_4, fd24_5, fd24_6, fd24_7, fd24_8, fd24_9, fd24_10, fd24_11, fd36_0, fd36_1, fd36_2, fd36_3, fd36_4, fd36_5, fd36_6, fd36_7, fd36_8, fd36_9, fd36_10, fd36_11, fd36_12, fd36_13, fd36_14, fd36_15, fd36_16, fd36_17, fd36_18, fd36_19, fd36_20, fd36_21, fd36_22, fd36_23, fd56_0, fd56_1, fd56_2, fd56_3, fd56_4, fd56_5, fd56_6, fd56_7, fd58_0, fd58_1, fd58_2, fd58_3, fd58_4, fd58_5, fd58_6, fd58_7, fd58_8, fd58_9, fd58_10, fd58_11, fd58_12, fd58_13, fd58_14, fd58_15, fd58_16, fd58_17, fd58_18, fd58_19, fd58_20, fd58_21, fd58_22, fd58_23]
        refine ⟨_, _, rfl, .of_low (.agg' (.cons (.int _ _) (.cons (.bool _) .nil))), ?_⟩
        simp_all [gotC]

def evalN (l : List Att) : Nd → Option Int
  | .mk op nm n ks => nodeS l op nm n (ks.attach.map fun ⟨k, _⟩ => evalN l k)
termination_by n => SizeOf.sizeOf n
decreasing_by exact Nd.kid_lt ‹_›
theorem evalN_mk {l : List Att} {op nm : ByteArray} {n : Int} {ks : List Nd} : evalN l (.mk op nm n ks) = nodeS l op nm n (ks.map (evalN l)) := by
  rw [evalN]
  simp

/-- A tree whose numbers are numbers. -/
inductive In64 : Nd → Prop
  | mk {op nm n ks} (h : in64 n) (hk : ∀ k ∈ ks, In64 k) : In64 (.mk op nm n ks)
theorem tmod_in {a b : Int} (ha : in64 a) : in64 (a.tmod b) := by
  have h := Int.natAbs_tmod a b
  have h2 : a.natAbs % b.natAbs ≤ a.natAbs := Nat.mod_le _ _
  obtain ⟨h3, h4⟩ := ha
  have h5 : a < 0 → a.tmod b ≤ 0 := fun h => by have := Int.tmod_nonneg b (a := -a) (by omega); rw [Int.neg_tmod] at this; omega
  unfold in64
  omega
theorem two_in {op : ByteArray} {a b : Int} (ha : in64 a) : oin (twoS op a b) := by
  intro n h
  unfold twoS at h
  repeat' split at h
  all_goals first
    | (cases h; done)
    | (cases h; exact clamp_in _)
    | (cases h; exact tmod_in ha)
theorem look_in {l : List Att} {s : ByteArray} (h : ∀ a ∈ l, in64 a.v.i) : oin (lookN l s) := by
  intro n hn
  unfold lookN look at hn
  cases hf : l.find? (fun a => decide (a.n = s)) with
  | none => simp [hf] at hn
  | some a =>
    simp only [hf, Option.map_some] at hn
    split at hn
    · cases hn; exact h a (List.mem_of_find?_eq_some hf)
    · cases hn
theorem node_in {l : List Att} {op nm : ByteArray} {n : Int} {ks : List (Option Int)} (h : ∀ a ∈ l, in64 a.v.i) (hn : in64 n) (hk : ∀ k ∈ ks, oin k) : oin (nodeS l op nm n ks) := by
  intro m hm
  unfold nodeS at hm
  repeat' split at hm
  all_goals first
    | (cases hm; done)
    | (cases hm; exact hn)
    | exact look_in h m hm
    | (cases hm; exact clamp_in _)
    | exact two_in (hk _ (by simp) _ rfl) m hm
theorem eval_in {l : List Att} (h : ∀ a ∈ l, in64 a.v.i) (n : Nd) (hn : In64 n) : oin (evalN l n) := by
  induction n using Nd.ind with
  | h op nm n ks ih =>
    obtain ⟨h1, h2⟩ := hn
    rw [evalN_mk]
    refine node_in h h1 fun k hk => ?_
    obtain ⟨x, hx, rfl⟩ := List.mem_map.1 hk
    exact ih x hx (h2 x hx)

theorem fold (l : List Att) (hr : RiseB Att.n l) (hl : l.length < 1000000) (hv : ∀ a ∈ l, a.v.l.length < 1000000) (hi : ∀ a ∈ l, in64 a.v.i) (p : Nat) (n : Nd) (hs : Slim 100 n) (hin : In64 n) : ∀ (S : Mem), objAt S p = some [.sl none 5 l.length (attsC l)] →
    CallD Try.prog orc 21 [.agg n.c, .fn (.func 22) [] [.ptr p 0]] S fun d S' => S' = S ∧ d = .agg (gotC (evalN l n)) := by
  induction n using Nd.ind with
  | h op nm n ks ih =>
    intro S hp
    obtain ⟨hnm, hks, hk⟩ := hs
    obtain ⟨hn, hkin⟩ := hin
    have hpa : ∀ E, objAt (S ++ E) p = some [.sl none 5 l.length (attsC l)] := fun E => objAt_old hp
    rw [Nd.c_mk]
    refine CallD.drop ?_
    refine CallD.body Try.func21 rfl (by simp [Try.ntmps21]) ?_
    rw [Try.ntmps21]
    repeat' (first
      | refine Go.seq ?_
      | refine Go.rg ?_
      | refine GoR.nil ?_
      | refine Go.skip ?_
      | refine Go.ret ?_
      | refine Go.block ?_
      | refine Go.exit ?_
      | refine Go.blkX ?_
      | refine Go.blkN ?_
      | refine Go.passX ?_
      | refine Go.lpX ?_
      | (refine Go.blkE (by decide) ?_)
      | (refine Go.rgS dmx (by decide) ?_)
      | ((first | refine GoR.op (by decide) (by rfl) ?_ | refine GoR.opG (by decide) (by rfl) (by rfl) ?_)
         conv => arg 1; simp only [G, Z, Y, un_neg, Int.reduceEq, Int.reduceLE, cutD, Nat.reduceBEq, Nat.reduceAdd, Nat.reduceMul, Nat.reduceSub, Nat.reducePow, Nat.reduceLT, Nat.reduceGT, Nat.reduceLeDiff, Nat.reduceEqDiff, Int.reduceToNat, gt_iff_lt, if_true, if_false, beq_self_eq_true, reduceIte, decide_true, decide_false, fd2_0, fd2_1, fd2_2, fd2_3, fd2_4, fd2_5, fd2_6, fd2_7, fd2_8, fd2_9, fd3_0, fd3_1, fd3_2, fd3_3, fd3_4, fd3_5, fd3_6, fd3_7, fd3_8, fd3_9, fd4_0, fd4_1, fd4_2, fd4_3, fd4_4, fd9_0, fd9_1, fd9_2, fd9_3, fd9_4, fd9_5, fd9_6, fd9_7, fd22_0, fd22_1, fd22_2, fd22_3, fd22_4, fd22_5, fd22_6, fd22_7, fd22_8, fd22_9, fd22_10, fd22_11, fd22_12, fd22_13, fd22_14, fd22_15, fd22_16, fd22_17, fd22_18, fd22_19, fd22_20, fd22_21, fd22_22, fd22_23, fd24_0, fd24_1, fd24_2, fd24_3, fd24_4, fd24_5, fd24_6, fd24_7, fd24_8, fd24_9, fd24_10, fd24_11, fd56_0, fd56_1, fd56_2, fd56_3, fd56_4, fd56_5, fd56_6, fd56_7, fd58_0, fd58_1, fd58_2, fd58_3, fd58_4, fd58_5, fd58_6, fd58_7, fd58_8, fd58_9, fd58_10, fd58_11, fd58_12, fd58_13, fd58_14, fd58_15, fd58_16, fd58_17, fd58_18, fd58_19, fd58_20, fd58_21, fd58_22, fd58_23]
         show GoR _ _ _ _ _ _ _ _ _ _)
      | refine Go.condT (by rfl) ?_
      | refine Go.condF (by rfl) ?_
      | refine GoR.skipG (by decide) rfl rfl ?_
      | (refine GoR.splitG rfl (fun hc => ?_) (fun hc => ?_) <;> simp only [hc])
      | refine Go.condB rfl (fun hc => ?_) (fun hc => ?_))
    refine Go.keep [(1, .fn (.func 22) [] [.ptr p 0]), (2, .ptr S.length 0), (4, .ptr (S.length + 1) 0), (5, .nils), (9, .sl none 4 ks.length (ndsC ks)), (10, .int .i64 (ks.length : Int)), (11, .int .i64 ((0 : Nat) : Int))] (.cons .refl (.cons .refl (.cons .refl (.cons .refl (.cons .refl (.cons .refl (.cons .refl (.nil)))))))) ?_
    refine Go.while (α := Nat × D × Mem) (fun a => ks.length - a.1) (fun a => [(1, .fn (.func 22) [] [.ptr p 0]), (2, .ptr S.length 0), (4, .ptr (S.length + 1) 0), (5, a.2.1), (9, .sl none 4 ks.length (ndsC ks)), (10, .int .i64 (ks.length : Int)), (11, .int .i64 (a.1 : Int))])
      (fun a => S ++ (.obj [.str op, .str nm, .int .i64 n, .sl none 4 ks.length (ndsC ks)] :: .obj [.int .i64 0, .bool false] :: a.2.2))
      (fun a => a.1 ≤ ks.length ∧ AccD (S.length + 2) a.2.1 2 a.1 (gotsC ((ks.take a.1).map (evalN l))) (S ++ (.obj [.str op, .str nm, .int .i64 n, .sl none 4 ks.length (ndsC ks)] :: .obj [.int .i64 0, .bool false] :: a.2.2)))
      ?_ (0, .nils, []) ⟨Nat.zero_le _, .inl ⟨rfl, rfl, rfl⟩⟩
    rintro ⟨i, o, E⟩ ⟨hii, hacc⟩ next
    dsimp only at hii hacc next
    by_cases h1 : i < ks.length
    · have ihk := fun S' hp' => ih _ (List.getElem_mem h1) (hk _ (List.getElem_mem h1)) (hkin _ (List.getElem_mem h1)) S' hp'
      have hmap : gotsC ((ks.take (i + 1)).map (evalN l)) = gotsC ((ks.take i).map (evalN l)) ++ gotC (evalN l ks[i]) := by
        rw [← List.take_append_getElem h1, List.map_append, gotsC, List.flatMap_append]
        simp [gotsC]
      cases hq : ks[i] with
      | mk kop knm kn kks =>
      rw [hq] at ihk hmap
      rw [Nd.c_mk] at ihk
      obtain ⟨o', S2, hap, hacc2, hg2⟩ := (hacc.app [.obj [.str kop, .str knm, .int .i64 kn, .sl none 4 kks.length (ndsC kks)], .own]).append (P := Try.prog) del58 (own := some (S.length + (E.length + 1 + 1 + 1))) (m := 1) (new := gotC (evalN l (.mk kop knm kn kks))) (by simp) (by omega) ⟨by omega, by omega, by omega, rfl⟩
      obtain ⟨E2, rfl⟩ := hg2.pre (E ++ [.obj [.str kop, .str knm, .int .i64 kn, .sl none 4 kks.length (ndsC kks)], .own]) (S ++ [.obj [.str op, .str nm, .int .i64 n, .sl none 4 ks.length (ndsC ks)], .obj [.int .i64 0, .bool false]]) (by simp) (by simp)
      rw [← hmap] at hacc2
      simp only [List.append_assoc, List.cons_append, List.nil_append, gotC] at hap hacc2
      have ho := hacc.one
      have ho2 := hacc2.one
      repeat' (first
        | refine Go.seq ?_
        | refine Go.rg ?_
        | refine GoR.nil ?_
        | refine Go.skip ?_
        | refine Go.ret ?_
        | refine Go.block ?_
        | refine Go.exit ?_
        | refine Go.blkX ?_
        | refine Go.blkN ?_
        | refine Go.passX ?_
        | refine Go.lpX ?_
        | (refine Go.blkE (by decide) ?_)
        | (refine Go.rgS dmx (by decide) ?_)
        | ((first | refine GoR.op (by decide) (by rfl) ?_ | refine GoR.opG (by decide) (by rfl) (by rfl) ?_)
           conv => arg 1; simp only [G, Z, Y, un_neg, Int.reduceEq, Int.reduceLE, cutD, Nat.reduceBEq, Nat.reduceAdd, Nat.reduceMul, Nat.reduceSub, Nat.reducePow, Nat.reduceLT, Nat.reduceGT, Nat.reduceLeDiff, Nat.reduceEqDiff, Int.reduceToNat, gt_iff_lt, if_true, if_false, beq_self_eq_true, reduceIte, decide_true, decide_false, fd2_0, fd2_1, fd2_2, fd2_3, fd2_4, fd2_5, fd2_6, fd2_7, fd2_8, fd2_9, fd3_0, fd3_1, fd3_2, fd3_3, fd3_4, fd3_5, fd3_6, fd3_7, fd3_8, fd3_9, fd4_0, fd4_1, fd4_2, fd4_3, fd4_4, fd9_0, fd9_1, fd9_2, fd9_3, fd9_4, fd9_5, fd9_6, fd9_7, fd22_0, fd22_1, fd22_2, fd22_3, fd22_4, fd22_5, fd22_6, fd22_7, fd22_8, fd22_9, fd22_10, fd22_11, fd22_12, fd22_13, fd22_14, fd22_15, fd22_16, fd22_17, fd22_18, fd22_19, fd22_20, fd22_21, fd22_22, fd22_23, fd24_0, fd24_1, fd24_2, fd24_3, fd24_4, fd24_5, fd24_6, fd24_7, fd24_8, fd24_9, fd24_10, fd24_11, fd56_0, fd56_1, fd56_2, fd56_3, fd56_4, fd56_5, fd56_6, fd56_7, fd58_0, fd58_1, fd58_2, fd58_3, fd58_4, fd58_5, fd58_6, fd58_7, fd58_8, fd58_9, fd58_10, fd58_11, fd58_12, fd58_13, fd58_14, fd58_15, fd58_16, fd58_17, fd58_18, fd58_19, fd58_20, fd58_21, fd58_22, fd58_23, ho, ho2, ndsAt h1, hq, Nd.c_mk, gotC, wrap_succ (show i < 4611686018427387904 by omega), hap, builtin_append, show decide ((i : Int) < (ks.length : Int)) = true by simp; omega]
           show GoR _ _ _ _ _ _ _ _ _ _)
        | ((first | refine GoR.call (f := 21) (by decide) (by rfl) rfl Try.func21 (by decide) (by rfl) ?_ | refine GoR.callG (f := 21) (by decide) (by rfl) (by rfl) rfl Try.func21 (by decide) (by rfl) ?_)
           (refine (ihk _ (hpa _)).ret ?_))
        | refine Go.condT (by rfl) ?_
        | refine Go.condF (by rfl) ?_
        | refine GoR.skipG (by decide) rfl rfl ?_
        | (refine GoR.splitG rfl (fun hc => ?_) (fun hc => ?_) <;> simp only [hc])
        | refine Go.condB rfl (fun hc => ?_) (fun hc => ?_))
      refine Go.lpN ?_
      refine Go.keep [(1, .fn (.func 22) [] [.ptr p 0]), (2, .ptr S.length 0), (4, .ptr (S.length + 1) 0), (5, o'), (9, .sl none 4 ks.length (ndsC ks)), (10, .int .i64 (ks.length : Int)), (11, .int .i64 ((i + 1 : Nat) : Int))] (.cons .refl (.cons .refl (.cons .refl (.cons .refl (.cons .refl (.cons .refl (.cons .refl (.nil)))))))) ?_
      exact next (i + 1, o', E2) (by dsimp only; omega) ⟨h1, hacc2⟩
    · clear next
      have hi' : i = ks.length := by omega
      subst hi'
      rw [List.take_length] at hacc
      have ho := hacc.one
      have hcall := fun S' hp' => eval1 (orc := orc) l hr hl hv op nm n (ndsC ks) ks.length (ks.map (evalN l)) (by simp; omega) (fun k hk => by obtain ⟨x, hx, rfl⟩ := List.mem_map.1 hk; exact eval_in hi x (hkin x hx)) none p S' hp'
      rw [List.length_map] at hcall
      repeat' (first
        | refine Go.seq ?_
        | refine Go.rg ?_
        | refine GoR.nil ?_
        | refine Go.skip ?_
        | refine Go.ret ?_
        | refine Go.block ?_
        | refine Go.exit ?_
        | refine Go.blkX ?_
        | refine Go.blkN ?_
        | refine Go.passX ?_
        | refine Go.lpX ?_
        | (refine Go.blkE (by decide) ?_)
        | (refine Go.rgS dmx (by decide) ?_)
        | ((first | refine GoR.op (by decide) (by rfl) ?_ | refine GoR.opG (by decide) (by rfl) (by rfl) ?_)
           conv => arg 1; simp only [G, Z, Y, un_neg, Int.reduceEq, Int.reduceLE, cutD, Nat.reduceBEq, Nat.reduceAdd, Nat.reduceMul, Nat.reduceSub, Nat.reducePow, Nat.reduceLT, Nat.reduceGT, Nat.reduceLeDiff, Nat.reduceEqDiff, Int.reduceToNat, gt_iff_lt, if_true, if_false, beq_self_eq_true, reduceIte, decide_true, decide_false, fd2_0, fd2_1, fd2_2, fd2_3, fd2_4, fd2_5, fd2_6, fd2_7, fd2_8, fd2_9, fd3_0, fd3_1, fd3_2, fd3_3, fd3_4, fd3_5, fd3_6, fd3_7, fd3_8, fd3_9, fd4_0, fd4_1, fd4_2, fd4_3, fd4_4, fd9_0, fd9_1, fd9_2, fd9_3, fd9_4, fd9_5, fd9_6, fd9_7, fd22_0, fd22_1, fd22_2, fd22_3, fd22_4, fd22_5, fd22_6, fd22_7, fd22_8, fd22_9, fd22_10, fd22_11, fd22_12, fd22_13, fd22_14, fd22_15, fd22_16, fd22_17, fd22_18, fd22_19, fd22_20, fd22_21, fd22_22, fd22_23, fd24_0, fd24_1, fd24_2, fd24_3, fd24_4, fd24_5, fd24_6, fd24_7, fd24_8, fd24_9, fd24_10, fd24_11, fd56_0, fd56_1, fd56_2, fd56_3, fd56_4, fd56_5, fd56_6, fd56_7, fd58_0, fd58_1, fd58_2, fd58_3, fd58_4, fd58_5, fd58_6, fd58_7, fd58_8, fd58_9, fd58_10, fd58_11, fd58_12, fd58_13, fd58_14, fd58_15, fd58_16, fd58_17, fd58_18, fd58_19, fd58_20, fd58_21, fd58_22, fd58_23, ho, gotC, show decide ((ks.length : Int) < (ks.length : Int)) = false by simp]
           show GoR _ _ _ _ _ _ _ _ _ _)
        | ((first | refine GoR.call (f := 22) (by decide) (by rfl) rfl Try.func22 (by decide) (by rfl) ?_ | refine GoR.callG (f := 22) (by decide) (by rfl) (by rfl) rfl Try.func22 (by decide) (by rfl) ?_)
           (refine CallD.weak (args' := [.agg [.str op, .str nm, .int .i64 n, .sl none 4 ks.length (ndsC ks)], .sl none 2 ks.length (gotsC (ks.map (evalN l))), .ptr p 0]) (.cons .refl (.cons hacc.wf (.cons .refl .nil))) ((hcall _ (hpa _)).ret ?_)))
        | refine Go.condT (by rfl) ?_
        | refine Go.condF (by rfl) ?_
        | refine GoR.skipG (by decide) rfl rfl ?_
        | (refine GoR.splitG rfl (fun hc => ?_) (fun hc => ?_) <;> simp only [hc])
        | refine Go.condB rfl (fun hc => ?_) (fun hc => ?_))
      refine ⟨(by first | exact .inl rfl | exact .inr rfl), fin ?_⟩
      rw [resD_cell (fn := Try.f21) rfl]
      simp only [optThen_some, resultD_tmp, resultD_cell, G, Z, Y, un_neg, Int.reduceEq, Int.reduceLE, cutD, Nat.reduceBEq, Nat.reduceAdd, Nat.reduceMul, Nat.reduceSub, Nat.reducePow, Nat.reduceLT, Nat.reduceGT, Nat.reduceLeDiff, Nat.reduceEqDiff, Int.reduceToNat, gt_iff_lt, if_true, if_false, beq_self_eq_true, reduceIte, decide_true, decide_false, fd2_0, fd2_1, fd2_2, fd2_3, fd2_4, fd2_5, fd2_6, fd2_7, fd2_8, fd2_9, fd3_0, fd3_1, fd3_2, fd3_3, fd3_4, fd3_5, fd3_6, fd3_7, fd3_8, fd3_9, fd4_0, fd4_1, fd4_2, fd4_3, fd4_4, fd9_0, fd9_1, fd9_2, fd9_3, fd9_4, fd9_5, fd9_6, fd9_7, fd22_0, fd22_1, fd22_2, fd22_3, fd22_4, fd22_5, fd22_6, fd22_7, fd22_8, fd22_9, fd22_10, fd22_11, fd22_12, fd22_13, fd22_14, fd22_15, fd22_16, fd22_17, fd22_18, fd22_19, fd22_20, fd22_21, fd22_22, fd22_23, fd24_0, fd24_1, fd24_2, fd24_3, fd24_4, fd24_5, fd24_6, fd24_7, fd24_8, fd24_9, fd24_10, fd24_11, fd56_0, fd56_1, fd56_2, fd56_3, fd56_4, fd56_5, fd56_6, fd56_7, fd58_0, fd58_1, fd58_2, fd58_3, fd58_4, fd58_5, fd58_6, fd58_7, fd58_8, fd58_9, fd58_10, fd58_11, fd58_12, fd58_13, fd58_14, fd58_15, fd58_16, fd58_17, fd58_18, fd58_19, fd58_20, fd58_21, fd58_22, fd58_23]
      rw [evalN_mk]
      exact ⟨_, _, rfl, .of_low (.agg' (got_low _)), rfl⟩
end Go.Proofs.DaT
