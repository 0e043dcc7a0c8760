/- As many nodes as may be, in any shape; signs of one kind from the left: the laws. -/
import Derived.Test.YtpdnaoahghfaoaaGreatDoorDeK4
set_option linter.unusedSimpArgs false
set_option linter.unusedVariables false
namespace Go.Proofs.DeT
open Go Go.DM
set_option maxRecDepth 100000

/-- The text of a shape, so many times. -/
def deepS (sh : Nat) : Nat → ByteArray
  | 0 => (⟨#[49]⟩ : ByteArray)
  | k + 1 => if sh = 0 then deepS sh k ++ (⟨#[43, 49]⟩ : ByteArray) else if sh = 1 then (⟨#[45]⟩ : ByteArray) ++ deepS sh k else ((⟨#[40]⟩ : ByteArray) ++ deepS sh k) ++ (⟨#[41]⟩ : ByteArray)
def nodesD (sh : Nat) : Nat → Nat
  | 0 => 1
  | k + 1 => if sh = 0 then nodesD sh k + 2 else if sh = 1 then nodesD sh k + 1 else nodesD sh k
def deepOk (sh k : Nat) : Bool := if nodesD sh k ≤ 32 then decide ((parseF (deepS sh k)).2.2 = 0) && decide ((parseF (deepS sh k)).2.1 = 0) else decide ((parseF (deepS sh k)).2.2 = 4) && decide ((parseF (deepS sh k)).2.1 = 32)
theorem deep_all : ((List.range 3).all fun sh => (List.range 40).all fun k => deepOk sh k) = true := by kernel_rfl
theorem deep_ok {sh k : Nat} (h1 : sh < 3) (h2 : k < 40) : deepOk sh k = true := by
  have := List.all_eq_true.1 deep_all sh (List.mem_range.2 h1)
  exact List.all_eq_true.1 this k (List.mem_range.2 h2)
theorem deep_size (sh : Nat) : ∀ k, (deepS sh k).size ≤ 1 + 2 * k
  | 0 => Nat.le_refl _
  | k + 1 => by
    have := deep_size sh k
    unfold deepS
    split
    · rw [app_size]; show _ + 2 ≤ _; omega
    · split
      · rw [app_size]; show 1 + _ ≤ _; omega
      · rw [app_size, app_size]; show 1 + _ + 1 ≤ _; omega
theorem nodes_le (sh : Nat) : ∀ k, nodesD sh k ≤ 1 + 2 * k
  | 0 => Nat.le_refl _
  | k + 1 => by
    have := nodes_le sh k
    unfold nodesD
    split
    · omega
    · split <;> omega
theorem lawDeep (n0 sh0 : Nat) (hn : n0 < 256) (hs : sh0 < 256) (S : Mem) : CallD Tryz.prog O 9 [.int .u8 (n0 : Int), .int .u8 (sh0 : Int)] S fun d S' => S' = S ∧ d = .bool true := by
  have w1 : IntKind.i64.wrap ((n0 % 40 : Nat) : Int) = ((n0 % 40 : Nat) : Int) := wrap64 (by omega) (by omega)
  have t40 : ((n0 : Int)).tmod 40 = ((n0 % 40 : Nat) : Int) := (Int.ofNat_tmod n0 40).symm
  have t3 : ((sh0 : Int)).tmod 3 = ((sh0 % 3 : Nat) : Int) := (Int.ofNat_tmod sh0 3).symm
  have hk : n0 % 40 < 40 := Nat.mod_lt _ (by decide)
  have hsh : sh0 % 3 < 3 := Nat.mod_lt _ (by decide)
  have hok := deep_ok hsh hk
  generalize n0 % 40 = K at *
  refine CallD.drop ?_
  refine CallD.body Tryz.func9 rfl (by simp [Tryz.ntmps9]) ?_
  rw [Tryz.ntmps9]
  repeat' (first | refine Go.seq ?_ | refine Go.rg ?_ | refine GoR.nil ?_ | refine Go.skip ?_ | refine Go.ret ?_ | refine Go.block ?_ | refine Go.exit ?_ | refine Go.blkX ?_ | refine Go.blkN ?_ | refine Go.passX ?_ | refine Go.lpX ?_ | (refine Go.blkE (by decide) ?_) | (refine Go.rgS dmx (by decide) ?_) | ((first | refine GoR.op (by decide) (by rfl) ?_ | refine GoR.opG (by decide) (by rfl) (by rfl) ?_); (conv => arg 1; simp only [G,Z,Y,un_neg,Int.reduceEq,Int.reduceLE,cutD,Nat.reduceBEq,Nat.reduceAdd,Nat.reduceMul,Nat.reduceSub,Nat.reducePow,Nat.reduceLT,Nat.reduceGT,Nat.reduceLeDiff,Nat.reduceEqDiff,Int.reduceToNat,gt_iff_lt,if_true,if_false,beq_self_eq_true,reduceIte,decide_true,decide_false,fb2,fb3,fb5,fb9,fb73,fb75,t40,w1,Bool.not_true]); show GoR _ _ _ _ _ _ _ _ _ _) | ((first | refine GoR.call (f := 37) (by decide) (by rfl) rfl Tryz.func37 (by decide) (by rfl) ?_ | refine GoR.callG (f := 37) (by decide) (by rfl) (by rfl) rfl Tryz.func37 (by decide) (by rfl) ?_); (refine (known _).ret ?_)) | refine Go.condT (by rfl) ?_ | refine Go.condF (by rfl) ?_ | refine GoR.skipG (by decide) rfl rfl ?_ | (refine GoR.splitG rfl (fun hc => ?_) (fun hc => ?_) <;> simp only [hc]) | refine Go.condB rfl (fun hc => ?_) (fun hc => ?_))
  refine Go.keep [(1, .int .u8 (sh0 : Int)), (5, .int .i64 (K : Int)), (6, .str (deepS (sh0 % 3) 0)), (7, .int .i64 ((nodesD (sh0 % 3) 0 : Nat) : Int)), (9, .int .i64 ((0 : Nat) : Int))] (.cons .refl (.cons .refl (.cons .refl (.cons .refl (.cons .refl (.nil)))))) ?_
  refine Go.while (α := Nat) (fun i => K - i) (fun i => [(1, .int .u8 (sh0 : Int)), (5, .int .i64 (K : Int)), (6, .str (deepS (sh0 % 3) i)), (7, .int .i64 ((nodesD (sh0 % 3) i : Nat) : Int)), (9, .int .i64 (i : Int))]) (fun _ => S) (fun i => i ≤ K) ?_ 0 (Nat.zero_le _)
  intro i hi next
  by_cases h1 : i < K
  · have hsz := deep_size (sh0 % 3) i
    have hnd := nodes_le (sh0 % 3) i
    generalize hr : sh0 % 3 = r at *
    have hr3 : r = 0 ∨ r = 1 ∨ r = 2 := by omega
    have d1 : decide ((i : Int) < (K : Int)) = true := by simp; omega
    rcases hr3 with rfl | rfl | rfl
    · have e : deepS 0 (i + 1) = deepS 0 i ++ (⟨#[43, 49]⟩ : ByteArray) := rfl
      have e2 : nodesD 0 (i + 1) = nodesD 0 i + 2 := rfl
      have wn : IntKind.i64.wrap ((nodesD 0 i : Int) + 2) = ((nodesD 0 i + 2 : Nat) : Int) := by rw [wrap64 (by omega) (by omega)]; push_cast; rfl
      repeat' (first | refine Go.seq ?_ | refine Go.rg ?_ | refine GoR.nil ?_ | refine Go.skip ?_ | refine Go.ret ?_ | refine Go.block ?_ | refine Go.exit ?_ | refine Go.blkX ?_ | refine Go.blkN ?_ | refine Go.passX ?_ | refine Go.lpX ?_ | (refine Go.blkE (by decide) ?_) | (refine Go.rgS dmx (by decide) ?_) | ((first | refine GoR.op (by decide) (by rfl) ?_ | refine GoR.opG (by decide) (by rfl) (by rfl) ?_); (conv => arg 1; simp only [G,Z,Y,un_neg,Int.reduceEq,Int.reduceLE,cutD,Nat.reduceBEq,Nat.reduceAdd,Nat.reduceMul,Nat.reduceSub,Nat.reducePow,Nat.reduceLT,Nat.reduceGT,Nat.reduceLeDiff,Nat.reduceEqDiff,Int.reduceToNat,gt_iff_lt,if_true,if_false,beq_self_eq_true,reduceIte,decide_true,decide_false,fb2,fb3,fb5,fb9,fb73,fb75,t3,d1,wn,show (((0 : Nat) : Int) == 0) = true by decide,add_str (P := Tryz.prog) (a := deepS 0 i) (b := (⟨#[43,49]⟩ : ByteArray)) (show (deepS 0 i).size + 2 < 4611686018427387904 by omega),wrap_succ (show i < 4611686018427387904 by omega)]); show GoR _ _ _ _ _ _ _ _ _ _) | refine Go.condT (by rfl) ?_ | refine Go.condF (by rfl) ?_ | refine GoR.skipG (by decide) rfl rfl ?_ | (refine GoR.splitG rfl (fun hc => ?_) (fun hc => ?_) <;> simp only [hc]) | refine Go.condB rfl (fun hc => ?_) (fun hc => ?_))
      refine Go.lpN ?_
      refine Go.keep [(1, .int .u8 (sh0 : Int)), (5, .int .i64 (K : Int)), (6, .str (deepS 0 (i + 1))), (7, .int .i64 ((nodesD 0 (i + 1) : Nat) : Int)), (9, .int .i64 ((i + 1 : Nat) : Int))] (.cons .refl (.cons .refl (.cons .refl (.cons .refl (.cons .refl (.nil)))))) ?_
      exact next (i + 1) (by omega) h1
    · have e : deepS 1 (i + 1) = (⟨#[45]⟩ : ByteArray) ++ deepS 1 i := rfl
      have wn : IntKind.i64.wrap ((nodesD 1 i : Int) + 1) = ((nodesD 1 i + 1 : Nat) : Int) := by rw [wrap64 (by omega) (by omega)]; push_cast; rfl
      repeat' (first | refine Go.seq ?_ | refine Go.rg ?_ | refine GoR.nil ?_ | refine Go.skip ?_ | refine Go.ret ?_ | refine Go.block ?_ | refine Go.exit ?_ | refine Go.blkX ?_ | refine Go.blkN ?_ | refine Go.passX ?_ | refine Go.lpX ?_ | (refine Go.blkE (by decide) ?_) | (refine Go.rgS dmx (by decide) ?_) | ((first | refine GoR.op (by decide) (by rfl) ?_ | refine GoR.opG (by decide) (by rfl) (by rfl) ?_); (conv => arg 1; simp only [G,Z,Y,un_neg,Int.reduceEq,Int.reduceLE,cutD,Nat.reduceBEq,Nat.reduceAdd,Nat.reduceMul,Nat.reduceSub,Nat.reducePow,Nat.reduceLT,Nat.reduceGT,Nat.reduceLeDiff,Nat.reduceEqDiff,Int.reduceToNat,gt_iff_lt,if_true,if_false,beq_self_eq_true,reduceIte,decide_true,decide_false,fb2,fb3,fb5,fb9,fb73,fb75,t3,d1,wn,show (((1 : Nat) : Int) == 0) = false by decide,show (((1 : Nat) : Int) == 1) = true by decide,add_str (P := Tryz.prog) (a := (⟨#[45]⟩ : ByteArray)) (b := deepS 1 i) (show 1 + (deepS 1 i).size < 4611686018427387904 by omega),wrap_succ (show i < 4611686018427387904 by omega)]); show GoR _ _ _ _ _ _ _ _ _ _) | refine Go.condT (by rfl) ?_ | refine Go.condF (by rfl) ?_ | refine GoR.skipG (by decide) rfl rfl ?_ | (refine GoR.splitG rfl (fun hc => ?_) (fun hc => ?_) <;> simp only [hc]) | refine Go.condB rfl (fun hc => ?_) (fun hc => ?_))
      refine Go.lpN ?_
      refine Go.keep [(1, .int .u8 (sh0 : Int)), (5, .int .i64 (K : Int)), (6, .str (deepS 1 (i + 1))), (7, .int .i64 ((nodesD 1 (i + 1) : Nat) : Int)), (9, .int .i64 ((i + 1 : Nat) : Int))] (.cons .refl (.cons .refl (.cons .refl (.cons .refl (.cons .refl (.nil)))))) ?_
      exact next (i + 1) (by omega) h1
    · have s1 : ((⟨#[40]⟩ : ByteArray) ++ deepS 2 i).size = 1 + (deepS 2 i).size := app_size _ _
      repeat' (first | refine Go.seq ?_ | refine Go.rg ?_ | refine GoR.nil ?_ | refine Go.skip ?_ | refine Go.ret ?_ | refine Go.block ?_ | refine Go.exit ?_ | refine Go.blkX ?_ | refine Go.blkN ?_ | refine Go.passX ?_ | refine Go.lpX ?_ | (refine Go.blkE (by decide) ?_) | (refine Go.rgS dmx (by decide) ?_) | ((first | refine GoR.op (by decide) (by rfl) ?_ | refine GoR.opG (by decide) (by rfl) (by rfl) ?_); (conv => arg 1; simp only [G,Z,Y,un_neg,Int.reduceEq,Int.reduceLE,cutD,Nat.reduceBEq,Nat.reduceAdd,Nat.reduceMul,Nat.reduceSub,Nat.reducePow,Nat.reduceLT,Nat.reduceGT,Nat.reduceLeDiff,Nat.reduceEqDiff,Int.reduceToNat,gt_iff_lt,if_true,if_false,beq_self_eq_true,reduceIte,decide_true,decide_false,fb2,fb3,fb5,fb9,fb73,fb75,t3,d1,show (((2 : Nat) : Int) == 0) = false by decide,show (((2 : Nat) : Int) == 1) = false by decide,show (((2 : Nat) : Int) == 2) = true by decide,add_str (P := Tryz.prog) (a := (⟨#[40]⟩ : ByteArray)) (b := deepS 2 i) (show 1 + (deepS 2 i).size < 4611686018427387904 by omega),add_str (P := Tryz.prog) (a := (⟨#[40]⟩ : ByteArray) ++ deepS 2 i) (b := (⟨#[41]⟩ : ByteArray)) (by rw [s1]; show _ + 1 < _; omega),wrap_succ (show i < 4611686018427387904 by omega)]); show GoR _ _ _ _ _ _ _ _ _ _) | refine Go.condT (by rfl) ?_ | refine Go.condF (by rfl) ?_ | refine GoR.skipG (by decide) rfl rfl ?_ | (refine GoR.splitG rfl (fun hc => ?_) (fun hc => ?_) <;> simp only [hc]) | refine Go.condB rfl (fun hc => ?_) (fun hc => ?_))
      refine Go.lpN ?_
      refine Go.keep [(1, .int .u8 (sh0 : Int)), (5, .int .i64 (K : Int)), (6, .str (deepS 2 (i + 1))), (7, .int .i64 ((nodesD 2 (i + 1) : Nat) : Int)), (9, .int .i64 ((i + 1 : Nat) : Int))] (.cons .refl (.cons .refl (.cons .refl (.cons .refl (.cons .refl (.nil)))))) ?_
      exact next (i + 1) (by omega) h1
  · clear next
    have hi' : i = K := by omega
    subst hi'
    have hsz := deep_size (sh0 % 3) i
    have hp := fun S => parse (deepS (sh0 % 3) i) (by omega) S
    have hw := parse_whole (s := deepS (sh0 % 3) i)
    unfold deepOk at hok
    generalize parseF (deepS (sh0 % 3) i) = x at *
    generalize nodesD (sh0 % 3) i = N at *
    obtain ⟨n, a, e⟩ := x
    dsimp only [resC] at hp hw hok
    by_cases hN : N ≤ 32
    · rw [if_pos hN] at hok
      simp only [Bool.and_eq_true, decide_eq_true_eq] at hok
      obtain ⟨rfl, rfl⟩ := hok
      obtain ⟨hw, hc⟩ := hw rfl
      have hck := fun S => exprCheck (orc := O) n (whole_slim _ hw) S
      rw [whole_checkN hw hc] at hck
      obtain ⟨y1, hy1, hk1⟩ := kidY_of n
      have ho1 := hk1.one
      have hc1 := hk1.cells
      simp only [hy1, ndX, Int.natCast_zero, Int.ofNat_zero, Int.cast_ofNat_Int] at hp hck
      repeat' (first | refine Go.seq ?_ | refine Go.rg ?_ | refine GoR.nil ?_ | refine Go.skip ?_ | refine Go.ret ?_ | refine Go.block ?_ | refine Go.exit ?_ | refine Go.blkX ?_ | refine Go.blkN ?_ | refine Go.passX ?_ | refine Go.lpX ?_ | (refine Go.blkE (by decide) ?_) | (refine Go.rgS dmx (by decide) ?_) | ((first | refine GoR.op (by decide) (by rfl) ?_ | refine GoR.opG (by decide) (by rfl) (by rfl) ?_); (conv => arg 1; simp only [G,Z,Y,un_neg,Int.reduceEq,Int.reduceLE,cutD,Nat.reduceBEq,Nat.reduceAdd,Nat.reduceMul,Nat.reduceSub,Nat.reducePow,Nat.reduceLT,Nat.reduceGT,Nat.reduceLeDiff,Nat.reduceEqDiff,Int.reduceToNat,gt_iff_lt,if_true,if_false,beq_self_eq_true,reduceIte,decide_true,decide_false,fb2,fb3,fb5,fb9,fb73,fb75,ho1,hc1,show decide ((i : Int) < (i : Int)) = false by simp,show decide ((N : Int) ≤ 32) = true by simp; omega]); show GoR _ _ _ _ _ _ _ _ _ _) | ((first | refine GoR.call (f := 38) (by decide) (by rfl) rfl Tryz.func38 (by decide) (by rfl) ?_ | refine GoR.callG (f := 38) (by decide) (by rfl) (by rfl) rfl Tryz.func38 (by decide) (by rfl) ?_); (refine (hp _).ret ?_)) | ((first | refine GoR.call (f := 48) (by decide) (by rfl) rfl Tryz.func48 (by decide) (by rfl) ?_ | refine GoR.callG (f := 48) (by decide) (by rfl) (by rfl) rfl Tryz.func48 (by decide) (by rfl) ?_); (refine (hck _).ret ?_)) | refine Go.condT (by rfl) ?_ | refine Go.condF (by rfl) ?_ | refine GoR.skipG (by decide) rfl rfl ?_ | (refine GoR.splitG rfl (fun hc => ?_) (fun hc => ?_) <;> simp only [hc]) | refine Go.condB rfl (fun hc => ?_) (fun hc => ?_))
      refine ⟨(by first | exact .inl rfl | exact .inr rfl), fin ?_⟩
      rw [resD_tmp (fn := Tryz.f9) rfl]
      simp only [optThen_some, resultD_tmp, resultD_cell, G, Z, Y, un_neg, Int.reduceEq, Int.reduceLE, cutD, Nat.reduceBEq, Nat.reduceAdd, Nat.reduceMul, Nat.reduceSub, Nat.reducePow, Nat.reduceLT, Nat.reduceGT, Nat.reduceLeDiff, Nat.reduceEqDiff, Int.reduceToNat, gt_iff_lt, if_true, if_false, beq_self_eq_true, reduceIte, decide_true, decide_false, fb2, fb3, fb5, fb9, fb73, fb75]
      first | exact ⟨_, _, rfl, .bool, rfl⟩ | exact ⟨_, [], by simp, .bool, rfl⟩
    · rw [if_neg hN] at hok
      simp only [Bool.and_eq_true, decide_eq_true_eq] at hok
      obtain ⟨rfl, rfl⟩ := hok
      obtain ⟨y1, hy1, hk1⟩ := kidY_of n
      have ho1 := hk1.one
      have hc1 := hk1.cells
      simp only [hy1, ndX] at hp
      repeat' (first | refine Go.seq ?_ | refine Go.rg ?_ | refine GoR.nil ?_ | refine Go.skip ?_ | refine Go.ret ?_ | refine Go.block ?_ | refine Go.exit ?_ | refine Go.blkX ?_ | refine Go.blkN ?_ | refine Go.passX ?_ | refine Go.lpX ?_ | (refine Go.blkE (by decide) ?_) | (refine Go.rgS dmx (by decide) ?_) | ((first | refine GoR.op (by decide) (by rfl) ?_ | refine GoR.opG (by decide) (by rfl) (by rfl) ?_); (conv => arg 1; simp only [G,Z,Y,un_neg,Int.reduceEq,Int.reduceLE,cutD,Nat.reduceBEq,Nat.reduceAdd,Nat.reduceMul,Nat.reduceSub,Nat.reducePow,Nat.reduceLT,Nat.reduceGT,Nat.reduceLeDiff,Nat.reduceEqDiff,Int.reduceToNat,gt_iff_lt,if_true,if_false,beq_self_eq_true,reduceIte,decide_true,decide_false,fb2,fb3,fb5,fb9,fb73,fb75,ho1,hc1,show decide ((i : Int) < (i : Int)) = false by simp,show decide ((N : Int) ≤ 32) = false by simp; omega,show (((32 : Nat) : Int) == 32) = true by decide]); show GoR _ _ _ _ _ _ _ _ _ _) | ((first | refine GoR.call (f := 38) (by decide) (by rfl) rfl Tryz.func38 (by decide) (by rfl) ?_ | refine GoR.callG (f := 38) (by decide) (by rfl) (by rfl) rfl Tryz.func38 (by decide) (by rfl) ?_); (refine (hp _).ret ?_)) | refine Go.condT (by rfl) ?_ | refine Go.condF (by rfl) ?_ | refine GoR.skipG (by decide) rfl rfl ?_ | (refine GoR.splitG rfl (fun hc => ?_) (fun hc => ?_) <;> simp only [hc]) | refine Go.condB rfl (fun hc => ?_) (fun hc => ?_))
      refine ⟨(by first | exact .inl rfl | exact .inr rfl), fin ?_⟩
      rw [resD_tmp (fn := Tryz.f9) rfl]
      simp only [optThen_some, resultD_tmp, resultD_cell, G, Z, Y, un_neg, Int.reduceEq, Int.reduceLE, cutD, Nat.reduceBEq, Nat.reduceAdd, Nat.reduceMul, Nat.reduceSub, Nat.reducePow, Nat.reduceLT, Nat.reduceGT, Nat.reduceLeDiff, Nat.reduceEqDiff, Int.reduceToNat, gt_iff_lt, if_true, if_false, beq_self_eq_true, reduceIte, decide_true, decide_false, fb2, fb3, fb5, fb9, fb73, fb75]
      first | exact ⟨_, _, rfl, .bool, rfl⟩ | exact ⟨_, [], by simp, .bool, rfl⟩
end Go.Proofs.DeT
