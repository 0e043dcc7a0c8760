/- Stamps are in order; the laws on it answer true. -/
import Derived.Test.YtipeffaojbhbmaaDoorDnC4
set_option linter.unusedSimpArgs false
set_option linter.unusedVariables false
namespace Go.Proofs.DnT
open Go Go.DM
set_option maxRecDepth 100000

def ltSt (a b : St) : Prop := a.tick < b.tick ∨ (a.tick = b.tick ∧ (a.inc < b.inc ∨ (a.inc = b.inc ∧ (a.seq < b.seq ∨ (a.seq = b.seq ∧ ltB a.org b.org = true)))))
theorem cmpSt_cases (a b : St) : (cmpSt a b = -1 ∧ ltSt a b) ∨ (cmpSt a b = 0 ∧ a = b) ∨ (cmpSt a b = 1 ∧ ltSt b a) := by
  obtain ⟨a1, a2, a3, a4⟩ := a
  obtain ⟨b1, b2, b3, b4⟩ := b
  have key : ∀ x y : Int, (cmpI x y = -1 ∧ x < y) ∨ (cmpI x y = 0 ∧ x = y) ∨ (cmpI x y = 1 ∧ y < x) := by
    intro x y
    unfold cmpI
    rcases Int.lt_trichotomy x y with h | h | h
    · exact .inl ⟨by rw [if_pos h], h⟩
    · exact .inr (.inl ⟨by rw [if_neg (by omega), if_neg (by omega)], h⟩)
    · exact .inr (.inr ⟨by rw [if_neg (by omega), if_pos h], h⟩)
  have keyB : (cmpB a4 b4 = -1 ∧ ltB a4 b4 = true) ∨ (cmpB a4 b4 = 0 ∧ a4 = b4) ∨ (cmpB a4 b4 = 1 ∧ ltB b4 a4 = true) := by
    unfold cmpB
    rcases ltB_total a4 b4 with h | h | h
    · exact .inl ⟨by rw [if_pos h], h⟩
    · subst h
      exact .inr (.inl ⟨by rw [if_neg (by rw [ltB_irrefl]; decide), if_pos rfl], rfl⟩)
    · have h1 := ltB_asymm h
      refine .inr (.inr ⟨?_, h⟩)
      rw [if_neg (by rw [h1]; decide), if_neg]
      rintro rfl
      rw [ltB_irrefl] at h
      cases h
  simp only [cmpSt, orI, ltSt, St.mk.injEq]
  rcases key a1 b1 with ⟨e1, h1⟩ | ⟨e1, h1⟩ | ⟨e1, h1⟩ <;> rw [e1]
  · simp [h1]
  · subst h1
    rcases key a2 b2 with ⟨e2, h2⟩ | ⟨e2, h2⟩ | ⟨e2, h2⟩ <;> rw [e2]
    · simp [h2]
    · subst h2
      rcases key a3 b3 with ⟨e3, h3⟩ | ⟨e3, h3⟩ | ⟨e3, h3⟩ <;> rw [e3]
      · simp [h3]
      · subst h3
        rcases keyB with ⟨e4, h4⟩ | ⟨e4, h4⟩ | ⟨e4, h4⟩ <;> rw [e4]
        · simp [h4]
        · simp [h4]
        · simp [h4]
      · simp [h3]
    · simp [h2]
  · simp [h1]
theorem ltSt_trans {a b c : St} (h : ltSt a b) (k : ltSt b c) : ltSt a c := by
  unfold ltSt at *
  rcases h with h | ⟨h1, h | ⟨h2, h | ⟨h3, h⟩⟩⟩ <;> rcases k with k | ⟨k1, k | ⟨k2, k | ⟨k3, k⟩⟩⟩ <;>
    first
      | (exact .inr ⟨by omega, .inr ⟨by omega, .inr ⟨by omega, ltB_trans h k⟩⟩⟩)
      | (exact .inl (by omega))
      | (exact .inr ⟨by omega, .inl (by omega)⟩)
      | (exact .inr ⟨by omega, .inr ⟨by omega, .inl (by omega)⟩⟩)
theorem ltSt_irrefl (a : St) : ¬ ltSt a a := by
  unfold ltSt
  rw [ltB_irrefl]
  rintro (h | ⟨_, h | ⟨_, h | ⟨_, h⟩⟩⟩)
  · omega
  · omega
  · omega
  · cases h
theorem cmpSt_pos {a b : St} : 0 < cmpSt a b ↔ ltSt b a := by
  rcases cmpSt_cases a b with ⟨e, h⟩ | ⟨e, h⟩ | ⟨e, h⟩ <;> rw [e]
  · exact ⟨fun h => by omega, fun k => absurd (ltSt_trans h k) (ltSt_irrefl _)⟩
  · subst h
    exact ⟨fun h => by omega, fun k => absurd k (ltSt_irrefl _)⟩
  · exact ⟨fun _ => h, fun _ => by omega⟩
theorem cmpSt_zero {a b : St} : cmpSt a b = 0 ↔ a = b := by
  rcases cmpSt_cases a b with ⟨e, h⟩ | ⟨e, h⟩ | ⟨e, h⟩ <;> rw [e]
  · exact ⟨fun h => by omega, fun k => absurd (k ▸ h) (ltSt_irrefl _)⟩
  · exact ⟨fun _ => h, fun _ => rfl⟩
  · exact ⟨fun h => by omega, fun k => absurd (k ▸ h) (ltSt_irrefl _)⟩
theorem cmpSt_neg {a b : St} : cmpSt a b < 0 ↔ ltSt a b := by
  rcases cmpSt_cases a b with ⟨e, h⟩ | ⟨e, h⟩ | ⟨e, h⟩ <;> rw [e]
  · exact ⟨fun _ => h, fun _ => by omega⟩
  · subst h
    exact ⟨fun h => by omega, fun k => absurd k (ltSt_irrefl _)⟩
  · exact ⟨fun h => by omega, fun k => absurd (ltSt_trans h k) (ltSt_irrefl _)⟩
theorem ltSt_total (a b : St) : ltSt a b ∨ a = b ∨ ltSt b a := by
  rcases cmpSt_cases a b with ⟨_, h⟩ | ⟨_, h⟩ | ⟨_, h⟩
  · exact .inl h
  · exact .inr (.inl h)
  · exact .inr (.inr h)
theorem order_law {a b c : St} (h1 : cmpSt a b ≤ 0) (h2 : cmpSt b c ≤ 0) : cmpSt a c ≤ 0 ∧ (cmpSt a c = 0 ↔ cmpSt a b = 0 ∧ cmpSt b c = 0) := by
  rcases cmpSt_cases a b with ⟨e1, k1⟩ | ⟨e1, k1⟩ | ⟨e1, k1⟩
  · rcases cmpSt_cases b c with ⟨e2, k2⟩ | ⟨e2, k2⟩ | ⟨e2, k2⟩
    · have := cmpSt_neg.2 (ltSt_trans k1 k2)
      omega
    · subst k2; omega
    · omega
  · subst k1; omega
  · omega

def sA : St := ⟨3, 1, 7, (⟨#[47, 97, 47, 98]⟩ : ByteArray)⟩
def sB : St := ⟨3, 2, 0, (⟨#[47, 97, 47, 98]⟩ : ByteArray)⟩
def sN : St := ⟨-1, 0, 0, (⟨#[47, 97]⟩ : ByteArray)⟩
theorem k1 : cmpSt sA sB = -1 := by decide +kernel
theorem k2 : cmpSt sB sA = 1 := by decide +kernel
theorem k3 : cmpSt sA sA = 0 := cmpSt_zero.2 rfl
theorem k4 : chk sA = 0 := by decide +kernel
theorem k5 : chk sN = 1 := by decide +kernel
theorem decB_one {n : Nat} (h : n < 10) : decB (n : Int) = ⟨#[UInt8.ofNat (48 + n)]⟩ := by
  unfold decB Lib.itoa
  rw [if_neg (by omega), Int.toNat_natCast, Lib.decDigits_one h]
theorem k6 : textB sA = (⟨#[51, 46, 49, 46, 55, 64, 47, 97, 47, 98]⟩ : ByteArray) := by
  show joinB [decB ((3 : Nat) : Int), decB ((1 : Nat) : Int), decB ((7 : Nat) : Int)] ⟨#[46]⟩ ++ ⟨#[64]⟩ ++ (⟨#[47, 97, 47, 98]⟩ : ByteArray) = _
  rw [decB_one (by decide), decB_one (by decide), decB_one (by decide)]
  decide +kernel
theorem inA : In64 sA := by
  unfold In64 in64 sA
  decide
theorem known (S : Mem) : CallD Tryd.prog O 9 [] S fun d S' => S' = S ∧ d = .bool true := by
  refine CallD.drop ?_
  refine CallD.body Tryd.func9 rfl (by simp [Tryd.ntmps9]) ?_
  rw [Tryd.ntmps9]
  repeat' (first
    | refine Go.seq ?_
    | refine Go.rg ?_
    | refine GoR.nil ?_
    | refine Go.skip ?_
    | refine Go.ret ?_
    | refine Go.block ?_
    | refine Go.exit ?_
    | refine Go.blkX ?_
    | refine Go.blkN ?_
    | refine Go.passX ?_
    | refine Go.lpX ?_
    | (refine Go.blkE (by decide) ?_)
    | (refine Go.rgS dmx (by decide) ?_)
    | ((first | refine GoR.op (by decide) (by rfl) ?_ | refine GoR.opG (by decide) (by rfl) (by rfl) ?_)
       conv => arg 1; simp only [G, Z, Y, un_neg, Int.reduceEq, Int.reduceLE, cutD, Nat.reduceBEq, Nat.reduceAdd, Nat.reduceMul, Nat.reduceSub, Nat.reducePow, Nat.reduceLT, Nat.reduceGT, Nat.reduceLeDiff, Nat.reduceEqDiff, Int.reduceToNat, gt_iff_lt, if_true, if_false, beq_self_eq_true, reduceIte, decide_true, decide_false, fd2_0, fd2_1, fd2_2, fd2_3, fd2_4, fd2_5, fd2_6, fd3_0, fd3_1, fd3_2, fd3_3, fd3_4, fd3_5, fd3_6, fd9_0, fd9_1, fd9_2, fd9_3, fd9_4, fd9_5, fd9_6, fd9_7, fd23_0, fd23_1, fd23_2, fd23_3, fd23_4, fd23_5, fd23_6, fd23_7, fd23_8, fd23_9, fd23_10, fd23_11, k1, k2, k3, k4, k5, k6, Int.reduceLT, eq_self]
       show GoR _ _ _ _ _ _ _ _ _ _)
    | ((first | refine GoR.call (f := 14) (by decide) (by rfl) rfl Tryd.func14 (by decide) (by rfl) ?_ | refine GoR.callG (f := 14) (by decide) (by rfl) (by rfl) rfl Tryd.func14 (by decide) (by rfl) ?_)
       (refine (compareSt sA sB _).ret ?_))
    | ((first | refine GoR.call (f := 15) (by decide) (by rfl) rfl Tryd.func15 (by decide) (by rfl) ?_ | refine GoR.callG (f := 15) (by decide) (by rfl) (by rfl) rfl Tryd.func15 (by decide) (by rfl) ?_)
       (first | (refine (newer sB sA _).ret ?_) | (refine (newer sA sA _).ret ?_)))
    | ((first | refine GoR.call (f := 16) (by decide) (by rfl) rfl Tryd.func16 (by decide) (by rfl) ?_ | refine GoR.callG (f := 16) (by decide) (by rfl) (by rfl) rfl Tryd.func16 (by decide) (by rfl) ?_)
       (refine (stText sA inA (by decide) _).ret ?_))
    | ((first | refine GoR.call (f := 12) (by decide) (by rfl) rfl Tryd.func12 (by decide) (by rfl) ?_ | refine GoR.callG (f := 12) (by decide) (by rfl) (by rfl) rfl Tryd.func12 (by decide) (by rfl) ?_)
       (first | (refine (stCheck sA (by decide) _).ret ?_) | (refine (stCheck sN (by decide) _).ret ?_)))
    | refine Go.condT (by rfl) ?_
    | refine Go.condF (by rfl) ?_
    | refine GoR.skipG (by decide) rfl rfl ?_
    | (refine GoR.splitG rfl (fun hc => ?_) (fun hc => ?_) <;> simp only [hc])
    | refine Go.condB rfl (fun hc => ?_) (fun hc => ?_))
  refine ⟨(by first | exact .inl rfl | exact .inr rfl), fin ?_⟩
  rw [resD_tmp (fn := Tryd.f9) rfl]
  simp only [optThen_some, resultD_tmp, resultD_cell, G, Z, Y, un_neg, Int.reduceEq, Int.reduceLE, cutD, Nat.reduceBEq, Nat.reduceAdd, Nat.reduceMul, Nat.reduceSub, Nat.reducePow, Nat.reduceLT, Nat.reduceGT, Nat.reduceLeDiff, Nat.reduceEqDiff, Int.reduceToNat, gt_iff_lt, if_true, if_false, beq_self_eq_true, reduceIte, decide_true, decide_false, fd2_0, fd2_1, fd2_2, fd2_3, fd2_4, fd2_5, fd2_6, fd3_0, fd3_1, fd3_2, fd3_3, fd3_4, fd3_5, fd3_6, fd9_0, fd9_1, fd9_2, fd9_3, fd9_4, fd9_5, fd9_6, fd9_7, fd23_0, fd23_1, fd23_2, fd23_3, fd23_4, fd23_5, fd23_6, fd23_7, fd23_8, fd23_9, fd23_10, fd23_11]
  exact ⟨_, _, rfl, .bool, rfl⟩
theorem lawOrder (a b c : St) (S : Mem) : CallD Tryd.prog O 4 [.agg a.c, .agg b.c, .agg c.c] S fun d S' => S' = S ∧ d = .bool true := by
  have hab := compareSt (orc := O) a b
  have hbc := compareSt (orc := O) b c
  have hac := compareSt (orc := O) a c
  have hl := order_law (a := a) (b := b) (c := c)
  generalize cmpSt a b = x at *
  generalize cmpSt b c = y at *
  generalize cmpSt a c = z at *
  obtain ⟨a1, a2, a3, a4⟩ := a
  obtain ⟨b1, b2, b3, b4⟩ := b
  obtain ⟨c1, c2, c3, c4⟩ := c
  simp only [St.c] at *
  refine CallD.drop ?_
  refine CallD.body Tryd.func4 rfl (by simp [Tryd.ntmps4]) ?_
  rw [Tryd.ntmps4]
  repeat' (first
    | refine Go.seq ?_
    | refine Go.rg ?_
    | refine GoR.nil ?_
    | refine Go.skip ?_
    | refine Go.ret ?_
    | refine Go.block ?_
    | refine Go.exit ?_
    | refine Go.blkX ?_
    | refine Go.blkN ?_
    | refine Go.passX ?_
    | refine Go.lpX ?_
    | (refine Go.blkE (by decide) ?_)
    | (refine Go.rgS dmx (by decide) ?_)
    | ((first | refine GoR.op (by decide) (by rfl) ?_ | refine GoR.opG (by decide) (by rfl) (by rfl) ?_)
       conv => arg 1; simp only [G, Z, Y, un_neg, Int.reduceEq, Int.reduceLE, cutD, Nat.reduceBEq, Nat.reduceAdd, Nat.reduceMul, Nat.reduceSub, Nat.reducePow, Nat.reduceLT, Nat.reduceGT, Nat.reduceLeDiff, Nat.reduceEqDiff, Int.reduceToNat, gt_iff_lt, if_true, if_false, beq_self_eq_true, reduceIte, decide_true, decide_false, fd2_0, fd2_1, fd2_2, fd2_3, fd2_4, fd2_5, fd2_6, fd3_0, fd3_1, fd3_2, fd3_3, fd3_4, fd3_5, fd3_6, fd4_0, fd4_1, fd4_2, fd4_3, fd4_4, fd9_0, fd9_1, fd9_2, fd9_3, fd9_4, fd9_5, fd9_6, fd9_7, fd23_0, fd23_1, fd23_2, fd23_3, fd23_4, fd23_5, fd23_6, fd23_7, fd23_8, fd23_9, fd23_10, fd23_11]
       show GoR _ _ _ _ _ _ _ _ _ _)
    | ((first | refine GoR.call (f := 9) (by decide) (by rfl) rfl Tryd.func9 (by decide) (by rfl) ?_ | refine GoR.callG (f := 9) (by decide) (by rfl) (by rfl) rfl Tryd.func9 (by decide) (by rfl) ?_)
       (refine (known _).ret ?_))
    | ((first | refine GoR.call (f := 14) (by decide) (by rfl) rfl Tryd.func14 (by decide) (by rfl) ?_ | refine GoR.callG (f := 14) (by decide) (by rfl) (by rfl) rfl Tryd.func14 (by decide) (by rfl) ?_)
       (first | (refine (hab _).ret ?_) | (refine (hbc _).ret ?_) | (refine (hac _).ret ?_)))
    | refine Go.condT (by rfl) ?_
    | refine Go.condF (by rfl) ?_
    | refine GoR.skipG (by decide) rfl rfl ?_
    | (refine GoR.splitG rfl (fun hc => ?_) (fun hc => ?_) <;> simp only [hc])
    | refine Go.condB rfl (fun hc => ?_) (fun hc => ?_))
  all_goals
    refine ⟨(by first | exact .inl rfl | exact .inr rfl), fin ?_⟩
    rw [resD_tmp (fn := Tryd.f4) rfl]
    simp only [optThen_some, resultD_tmp, resultD_cell, G, Z, Y, un_neg, Int.reduceEq, Int.reduceLE, cutD, Nat.reduceBEq, Nat.reduceAdd, Nat.reduceMul, Nat.reduceSub, Nat.reducePow, Nat.reduceLT, Nat.reduceGT, Nat.reduceLeDiff, Nat.reduceEqDiff, Int.reduceToNat, gt_iff_lt, if_true, if_false, beq_self_eq_true, reduceIte, decide_true, decide_false, fd2_0, fd2_1, fd2_2, fd2_3, fd2_4, fd2_5, fd2_6, fd3_0, fd3_1, fd3_2, fd3_3, fd3_4, fd3_5, fd3_6, fd4_0, fd4_1, fd4_2, fd4_3, fd4_4, fd9_0, fd9_1, fd9_2, fd9_3, fd9_4, fd9_5, fd9_6, fd9_7, fd23_0, fd23_1, fd23_2, fd23_3, fd23_4, fd23_5, fd23_6, fd23_7, fd23_8, fd23_9, fd23_10, fd23_11]
    refine ⟨_, _, rfl, .bool, ?_⟩
    first
      | rfl
      | (have hx : x ≤ 0 := by simp_all
         have hy : y ≤ 0 := by simp_all
         obtain ⟨h1, h2⟩ := hl hx hy
         clear hl hab hbc hac
         simp_all
         try (rw [Bool.eq_iff_iff, beq_iff_eq, beq_iff_eq]; assumption))
end Go.Proofs.DnT
