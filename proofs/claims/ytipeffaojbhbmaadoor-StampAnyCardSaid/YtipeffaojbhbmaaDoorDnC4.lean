/- A stamp in words; what is known of two stamps. -/
import Derived.Test.YtipeffaojbhbmaaDoorDnC3
set_option linter.unusedSimpArgs false
set_option linter.unusedVariables false
namespace Go.Proofs.DnT
open Go Go.DM
set_option maxRecDepth 100000

def in64 (n : Int) : Prop := -9223372036854775808 ≤ n ∧ n ≤ 9223372036854775807
def In64 (s : St) : Prop := in64 s.tick ∧ in64 s.inc ∧ in64 s.seq
theorem nd_le : ∀ (k u : Nat), u < 10 ^ (k + 1) → Lib.nDigits u ≤ k + 1
  | 0, u, h => by rw [Lib.nDigits_small (by simpa using h)]; exact Nat.le_refl _
  | k + 1, u, h => by
    by_cases h1 : u < 10
    · rw [Lib.nDigits_small h1]; omega
    · rw [Lib.nDigits_big h1]
      have := nd_le k (u / 10) (by rw [Nat.pow_succ] at h; omega)
      omega
theorem decB_size {n : Int} (h : in64 n) : (decB n).size ≤ 21 := by
  have e : (decB n).size = (Lib.itoa n).length := by simp [decB, ByteArray.size]
  rw [e]
  obtain ⟨h1, h2⟩ := h
  unfold Lib.itoa
  split
  · rw [List.length_cons, Lib.decDigits_length]
    have := nd_le 19 n.natAbs (by have : n.natAbs ≤ 9223372036854775808 := by omega
                                  omega)
    omega
  · rw [Lib.decDigits_length]
    have := nd_le 19 n.toNat (by have : n.toNat ≤ 9223372036854775807 := by omega
                                 omega)
    omega
def decsB (l : List Int) : List ByteArray := l.map decB
def textB (s : St) : ByteArray := joinB [decB s.tick, decB s.inc, decB s.seq] ⟨#[46]⟩ ++ ⟨#[64]⟩ ++ s.org
theorem join3_size {a b c : ByteArray} (ha : a.size ≤ 21) (hb : b.size ≤ 21) (hc : c.size ≤ 21) : (joinB [a, b, c] ⟨#[46]⟩).size ≤ 140737488355328 := by
  simp only [joinB, ByteArray.size, List.size_toArray] at *
  simp only [List.map_cons, List.map_nil, Lib.join_length, Lib.lens, List.length_cons, List.length_nil, Array.length_toList]
  simp
  have ea : a.data.size = a.size := rfl
  have eb : b.data.size = b.size := rfl
  have ec : c.data.size = c.size := rfl
  omega
theorem add_str {P : Program} {t : TypeId} {x y : Operand} {a b : ByteArray} (h : a.size + b.size < 4611686018427387904) : binD P .add t x y (.str a) (.str b) = some (.str (a ++ b)) :=
  bin_str (v := .string (a ++ b)) (by simp only [AM.strBin]; rw [if_neg]; show ¬ ((a.size + b.size : Nat) : Int) > 9223372036854775807; omega)
theorem fits_str {n : Nat} {s : ByteArray} (h : n < 1000000) : fitsD 16 n [.str s] := ⟨by omega, by omega, by omega, rfl⟩
theorem take_decs {l : List Int} {i : Nat} (h : i < l.length) : (decsB (l.take (i + 1))).map D.str = (decsB (l.take i)).map D.str ++ [.str (decB l[i])] := by
  rw [List.take_succ_eq_append_getElem h]
  simp only [decsB, List.map_append, List.map_cons, List.map_nil]
theorem stText (s : St) (hn : In64 s) (hs : s.org.size < 1000000) (S : Mem) : CallD Tryd.prog O 16 [.agg s.c] S fun d S' => S' = S ∧ d = .str (textB s) := by
  obtain ⟨a, b, c, org⟩ := s
  obtain ⟨ha, hb, hc'⟩ := hn
  simp only at ha hb hc' hs
  simp only [St.c, textB]
  generalize hl : [a, b, c] = l
  have hlen : l.length = 3 := by rw [← hl]; rfl
  have hin : ∀ x ∈ l, in64 x := by rw [← hl]; simp [ha, hb, hc']
  have hcells : [D.int .i64 a, D.int .i64 b, D.int .i64 c] = intsD l := by rw [← hl]; rfl
  have hrep : repD [D.int .i64 0] 3 = [D.int .i64 0, D.int .i64 0, D.int .i64 0] := rfl
  refine CallD.drop ?_
  refine CallD.body Tryd.func16 rfl (by simp [Tryd.ntmps16]) ?_
  rw [Tryd.ntmps16]
  have hone : (intsD l).all D.one = true := by simp [intsD, D.one]
  repeat' (first
    | refine Go.seq ?_
    | refine Go.rg ?_
    | refine GoR.nil ?_
    | refine Go.skip ?_
    | refine Go.ret ?_
    | refine Go.block ?_
    | refine Go.exit ?_
    | refine Go.blkX ?_
    | refine Go.blkN ?_
    | refine Go.passX ?_
    | refine Go.lpX ?_
    | (refine Go.blkE (by decide) ?_)
    | (refine Go.rgS dmx (by decide) ?_)
    | (refine Go.rgD [4] (fun _ => True) dmx (by decide) 7 (by decide) ?_ ?_
       · trivial)
    | refine GoW.nil rfl ?_
    | ((first | refine GoR.op (by decide) (by rfl) ?_ | refine GoR.opG (by decide) (by rfl) (by rfl) ?_ | refine GoW.op (by decide) (by rfl) rfl ?_ | refine GoW.opG (by decide) (by rfl) rfl (by rfl) ?_)
       conv => arg 1; simp only [G, Z, Y, un_neg, Int.reduceEq, Int.reduceLE, cutD, Nat.reduceBEq, Nat.reduceAdd, Nat.reduceMul, Nat.reduceSub, Nat.reducePow, Nat.reduceLT, Nat.reduceGT, Nat.reduceLeDiff, Nat.reduceEqDiff, Int.reduceToNat, gt_iff_lt, if_true, if_false, beq_self_eq_true, reduceIte, decide_true, decide_false, fd2_0, fd2_1, fd2_2, fd2_3, fd2_4, fd2_5, fd2_6, fd3_0, fd3_1, fd3_2, fd3_3, fd3_4, fd3_5, fd3_6, fd9_0, fd9_1, fd9_2, fd9_3, fd9_4, fd9_5, fd9_6, fd9_7, fd23_0, fd23_1, fd23_2, fd23_3, fd23_4, fd23_5, fd23_6, fd23_7, fd23_8, fd23_9, fd23_10, fd23_11, fd51_0, fd51_1, fd51_2, fd51_3, fd51_4, fd51_5, fd51_6, fd51_7, fd51_8, fd51_9, fd51_10, fd51_11, fd51_12, fd51_13, fd51_14, fd51_15, fd51_16, fd51_17, fd51_18, fd51_19, fd51_20, fd51_21, fd51_22, fd51_23, fd68_0, fd68_1, fd68_2, fd68_3, fd68_4, fd68_5, fd68_6, fd68_7, fd68_8, fd68_9, fd68_10, fd68_11, fd68_12, fd68_13, fd68_14, fd68_15, fd68_16, fd68_17, fd68_18, fd68_19, fd68_20, fd68_21, fd68_22, fd68_23, hrep, List.set_cons_zero, List.set_cons_succ, List.length_cons, List.length_nil, hcells, hone]
       first | show GoR _ _ _ _ _ _ _ _ _ _ | (show _ ∧ _; refine ⟨by (first | exact fun h => absurd h (by decide) | (intro _; trivial)), ?_⟩; show GoW _ _ _ _ _ _ _ _ _ _ _ _ _ _))
    | ((first | refine GoW.readT (by decide) (by rfl) ?_ | refine GoW.readTG (by decide) (by rfl) (by rfl) ?_)
       conv => arg 1; simp only [G, Z, Y, un_neg, Int.reduceEq, Int.reduceLE, cutD, Nat.reduceBEq, Nat.reduceAdd, Nat.reduceMul, Nat.reduceSub, Nat.reducePow, Nat.reduceLT, Nat.reduceGT, Nat.reduceLeDiff, Nat.reduceEqDiff, Int.reduceToNat, gt_iff_lt, if_true, if_false, beq_self_eq_true, reduceIte, decide_true, decide_false, fd2_0, fd2_1, fd2_2, fd2_3, fd2_4, fd2_5, fd2_6, fd3_0, fd3_1, fd3_2, fd3_3, fd3_4, fd3_5, fd3_6, fd9_0, fd9_1, fd9_2, fd9_3, fd9_4, fd9_5, fd9_6, fd9_7, fd23_0, fd23_1, fd23_2, fd23_3, fd23_4, fd23_5, fd23_6, fd23_7, fd23_8, fd23_9, fd23_10, fd23_11, fd51_0, fd51_1, fd51_2, fd51_3, fd51_4, fd51_5, fd51_6, fd51_7, fd51_8, fd51_9, fd51_10, fd51_11, fd51_12, fd51_13, fd51_14, fd51_15, fd51_16, fd51_17, fd51_18, fd51_19, fd51_20, fd51_21, fd51_22, fd51_23, fd68_0, fd68_1, fd68_2, fd68_3, fd68_4, fd68_5, fd68_6, fd68_7, fd68_8, fd68_9, fd68_10, fd68_11, fd68_12, fd68_13, fd68_14, fd68_15, fd68_16, fd68_17, fd68_18, fd68_19, fd68_20, fd68_21, fd68_22, fd68_23, hrep, List.set_cons_zero, List.set_cons_succ, List.length_cons, List.length_nil, hcells, hone]
       show _ ∧ _ ∧ _ ∧ _
       refine ⟨rfl, by trivial, (fun H hI => by simp only [G, Z, Y, un_neg, Int.reduceEq, Int.reduceLE, cutD, Nat.reduceBEq, Nat.reduceAdd, Nat.reduceMul, Nat.reduceSub, Nat.reducePow, Nat.reduceLT, Nat.reduceGT, Nat.reduceLeDiff, Nat.reduceEqDiff, Int.reduceToNat, gt_iff_lt, if_true, if_false, beq_self_eq_true, reduceIte, decide_true, decide_false, fd2_0, fd2_1, fd2_2, fd2_3, fd2_4, fd2_5, fd2_6, fd3_0, fd3_1, fd3_2, fd3_3, fd3_4, fd3_5, fd3_6, fd9_0, fd9_1, fd9_2, fd9_3, fd9_4, fd9_5, fd9_6, fd9_7, fd23_0, fd23_1, fd23_2, fd23_3, fd23_4, fd23_5, fd23_6, fd23_7, fd23_8, fd23_9, fd23_10, fd23_11, fd51_0, fd51_1, fd51_2, fd51_3, fd51_4, fd51_5, fd51_6, fd51_7, fd51_8, fd51_9, fd51_10, fd51_11, fd51_12, fd51_13, fd51_14, fd51_15, fd51_16, fd51_17, fd51_18, fd51_19, fd51_20, fd51_21, fd51_22, fd51_23, fd68_0, fd68_1, fd68_2, fd68_3, fd68_4, fd68_5, fd68_6, fd68_7, fd68_8, fd68_9, fd68_10, fd68_11, fd68_12, fd68_13, fd68_14, fd68_15, fd68_16, fd68_17, fd68_18, fd68_19, fd68_20, fd68_21, fd68_22, fd68_23, hrep, List.set_cons_zero, List.set_cons_succ, List.length_cons, List.length_nil, hcells, hone]), ?_⟩
       show GoW _ _ _ _ _ _ _ _ _ _ _ _ _ _)
    | refine Go.condT (by rfl) ?_
    | refine Go.condF (by rfl) ?_
    | refine GoR.skipG (by decide) rfl rfl ?_
    | refine GoW.skipG (by decide) rfl rfl (by (first | exact fun h => absurd h (by decide) | (intro _; trivial))) ?_
    | (refine GoR.splitG rfl (fun hc => ?_) (fun hc => ?_) <;> simp only [hc])
    | refine Go.condB rfl (fun hc => ?_) (fun hc => ?_))
  refine Go.keep [(1, .ptr S.length 0), (3, .nils), (12, .sl (some (S.length + 1)) 1 3 (intsD l)), (13, .int .i64 ((3 : Nat) : Int)), (14, .int .i64 ((0 : Nat) : Int))] (.cons .refl (.cons .refl (.cons .refl (.cons .refl (.cons .refl (.nil)))))) ?_
  refine Go.while (α := Nat × D × Mem) (fun x => 3 - x.1) (fun x => [(1, .ptr S.length 0), (3, x.2.1), (12, .sl (some (S.length + 1)) 1 3 (intsD l)), (13, .int .i64 ((3 : Nat) : Int)), (14, .int .i64 (x.1 : Int))])
    (fun x => S ++ (.obj [.int .i64 a, .int .i64 b, .int .i64 c, .str org] :: .own :: x.2.2))
    (fun x => x.1 ≤ 3 ∧ AccD (S.length + 2) x.2.1 1 x.1 ((decsB (l.take x.1)).map .str) (S ++ (.obj [.int .i64 a, .int .i64 b, .int .i64 c, .str org] :: .own :: x.2.2)))
    ?_ (0, .nils, []) ⟨Nat.zero_le _, .inl ⟨rfl, rfl, rfl⟩⟩
  rintro ⟨i, o, E⟩ ⟨hi, hacc⟩ next
  dsimp only at hi hacc next
  by_cases h1 : i < 3
  · have h2 : i < l.length := by omega
    have hx := hin l[i] (List.getElem_mem _)
    obtain ⟨o', S2, hap, hacc2, hg2⟩ := (hacc.app [.own]).append (P := Tryd.prog) del51 (own := some (S.length + (E.length + 1 + 1))) (m := 1) (new := [.str (decB l[i])]) (by simp) (by simp) (fits_str (by omega))
    obtain ⟨E2, rfl⟩ := hg2.pre (E ++ [.own]) (S ++ [.obj [.int .i64 a, .int .i64 b, .int .i64 c, .str org], .own]) (by simp) (by simp)
    simp only [List.append_assoc, List.cons_append, List.nil_append] at hap hacc2
    have hix := (intsAt h2).2
    have h03 : ((0 ≤ (i : Int) ∧ (i : Int) < ((3 : Nat) : Int)) = True) := by simp; omega
    repeat' (first
      | refine Go.seq ?_
      | refine Go.rg ?_
      | refine GoR.nil ?_
      | refine Go.skip ?_
      | refine Go.ret ?_
      | refine Go.block ?_
      | refine Go.exit ?_
      | refine Go.blkX ?_
      | refine Go.blkN ?_
      | refine Go.passX ?_
      | refine Go.lpX ?_
      | (refine Go.blkE (by decide) ?_)
      | (refine Go.rgS dmx (by decide) ?_)
      | (refine Go.rgD [4] (fun _ => True) dmx (by decide) 7 (by decide) ?_ ?_
         · trivial)
      | refine GoW.nil rfl ?_
      | ((first | refine GoR.op (by decide) (by rfl) ?_ | refine GoR.opG (by decide) (by rfl) (by rfl) ?_ | refine GoW.op (by decide) (by rfl) rfl ?_ | refine GoW.opG (by decide) (by rfl) rfl (by rfl) ?_)
         conv => arg 1; simp only [G, Z, Y, un_neg, Int.reduceEq, Int.reduceLE, cutD, Nat.reduceBEq, Nat.reduceAdd, Nat.reduceMul, Nat.reduceSub, Nat.reducePow, Nat.reduceLT, Nat.reduceGT, Nat.reduceLeDiff, Nat.reduceEqDiff, Int.reduceToNat, gt_iff_lt, if_true, if_false, beq_self_eq_true, reduceIte, decide_true, decide_false, fd2_0, fd2_1, fd2_2, fd2_3, fd2_4, fd2_5, fd2_6, fd3_0, fd3_1, fd3_2, fd3_3, fd3_4, fd3_5, fd3_6, fd9_0, fd9_1, fd9_2, fd9_3, fd9_4, fd9_5, fd9_6, fd9_7, fd23_0, fd23_1, fd23_2, fd23_3, fd23_4, fd23_5, fd23_6, fd23_7, fd23_8, fd23_9, fd23_10, fd23_11, fd51_0, fd51_1, fd51_2, fd51_3, fd51_4, fd51_5, fd51_6, fd51_7, fd51_8, fd51_9, fd51_10, fd51_11, fd51_12, fd51_13, fd51_14, fd51_15, fd51_16, fd51_17, fd51_18, fd51_19, fd51_20, fd51_21, fd51_22, fd51_23, fd68_0, fd68_1, fd68_2, fd68_3, fd68_4, fd68_5, fd68_6, fd68_7, fd68_8, fd68_9, fd68_10, fd68_11, fd68_12, fd68_13, fd68_14, fd68_15, fd68_16, fd68_17, fd68_18, fd68_19, fd68_20, fd68_21, fd68_22, fd68_23, hix, h03, wrap_succ (show i < 4611686018427387904 by omega), hap, builtin_append, show decide ((i : Int) < ((3 : Nat) : Int)) = true by simp; omega]
         first | show GoR _ _ _ _ _ _ _ _ _ _ | (show _ ∧ _; refine ⟨by (first | exact fun h => absurd h (by decide) | (intro _; trivial)), ?_⟩; show GoW _ _ _ _ _ _ _ _ _ _ _ _ _ _))
      | ((first | refine GoW.readT (by decide) (by rfl) ?_ | refine GoW.readTG (by decide) (by rfl) (by rfl) ?_)
         conv => arg 1; simp only [G, Z, Y, un_neg, Int.reduceEq, Int.reduceLE, cutD, Nat.reduceBEq, Nat.reduceAdd, Nat.reduceMul, Nat.reduceSub, Nat.reducePow, Nat.reduceLT, Nat.reduceGT, Nat.reduceLeDiff, Nat.reduceEqDiff, Int.reduceToNat, gt_iff_lt, if_true, if_false, beq_self_eq_true, reduceIte, decide_true, decide_false, fd2_0, fd2_1, fd2_2, fd2_3, fd2_4, fd2_5, fd2_6, fd3_0, fd3_1, fd3_2, fd3_3, fd3_4, fd3_5, fd3_6, fd9_0, fd9_1, fd9_2, fd9_3, fd9_4, fd9_5, fd9_6, fd9_7, fd23_0, fd23_1, fd23_2, fd23_3, fd23_4, fd23_5, fd23_6, fd23_7, fd23_8, fd23_9, fd23_10, fd23_11, fd51_0, fd51_1, fd51_2, fd51_3, fd51_4, fd51_5, fd51_6, fd51_7, fd51_8, fd51_9, fd51_10, fd51_11, fd51_12, fd51_13, fd51_14, fd51_15, fd51_16, fd51_17, fd51_18, fd51_19, fd51_20, fd51_21, fd51_22, fd51_23, fd68_0, fd68_1, fd68_2, fd68_3, fd68_4, fd68_5, fd68_6, fd68_7, fd68_8, fd68_9, fd68_10, fd68_11, fd68_12, fd68_13, fd68_14, fd68_15, fd68_16, fd68_17, fd68_18, fd68_19, fd68_20, fd68_21, fd68_22, fd68_23, hix, h03, wrap_succ (show i < 4611686018427387904 by omega), hap, builtin_append, show decide ((i : Int) < ((3 : Nat) : Int)) = true by simp; omega]
         show _ ∧ _ ∧ _ ∧ _
         refine ⟨rfl, by trivial, (fun H hI => by simp only [G, Z, Y, un_neg, Int.reduceEq, Int.reduceLE, cutD, Nat.reduceBEq, Nat.reduceAdd, Nat.reduceMul, Nat.reduceSub, Nat.reducePow, Nat.reduceLT, Nat.reduceGT, Nat.reduceLeDiff, Nat.reduceEqDiff, Int.reduceToNat, gt_iff_lt, if_true, if_false, beq_self_eq_true, reduceIte, decide_true, decide_false, fd2_0, fd2_1, fd2_2, fd2_3, fd2_4, fd2_5, fd2_6, fd3_0, fd3_1, fd3_2, fd3_3, fd3_4, fd3_5, fd3_6, fd9_0, fd9_1, fd9_2, fd9_3, fd9_4, fd9_5, fd9_6, fd9_7, fd23_0, fd23_1, fd23_2, fd23_3, fd23_4, fd23_5, fd23_6, fd23_7, fd23_8, fd23_9, fd23_10, fd23_11, fd51_0, fd51_1, fd51_2, fd51_3, fd51_4, fd51_5, fd51_6, fd51_7, fd51_8, fd51_9, fd51_10, fd51_11, fd51_12, fd51_13, fd51_14, fd51_15, fd51_16, fd51_17, fd51_18, fd51_19, fd51_20, fd51_21, fd51_22, fd51_23, fd68_0, fd68_1, fd68_2, fd68_3, fd68_4, fd68_5, fd68_6, fd68_7, fd68_8, fd68_9, fd68_10, fd68_11, fd68_12, fd68_13, fd68_14, fd68_15, fd68_16, fd68_17, fd68_18, fd68_19, fd68_20, fd68_21, fd68_22, fd68_23, hix, h03, wrap_succ (show i < 4611686018427387904 by omega), hap, builtin_append, show decide ((i : Int) < ((3 : Nat) : Int)) = true by simp; omega]), ?_⟩
         show GoW _ _ _ _ _ _ _ _ _ _ _ _ _ _)
      | ((first | refine GoW.call (f := 37) (by decide) (by rfl) rfl Tryd.func37 (by rfl) (by decide) rfl ?_ | refine GoW.callG (f := 37) (by decide) (by rfl) (by rfl) rfl Tryd.func37 (by rfl) (by decide) rfl ?_)
         (refine (formatInt _ hx.1 hx.2 _).ret ?_)
         refine ⟨by (first | exact fun h => absurd h (by decide) | (intro _; trivial)), ?_⟩)
      | ((first | refine GoR.call (f := 37) (by decide) (by rfl) rfl Tryd.func37 (by decide) (by rfl) ?_ | refine GoR.callG (f := 37) (by decide) (by rfl) (by rfl) rfl Tryd.func37 (by decide) (by rfl) ?_)
         (refine (formatInt _ hx.1 hx.2 _).ret ?_))
      | refine Go.condT (by rfl) ?_
      | refine Go.condF (by rfl) ?_
      | refine GoR.skipG (by decide) rfl rfl ?_
      | refine GoW.skipG (by decide) rfl rfl (by (first | exact fun h => absurd h (by decide) | (intro _; trivial))) ?_
      | (refine GoR.splitG rfl (fun hc => ?_) (fun hc => ?_) <;> simp only [hc])
      | refine Go.condB rfl (fun hc => ?_) (fun hc => ?_))
    refine Go.lpN ?_
    refine Go.keep [(1, .ptr S.length 0), (3, o'), (12, .sl (some (S.length + 1)) 1 3 (intsD l)), (13, .int .i64 ((3 : Nat) : Int)), (14, .int .i64 ((i + 1 : Nat) : Int))] (.cons .refl (.cons .refl (.cons .refl (.cons .refl (.cons .refl (.nil)))))) ?_
    refine next (i + 1, o', E2) (by dsimp only; omega) ⟨h1, ?_⟩
    dsimp only
    rw [take_decs h2]
    exact hacc2
  · clear next
    obtain rfl : i = 3 := by omega
    rcases hacc with ⟨_, h, _⟩ | ⟨_, h, _⟩ | ⟨id, _, rfl, _⟩
    · cases h
    · cases h
    · have e3 : decsB (l.take 3) = [decB a, decB b, decB c] := by rw [← hl]; rfl
      rw [e3]
      have hj := join3_size (decB_size ha) (decB_size hb) (decB_size hc')
      have hp1 := fun {t : TypeId} {x y : Operand} => add_str (P := Tryd.prog) (t := t) (x := x) (y := y) (a := joinB [decB a, decB b, decB c] ⟨#[46]⟩) (b := ⟨#[64]⟩) (by show _ + 1 < _; omega)
      have hp2 := fun {t : TypeId} {x y : Operand} => add_str (P := Tryd.prog) (t := t) (x := x) (y := y) (a := joinB [decB a, decB b, decB c] ⟨#[46]⟩ ++ ⟨#[64]⟩) (b := org) (by rw [ByteArray.size_append]; show _ + 1 + _ < _; omega)
      repeat' (first
        | refine Go.seq ?_
        | refine Go.rg ?_
        | refine GoR.nil ?_
        | refine Go.skip ?_
        | refine Go.ret ?_
        | refine Go.block ?_
        | refine Go.exit ?_
        | refine Go.blkX ?_
        | refine Go.blkN ?_
        | refine Go.passX ?_
        | refine Go.lpX ?_
        | (refine Go.blkE (by decide) ?_)
        | (refine Go.rgS dmx (by decide) ?_)
        | (refine Go.rgD [4] (fun H => objAt H S.length = some [.int .i64 a, .int .i64 b, .int .i64 c, .str org]) dmx (by decide) 7 (by decide) ?_ ?_
           · (simp only [List.append_assoc, List.cons_append, List.nil_append, objAt_app, objAt_app0, objAt_succ, objAt_zero]))
        | refine GoW.nil rfl ?_
        | ((first | refine GoR.op (by decide) (by rfl) ?_ | refine GoR.opG (by decide) (by rfl) (by rfl) ?_ | refine GoW.op (by decide) (by rfl) rfl ?_ | refine GoW.opG (by decide) (by rfl) rfl (by rfl) ?_)
           conv => arg 1; simp only [G, Z, Y, un_neg, Int.reduceEq, Int.reduceLE, cutD, Nat.reduceBEq, Nat.reduceAdd, Nat.reduceMul, Nat.reduceSub, Nat.reducePow, Nat.reduceLT, Nat.reduceGT, Nat.reduceLeDiff, Nat.reduceEqDiff, Int.reduceToNat, gt_iff_lt, if_true, if_false, beq_self_eq_true, reduceIte, decide_true, decide_false, fd2_0, fd2_1, fd2_2, fd2_3, fd2_4, fd2_5, fd2_6, fd3_0, fd3_1, fd3_2, fd3_3, fd3_4, fd3_5, fd3_6, fd9_0, fd9_1, fd9_2, fd9_3, fd9_4, fd9_5, fd9_6, fd9_7, fd23_0, fd23_1, fd23_2, fd23_3, fd23_4, fd23_5, fd23_6, fd23_7, fd23_8, fd23_9, fd23_10, fd23_11, fd51_0, fd51_1, fd51_2, fd51_3, fd51_4, fd51_5, fd51_6, fd51_7, fd51_8, fd51_9, fd51_10, fd51_11, fd51_12, fd51_13, fd51_14, fd51_15, fd51_16, fd51_17, fd51_18, fd51_19, fd51_20, fd51_21, fd51_22, fd51_23, fd68_0, fd68_1, fd68_2, fd68_3, fd68_4, fd68_5, fd68_6, fd68_7, fd68_8, fd68_9, fd68_10, fd68_11, fd68_12, fd68_13, fd68_14, fd68_15, fd68_16, fd68_17, fd68_18, fd68_19, fd68_20, fd68_21, fd68_22, fd68_23, hp1, hp2]
           first | show GoR _ _ _ _ _ _ _ _ _ _ | (show _ ∧ _; refine ⟨by (first | exact fun h => absurd h (by decide) | (intro _; (simp only [List.append_assoc, List.cons_append, List.nil_append, objAt_app, objAt_app0, objAt_succ, objAt_zero]))), ?_⟩; show GoW _ _ _ _ _ _ _ _ _ _ _ _ _ _))
        | ((first | refine GoW.readT (by decide) (by rfl) ?_ | refine GoW.readTG (by decide) (by rfl) (by rfl) ?_)
           conv => arg 1; simp only [G, Z, Y, un_neg, Int.reduceEq, Int.reduceLE, cutD, Nat.reduceBEq, Nat.reduceAdd, Nat.reduceMul, Nat.reduceSub, Nat.reducePow, Nat.reduceLT, Nat.reduceGT, Nat.reduceLeDiff, Nat.reduceEqDiff, Int.reduceToNat, gt_iff_lt, if_true, if_false, beq_self_eq_true, reduceIte, decide_true, decide_false, fd2_0, fd2_1, fd2_2, fd2_3, fd2_4, fd2_5, fd2_6, fd3_0, fd3_1, fd3_2, fd3_3, fd3_4, fd3_5, fd3_6, fd9_0, fd9_1, fd9_2, fd9_3, fd9_4, fd9_5, fd9_6, fd9_7, fd23_0, fd23_1, fd23_2, fd23_3, fd23_4, fd23_5, fd23_6, fd23_7, fd23_8, fd23_9, fd23_10, fd23_11, fd51_0, fd51_1, fd51_2, fd51_3, fd51_4, fd51_5, fd51_6, fd51_7, fd51_8, fd51_9, fd51_10, fd51_11, fd51_12, fd51_13, fd51_14, fd51_15, fd51_16, fd51_17, fd51_18, fd51_19, fd51_20, fd51_21, fd51_22, fd51_23, fd68_0, fd68_1, fd68_2, fd68_3, fd68_4, fd68_5, fd68_6, fd68_7, fd68_8, fd68_9, fd68_10, fd68_11, fd68_12, fd68_13, fd68_14, fd68_15, fd68_16, fd68_17, fd68_18, fd68_19, fd68_20, fd68_21, fd68_22, fd68_23, hp1, hp2]
           show _ ∧ _ ∧ _ ∧ _
           refine ⟨rfl, by (simp only [List.append_assoc, List.cons_append, List.nil_append, objAt_app, objAt_app0, objAt_succ, objAt_zero]), (fun H hI => by (try dsimp only at hI); simp only [G, Z, Y, un_neg, Int.reduceEq, Int.reduceLE, cutD, Nat.reduceBEq, Nat.reduceAdd, Nat.reduceMul, Nat.reduceSub, Nat.reducePow, Nat.reduceLT, Nat.reduceGT, Nat.reduceLeDiff, Nat.reduceEqDiff, Int.reduceToNat, gt_iff_lt, if_true, if_false, beq_self_eq_true, reduceIte, decide_true, decide_false, fd2_0, fd2_1, fd2_2, fd2_3, fd2_4, fd2_5, fd2_6, fd3_0, fd3_1, fd3_2, fd3_3, fd3_4, fd3_5, fd3_6, fd9_0, fd9_1, fd9_2, fd9_3, fd9_4, fd9_5, fd9_6, fd9_7, fd23_0, fd23_1, fd23_2, fd23_3, fd23_4, fd23_5, fd23_6, fd23_7, fd23_8, fd23_9, fd23_10, fd23_11, fd51_0, fd51_1, fd51_2, fd51_3, fd51_4, fd51_5, fd51_6, fd51_7, fd51_8, fd51_9, fd51_10, fd51_11, fd51_12, fd51_13, fd51_14, fd51_15, fd51_16, fd51_17, fd51_18, fd51_19, fd51_20, fd51_21, fd51_22, fd51_23, fd68_0, fd68_1, fd68_2, fd68_3, fd68_4, fd68_5, fd68_6, fd68_7, fd68_8, fd68_9, fd68_10, fd68_11, fd68_12, fd68_13, fd68_14, fd68_15, fd68_16, fd68_17, fd68_18, fd68_19, fd68_20, fd68_21, fd68_22, fd68_23, hp1, hp2, hI]), ?_⟩
           show GoW _ _ _ _ _ _ _ _ _ _ _ _ _ _)
        | ((first | refine GoW.call (f := 38) (by decide) (by rfl) rfl Tryd.func38 (by rfl) (by decide) rfl ?_ | refine GoW.callG (f := 38) (by decide) (by rfl) (by rfl) rfl Tryd.func38 (by rfl) (by decide) rfl ?_)
           (refine (join _ [decB a, decB b, decB c] ⟨#[46]⟩ (by simp) (join3_size (decB_size ha) (decB_size hb) (decB_size hc')) _).ret ?_)
           refine ⟨by (first | exact fun h => absurd h (by decide) | (intro _; (simp only [List.append_assoc, List.cons_append, List.nil_append, objAt_app, objAt_app0, objAt_succ, objAt_zero]))), ?_⟩)
        | ((first | refine GoR.call (f := 38) (by decide) (by rfl) rfl Tryd.func38 (by decide) (by rfl) ?_ | refine GoR.callG (f := 38) (by decide) (by rfl) (by rfl) rfl Tryd.func38 (by decide) (by rfl) ?_)
           (refine (join _ [decB a, decB b, decB c] ⟨#[46]⟩ (by simp) (join3_size (decB_size ha) (decB_size hb) (decB_size hc')) _).ret ?_))
        | refine Go.condT (by rfl) ?_
        | refine Go.condF (by rfl) ?_
        | refine GoR.skipG (by decide) rfl rfl ?_
        | refine GoW.skipG (by decide) rfl rfl (by (first | exact fun h => absurd h (by decide) | (intro _; (simp only [List.append_assoc, List.cons_append, List.nil_append, objAt_app, objAt_app0, objAt_succ, objAt_zero])))) ?_
        | (refine GoR.splitG rfl (fun hc => ?_) (fun hc => ?_) <;> simp only [hc])
        | refine Go.condB rfl (fun hc => ?_) (fun hc => ?_))
      refine ⟨(by first | exact .inl rfl | exact .inr rfl), fin ?_⟩
      rw [resD_tmp (fn := Tryd.f16) rfl]
      simp only [optThen_some, resultD_tmp, resultD_cell, G, Z, Y, un_neg, Int.reduceEq, Int.reduceLE, cutD, Nat.reduceBEq, Nat.reduceAdd, Nat.reduceMul, Nat.reduceSub, Nat.reducePow, Nat.reduceLT, Nat.reduceGT, Nat.reduceLeDiff, Nat.reduceEqDiff, Int.reduceToNat, gt_iff_lt, if_true, if_false, beq_self_eq_true, reduceIte, decide_true, decide_false, fd2_0, fd2_1, fd2_2, fd2_3, fd2_4, fd2_5, fd2_6, fd3_0, fd3_1, fd3_2, fd3_3, fd3_4, fd3_5, fd3_6, fd9_0, fd9_1, fd9_2, fd9_3, fd9_4, fd9_5, fd9_6, fd9_7, fd23_0, fd23_1, fd23_2, fd23_3, fd23_4, fd23_5, fd23_6, fd23_7, fd23_8, fd23_9, fd23_10, fd23_11, fd51_0, fd51_1, fd51_2, fd51_3, fd51_4, fd51_5, fd51_6, fd51_7, fd51_8, fd51_9, fd51_10, fd51_11, fd51_12, fd51_13, fd51_14, fd51_15, fd51_16, fd51_17, fd51_18, fd51_19, fd51_20, fd51_21, fd51_22, fd51_23, fd68_0, fd68_1, fd68_2, fd68_3, fd68_4, fd68_5, fd68_6, fd68_7, fd68_8, fd68_9, fd68_10, fd68_11, fd68_12, fd68_13, fd68_14, fd68_15, fd68_16, fd68_17, fd68_18, fd68_19, fd68_20, fd68_21, fd68_22, fd68_23]
      exact ⟨_, _, rfl, .str, rfl⟩
end Go.Proofs.DnT
