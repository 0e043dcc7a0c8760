/- Trees: which have few nodes, which may be. -/
import Derived.Test.YtcnjndjahloifaaDaD7
import Derived.Test.YtcnjndjahloifaaDaD4
set_option linter.unusedSimpArgs false
set_option linter.unusedVariables false
namespace Go.Proofs.DaT
open Go Go.DM
set_option maxRecDepth 100000
variable {orc : DOracle}

/-- A tree. -/
inductive Nd where
  | mk (op name : ByteArray) (n : Int) (kids : List Nd)
def Nd.op : Nd → ByteArray | .mk o _ _ _ => o
def Nd.name : Nd → ByteArray | .mk _ o _ _ => o
def Nd.n : Nd → Int | .mk _ _ o _ => o
def Nd.kids : Nd → List Nd | .mk _ _ _ o => o
theorem Nd.kid_lt {op name : ByteArray} {n : Int} {kids : List Nd} {k : Nd} (h : k ∈ kids) : SizeOf.sizeOf k < SizeOf.sizeOf (Nd.mk op name n kids) := by
  have := List.sizeOf_lt_of_mem h
  simp only [Nd.mk.sizeOf_spec]
  omega
def Nd.c : Nd → List D
  | .mk op nm n ks => [.str op, .str nm, .int .i64 n, .sl none 4 ks.length ((ks.attach.map fun ⟨k, _⟩ => Nd.c k).flatten)]
termination_by n => SizeOf.sizeOf n
decreasing_by exact Nd.kid_lt ‹_›
def ndsC (l : List Nd) : List D := l.flatMap Nd.c
theorem Nd.c_mk {op nm : ByteArray} {n : Int} {ks : List Nd} : (Nd.mk op nm n ks).c = [.str op, .str nm, .int .i64 n, .sl none 4 ks.length (ndsC ks)] := by
  rw [Nd.c]
  simp [ndsC, List.flatMap]
theorem Nd.len (n : Nd) : n.c.length = 4 := by cases n; rw [Nd.c_mk]; rfl
theorem ndsAt {l : List Nd} {i : Nat} (h : i < l.length) :
    ((0 ≤ (i : Int) ∧ (i : Int) < (l.length : Int)) = True) ∧ ((i * 4 + 4 ≤ (ndsC l).length) = True) ∧ ((ndsC l).drop (i * 4)).take 4 = l[i].c :=
  ⟨ix_ok h, flat_fits0 Nd.len l i h, flat_all Nd.len l i h⟩
theorem Nd.ind {p : Nd → Prop} (h : ∀ op nm n ks, (∀ k ∈ ks, p k) → p (.mk op nm n ks)) : ∀ n, p n
  | .mk op nm n ks => h op nm n ks fun k _ => Nd.ind h k
termination_by n => SizeOf.sizeOf n
decreasing_by exact Nd.kid_lt ‹_›
theorem Nd.low {m : Nat} (n : Nd) : LowL m n.c := by
  induction n using Nd.ind with
  | h op nm n ks ih =>
    rw [Nd.c_mk]
    refine .cons (.str _) (.cons (.str _) (.cons (.int _ _) (.cons (.sl' (.of_mem ?_)) .nil)))
    intro x hx
    simp only [ndsC, List.mem_flatMap] at hx
    obtain ⟨k, hk, hx⟩ := hx
    obtain ⟨i, hi, rfl⟩ := List.mem_iff_getElem.1 hx
    exact (ih k hk).get i hi
theorem nds_low {m : Nat} (l : List Nd) : LowL m (ndsC l) := .of_mem (by
  intro x hx
  simp only [ndsC, List.mem_flatMap] at hx
  obtain ⟨k, _, hx⟩ := hx
  obtain ⟨i, hi, rfl⟩ := List.mem_iff_getElem.1 hx
  exact k.low.get i hi)

theorem Nd.one (n : Nd) : n.c.all D.one = true := by cases n; rw [Nd.c_mk]; rfl
/-- A tree of which no node has very many. -/
inductive Slim (m : Nat) : Nd → Prop
  | mk {op nm n ks} (hn : nm.size ≤ 100) (h : ks.length ≤ m) (hk : ∀ k ∈ ks, Slim m k) : Slim m (.mk op nm n ks)

theorem wrap_pred {k : Int} (h1 : -100 ≤ k) (h2 : k ≤ 1000) : IntKind.i64.wrap (k - 1) = k - 1 := wrap64 (by omega) (by omega)

theorem of9 (n : Nd) (hs : Slim 100 n) : ∀ (S : Mem), CallD Try.prog orc 7 [.agg n.c] S fun d S' => S' = S ∧ d = .agg n.c := by
  induction n using Nd.ind with
  | h op nm n ks ih =>
    intro S
    obtain ⟨hnm, hl, hk⟩ := hs
    have hlow := Nd.low (m := S.length) (.mk op nm n ks)
    rw [Nd.c_mk] at hlow ⊢
    refine CallD.drop ?_
    refine CallD.body Try.func7 rfl (by simp [Try.ntmps7]) ?_
    rw [Try.ntmps7]
    repeat' (first
      | refine Go.seq ?_
      | refine Go.rg ?_
      | refine GoR.nil ?_
      | refine Go.skip ?_
      | refine Go.ret ?_
      | refine Go.block ?_
      | refine Go.exit ?_
      | refine Go.blkX ?_
      | refine Go.blkN ?_
      | refine Go.passX ?_
      | refine Go.lpX ?_
      | (refine Go.blkE (by decide) ?_)
      | (refine Go.rgS dmx (by decide) ?_)
      | (refine Go.rgD [1] (fun _ => True) dmx (by decide) 9 (by decide) ?_ ?_
         · trivial)
      | refine GoW.nil rfl ?_
      | ((first | refine GoR.op (by decide) (by rfl) ?_ | refine GoR.opG (by decide) (by rfl) (by rfl) ?_ | refine GoW.op (by decide) (by rfl) rfl ?_ | refine GoW.opG (by decide) (by rfl) rfl (by rfl) ?_)
         conv => arg 1; simp only [G, Z, Y, un_neg, Int.reduceEq, Int.reduceLE, cutD, Nat.reduceBEq, Nat.reduceAdd, Nat.reduceMul, Nat.reduceSub, Nat.reducePow, Nat.reduceLT, Nat.reduceGT, Nat.reduceLeDiff, Nat.reduceEqDiff, Int.reduceToNat, gt_iff_lt, if_true, if_false, beq_self_eq_true, reduceIte, decide_true, decide_false, fd2_0, fd2_1, fd2_2, fd2_3, fd2_4, fd2_5, fd2_6, fd2_7, fd2_8, fd2_9, fd3_0, fd3_1, fd3_2, fd3_3, fd3_4, fd3_5, fd3_6, fd3_7, fd3_8, fd3_9, fd9_0, fd9_1, fd9_2, fd9_3, fd9_4, fd9_5, fd9_6, fd9_7, fd22_0, fd22_1, fd22_2, fd22_3, fd22_4, fd22_5, fd22_6, fd22_7, fd22_8, fd22_9, fd22_10, fd22_11, fd22_12, fd22_13, fd22_14, fd22_15, fd22_16, fd22_17, fd22_18, fd22_19, fd22_20, fd22_21, fd22_22, fd22_23, fd24_0, fd24_1, fd24_2, fd24_3, fd24_4, fd24_5, fd24_6, fd24_7, fd24_8, fd24_9, fd24_10, fd24_11, fd30_0, fd30_1, fd30_2, fd30_3, fd30_4, fd30_5, fd30_6, fd30_7, fd30_8, fd30_9, fd30_10, fd30_11, fd30_12, fd30_13, fd30_14, fd30_15, fd30_16, fd30_17, fd30_18, fd30_19, fd30_20, fd30_21, fd30_22, fd30_23, fd32_0, fd32_1, fd32_2, fd32_3, fd32_4, fd32_5, fd32_6, fd32_7, fd32_8, fd32_9, fd32_10, fd32_11]
         first | show GoR _ _ _ _ _ _ _ _ _ _ | (show _ ∧ _; refine ⟨by (first | exact fun h => absurd h (by decide) | (intro _; trivial)), ?_⟩; show GoW _ _ _ _ _ _ _ _ _ _ _ _ _ _))
      | ((first | refine GoW.readT (by decide) (by rfl) ?_ | refine GoW.readTG (by decide) (by rfl) (by rfl) ?_)
         conv => arg 1; simp only [G, Z, Y, un_neg, Int.reduceEq, Int.reduceLE, cutD, Nat.reduceBEq, Nat.reduceAdd, Nat.reduceMul, Nat.reduceSub, Nat.reducePow, Nat.reduceLT, Nat.reduceGT, Nat.reduceLeDiff, Nat.reduceEqDiff, Int.reduceToNat, gt_iff_lt, if_true, if_false, beq_self_eq_true, reduceIte, decide_true, decide_false, fd2_0, fd2_1, fd2_2, fd2_3, fd2_4, fd2_5, fd2_6, fd2_7, fd2_8, fd2_9, fd3_0, fd3_1, fd3_2, fd3_3, fd3_4, fd3_5, fd3_6, fd3_7, fd3_8, fd3_9, fd9_0, fd9_1, fd9_2, fd9_3, fd9_4, fd9_5, fd9_6, fd9_7, fd22_0, fd22_1, fd22_2, fd22_3, fd22_4, fd22_5, fd22_6, fd22_7, fd22_8, fd22_9, fd22_10, fd22_11, fd22_12, fd22_13, fd22_14, fd22_15, fd22_16, fd22_17, fd22_18, fd22_19, fd22_20, fd22_21, fd22_22, fd22_23, fd24_0, fd24_1, fd24_2, fd24_3, fd24_4, fd24_5, fd24_6, fd24_7, fd24_8, fd24_9, fd24_10, fd24_11, fd30_0, fd30_1, fd30_2, fd30_3, fd30_4, fd30_5, fd30_6, fd30_7, fd30_8, fd30_9, fd30_10, fd30_11, fd30_12, fd30_13, fd30_14, fd30_15, fd30_16, fd30_17, fd30_18, fd30_19, fd30_20, fd30_21, fd30_22, fd30_23, fd32_0, fd32_1, fd32_2, fd32_3, fd32_4, fd32_5, fd32_6, fd32_7, fd32_8, fd32_9, fd32_10, fd32_11]
         show _ ∧ _ ∧ _ ∧ _
         refine ⟨rfl, by trivial, (fun H hI => by simp only [G, Z, Y, un_neg, Int.reduceEq, Int.reduceLE, cutD, Nat.reduceBEq, Nat.reduceAdd, Nat.reduceMul, Nat.reduceSub, Nat.reducePow, Nat.reduceLT, Nat.reduceGT, Nat.reduceLeDiff, Nat.reduceEqDiff, Int.reduceToNat, gt_iff_lt, if_true, if_false, beq_self_eq_true, reduceIte, decide_true, decide_false, fd2_0, fd2_1, fd2_2, fd2_3, fd2_4, fd2_5, fd2_6, fd2_7, fd2_8, fd2_9, fd3_0, fd3_1, fd3_2, fd3_3, fd3_4, fd3_5, fd3_6, fd3_7, fd3_8, fd3_9, fd9_0, fd9_1, fd9_2, fd9_3, fd9_4, fd9_5, fd9_6, fd9_7, fd22_0, fd22_1, fd22_2, fd22_3, fd22_4, fd22_5, fd22_6, fd22_7, fd22_8, fd22_9, fd22_10, fd22_11, fd22_12, fd22_13, fd22_14, fd22_15, fd22_16, fd22_17, fd22_18, fd22_19, fd22_20, fd22_21, fd22_22, fd22_23, fd24_0, fd24_1, fd24_2, fd24_3, fd24_4, fd24_5, fd24_6, fd24_7, fd24_8, fd24_9, fd24_10, fd24_11, fd30_0, fd30_1, fd30_2, fd30_3, fd30_4, fd30_5, fd30_6, fd30_7, fd30_8, fd30_9, fd30_10, fd30_11, fd30_12, fd30_13, fd30_14, fd30_15, fd30_16, fd30_17, fd30_18, fd30_19, fd30_20, fd30_21, fd30_22, fd30_23, fd32_0, fd32_1, fd32_2, fd32_3, fd32_4, fd32_5, fd32_6, fd32_7, fd32_8, fd32_9, fd32_10, fd32_11]), ?_⟩
         show GoW _ _ _ _ _ _ _ _ _ _ _ _ _ _)
      | refine Go.condT (by rfl) ?_
      | refine Go.condF (by rfl) ?_
      | refine GoR.skipG (by decide) rfl rfl ?_
      | refine GoW.skipG (by decide) rfl rfl (by (first | exact fun h => absurd h (by decide) | (intro _; trivial))) ?_
      | (refine GoR.splitG rfl (fun hc => ?_) (fun hc => ?_) <;> simp only [hc])
      | refine Go.condB rfl (fun hc => ?_) (fun hc => ?_))
    refine Go.keep [(1, .ptr S.length 0), (2, .ptr (S.length + 1) 0), (3, .ptr (S.length + 2) 0), (4, .int .i64 ((0 : Nat) : Int))] (.cons .refl (.cons .refl (.cons .refl (.cons .refl (.nil))))) ?_
    refine Go.while (α := Nat × D × Mem) (fun a => ks.length - a.1) (fun a => [(1, .ptr S.length 0), (2, .ptr (S.length + 1) 0), (3, .ptr (S.length + 2) 0), (4, .int .i64 (a.1 : Int))])
      (fun a => S ++ (.obj [.str op, .str nm, .int .i64 n, .sl none 4 ks.length (ndsC ks)] :: .obj [.str ⟨#[]⟩, .str ⟨#[]⟩, .int .i64 0, .nils] :: .obj [.str op, .str nm, .int .i64 n, a.2.1] :: a.2.2))
      (fun a => a.1 ≤ ks.length ∧ AccD (S.length + 3) a.2.1 4 a.1 (ndsC (ks.take a.1)) (S ++ (.obj [.str op, .str nm, .int .i64 n, .sl none 4 ks.length (ndsC ks)] :: .obj [.str ⟨#[]⟩, .str ⟨#[]⟩, .int .i64 0, .nils] :: .obj [.str op, .str nm, .int .i64 n, a.2.1] :: a.2.2)))
      ?_ (0, .nils, []) ⟨Nat.zero_le _, .inl ⟨rfl, rfl, rfl⟩⟩
    rintro ⟨i, o, E⟩ ⟨hi, hacc⟩ next
    dsimp only at hi hacc next
    by_cases h1 : i < ks.length
    · have hkl : ks[i].c.length = 4 := Nd.len _
      have hko := Nd.one ks[i]
      obtain ⟨o', S2, hap, hacc2, hg2⟩ := (hacc.app [.own]).append (P := Try.prog) del30 (own := some (S.length + (E.length + 1 + 1 + 1))) (m := 1) (new := ks[i].c) (by simp) (by omega) ⟨by omega, by omega, by omega, Nd.one _⟩
      obtain ⟨E2, rfl⟩ := hg2.pre (E ++ [.own]) (S ++ [.obj [.str op, .str nm, .int .i64 n, .sl none 4 ks.length (ndsC ks)], .obj [.str ⟨#[]⟩, .str ⟨#[]⟩, .int .i64 0, .nils], .obj [.str op, .str nm, .int .i64 n, o]]) (by simp) (by simp)
      simp only [List.append_assoc, List.cons_append, List.nil_append] at hap hacc2
      have ho := hacc.one
      have ho2 := hacc2.one
      repeat' (first
        | refine Go.seq ?_
        | refine Go.rg ?_
        | refine GoR.nil ?_
        | refine Go.skip ?_
        | refine Go.ret ?_
        | refine Go.block ?_
        | refine Go.exit ?_
        | refine Go.blkX ?_
        | refine Go.blkN ?_
        | refine Go.passX ?_
        | refine Go.lpX ?_
        | (refine Go.blkE (by decide) ?_)
        | (refine Go.rgS dmx (by decide) ?_)
        | (refine Go.rgD [1] (fun H => objAt H (S.length + 2) = some [.str op, .str nm, .int .i64 n, o]) dmx (by decide) 9 (by decide) ?_ ?_
           · (simp only [objAt_app, objAt_succ, objAt_zero]))
        | refine GoW.nil rfl ?_
        | ((first | refine GoR.op (by decide) (by rfl) ?_ | refine GoR.opG (by decide) (by rfl) (by rfl) ?_ | refine GoW.op (by decide) (by rfl) rfl ?_ | refine GoW.opG (by decide) (by rfl) rfl (by rfl) ?_)
           conv => arg 1; simp only [G, Z, Y, un_neg, Int.reduceEq, Int.reduceLE, cutD, Nat.reduceBEq, Nat.reduceAdd, Nat.reduceMul, Nat.reduceSub, Nat.reducePow, Nat.reduceLT, Nat.reduceGT, Nat.reduceLeDiff, Nat.reduceEqDiff, Int.reduceToNat, gt_iff_lt, if_true, if_false, beq_self_eq_true, reduceIte, decide_true, decide_false, fd2_0, fd2_1, fd2_2, fd2_3, fd2_4, fd2_5, fd2_6, fd2_7, fd2_8, fd2_9, fd3_0, fd3_1, fd3_2, fd3_3, fd3_4, fd3_5, fd3_6, fd3_7, fd3_8, fd3_9, fd9_0, fd9_1, fd9_2, fd9_3, fd9_4, fd9_5, fd9_6, fd9_7, fd22_0, fd22_1, fd22_2, fd22_3, fd22_4, fd22_5, fd22_6, fd22_7, fd22_8, fd22_9, fd22_10, fd22_11, fd22_12, fd22_13, fd22_14, fd22_15, fd22_16, fd22_17, fd22_18, fd22_19, fd22_20, fd22_21, fd22_22, fd22_23, fd24_0, fd24_1, fd24_2, fd24_3, fd24_4, fd24_5, fd24_6, fd24_7, fd24_8, fd24_9, fd24_10, fd24_11, fd30_0, fd30_1, fd30_2, fd30_3, fd30_4, fd30_5, fd30_6, fd30_7, fd30_8, fd30_9, fd30_10, fd30_11, fd30_12, fd30_13, fd30_14, fd30_15, fd30_16, fd30_17, fd30_18, fd30_19, fd30_20, fd30_21, fd30_22, fd30_23, fd32_0, fd32_1, fd32_2, fd32_3, fd32_4, fd32_5, fd32_6, fd32_7, fd32_8, fd32_9, fd32_10, fd32_11, ho, ho2, hko, wr_full, ndsAt h1, wrap_succ (show i < 4611686018427387904 by omega), hap, builtin_append, show decide ((i : Int) < (ks.length : Int)) = true by simp; omega, hkl]
           first | show GoR _ _ _ _ _ _ _ _ _ _ | (show _ ∧ _; refine ⟨by (first | exact fun h => absurd h (by decide) | (intro _; (simp only [objAt_app, objAt_succ, objAt_zero]))), ?_⟩; show GoW _ _ _ _ _ _ _ _ _ _ _ _ _ _))
        | ((first | refine GoW.readT (by decide) (by rfl) ?_ | refine GoW.readTG (by decide) (by rfl) (by rfl) ?_)
           conv => arg 1; simp only [G, Z, Y, un_neg, Int.reduceEq, Int.reduceLE, cutD, Nat.reduceBEq, Nat.reduceAdd, Nat.reduceMul, Nat.reduceSub, Nat.reducePow, Nat.reduceLT, Nat.reduceGT, Nat.reduceLeDiff, Nat.reduceEqDiff, Int.reduceToNat, gt_iff_lt, if_true, if_false, beq_self_eq_true, reduceIte, decide_true, decide_false, fd2_0, fd2_1, fd2_2, fd2_3, fd2_4, fd2_5, fd2_6, fd2_7, fd2_8, fd2_9, fd3_0, fd3_1, fd3_2, fd3_3, fd3_4, fd3_5, fd3_6, fd3_7, fd3_8, fd3_9, fd9_0, fd9_1, fd9_2, fd9_3, fd9_4, fd9_5, fd9_6, fd9_7, fd22_0, fd22_1, fd22_2, fd22_3, fd22_4, fd22_5, fd22_6, fd22_7, fd22_8, fd22_9, fd22_10, fd22_11, fd22_12, fd22_13, fd22_14, fd22_15, fd22_16, fd22_17, fd22_18, fd22_19, fd22_20, fd22_21, fd22_22, fd22_23, fd24_0, fd24_1, fd24_2, fd24_3, fd24_4, fd24_5, fd24_6, fd24_7, fd24_8, fd24_9, fd24_10, fd24_11, fd30_0, fd30_1, fd30_2, fd30_3, fd30_4, fd30_5, fd30_6, fd30_7, fd30_8, fd30_9, fd30_10, fd30_11, fd30_12, fd30_13, fd30_14, fd30_15, fd30_16, fd30_17, fd30_18, fd30_19, fd30_20, fd30_21, fd30_22, fd30_23, fd32_0, fd32_1, fd32_2, fd32_3, fd32_4, fd32_5, fd32_6, fd32_7, fd32_8, fd32_9, fd32_10, fd32_11, ho, ho2, hko, wr_full, ndsAt h1, wrap_succ (show i < 4611686018427387904 by omega), hap, builtin_append, show decide ((i : Int) < (ks.length : Int)) = true by simp; omega, hkl]
           show _ ∧ _ ∧ _ ∧ _
           refine ⟨rfl, by (simp only [objAt_app, objAt_succ, objAt_zero]), (fun H hI => by (try dsimp only at hI); simp only [G, Z, Y, un_neg, Int.reduceEq, Int.reduceLE, cutD, Nat.reduceBEq, Nat.reduceAdd, Nat.reduceMul, Nat.reduceSub, Nat.reducePow, Nat.reduceLT, Nat.reduceGT, Nat.reduceLeDiff, Nat.reduceEqDiff, Int.reduceToNat, gt_iff_lt, if_true, if_false, beq_self_eq_true, reduceIte, decide_true, decide_false, fd2_0, fd2_1, fd2_2, fd2_3, fd2_4, fd2_5, fd2_6, fd2_7, fd2_8, fd2_9, fd3_0, fd3_1, fd3_2, fd3_3, fd3_4, fd3_5, fd3_6, fd3_7, fd3_8, fd3_9, fd9_0, fd9_1, fd9_2, fd9_3, fd9_4, fd9_5, fd9_6, fd9_7, fd22_0, fd22_1, fd22_2, fd22_3, fd22_4, fd22_5, fd22_6, fd22_7, fd22_8, fd22_9, fd22_10, fd22_11, fd22_12, fd22_13, fd22_14, fd22_15, fd22_16, fd22_17, fd22_18, fd22_19, fd22_20, fd22_21, fd22_22, fd22_23, fd24_0, fd24_1, fd24_2, fd24_3, fd24_4, fd24_5, fd24_6, fd24_7, fd24_8, fd24_9, fd24_10, fd24_11, fd30_0, fd30_1, fd30_2, fd30_3, fd30_4, fd30_5, fd30_6, fd30_7, fd30_8, fd30_9, fd30_10, fd30_11, fd30_12, fd30_13, fd30_14, fd30_15, fd30_16, fd30_17, fd30_18, fd30_19, fd30_20, fd30_21, fd30_22, fd30_23, fd32_0, fd32_1, fd32_2, fd32_3, fd32_4, fd32_5, fd32_6, fd32_7, fd32_8, fd32_9, fd32_10, fd32_11, ho, ho2, hko, wr_full, ndsAt h1, wrap_succ (show i < 4611686018427387904 by omega), hap, builtin_append, show decide ((i : Int) < (ks.length : Int)) = true by simp; omega, hkl, hI]), ?_⟩
           show GoW _ _ _ _ _ _ _ _ _ _ _ _ _ _)
        | ((first | refine GoW.call (f := 7) (by decide) (by rfl) rfl Try.func7 (by rfl) (by decide) rfl ?_ | refine GoW.callG (f := 7) (by decide) (by rfl) (by rfl) rfl Try.func7 (by rfl) (by decide) rfl ?_)
           (refine (ih _ (List.getElem_mem h1) (hk _ (List.getElem_mem h1)) _).ret ?_)
           refine ⟨by (first | exact fun h => absurd h (by decide) | (intro _; (simp only [objAt_app, objAt_succ, objAt_zero]))), ?_⟩)
        | ((first | refine GoR.call (f := 7) (by decide) (by rfl) rfl Try.func7 (by decide) (by rfl) ?_ | refine GoR.callG (f := 7) (by decide) (by rfl) (by rfl) rfl Try.func7 (by decide) (by rfl) ?_)
           (refine (ih _ (List.getElem_mem h1) (hk _ (List.getElem_mem h1)) _).ret ?_))
        | refine Go.condT (by rfl) ?_
        | refine Go.condF (by rfl) ?_
        | refine GoR.skipG (by decide) rfl rfl ?_
        | refine GoW.skipG (by decide) rfl rfl (by (first | exact fun h => absurd h (by decide) | (intro _; (simp only [objAt_app, objAt_succ, objAt_zero])))) ?_
        | (refine GoR.splitG rfl (fun hc => ?_) (fun hc => ?_) <;> simp only [hc])
        | refine Go.condB rfl (fun hc => ?_) (fun hc => ?_))
      refine Go.lpN ?_
      refine Go.keep [(1, .ptr S.length 0), (2, .ptr (S.length + 1) 0), (3, .ptr (S.length + 2) 0), (4, .int .i64 ((i + 1 : Nat) : Int))] (.cons .refl (.cons .refl (.cons .refl (.cons .refl (.nil))))) ?_
      refine next (i + 1, o', E2) (by dsimp only; omega) ⟨h1, ?_⟩
      dsimp only
      have e : ndsC (ks.take (i + 1)) = ndsC (ks.take i) ++ ks[i].c := flat_take_succ h1
      rw [e]
      have := hacc2.set (j := S.length + 2) (x := .obj [.str op, .str nm, .int .i64 n, o']) (by omega)
      simpa using this
    · clear next
      have ho := hacc.one
      repeat' (first
        | refine Go.seq ?_
        | refine Go.rg ?_
        | refine GoR.nil ?_
        | refine Go.skip ?_
        | refine Go.ret ?_
        | refine Go.block ?_
        | refine Go.exit ?_
        | refine Go.blkX ?_
        | refine Go.blkN ?_
        | refine Go.passX ?_
        | refine Go.lpX ?_
        | (refine Go.blkE (by decide) ?_)
        | (refine Go.rgS dmx (by decide) ?_)
        | (refine Go.rgD [1] (fun _ => True) dmx (by decide) 9 (by decide) ?_ ?_
           · trivial)
        | refine GoW.nil rfl ?_
        | ((first | refine GoR.op (by decide) (by rfl) ?_ | refine GoR.opG (by decide) (by rfl) (by rfl) ?_ | refine GoW.op (by decide) (by rfl) rfl ?_ | refine GoW.opG (by decide) (by rfl) rfl (by rfl) ?_)
           conv => arg 1; simp only [G, Z, Y, un_neg, Int.reduceEq, Int.reduceLE, cutD, Nat.reduceBEq, Nat.reduceAdd, Nat.reduceMul, Nat.reduceSub, Nat.reducePow, Nat.reduceLT, Nat.reduceGT, Nat.reduceLeDiff, Nat.reduceEqDiff, Int.reduceToNat, gt_iff_lt, if_true, if_false, beq_self_eq_true, reduceIte, decide_true, decide_false, fd2_0, fd2_1, fd2_2, fd2_3, fd2_4, fd2_5, fd2_6, fd2_7, fd2_8, fd2_9, fd3_0, fd3_1, fd3_2, fd3_3, fd3_4, fd3_5, fd3_6, fd3_7, fd3_8, fd3_9, fd9_0, fd9_1, fd9_2, fd9_3, fd9_4, fd9_5, fd9_6, fd9_7, fd22_0, fd22_1, fd22_2, fd22_3, fd22_4, fd22_5, fd22_6, fd22_7, fd22_8, fd22_9, fd22_10, fd22_11, fd22_12, fd22_13, fd22_14, fd22_15, fd22_16, fd22_17, fd22_18, fd22_19, fd22_20, fd22_21, fd22_22, fd22_23, fd24_0, fd24_1, fd24_2, fd24_3, fd24_4, fd24_5, fd24_6, fd24_7, fd24_8, fd24_9, fd24_10, fd24_11, fd30_0, fd30_1, fd30_2, fd30_3, fd30_4, fd30_5, fd30_6, fd30_7, fd30_8, fd30_9, fd30_10, fd30_11, fd30_12, fd30_13, fd30_14, fd30_15, fd30_16, fd30_17, fd30_18, fd30_19, fd30_20, fd30_21, fd30_22, fd30_23, fd32_0, fd32_1, fd32_2, fd32_3, fd32_4, fd32_5, fd32_6, fd32_7, fd32_8, fd32_9, fd32_10, fd32_11, ho, show decide ((i : Int) < (ks.length : Int)) = false by simp; omega]
           first | show GoR _ _ _ _ _ _ _ _ _ _ | (show _ ∧ _; refine ⟨by (first | exact fun h => absurd h (by decide) | (intro _; trivial)), ?_⟩; show GoW _ _ _ _ _ _ _ _ _ _ _ _ _ _))
        | ((first | refine GoW.readT (by decide) (by rfl) ?_ | refine GoW.readTG (by decide) (by rfl) (by rfl) ?_)
           conv => arg 1; simp only [G, Z, Y, un_neg, Int.reduceEq, Int.reduceLE, cutD, Nat.reduceBEq, Nat.reduceAdd, Nat.reduceMul, Nat.reduceSub, Nat.reducePow, Nat.reduceLT, Nat.reduceGT, Nat.reduceLeDiff, Nat.reduceEqDiff, Int.reduceToNat, gt_iff_lt, if_true, if_false, beq_self_eq_true, reduceIte, decide_true, decide_false, fd2_0, fd2_1, fd2_2, fd2_3, fd2_4, fd2_5, fd2_6, fd2_7, fd2_8, fd2_9, fd3_0, fd3_1, fd3_2, fd3_3, fd3_4, fd3_5, fd3_6, fd3_7, fd3_8, fd3_9, fd9_0, fd9_1, fd9_2, fd9_3, fd9_4, fd9_5, fd9_6, fd9_7, fd22_0, fd22_1, fd22_2, fd22_3, fd22_4, fd22_5, fd22_6, fd22_7, fd22_8, fd22_9, fd22_10, fd22_11, fd22_12, fd22_13, fd22_14, fd22_15, fd22_16, fd22_17, fd22_18, fd22_19, fd22_20, fd22_21, fd22_22, fd22_23, fd24_0, fd24_1, fd24_2, fd24_3, fd24_4, fd24_5, fd24_6, fd24_7, fd24_8, fd24_9, fd24_10, fd24_11, fd30_0, fd30_1, fd30_2, fd30_3, fd30_4, fd30_5, fd30_6, fd30_7, fd30_8, fd30_9, fd30_10, fd30_11, fd30_12, fd30_13, fd30_14, fd30_15, fd30_16, fd30_17, fd30_18, fd30_19, fd30_20, fd30_21, fd30_22, fd30_23, fd32_0, fd32_1, fd32_2, fd32_3, fd32_4, fd32_5, fd32_6, fd32_7, fd32_8, fd32_9, fd32_10, fd32_11, ho, show decide ((i : Int) < (ks.length : Int)) = false by simp; omega]
           show _ ∧ _ ∧ _ ∧ _
           refine ⟨rfl, by trivial, (fun H hI => by simp only [G, Z, Y, un_neg, Int.reduceEq, Int.reduceLE, cutD, Nat.reduceBEq, Nat.reduceAdd, Nat.reduceMul, Nat.reduceSub, Nat.reducePow, Nat.reduceLT, Nat.reduceGT, Nat.reduceLeDiff, Nat.reduceEqDiff, Int.reduceToNat, gt_iff_lt, if_true, if_false, beq_self_eq_true, reduceIte, decide_true, decide_false, fd2_0, fd2_1, fd2_2, fd2_3, fd2_4, fd2_5, fd2_6, fd2_7, fd2_8, fd2_9, fd3_0, fd3_1, fd3_2, fd3_3, fd3_4, fd3_5, fd3_6, fd3_7, fd3_8, fd3_9, fd9_0, fd9_1, fd9_2, fd9_3, fd9_4, fd9_5, fd9_6, fd9_7, fd22_0, fd22_1, fd22_2, fd22_3, fd22_4, fd22_5, fd22_6, fd22_7, fd22_8, fd22_9, fd22_10, fd22_11, fd22_12, fd22_13, fd22_14, fd22_15, fd22_16, fd22_17, fd22_18, fd22_19, fd22_20, fd22_21, fd22_22, fd22_23, fd24_0, fd24_1, fd24_2, fd24_3, fd24_4, fd24_5, fd24_6, fd24_7, fd24_8, fd24_9, fd24_10, fd24_11, fd30_0, fd30_1, fd30_2, fd30_3, fd30_4, fd30_5, fd30_6, fd30_7, fd30_8, fd30_9, fd30_10, fd30_11, fd30_12, fd30_13, fd30_14, fd30_15, fd30_16, fd30_17, fd30_18, fd30_19, fd30_20, fd30_21, fd30_22, fd30_23, fd32_0, fd32_1, fd32_2, fd32_3, fd32_4, fd32_5, fd32_6, fd32_7, fd32_8, fd32_9, fd32_10, fd32_11, ho, show decide ((i : Int) < (ks.length : Int)) = false by simp; omega]), ?_⟩
           show GoW _ _ _ _ _ _ _ _ _ _ _ _ _ _)
        | refine Go.condT (by rfl) ?_
        | refine Go.condF (by rfl) ?_
        | refine GoR.skipG (by decide) rfl rfl ?_
        | refine GoW.skipG (by decide) rfl rfl (by (first | exact fun h => absurd h (by decide) | (intro _; trivial))) ?_
        | (refine GoR.splitG rfl (fun hc => ?_) (fun hc => ?_) <;> simp only [hc])
        | refine Go.condB rfl (fun hc => ?_) (fun hc => ?_))
      refine ⟨(by first | exact .inl rfl | exact .inr rfl), fin ?_⟩
      rw [resD_cell (fn := Try.f7) rfl]
      simp only [optThen_some, resultD_tmp, resultD_cell, G, Z, Y, un_neg, Int.reduceEq, Int.reduceLE, cutD, Nat.reduceBEq, Nat.reduceAdd, Nat.reduceMul, Nat.reduceSub, Nat.reducePow, Nat.reduceLT, Nat.reduceGT, Nat.reduceLeDiff, Nat.reduceEqDiff, Int.reduceToNat, gt_iff_lt, if_true, if_false, beq_self_eq_true, reduceIte, decide_true, decide_false, fd2_0, fd2_1, fd2_2, fd2_3, fd2_4, fd2_5, fd2_6, fd2_7, fd2_8, fd2_9, fd3_0, fd3_1, fd3_2, fd3_3, fd3_4, fd3_5, fd3_6, fd3_7, fd3_8, fd3_9, fd9_0, fd9_1, fd9_2, fd9_3, fd9_4, fd9_5, fd9_6, fd9_7, fd22_0, fd22_1, fd22_2, fd22_3, fd22_4, fd22_5, fd22_6, fd22_7, fd22_8, fd22_9, fd22_10, fd22_11, fd22_12, fd22_13, fd22_14, fd22_15, fd22_16, fd22_17, fd22_18, fd22_19, fd22_20, fd22_21, fd22_22, fd22_23, fd24_0, fd24_1, fd24_2, fd24_3, fd24_4, fd24_5, fd24_6, fd24_7, fd24_8, fd24_9, fd24_10, fd24_11, fd30_0, fd30_1, fd30_2, fd30_3, fd30_4, fd30_5, fd30_6, fd30_7, fd30_8, fd30_9, fd30_10, fd30_11, fd30_12, fd30_13, fd30_14, fd30_15, fd30_16, fd30_17, fd30_18, fd30_19, fd30_20, fd30_21, fd30_22, fd30_23, fd32_0, fd32_1, fd32_2, fd32_3, fd32_4, fd32_5, fd32_6, fd32_7, fd32_8, fd32_9, fd32_10, fd32_11]
      have hi' : i = ks.length := by omega
      subst hi'
      rw [List.take_length] at hacc
      exact ⟨_, _, rfl, (Wf.agg' (.cons .refl (.cons .refl (.cons .refl (.cons hacc.wf .nil))))).to_Wk (.agg' hlow), rfl⟩

/-- A sign's number of parts. -/
def arity (op : ByteArray) : Int := if op = (⟨#[110, 117, 109]⟩ : ByteArray) ∨ op = (⟨#[110, 97, 109, 101]⟩ : ByteArray) then 0 else if op = (⟨#[110, 101, 103]⟩ : ByteArray) then 1 else if op = (⟨#[43]⟩ : ByteArray) ∨ op = (⟨#[45]⟩ : ByteArray) ∨ op = (⟨#[42]⟩ : ByteArray) ∨ op = (⟨#[47]⟩ : ByteArray) ∨ op = (⟨#[37]⟩ : ByteArray) then 2 else -1
/-- Each node has as many as its sign wants. -/
inductive Fits : Nd → Prop
  | mk {op nm n ks} (h : arity op = ks.length) (hk : ∀ k ∈ ks, Fits k) : Fits (.mk op nm n ks)

theorem kids12 (op : ByteArray) (S : Mem) : CallD Try.prog orc 26 [.str op] S fun d S' => S' = S ∧ d = .int .i64 (arity op) := by
  refine CallD.drop ?_
  refine CallD.body Try.func26 rfl (by simp [Try.ntmps26]) ?_
  rw [Try.ntmps26]
  repeat' (first
    | refine Go.seq ?_
    | refine Go.rg ?_
    | refine GoR.nil ?_
    | refine Go.skip ?_
    | refine Go.ret ?_
    | refine Go.block ?_
    | refine Go.exit ?_
    | refine Go.blkX ?_
    | refine Go.blkN ?_
    | refine Go.passX ?_
    | refine Go.lpX ?_
    | (refine Go.blkE (by decide) ?_)
    | (refine Go.rgS dmx (by decide) ?_)
    | ((first | refine GoR.op (by decide) (by rfl) ?_ | refine GoR.opG (by decide) (by rfl) (by rfl) ?_)
       conv => arg 1; simp only [G, Z, Y, un_neg, Int.reduceEq, Int.reduceLE, cutD, Nat.reduceBEq, Nat.reduceAdd, Nat.reduceMul, Nat.reduceSub, Nat.reducePow, Nat.reduceLT, Nat.reduceGT, Nat.reduceLeDiff, Nat.reduceEqDiff, Int.reduceToNat, gt_iff_lt, if_true, if_false, beq_self_eq_true, reduceIte, decide_true, decide_false, fd9_0, fd9_1, fd9_2, fd9_3, fd9_4, fd9_5, fd9_6, fd9_7]
       show GoR _ _ _ _ _ _ _ _ _ _)
    | refine Go.condT (by rfl) ?_
    | refine Go.condF (by rfl) ?_
    | refine GoR.skipG (by decide) rfl rfl ?_
    | (refine GoR.splitG rfl (fun hc => ?_) (fun hc => ?_) <;> simp only [hc])
    | refine Go.condB rfl (fun hc => ?_) (fun hc => ?_))
  all_goals
    refine ⟨(by first | exact .inl rfl | exact .inr rfl), fin ?_⟩
    rw [resD_tmp (fn := Try.f26) rfl]
    simp only [optThen_some, resultD_tmp, resultD_cell, G, Z, Y, un_neg, Int.reduceEq, Int.reduceLE, cutD, Nat.reduceBEq, Nat.reduceAdd, Nat.reduceMul, Nat.reduceSub, Nat.reducePow, Nat.reduceLT, Nat.reduceGT, Nat.reduceLeDiff, Nat.reduceEqDiff, Int.reduceToNat, gt_iff_lt, if_true, if_false, beq_self_eq_true, reduceIte, decide_true, decide_false, fd9_0, fd9_1, fd9_2, fd9_3, fd9_4, fd9_5, fd9_6, fd9_7]
    refine ⟨_, [], by simp, .int, ?_⟩
    simp_all [arity]

theorem count12 (n : Nd) : ∀ (k : Int) (_ : 0 ≤ k) (_ : k ≤ 100) (S : Mem), CallD Try.prog orc 13 [.agg n.c, .int .i64 k] S fun d S' => S' = S ∧ ∃ r : Int, d = .int .i64 r ∧ -1 ≤ r ∧ r ≤ k - 1 := by
  induction n using Nd.ind with
  | h op nm n ks ih =>
    intro k hk0 hk1 S
    rw [Nd.c_mk]
    refine CallD.drop ?_
    refine CallD.body Try.func13 rfl (by simp [Try.ntmps13]) ?_
    rw [Try.ntmps13]
    repeat' (first
      | refine Go.seq ?_
      | refine Go.rg ?_
      | refine GoR.nil ?_
      | refine Go.skip ?_
      | refine Go.ret ?_
      | refine Go.block ?_
      | refine Go.exit ?_
      | refine Go.blkX ?_
      | refine Go.blkN ?_
      | refine Go.passX ?_
      | refine Go.lpX ?_
      | (refine Go.blkE (by decide) ?_)
      | (refine Go.rgS dmx (by decide) ?_)
      | ((first | refine GoR.op (by decide) (by rfl) ?_ | refine GoR.opG (by decide) (by rfl) (by rfl) ?_)
         conv => arg 1; simp only [G, Z, Y, un_neg, Int.reduceEq, Int.reduceLE, cutD, Nat.reduceBEq, Nat.reduceAdd, Nat.reduceMul, Nat.reduceSub, Nat.reducePow, Nat.reduceLT, Nat.reduceGT, Nat.reduceLeDiff, Nat.reduceEqDiff, Int.reduceToNat, gt_iff_lt, if_true, if_false, beq_self_eq_true, reduceIte, decide_true, decide_false, fd2_0, fd2_1, fd2_2, fd2_3, fd2_4, fd2_5, fd2_6, fd2_7, fd2_8, fd2_9, fd3_0, fd3_1, fd3_2, fd3_3, fd3_4, fd3_5, fd3_6, fd3_7, fd3_8, fd3_9, fd9_0, fd9_1, fd9_2, fd9_3, fd9_4, fd9_5, fd9_6, fd9_7, fd30_0, fd30_1, fd30_2, fd30_3, fd30_4, fd30_5, fd30_6, fd30_7, fd30_8, fd30_9, fd30_10, fd30_11, fd30_12, fd30_13, fd30_14, fd30_15, fd30_16, fd30_17, fd30_18, fd30_19, fd30_20, fd30_21, fd30_22, fd30_23, fd32_0, fd32_1, fd32_2, fd32_3, fd32_4, fd32_5, fd32_6, fd32_7, fd32_8, fd32_9, fd32_10, fd32_11, wrap_pred (show -100 ≤ k by omega) (show k ≤ 1000 by omega)]
         show GoR _ _ _ _ _ _ _ _ _ _)
      | refine Go.condT (by rfl) ?_
      | refine Go.condF (by rfl) ?_
      | refine GoR.skipG (by decide) rfl rfl ?_
      | (refine GoR.splitG rfl (fun hc => ?_) (fun hc => ?_) <;> simp only [hc])
      | refine Go.condB rfl (fun hc => ?_) (fun hc => ?_))
    refine Go.keep [(1, .int .i64 (k - 1)), (2, .ptr S.length 0), (5, .int .i64 ((0 : Nat) : Int))] (.cons .refl (.cons .refl (.cons .refl (.nil)))) ?_
    refine Go.while (α := Nat × Int) (fun a => ks.length - a.1) (fun a => [(1, .int .i64 a.2), (2, .ptr S.length 0), (5, .int .i64 (a.1 : Int))]) (fun _ => S ++ [.obj [.str op, .str nm, .int .i64 n, .sl none 4 ks.length (ndsC ks)]])
      (fun a => a.1 ≤ ks.length ∧ -1 ≤ a.2 ∧ a.2 ≤ k - 1 - a.1) ?_ (0, k - 1) ⟨Nat.zero_le _, by dsimp only; omega, by dsimp only; omega⟩
    rintro ⟨i, c⟩ ⟨hi, hc1, hc2⟩ next
    dsimp only at hi hc1 hc2 next
    by_cases hl : i < ks.length
    · by_cases h0 : 0 ≤ c
      · repeat' (first
          | refine Go.seq ?_
          | refine Go.rg ?_
          | refine GoR.nil ?_
          | refine Go.skip ?_
          | refine Go.ret ?_
          | refine Go.block ?_
          | refine Go.exit ?_
          | refine Go.blkX ?_
          | refine Go.blkN ?_
          | refine Go.passX ?_
          | refine Go.lpX ?_
          | (refine Go.blkE (by decide) ?_)
          | (refine Go.rgS dmx (by decide) ?_)
          | ((first | refine GoR.op (by decide) (by rfl) ?_ | refine GoR.opG (by decide) (by rfl) (by rfl) ?_)
             conv => arg 1; simp only [G, Z, Y, un_neg, Int.reduceEq, Int.reduceLE, cutD, Nat.reduceBEq, Nat.reduceAdd, Nat.reduceMul, Nat.reduceSub, Nat.reducePow, Nat.reduceLT, Nat.reduceGT, Nat.reduceLeDiff, Nat.reduceEqDiff, Int.reduceToNat, gt_iff_lt, if_true, if_false, beq_self_eq_true, reduceIte, decide_true, decide_false, fd2_0, fd2_1, fd2_2, fd2_3, fd2_4, fd2_5, fd2_6, fd2_7, fd2_8, fd2_9, fd3_0, fd3_1, fd3_2, fd3_3, fd3_4, fd3_5, fd3_6, fd3_7, fd3_8, fd3_9, fd9_0, fd9_1, fd9_2, fd9_3, fd9_4, fd9_5, fd9_6, fd9_7, fd30_0, fd30_1, fd30_2, fd30_3, fd30_4, fd30_5, fd30_6, fd30_7, fd30_8, fd30_9, fd30_10, fd30_11, fd30_12, fd30_13, fd30_14, fd30_15, fd30_16, fd30_17, fd30_18, fd30_19, fd30_20, fd30_21, fd30_22, fd30_23, fd32_0, fd32_1, fd32_2, fd32_3, fd32_4, fd32_5, fd32_6, fd32_7, fd32_8, fd32_9, fd32_10, fd32_11, show decide ((i : Int) < (ks.length : Int)) = true by simp; omega, show decide (c ≥ 0) = true by simp; omega, show decide (0 ≤ c) = true by simp; omega, ndsAt hl, wrap_succ (show i < 4611686018427387904 by omega)]
             show GoR _ _ _ _ _ _ _ _ _ _)
          | ((first | refine GoR.call (f := 13) (by decide) (by rfl) rfl Try.func13 (by decide) (by rfl) ?_ | refine GoR.callG (f := 13) (by decide) (by rfl) (by rfl) rfl Try.func13 (by decide) (by rfl) ?_)
             (refine (ih _ (List.getElem_mem hl) c h0 (by omega) _).retE ?_; rintro _ ⟨r, rfl, h1, h2⟩))
          | refine Go.condT (by rfl) ?_
          | refine Go.condF (by rfl) ?_
          | refine GoR.skipG (by decide) rfl rfl ?_
          | (refine GoR.splitG rfl (fun hc => ?_) (fun hc => ?_) <;> simp only [hc])
          | refine Go.condB rfl (fun hc => ?_) (fun hc => ?_))
        refine Go.lpN ?_
        refine Go.keep [(1, .int .i64 r), (2, .ptr S.length 0), (5, .int .i64 ((i + 1 : Nat) : Int))] (.cons .refl (.cons .refl (.cons .refl (.nil)))) ?_
        exact next (i + 1, r) (by dsimp only; omega) ⟨hl, h1, by dsimp only; omega⟩
      · clear next
        repeat' (first
          | refine Go.seq ?_
          | refine Go.rg ?_
          | refine GoR.nil ?_
          | refine Go.skip ?_
          | refine Go.ret ?_
          | refine Go.block ?_
          | refine Go.exit ?_
          | refine Go.blkX ?_
          | refine Go.blkN ?_
          | refine Go.passX ?_
          | refine Go.lpX ?_
          | (refine Go.blkE (by decide) ?_)
          | (refine Go.rgS dmx (by decide) ?_)
          | ((first | refine GoR.op (by decide) (by rfl) ?_ | refine GoR.opG (by decide) (by rfl) (by rfl) ?_)
             conv => arg 1; simp only [G, Z, Y, un_neg, Int.reduceEq, Int.reduceLE, cutD, Nat.reduceBEq, Nat.reduceAdd, Nat.reduceMul, Nat.reduceSub, Nat.reducePow, Nat.reduceLT, Nat.reduceGT, Nat.reduceLeDiff, Nat.reduceEqDiff, Int.reduceToNat, gt_iff_lt, if_true, if_false, beq_self_eq_true, reduceIte, decide_true, decide_false, fd2_0, fd2_1, fd2_2, fd2_3, fd2_4, fd2_5, fd2_6, fd2_7, fd2_8, fd2_9, fd3_0, fd3_1, fd3_2, fd3_3, fd3_4, fd3_5, fd3_6, fd3_7, fd3_8, fd3_9, fd9_0, fd9_1, fd9_2, fd9_3, fd9_4, fd9_5, fd9_6, fd9_7, fd30_0, fd30_1, fd30_2, fd30_3, fd30_4, fd30_5, fd30_6, fd30_7, fd30_8, fd30_9, fd30_10, fd30_11, fd30_12, fd30_13, fd30_14, fd30_15, fd30_16, fd30_17, fd30_18, fd30_19, fd30_20, fd30_21, fd30_22, fd30_23, fd32_0, fd32_1, fd32_2, fd32_3, fd32_4, fd32_5, fd32_6, fd32_7, fd32_8, fd32_9, fd32_10, fd32_11, show decide ((i : Int) < (ks.length : Int)) = true by simp; omega, show decide (c ≥ 0) = false by simp; omega, show decide (0 ≤ c) = false by simp; omega]
             show GoR _ _ _ _ _ _ _ _ _ _)
          | refine Go.condT (by rfl) ?_
          | refine Go.condF (by rfl) ?_
          | refine GoR.skipG (by decide) rfl rfl ?_
          | (refine GoR.splitG rfl (fun hc => ?_) (fun hc => ?_) <;> simp only [hc])
          | refine Go.condB rfl (fun hc => ?_) (fun hc => ?_))
        refine ⟨(by first | exact .inl rfl | exact .inr rfl), fin ?_⟩
        rw [resD_tmp (fn := Try.f13) rfl]
        simp only [optThen_some, resultD_tmp, resultD_cell, G, Z, Y, un_neg, Int.reduceEq, Int.reduceLE, cutD, Nat.reduceBEq, Nat.reduceAdd, Nat.reduceMul, Nat.reduceSub, Nat.reducePow, Nat.reduceLT, Nat.reduceGT, Nat.reduceLeDiff, Nat.reduceEqDiff, Int.reduceToNat, gt_iff_lt, if_true, if_false, beq_self_eq_true, reduceIte, decide_true, decide_false, fd2_0, fd2_1, fd2_2, fd2_3, fd2_4, fd2_5, fd2_6, fd2_7, fd2_8, fd2_9, fd3_0, fd3_1, fd3_2, fd3_3, fd3_4, fd3_5, fd3_6, fd3_7, fd3_8, fd3_9, fd9_0, fd9_1, fd9_2, fd9_3, fd9_4, fd9_5, fd9_6, fd9_7, fd30_0, fd30_1, fd30_2, fd30_3, fd30_4, fd30_5, fd30_6, fd30_7, fd30_8, fd30_9, fd30_10, fd30_11, fd30_12, fd30_13, fd30_14, fd30_15, fd30_16, fd30_17, fd30_18, fd30_19, fd30_20, fd30_21, fd30_22, fd30_23, fd32_0, fd32_1, fd32_2, fd32_3, fd32_4, fd32_5, fd32_6, fd32_7, fd32_8, fd32_9, fd32_10, fd32_11]
        exact ⟨_, _, rfl, .int, c, rfl, hc1, by omega⟩
    · clear next
      repeat' (first
        | refine Go.seq ?_
        | refine Go.rg ?_
        | refine GoR.nil ?_
        | refine Go.skip ?_
        | refine Go.ret ?_
        | refine Go.block ?_
        | refine Go.exit ?_
        | refine Go.blkX ?_
        | refine Go.blkN ?_
        | refine Go.passX ?_
        | refine Go.lpX ?_
        | (refine Go.blkE (by decide) ?_)
        | (refine Go.rgS dmx (by decide) ?_)
        | ((first | refine GoR.op (by decide) (by rfl) ?_ | refine GoR.opG (by decide) (by rfl) (by rfl) ?_)
           conv => arg 1; simp only [G, Z, Y, un_neg, Int.reduceEq, Int.reduceLE, cutD, Nat.reduceBEq, Nat.reduceAdd, Nat.reduceMul, Nat.reduceSub, Nat.reducePow, Nat.reduceLT, Nat.reduceGT, Nat.reduceLeDiff, Nat.reduceEqDiff, Int.reduceToNat, gt_iff_lt, if_true, if_false, beq_self_eq_true, reduceIte, decide_true, decide_false, fd2_0, fd2_1, fd2_2, fd2_3, fd2_4, fd2_5, fd2_6, fd2_7, fd2_8, fd2_9, fd3_0, fd3_1, fd3_2, fd3_3, fd3_4, fd3_5, fd3_6, fd3_7, fd3_8, fd3_9, fd9_0, fd9_1, fd9_2, fd9_3, fd9_4, fd9_5, fd9_6, fd9_7, fd30_0, fd30_1, fd30_2, fd30_3, fd30_4, fd30_5, fd30_6, fd30_7, fd30_8, fd30_9, fd30_10, fd30_11, fd30_12, fd30_13, fd30_14, fd30_15, fd30_16, fd30_17, fd30_18, fd30_19, fd30_20, fd30_21, fd30_22, fd30_23, fd32_0, fd32_1, fd32_2, fd32_3, fd32_4, fd32_5, fd32_6, fd32_7, fd32_8, fd32_9, fd32_10, fd32_11, show decide ((i : Int) < (ks.length : Int)) = false by simp; omega]
           show GoR _ _ _ _ _ _ _ _ _ _)
        | refine Go.condT (by rfl) ?_
        | refine Go.condF (by rfl) ?_
        | refine GoR.skipG (by decide) rfl rfl ?_
        | (refine GoR.splitG rfl (fun hc => ?_) (fun hc => ?_) <;> simp only [hc])
        | refine Go.condB rfl (fun hc => ?_) (fun hc => ?_))
      refine ⟨(by first | exact .inl rfl | exact .inr rfl), fin ?_⟩
      rw [resD_tmp (fn := Try.f13) rfl]
      simp only [optThen_some, resultD_tmp, resultD_cell, G, Z, Y, un_neg, Int.reduceEq, Int.reduceLE, cutD, Nat.reduceBEq, Nat.reduceAdd, Nat.reduceMul, Nat.reduceSub, Nat.reducePow, Nat.reduceLT, Nat.reduceGT, Nat.reduceLeDiff, Nat.reduceEqDiff, Int.reduceToNat, gt_iff_lt, if_true, if_false, beq_self_eq_true, reduceIte, decide_true, decide_false, fd2_0, fd2_1, fd2_2, fd2_3, fd2_4, fd2_5, fd2_6, fd2_7, fd2_8, fd2_9, fd3_0, fd3_1, fd3_2, fd3_3, fd3_4, fd3_5, fd3_6, fd3_7, fd3_8, fd3_9, fd9_0, fd9_1, fd9_2, fd9_3, fd9_4, fd9_5, fd9_6, fd9_7, fd30_0, fd30_1, fd30_2, fd30_3, fd30_4, fd30_5, fd30_6, fd30_7, fd30_8, fd30_9, fd30_10, fd30_11, fd30_12, fd30_13, fd30_14, fd30_15, fd30_16, fd30_17, fd30_18, fd30_19, fd30_20, fd30_21, fd30_22, fd30_23, fd32_0, fd32_1, fd32_2, fd32_3, fd32_4, fd32_5, fd32_6, fd32_7, fd32_8, fd32_9, fd32_10, fd32_11]
      exact ⟨_, _, rfl, .int, c, rfl, hc1, by omega⟩

theorem check12 (n : Nd) (hs : Slim 100 n) : ∀ (S : Mem), CallD Try.prog orc 14 [.agg n.c] S fun d S' => S' = S ∧ ∃ e, d = .int .i64 e ∧ (e = 0 → Fits n) := by
  induction n using Nd.ind with
  | h op nm n ks ih =>
    intro S
    obtain ⟨hnm, hl, hk⟩ := hs
    rw [Nd.c_mk]
    refine CallD.drop ?_
    refine CallD.body Try.func14 rfl (by simp [Try.ntmps14]) ?_
    rw [Try.ntmps14]
    repeat' (first
      | refine Go.seq ?_
      | refine Go.rg ?_
      | refine GoR.nil ?_
      | refine Go.skip ?_
      | refine Go.ret ?_
      | refine Go.block ?_
      | refine Go.exit ?_
      | refine Go.blkX ?_
      | refine Go.blkN ?_
      | refine Go.passX ?_
      | refine Go.lpX ?_
      | (refine Go.blkE (by decide) ?_)
      | (refine Go.rgS dmx (by decide) ?_)
      | (refine Go.rgD [4] (fun H => objAt H S.length = some [.str op, .str nm, .int .i64 n, .sl none 4 ks.length (ndsC ks)]) dmx (by decide) 8 (by decide) ?_ ?_
         · (simp only [objAt_app0, objAt_zero]))
      | refine GoW.nil rfl ?_
      | ((first | refine GoR.op (by decide) (by rfl) ?_ | refine GoR.opG (by decide) (by rfl) (by rfl) ?_ | refine GoW.op (by decide) (by rfl) rfl ?_ | refine GoW.opG (by decide) (by rfl) rfl (by rfl) ?_)
         conv => arg 1; simp only [G, Z, Y, un_neg, Int.reduceEq, Int.reduceLE, cutD, Nat.reduceBEq, Nat.reduceAdd, Nat.reduceMul, Nat.reduceSub, Nat.reducePow, Nat.reduceLT, Nat.reduceGT, Nat.reduceLeDiff, Nat.reduceEqDiff, Int.reduceToNat, gt_iff_lt, if_true, if_false, beq_self_eq_true, reduceIte, decide_true, decide_false, fd2_0, fd2_1, fd2_2, fd2_3, fd2_4, fd2_5, fd2_6, fd2_7, fd2_8, fd2_9, fd3_0, fd3_1, fd3_2, fd3_3, fd3_4, fd3_5, fd3_6, fd3_7, fd3_8, fd3_9, fd9_0, fd9_1, fd9_2, fd9_3, fd9_4, fd9_5, fd9_6, fd9_7, fd30_0, fd30_1, fd30_2, fd30_3, fd30_4, fd30_5, fd30_6, fd30_7, fd30_8, fd30_9, fd30_10, fd30_11, fd30_12, fd30_13, fd30_14, fd30_15, fd30_16, fd30_17, fd30_18, fd30_19, fd30_20, fd30_21, fd30_22, fd30_23, fd32_0, fd32_1, fd32_2, fd32_3, fd32_4, fd32_5, fd32_6, fd32_7, fd32_8, fd32_9, fd32_10, fd32_11]
         first | show GoR _ _ _ _ _ _ _ _ _ _ | (show _ ∧ _; refine ⟨by (first | exact fun h => absurd h (by decide) | (intro _; (simp only [objAt_app0, objAt_zero]))), ?_⟩; show GoW _ _ _ _ _ _ _ _ _ _ _ _ _ _))
      | ((first | refine GoW.readT (by decide) (by rfl) ?_ | refine GoW.readTG (by decide) (by rfl) (by rfl) ?_)
         conv => arg 1; simp only [G, Z, Y, un_neg, Int.reduceEq, Int.reduceLE, cutD, Nat.reduceBEq, Nat.reduceAdd, Nat.reduceMul, Nat.reduceSub, Nat.reducePow, Nat.reduceLT, Nat.reduceGT, Nat.reduceLeDiff, Nat.reduceEqDiff, Int.reduceToNat, gt_iff_lt, if_true, if_false, beq_self_eq_true, reduceIte, decide_true, decide_false, fd2_0, fd2_1, fd2_2, fd2_3, fd2_4, fd2_5, fd2_6, fd2_7, fd2_8, fd2_9, fd3_0, fd3_1, fd3_2, fd3_3, fd3_4, fd3_5, fd3_6, fd3_7, fd3_8, fd3_9, fd9_0, fd9_1, fd9_2, fd9_3, fd9_4, fd9_5, fd9_6, fd9_7, fd30_0, fd30_1, fd30_2, fd30_3, fd30_4, fd30_5, fd30_6, fd30_7, fd30_8, fd30_9, fd30_10, fd30_11, fd30_12, fd30_13, fd30_14, fd30_15, fd30_16, fd30_17, fd30_18, fd30_19, fd30_20, fd30_21, fd30_22, fd30_23, fd32_0, fd32_1, fd32_2, fd32_3, fd32_4, fd32_5, fd32_6, fd32_7, fd32_8, fd32_9, fd32_10, fd32_11]
         show _ ∧ _ ∧ _ ∧ _
         refine ⟨rfl, by (simp only [objAt_app0, objAt_zero]), (fun H hI => by (try dsimp only at hI); simp only [G, Z, Y, un_neg, Int.reduceEq, Int.reduceLE, cutD, Nat.reduceBEq, Nat.reduceAdd, Nat.reduceMul, Nat.reduceSub, Nat.reducePow, Nat.reduceLT, Nat.reduceGT, Nat.reduceLeDiff, Nat.reduceEqDiff, Int.reduceToNat, gt_iff_lt, if_true, if_false, beq_self_eq_true, reduceIte, decide_true, decide_false, fd2_0, fd2_1, fd2_2, fd2_3, fd2_4, fd2_5, fd2_6, fd2_7, fd2_8, fd2_9, fd3_0, fd3_1, fd3_2, fd3_3, fd3_4, fd3_5, fd3_6, fd3_7, fd3_8, fd3_9, fd9_0, fd9_1, fd9_2, fd9_3, fd9_4, fd9_5, fd9_6, fd9_7, fd30_0, fd30_1, fd30_2, fd30_3, fd30_4, fd30_5, fd30_6, fd30_7, fd30_8, fd30_9, fd30_10, fd30_11, fd30_12, fd30_13, fd30_14, fd30_15, fd30_16, fd30_17, fd30_18, fd30_19, fd30_20, fd30_21, fd30_22, fd30_23, fd32_0, fd32_1, fd32_2, fd32_3, fd32_4, fd32_5, fd32_6, fd32_7, fd32_8, fd32_9, fd32_10, fd32_11, hI]), ?_⟩
         show GoW _ _ _ _ _ _ _ _ _ _ _ _ _ _)
      | ((first | refine GoW.call (f := 26) (by decide) (by rfl) rfl Try.func26 (by rfl) (by decide) rfl ?_ | refine GoW.callG (f := 26) (by decide) (by rfl) (by rfl) rfl Try.func26 (by rfl) (by decide) rfl ?_)
         (refine (kids12 _ _).ret ?_)
         refine ⟨by (first | exact fun h => absurd h (by decide) | (intro _; (simp only [objAt_app0, objAt_zero]))), ?_⟩)
      | ((first | refine GoR.call (f := 26) (by decide) (by rfl) rfl Try.func26 (by decide) (by rfl) ?_ | refine GoR.callG (f := 26) (by decide) (by rfl) (by rfl) rfl Try.func26 (by decide) (by rfl) ?_)
         (refine (kids12 _ _).ret ?_))
      | ((first | refine GoW.call (f := 27) (by decide) (by rfl) rfl Try.func27 (by rfl) (by decide) rfl ?_ | refine GoW.callG (f := 27) (by decide) (by rfl) (by rfl) rfl Try.func27 (by rfl) (by decide) rfl ?_)
         (refine (refName _ (by omega) _).ret ?_)
         refine ⟨by (first | exact fun h => absurd h (by decide) | (intro _; (simp only [objAt_app0, objAt_zero]))), ?_⟩)
      | ((first | refine GoR.call (f := 27) (by decide) (by rfl) rfl Try.func27 (by decide) (by rfl) ?_ | refine GoR.callG (f := 27) (by decide) (by rfl) (by rfl) rfl Try.func27 (by decide) (by rfl) ?_)
         (refine (refName _ (by omega) _).ret ?_))
      | refine Go.condT (by rfl) ?_
      | refine Go.condF (by rfl) ?_
      | refine GoR.skipG (by decide) rfl rfl ?_
      | refine GoW.skipG (by decide) rfl rfl (by (first | exact fun h => absurd h (by decide) | (intro _; (simp only [objAt_app0, objAt_zero])))) ?_
      | (refine GoR.splitG rfl (fun hc => ?_) (fun hc => ?_) <;> simp only [hc])
      | refine Go.condB rfl (fun hc => ?_) (fun hc => ?_))
    all_goals first
      | (skip
         refine ⟨(by first | exact .inl rfl | exact .inr rfl), fin ?_⟩
         rw [resD_tmp (fn := Try.f14) rfl]
         simp only [optThen_some, resultD_tmp, resultD_cell, G, Z, Y, un_neg, Int.reduceEq, Int.reduceLE, cutD, Nat.reduceBEq, Nat.reduceAdd, Nat.reduceMul, Nat.reduceSub, Nat.reducePow, Nat.reduceLT, Nat.reduceGT, Nat.reduceLeDiff, Nat.reduceEqDiff, Int.reduceToNat, gt_iff_lt, if_true, if_false, beq_self_eq_true, reduceIte, decide_true, decide_false, fd2_0, fd2_1, fd2_2, fd2_3, fd2_4, fd2_5, fd2_6, fd2_7, fd2_8, fd2_9, fd3_0, fd3_1, fd3_2, fd3_3, fd3_4, fd3_5, fd3_6, fd3_7, fd3_8, fd3_9, fd9_0, fd9_1, fd9_2, fd9_3, fd9_4, fd9_5, fd9_6, fd9_7, fd30_0, fd30_1, fd30_2, fd30_3, fd30_4, fd30_5, fd30_6, fd30_7, fd30_8, fd30_9, fd30_10, fd30_11, fd30_12, fd30_13, fd30_14, fd30_15, fd30_16, fd30_17, fd30_18, fd30_19, fd30_20, fd30_21, fd30_22, fd30_23, fd32_0, fd32_1, fd32_2, fd32_3, fd32_4, fd32_5, fd32_6, fd32_7, fd32_8, fd32_9, fd32_10, fd32_11]
         exact ⟨_, _, rfl, .int, _, rfl, by omega⟩)
      | skip
    all_goals
      have har : arity op = ks.length := by simp_all
      refine Go.keep [(1, .ptr S.length 0), (3, .int .i64 ((0 : Nat) : Int))] (.cons .refl (.cons .refl (.nil))) ?_
      refine Go.while (α := Nat) (fun i => ks.length - i) (fun i => [(1, .ptr S.length 0), (3, .int .i64 (i : Int))]) (fun _ => S ++ [.obj [.str op, .str nm, .int .i64 n, .sl none 4 ks.length (ndsC ks)]]) (fun i => i ≤ ks.length ∧ ∀ j (h : j < ks.length), j < i → Fits ks[j]) ?_ 0 ⟨Nat.zero_le _, by simp⟩
      rintro i ⟨hi, hf⟩ next
      by_cases h1 : i < ks.length
      · repeat' (first
          | refine Go.seq ?_
          | refine Go.rg ?_
          | refine GoR.nil ?_
          | refine Go.skip ?_
          | refine Go.ret ?_
          | refine Go.block ?_
          | refine Go.exit ?_
          | refine Go.blkX ?_
          | refine Go.blkN ?_
          | refine Go.passX ?_
          | refine Go.lpX ?_
          | (refine Go.blkE (by decide) ?_)
          | (refine Go.rgS dmx (by decide) ?_)
          | (refine Go.rgD [4] (fun _ => True) dmx (by decide) 8 (by decide) ?_ ?_
             · trivial)
          | refine GoW.nil rfl ?_
          | ((first | refine GoR.op (by decide) (by rfl) ?_ | refine GoR.opG (by decide) (by rfl) (by rfl) ?_ | refine GoW.op (by decide) (by rfl) rfl ?_ | refine GoW.opG (by decide) (by rfl) rfl (by rfl) ?_)
             conv => arg 1; simp only [G, Z, Y, un_neg, Int.reduceEq, Int.reduceLE, cutD, Nat.reduceBEq, Nat.reduceAdd, Nat.reduceMul, Nat.reduceSub, Nat.reducePow, Nat.reduceLT, Nat.reduceGT, Nat.reduceLeDiff, Nat.reduceEqDiff, Int.reduceToNat, gt_iff_lt, if_true, if_false, beq_self_eq_true, reduceIte, decide_true, decide_false, fd2_0, fd2_1, fd2_2, fd2_3, fd2_4, fd2_5, fd2_6, fd2_7, fd2_8, fd2_9, fd3_0, fd3_1, fd3_2, fd3_3, fd3_4, fd3_5, fd3_6, fd3_7, fd3_8, fd3_9, fd9_0, fd9_1, fd9_2, fd9_3, fd9_4, fd9_5, fd9_6, fd9_7, fd30_0, fd30_1, fd30_2, fd30_3, fd30_4, fd30_5, fd30_6, fd30_7, fd30_8, fd30_9, fd30_10, fd30_11, fd30_12, fd30_13, fd30_14, fd30_15, fd30_16, fd30_17, fd30_18, fd30_19, fd30_20, fd30_21, fd30_22, fd30_23, fd32_0, fd32_1, fd32_2, fd32_3, fd32_4, fd32_5, fd32_6, fd32_7, fd32_8, fd32_9, fd32_10, fd32_11, show decide ((i : Int) < (ks.length : Int)) = true by simp; omega, ndsAt h1, wrap_succ (show i < 4611686018427387904 by omega)]
             first | show GoR _ _ _ _ _ _ _ _ _ _ | (show _ ∧ _; refine ⟨by (first | exact fun h => absurd h (by decide) | (intro _; trivial)), ?_⟩; show GoW _ _ _ _ _ _ _ _ _ _ _ _ _ _))
          | ((first | refine GoW.readT (by decide) (by rfl) ?_ | refine GoW.readTG (by decide) (by rfl) (by rfl) ?_)
             conv => arg 1; simp only [G, Z, Y, un_neg, Int.reduceEq, Int.reduceLE, cutD, Nat.reduceBEq, Nat.reduceAdd, Nat.reduceMul, Nat.reduceSub, Nat.reducePow, Nat.reduceLT, Nat.reduceGT, Nat.reduceLeDiff, Nat.reduceEqDiff, Int.reduceToNat, gt_iff_lt, if_true, if_false, beq_self_eq_true, reduceIte, decide_true, decide_false, fd2_0, fd2_1, fd2_2, fd2_3, fd2_4, fd2_5, fd2_6, fd2_7, fd2_8, fd2_9, fd3_0, fd3_1, fd3_2, fd3_3, fd3_4, fd3_5, fd3_6, fd3_7, fd3_8, fd3_9, fd9_0, fd9_1, fd9_2, fd9_3, fd9_4, fd9_5, fd9_6, fd9_7, fd30_0, fd30_1, fd30_2, fd30_3, fd30_4, fd30_5, fd30_6, fd30_7, fd30_8, fd30_9, fd30_10, fd30_11, fd30_12, fd30_13, fd30_14, fd30_15, fd30_16, fd30_17, fd30_18, fd30_19, fd30_20, fd30_21, fd30_22, fd30_23, fd32_0, fd32_1, fd32_2, fd32_3, fd32_4, fd32_5, fd32_6, fd32_7, fd32_8, fd32_9, fd32_10, fd32_11, show decide ((i : Int) < (ks.length : Int)) = true by simp; omega, ndsAt h1, wrap_succ (show i < 4611686018427387904 by omega)]
             show _ ∧ _ ∧ _ ∧ _
             refine ⟨rfl, by trivial, (fun H hI => by simp only [G, Z, Y, un_neg, Int.reduceEq, Int.reduceLE, cutD, Nat.reduceBEq, Nat.reduceAdd, Nat.reduceMul, Nat.reduceSub, Nat.reducePow, Nat.reduceLT, Nat.reduceGT, Nat.reduceLeDiff, Nat.reduceEqDiff, Int.reduceToNat, gt_iff_lt, if_true, if_false, beq_self_eq_true, reduceIte, decide_true, decide_false, fd2_0, fd2_1, fd2_2, fd2_3, fd2_4, fd2_5, fd2_6, fd2_7, fd2_8, fd2_9, fd3_0, fd3_1, fd3_2, fd3_3, fd3_4, fd3_5, fd3_6, fd3_7, fd3_8, fd3_9, fd9_0, fd9_1, fd9_2, fd9_3, fd9_4, fd9_5, fd9_6, fd9_7, fd30_0, fd30_1, fd30_2, fd30_3, fd30_4, fd30_5, fd30_6, fd30_7, fd30_8, fd30_9, fd30_10, fd30_11, fd30_12, fd30_13, fd30_14, fd30_15, fd30_16, fd30_17, fd30_18, fd30_19, fd30_20, fd30_21, fd30_22, fd30_23, fd32_0, fd32_1, fd32_2, fd32_3, fd32_4, fd32_5, fd32_6, fd32_7, fd32_8, fd32_9, fd32_10, fd32_11, show decide ((i : Int) < (ks.length : Int)) = true by simp; omega, ndsAt h1, wrap_succ (show i < 4611686018427387904 by omega)]), ?_⟩
             show GoW _ _ _ _ _ _ _ _ _ _ _ _ _ _)
          | ((first | refine GoW.call (f := 14) (by decide) (by rfl) rfl Try.func14 (by rfl) (by decide) rfl ?_ | refine GoW.callG (f := 14) (by decide) (by rfl) (by rfl) rfl Try.func14 (by rfl) (by decide) rfl ?_)
             (refine (ih _ (List.getElem_mem h1) (hk _ (List.getElem_mem h1)) _).retE ?_; rintro _ ⟨e, rfl, he⟩)
             refine ⟨by (first | exact fun h => absurd h (by decide) | (intro _; trivial)), ?_⟩)
          | ((first | refine GoR.call (f := 14) (by decide) (by rfl) rfl Try.func14 (by decide) (by rfl) ?_ | refine GoR.callG (f := 14) (by decide) (by rfl) (by rfl) rfl Try.func14 (by decide) (by rfl) ?_)
             (refine (ih _ (List.getElem_mem h1) (hk _ (List.getElem_mem h1)) _).retE ?_; rintro _ ⟨e, rfl, he⟩))
          | refine Go.condT (by rfl) ?_
          | refine Go.condF (by rfl) ?_
          | refine GoR.skipG (by decide) rfl rfl ?_
          | refine GoW.skipG (by decide) rfl rfl (by (first | exact fun h => absurd h (by decide) | (intro _; trivial))) ?_
          | (refine GoR.splitG rfl (fun hc => ?_) (fun hc => ?_) <;> simp only [hc])
          | refine Go.condB rfl (fun hc => ?_) (fun hc => ?_))
        · clear next
          refine ⟨(by first | exact .inl rfl | exact .inr rfl), fin ?_⟩
          rw [resD_tmp (fn := Try.f14) rfl]
          simp only [optThen_some, resultD_tmp, resultD_cell, G, Z, Y, un_neg, Int.reduceEq, Int.reduceLE, cutD, Nat.reduceBEq, Nat.reduceAdd, Nat.reduceMul, Nat.reduceSub, Nat.reducePow, Nat.reduceLT, Nat.reduceGT, Nat.reduceLeDiff, Nat.reduceEqDiff, Int.reduceToNat, gt_iff_lt, if_true, if_false, beq_self_eq_true, reduceIte, decide_true, decide_false, fd2_0, fd2_1, fd2_2, fd2_3, fd2_4, fd2_5, fd2_6, fd2_7, fd2_8, fd2_9, fd3_0, fd3_1, fd3_2, fd3_3, fd3_4, fd3_5, fd3_6, fd3_7, fd3_8, fd3_9, fd9_0, fd9_1, fd9_2, fd9_3, fd9_4, fd9_5, fd9_6, fd9_7, fd30_0, fd30_1, fd30_2, fd30_3, fd30_4, fd30_5, fd30_6, fd30_7, fd30_8, fd30_9, fd30_10, fd30_11, fd30_12, fd30_13, fd30_14, fd30_15, fd30_16, fd30_17, fd30_18, fd30_19, fd30_20, fd30_21, fd30_22, fd30_23, fd32_0, fd32_1, fd32_2, fd32_3, fd32_4, fd32_5, fd32_6, fd32_7, fd32_8, fd32_9, fd32_10, fd32_11]
          exact ⟨_, _, rfl, .int, _, rfl, fun h => by simp_all⟩
        · refine Go.lpN ?_
          refine Go.keep [(1, .ptr S.length 0), (3, .int .i64 ((i + 1 : Nat) : Int))] (.cons .refl (.cons .refl (.nil))) ?_
          refine next (i + 1) (by omega) ⟨h1, fun j hj hlt => ?_⟩
          rcases Nat.lt_or_ge j i with h | h
          · exact hf j hj h
          · obtain rfl : j = i := by omega

            exact he (by simpa using hc)
      · clear next
        repeat' (first
          | refine Go.seq ?_
          | refine Go.rg ?_
          | refine GoR.nil ?_
          | refine Go.skip ?_
          | refine Go.ret ?_
          | refine Go.block ?_
          | refine Go.exit ?_
          | refine Go.blkX ?_
          | refine Go.blkN ?_
          | refine Go.passX ?_
          | refine Go.lpX ?_
          | (refine Go.blkE (by decide) ?_)
          | (refine Go.rgS dmx (by decide) ?_)
          | (refine Go.rgD [4] (fun _ => True) dmx (by decide) 8 (by decide) ?_ ?_
             · trivial)
          | refine GoW.nil rfl ?_
          | ((first | refine GoR.op (by decide) (by rfl) ?_ | refine GoR.opG (by decide) (by rfl) (by rfl) ?_ | refine GoW.op (by decide) (by rfl) rfl ?_ | refine GoW.opG (by decide) (by rfl) rfl (by rfl) ?_)
             conv => arg 1; simp only [G, Z, Y, un_neg, Int.reduceEq, Int.reduceLE, cutD, Nat.reduceBEq, Nat.reduceAdd, Nat.reduceMul, Nat.reduceSub, Nat.reducePow, Nat.reduceLT, Nat.reduceGT, Nat.reduceLeDiff, Nat.reduceEqDiff, Int.reduceToNat, gt_iff_lt, if_true, if_false, beq_self_eq_true, reduceIte, decide_true, decide_false, fd2_0, fd2_1, fd2_2, fd2_3, fd2_4, fd2_5, fd2_6, fd2_7, fd2_8, fd2_9, fd3_0, fd3_1, fd3_2, fd3_3, fd3_4, fd3_5, fd3_6, fd3_7, fd3_8, fd3_9, fd9_0, fd9_1, fd9_2, fd9_3, fd9_4, fd9_5, fd9_6, fd9_7, fd30_0, fd30_1, fd30_2, fd30_3, fd30_4, fd30_5, fd30_6, fd30_7, fd30_8, fd30_9, fd30_10, fd30_11, fd30_12, fd30_13, fd30_14, fd30_15, fd30_16, fd30_17, fd30_18, fd30_19, fd30_20, fd30_21, fd30_22, fd30_23, fd32_0, fd32_1, fd32_2, fd32_3, fd32_4, fd32_5, fd32_6, fd32_7, fd32_8, fd32_9, fd32_10, fd32_11, show decide ((i : Int) < (ks.length : Int)) = false by simp; omega]
             first | show GoR _ _ _ _ _ _ _ _ _ _ | (show _ ∧ _; refine ⟨by (first | exact fun h => absurd h (by decide) | (intro _; trivial)), ?_⟩; show GoW _ _ _ _ _ _ _ _ _ _ _ _ _ _))
          | ((first | refine GoW.readT (by decide) (by rfl) ?_ | refine GoW.readTG (by decide) (by rfl) (by rfl) ?_)
             conv => arg 1; simp only [G, Z, Y, un_neg, Int.reduceEq, Int.reduceLE, cutD, Nat.reduceBEq, Nat.reduceAdd, Nat.reduceMul, Nat.reduceSub, Nat.reducePow, Nat.reduceLT, Nat.reduceGT, Nat.reduceLeDiff, Nat.reduceEqDiff, Int.reduceToNat, gt_iff_lt, if_true, if_false, beq_self_eq_true, reduceIte, decide_true, decide_false, fd2_0, fd2_1, fd2_2, fd2_3, fd2_4, fd2_5, fd2_6, fd2_7, fd2_8, fd2_9, fd3_0, fd3_1, fd3_2, fd3_3, fd3_4, fd3_5, fd3_6, fd3_7, fd3_8, fd3_9, fd9_0, fd9_1, fd9_2, fd9_3, fd9_4, fd9_5, fd9_6, fd9_7, fd30_0, fd30_1, fd30_2, fd30_3, fd30_4, fd30_5, fd30_6, fd30_7, fd30_8, fd30_9, fd30_10, fd30_11, fd30_12, fd30_13, fd30_14, fd30_15, fd30_16, fd30_17, fd30_18, fd30_19, fd30_20, fd30_21, fd30_22, fd30_23, fd32_0, fd32_1, fd32_2, fd32_3, fd32_4, fd32_5, fd32_6, fd32_7, fd32_8, fd32_9, fd32_10, fd32_11, show decide ((i : Int) < (ks.length : Int)) = false by simp; omega]
             show _ ∧ _ ∧ _ ∧ _
             refine ⟨rfl, by trivial, (fun H hI => by simp only [G, Z, Y, un_neg, Int.reduceEq, Int.reduceLE, cutD, Nat.reduceBEq, Nat.reduceAdd, Nat.reduceMul, Nat.reduceSub, Nat.reducePow, Nat.reduceLT, Nat.reduceGT, Nat.reduceLeDiff, Nat.reduceEqDiff, Int.reduceToNat, gt_iff_lt, if_true, if_false, beq_self_eq_true, reduceIte, decide_true, decide_false, fd2_0, fd2_1, fd2_2, fd2_3, fd2_4, fd2_5, fd2_6, fd2_7, fd2_8, fd2_9, fd3_0, fd3_1, fd3_2, fd3_3, fd3_4, fd3_5, fd3_6, fd3_7, fd3_8, fd3_9, fd9_0, fd9_1, fd9_2, fd9_3, fd9_4, fd9_5, fd9_6, fd9_7, fd30_0, fd30_1, fd30_2, fd30_3, fd30_4, fd30_5, fd30_6, fd30_7, fd30_8, fd30_9, fd30_10, fd30_11, fd30_12, fd30_13, fd30_14, fd30_15, fd30_16, fd30_17, fd30_18, fd30_19, fd30_20, fd30_21, fd30_22, fd30_23, fd32_0, fd32_1, fd32_2, fd32_3, fd32_4, fd32_5, fd32_6, fd32_7, fd32_8, fd32_9, fd32_10, fd32_11, show decide ((i : Int) < (ks.length : Int)) = false by simp; omega]), ?_⟩
             show GoW _ _ _ _ _ _ _ _ _ _ _ _ _ _)
          | refine Go.condT (by rfl) ?_
          | refine Go.condF (by rfl) ?_
          | refine GoR.skipG (by decide) rfl rfl ?_
          | refine GoW.skipG (by decide) rfl rfl (by (first | exact fun h => absurd h (by decide) | (intro _; trivial))) ?_
          | (refine GoR.splitG rfl (fun hc => ?_) (fun hc => ?_) <;> simp only [hc])
          | refine Go.condB rfl (fun hc => ?_) (fun hc => ?_))
        refine ⟨(by first | exact .inl rfl | exact .inr rfl), fin ?_⟩
        rw [resD_tmp (fn := Try.f14) rfl]
        simp only [optThen_some, resultD_tmp, resultD_cell, G, Z, Y, un_neg, Int.reduceEq, Int.reduceLE, cutD, Nat.reduceBEq, Nat.reduceAdd, Nat.reduceMul, Nat.reduceSub, Nat.reducePow, Nat.reduceLT, Nat.reduceGT, Nat.reduceLeDiff, Nat.reduceEqDiff, Int.reduceToNat, gt_iff_lt, if_true, if_false, beq_self_eq_true, reduceIte, decide_true, decide_false, fd2_0, fd2_1, fd2_2, fd2_3, fd2_4, fd2_5, fd2_6, fd2_7, fd2_8, fd2_9, fd3_0, fd3_1, fd3_2, fd3_3, fd3_4, fd3_5, fd3_6, fd3_7, fd3_8, fd3_9, fd9_0, fd9_1, fd9_2, fd9_3, fd9_4, fd9_5, fd9_6, fd9_7, fd30_0, fd30_1, fd30_2, fd30_3, fd30_4, fd30_5, fd30_6, fd30_7, fd30_8, fd30_9, fd30_10, fd30_11, fd30_12, fd30_13, fd30_14, fd30_15, fd30_16, fd30_17, fd30_18, fd30_19, fd30_20, fd30_21, fd30_22, fd30_23, fd32_0, fd32_1, fd32_2, fd32_3, fd32_4, fd32_5, fd32_6, fd32_7, fd32_8, fd32_9, fd32_10, fd32_11]
        refine ⟨_, _, rfl, .int, _, rfl, fun _ => .mk har fun x hx => ?_⟩
        obtain ⟨j, hj, rfl⟩ := List.mem_iff_getElem.1 hx
        exact hf j hj (by omega)

theorem checkNode (n : Nd) (hs : Slim 100 n) (S : Mem) : CallD Try.prog orc 6 [.agg n.c] S fun d S' => S' = S ∧ ∃ e, d = .int .i64 e ∧ (e = 0 → Fits n) := by
  have hcount := fun S => count12 (orc := orc) n 32 (by omega) (by omega) S
  have hcheck := fun S => check12 (orc := orc) n hs S
  obtain ⟨op, nm, n, ks⟩ := n
  rw [Nd.c_mk] at hcount hcheck ⊢
  refine CallD.drop ?_
  refine CallD.body Try.func6 rfl (by simp [Try.ntmps6]) ?_
  rw [Try.ntmps6]
  repeat' (first
    | refine Go.seq ?_
    | refine Go.rg ?_
    | refine GoR.nil ?_
    | refine Go.skip ?_
    | refine Go.ret ?_
    | refine Go.block ?_
    | refine Go.exit ?_
    | refine Go.blkX ?_
    | refine Go.blkN ?_
    | refine Go.passX ?_
    | refine Go.lpX ?_
    | (refine Go.blkE (by decide) ?_)
    | (refine Go.rgS dmx (by decide) ?_)
    | ((first | refine GoR.op (by decide) (by rfl) ?_ | refine GoR.opG (by decide) (by rfl) (by rfl) ?_)
       conv => arg 1; simp only [G, Z, Y, un_neg, Int.reduceEq, Int.reduceLE, cutD, Nat.reduceBEq, Nat.reduceAdd, Nat.reduceMul, Nat.reduceSub, Nat.reducePow, Nat.reduceLT, Nat.reduceGT, Nat.reduceLeDiff, Nat.reduceEqDiff, Int.reduceToNat, gt_iff_lt, if_true, if_false, beq_self_eq_true, reduceIte, decide_true, decide_false, fd2_0, fd2_1, fd2_2, fd2_3, fd2_4, fd2_5, fd2_6, fd2_7, fd2_8, fd2_9, fd3_0, fd3_1, fd3_2, fd3_3, fd3_4, fd3_5, fd3_6, fd3_7, fd3_8, fd3_9, fd9_0, fd9_1, fd9_2, fd9_3, fd9_4, fd9_5, fd9_6, fd9_7, fd30_0, fd30_1, fd30_2, fd30_3, fd30_4, fd30_5, fd30_6, fd30_7, fd30_8, fd30_9, fd30_10, fd30_11, fd30_12, fd30_13, fd30_14, fd30_15, fd30_16, fd30_17, fd30_18, fd30_19, fd30_20, fd30_21, fd30_22, fd30_23, fd32_0, fd32_1, fd32_2, fd32_3, fd32_4, fd32_5, fd32_6, fd32_7, fd32_8, fd32_9, fd32_10, fd32_11]
       show GoR _ _ _ _ _ _ _ _ _ _)
    | ((first | refine GoR.call (f := 13) (by decide) (by rfl) rfl Try.func13 (by decide) (by rfl) ?_ | refine GoR.callG (f := 13) (by decide) (by rfl) (by rfl) rfl Try.func13 (by decide) (by rfl) ?_)
       (refine (hcount _).retE ?_; rintro _ ⟨r, rfl, h1, h2⟩))
    | ((first | refine GoR.call (f := 14) (by decide) (by rfl) rfl Try.func14 (by decide) (by rfl) ?_ | refine GoR.callG (f := 14) (by decide) (by rfl) (by rfl) rfl Try.func14 (by decide) (by rfl) ?_)
       (refine (hcheck _).retE ?_; rintro _ ⟨e, rfl, he⟩))
    | refine Go.condT (by rfl) ?_
    | refine Go.condF (by rfl) ?_
    | refine GoR.skipG (by decide) rfl rfl ?_
    | (refine GoR.splitG rfl (fun hc => ?_) (fun hc => ?_) <;> simp only [hc])
    | refine Go.condB rfl (fun hc => ?_) (fun hc => ?_))
  · refine ⟨(by first | exact .inl rfl | exact .inr rfl), fin ?_⟩
    rw [resD_tmp (fn := Try.f6) rfl]
    simp only [optThen_some, resultD_tmp, resultD_cell, G, Z, Y, un_neg, Int.reduceEq, Int.reduceLE, cutD, Nat.reduceBEq, Nat.reduceAdd, Nat.reduceMul, Nat.reduceSub, Nat.reducePow, Nat.reduceLT, Nat.reduceGT, Nat.reduceLeDiff, Nat.reduceEqDiff, Int.reduceToNat, gt_iff_lt, if_true, if_false, beq_self_eq_true, reduceIte, decide_true, decide_false, fd2_0, fd2_1, fd2_2, fd2_3, fd2_4, fd2_5, fd2_6, fd2_7, fd2_8, fd2_9, fd3_0, fd3_1, fd3_2, fd3_3, fd3_4, fd3_5, fd3_6, fd3_7, fd3_8, fd3_9, fd9_0, fd9_1, fd9_2, fd9_3, fd9_4, fd9_5, fd9_6, fd9_7, fd30_0, fd30_1, fd30_2, fd30_3, fd30_4, fd30_5, fd30_6, fd30_7, fd30_8, fd30_9, fd30_10, fd30_11, fd30_12, fd30_13, fd30_14, fd30_15, fd30_16, fd30_17, fd30_18, fd30_19, fd30_20, fd30_21, fd30_22, fd30_23, fd32_0, fd32_1, fd32_2, fd32_3, fd32_4, fd32_5, fd32_6, fd32_7, fd32_8, fd32_9, fd32_10, fd32_11]
    exact ⟨_, _, rfl, .int, _, rfl, by omega⟩
  · refine ⟨(by first | exact .inl rfl | exact .inr rfl), fin ?_⟩
    rw [resD_tmp (fn := Try.f6) rfl]
    simp only [optThen_some, resultD_tmp, resultD_cell, G, Z, Y, un_neg, Int.reduceEq, Int.reduceLE, cutD, Nat.reduceBEq, Nat.reduceAdd, Nat.reduceMul, Nat.reduceSub, Nat.reducePow, Nat.reduceLT, Nat.reduceGT, Nat.reduceLeDiff, Nat.reduceEqDiff, Int.reduceToNat, gt_iff_lt, if_true, if_false, beq_self_eq_true, reduceIte, decide_true, decide_false, fd2_0, fd2_1, fd2_2, fd2_3, fd2_4, fd2_5, fd2_6, fd2_7, fd2_8, fd2_9, fd3_0, fd3_1, fd3_2, fd3_3, fd3_4, fd3_5, fd3_6, fd3_7, fd3_8, fd3_9, fd9_0, fd9_1, fd9_2, fd9_3, fd9_4, fd9_5, fd9_6, fd9_7, fd30_0, fd30_1, fd30_2, fd30_3, fd30_4, fd30_5, fd30_6, fd30_7, fd30_8, fd30_9, fd30_10, fd30_11, fd30_12, fd30_13, fd30_14, fd30_15, fd30_16, fd30_17, fd30_18, fd30_19, fd30_20, fd30_21, fd30_22, fd30_23, fd32_0, fd32_1, fd32_2, fd32_3, fd32_4, fd32_5, fd32_6, fd32_7, fd32_8, fd32_9, fd32_10, fd32_11]
    exact ⟨_, _, rfl, .int, _, rfl, he⟩
end Go.Proofs.DaT
