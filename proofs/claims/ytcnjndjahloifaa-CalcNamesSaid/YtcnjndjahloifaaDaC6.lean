/- The law on names: it is true of every tree and any numbers. -/
import Derived.Test.YtcnjndjahloifaaDaC5
set_option linter.unusedSimpArgs false
set_option linter.unusedVariables false
namespace Go.Proofs.DaT
open Go Go.DM
set_option maxRecDepth 100000

/-- A number by a name: as the law builds it, as an attribute. -/
def atC (p : ByteArray × Int) : List D := [.str p.1, .int .i64 1, .int .i64 p.2, .str ⟨#[]⟩, .nils]
def toAtt (p : ByteArray × Int) : Att := ⟨p.1, ⟨1, p.2, ⟨#[]⟩, []⟩⟩
theorem at_wf : ∀ (ps : List (ByteArray × Int)), WfL (ps.flatMap atC) (attsC (ps.map toAtt))
  | [] => .nil
  | p :: ps => by
    rw [List.flatMap_cons, List.map_cons]
    show WfL (atC p ++ ps.flatMap atC) (Att.c (toAtt p) ++ attsC (ps.map toAtt))
    exact .append (.cons .refl (.cons .refl (.cons .refl (.cons .refl (.cons .nilE .nil))))) (at_wf ps)
theorem strAt {l : List ByteArray} {i : Nat} (h : i < l.length) : ((0 ≤ (i : Int) ∧ (i : Int) < (l.length : Int)) = True) ∧ (strC l)[i]? = some (.str l[i]) := ⟨ix_ok h, by simp [strC, h]⟩
theorem mod16 {i : Nat} : IntKind.u64.wrap ((i : Int).tmod 16) = ((i % 16 : Nat) : Int) := by
  have : (i : Int).tmod 16 = ((i % 16 : Nat) : Int) := by
    rw [show (16 : Int) = ((16 : Nat) : Int) from rfl, ← Int.ofNat_tmod]
  rw [this]
  exact u64_cast (by omega)
/-- Names so far: those of the list that are there rise, and are all just if it is so. -/
structure NInv (N : List ByteArray) (i : Nat) (ok : Bool) (ps : List (ByteArray × Int)) : Prop where
  sub : ∀ p ∈ ps, ∃ j, ∃ h : j < N.length, j < i ∧ p.1 = N[j]
  rise : RiseB (fun p => p.1) ps
  all : ok = true ↔ ∀ j (h : j < N.length), j < i → ∃ p ∈ ps, p.1 = N[j]
  num : ∀ p ∈ ps, in64 p.2
  len : ps.length ≤ i
theorem NInv.skip {N : List ByteArray} (hN : RiseB (fun x => x) N) {i : Nat} {ok : Bool} {ps : List (ByteArray × Int)} (h : NInv N i ok ps) (hi : i < N.length) : NInv N (i + 1) false ps := by
  refine ⟨fun p hp => ?_, h.rise, ?_, h.num, by have := h.len; omega⟩
  · obtain ⟨j, hj, h1, h2⟩ := h.sub p hp
    exact ⟨j, hj, by omega, h2⟩
  · simp only [Bool.false_eq_true, false_iff]
    intro hc
    obtain ⟨p, hp, e⟩ := hc i hi (by omega)
    obtain ⟨j, hj, h1, h2⟩ := h.sub p hp
    have := hN.inj hj hi (h2.symm.trans e)
    omega
theorem NInv.put {N : List ByteArray} (hN : RiseB (fun x => x) N) {i : Nat} {ok : Bool} {ps : List (ByteArray × Int)} (h : NInv N i ok ps) (hi : i < N.length) {v : Int} (hv : in64 v) : NInv N (i + 1) ok (ps ++ [(N[i], v)]) := by
  refine ⟨fun p hp => ?_, ?_, ?_, fun p hp => ?_, by have := h.len; simp; omega⟩
  · rcases List.mem_append.1 hp with hp | hp
    · obtain ⟨j, hj, h1, h2⟩ := h.sub p hp
      exact ⟨j, hj, by omega, h2⟩
    · rw [List.mem_singleton] at hp
      subst hp
      exact ⟨i, hi, by omega, rfl⟩
  · intro k hk
    simp only [List.length_append, List.length_cons, List.length_nil] at hk
    by_cases hk2 : k + 1 < ps.length
    · have := h.rise k hk2
      rw [List.getElem_append_left (by omega), List.getElem_append_left hk2]
      exact this
    · have hk3 : k + 1 = ps.length := by omega
      rw [List.getElem_append_left (show k < ps.length by omega)]
      obtain ⟨j, hj, h1, h2⟩ := h.sub ps[k] (List.getElem_mem _)
      have h3 := hN.lt hi h1
      rw [List.getElem_append_right (by omega)]
      simp only [hk3, Nat.sub_self, List.getElem_singleton, h2]
      exact h3
  · rw [h.all]
    constructor
    · intro hall j hj hlt
      rcases Nat.lt_or_ge j i with h1 | h1
      · obtain ⟨p, hp, e⟩ := hall j hj h1
        exact ⟨p, by simp [hp], e⟩
      · have : j = i := by omega
        subst this
        exact ⟨(N[j], v), by simp, rfl⟩
    · intro hall j hj hlt
      obtain ⟨p, hp, e⟩ := hall j hj (by omega)
      rcases List.mem_append.1 hp with hp | hp
      · exact ⟨p, hp, e⟩
      · rw [List.mem_singleton] at hp
        subst hp
        have := hN.inj hi hj e
        omega
  · rcases List.mem_append.1 hp with hp | hp
    · exact h.num p hp
    · rw [List.mem_singleton] at hp
      subst hp
      exact hv
theorem flat_at {ps : List (ByteArray × Int)} {p : ByteArray × Int} : (ps ++ [p]).flatMap atC = ps.flatMap atC ++ atC p := by simp
theorem rise_att {ps : List (ByteArray × Int)} (h : RiseB (fun p => p.1) ps) : RiseB Att.n (ps.map toAtt) := by
  intro i hi
  have := h i (by simpa using hi)
  simpa [toAtt] using this
theorem some_iff {n : Nd} (hf : Fits n) (hd : divs n = false) {ok : Bool} {ps : List (ByteArray × Int)} (h : NInv (namesR n) (namesR n).length ok ps) : (evalN (ps.map toAtt) n).isSome = ok := by
  rw [evalN_some (fun a ha => by obtain ⟨p, _, rfl⟩ := List.mem_map.1 ha; rfl) n hf hd, Bool.eq_iff_iff, h.all, List.all_eq_true]
  constructor
  · intro hall j hj _
    have := hall _ (mem_namesR.1 (List.getElem_mem hj))
    obtain ⟨a, ha, e⟩ := List.any_eq_true.1 this
    obtain ⟨p, hp, rfl⟩ := List.mem_map.1 ha
    exact ⟨p, hp, of_decide_eq_true e⟩
  · intro hall s hs
    obtain ⟨j, hj, rfl⟩ := List.mem_iff_getElem.1 (mem_namesR.2 hs)
    obtain ⟨p, hp, e⟩ := hall j hj hj
    exact List.any_eq_true.2 ⟨toAtt p, List.mem_map.2 ⟨p, hp, rfl⟩, decide_eq_true e⟩

theorem lawNames (n : Nd) (x : List Int) (there : Int) (hin : In64 n) (hx : ∀ v ∈ x, in64 v) (S : Mem) :
    CallD Try.prog O 3 [.agg n.c, .sl none 1 x.length (intsD x), .int .u16 there] S fun d S' => S' = S ∧ d = .bool true := by
  have hfew := fun S => few9 (orc := O) n S
  have hof := fun hs S => of9 (orc := O) n hs S
  have hchk := fun hs S => checkNode (orc := O) n hs S
  have hdiv := fun hs S => divides (orc := O) n hs S
  have hnames := fun hs hf hc S => names n hs hf hc (fun h => namesR_pos h) S
  have heval := fun l hr hl hv hi hs S => calcEval (orc := O) l hr hl hv hi n hs hin S
  have hsome := fun hf hd ok ps h => some_iff (n := n) hf hd (ok := ok) (ps := ps) h
  have hNr := namesR_rise n
  have hNl := namesR_le n
  generalize hN : namesR n = N at *
  obtain ⟨op, nm, n, ks⟩ := n
  rw [Nd.c_mk] at hfew hof hchk heval hdiv hnames ⊢
  refine CallD.drop ?_
  refine CallD.body Try.func3 rfl (by simp [Try.ntmps3]) ?_
  rw [Try.ntmps3]
  repeat' (first
    | refine Go.seq ?_
    | refine Go.rg ?_
    | refine GoR.nil ?_
    | refine Go.skip ?_
    | refine Go.ret ?_
    | refine Go.block ?_
    | refine Go.exit ?_
    | refine Go.blkX ?_
    | refine Go.blkN ?_
    | refine Go.passX ?_
    | refine Go.lpX ?_
    | (refine Go.blkE (by decide) ?_)
    | (refine Go.rgS dmx (by decide) ?_)
    | ((first | refine GoR.op (by decide) (by rfl) ?_ | refine GoR.opG (by decide) (by rfl) (by rfl) ?_)
       conv => arg 1; simp only [G, Z, Y, un_neg, Int.reduceEq, Int.reduceLE, cutD, Nat.reduceBEq, Nat.reduceAdd, Nat.reduceMul, Nat.reduceSub, Nat.reducePow, Nat.reduceLT, Nat.reduceGT, Nat.reduceLeDiff, Nat.reduceEqDiff, Int.reduceToNat, gt_iff_lt, if_true, if_false, beq_self_eq_true, reduceIte, decide_true, decide_false, fd2_0, fd2_1, fd2_2, fd2_3, fd2_4, fd2_5, fd2_6, fd2_7, fd2_8, fd2_9, fd3_0, fd3_1, fd3_2, fd3_3, fd3_4, fd3_5, fd3_6, fd3_7, fd3_8, fd3_9, fd4_0, fd4_1, fd4_2, fd4_3, fd4_4, fd9_0, fd9_1, fd9_2, fd9_3, fd9_4, fd9_5, fd9_6, fd9_7, fd22_0, fd22_1, fd22_2, fd22_3, fd22_4, fd22_5, fd22_6, fd22_7, fd22_8, fd22_9, fd22_10, fd22_11, fd22_12, fd22_13, fd22_14, fd22_15, fd22_16, fd22_17, fd22_18, fd22_19, fd22_20, fd22_21, fd22_22, fd22_23, fd24_0, fd24_1, fd24_2, fd24_3, fd24_4, fd24_5, fd24_6, fd24_7, fd24_8, fd24_9, fd24_10, fd24_11, fd25_0, fd25_1, fd25_2, fd25_3, fd25_4, fd25_5, fd25_6, fd25_7, fd25_8, fd25_9, fd25_10, fd25_11, fd25_12, fd25_13, fd25_14, fd25_15, fd25_16, fd25_17, fd25_18, fd25_19, fd25_20, fd25_21, fd25_22, fd25_23, fd26_0, fd26_1, fd26_2, fd26_3, fd26_4, fd26_5, fd26_6, fd26_7, fd26_8, fd26_9, fd34_0, fd34_1, fd34_2, fd34_3, fd34_4, fd34_5, fd34_6, fd34_7, fd34_8, fd34_9, fd34_10, fd34_11, fd34_12, fd34_13, fd34_14, fd34_15, fd34_16, fd34_17, fd34_18, fd34_19, fd34_20, fd34_21, fd34_22, fd34_23, fd36_0, fd36_1, fd36_2, fd36_3, fd36_4, fd36_5, fd36_6, fd36_7, fd36_8, fd36_9, fd36_10, fd36_11, fd36_12, fd36_13, fd36_14, fd36_15, fd36_16, fd36_17, fd36_18, fd36_19, fd36_20, fd36_21, fd36_22, fd36_23, fd37_0, fd37_1, fd37_2, fd37_3, fd37_4, fd37_5, fd37_6, fd37_7, fd37_8, fd37_9, fd39_0, fd39_1, fd39_2, fd39_3, fd39_4, fd39_5, fd39_6, fd39_7, fd39_8, fd39_9, fd39_10, fd39_11, fd41_0, fd41_1, fd41_2, fd41_3, fd41_4, fd41_5, fd41_6, fd41_7]
       show GoR _ _ _ _ _ _ _ _ _ _)
    | ((first | refine GoR.call (f := 4) (by decide) (by rfl) rfl Try.func4 (by decide) (by rfl) ?_ | refine GoR.callG (f := 4) (by decide) (by rfl) (by rfl) rfl Try.func4 (by decide) (by rfl) ?_)
       (refine (theKnown _).ret ?_))
    | ((first | refine GoR.call (f := 5) (by decide) (by rfl) rfl Try.func5 (by decide) (by rfl) ?_ | refine GoR.callG (f := 5) (by decide) (by rfl) (by rfl) rfl Try.func5 (by decide) (by rfl) ?_)
       (refine (hfew _).retE ?_; rintro _ ⟨b, rfl, hb⟩))
    | refine Go.condT (by rfl) ?_
    | refine Go.condF (by rfl) ?_
    | refine GoR.skipG (by decide) rfl rfl ?_
    | (refine GoR.splitG rfl (fun hc => ?_) (fun hc => ?_) <;> simp only [hc])
    | refine Go.condB rfl (fun hc => ?_) (fun hc => ?_))
  · refine ⟨(by first | exact .inl rfl | exact .inr rfl), fin ?_⟩
    rw [resD_tmp (fn := Try.f3) rfl]
    simp only [optThen_some, resultD_tmp, resultD_cell, G, Z, Y, un_neg, Int.reduceEq, Int.reduceLE, cutD, Nat.reduceBEq, Nat.reduceAdd, Nat.reduceMul, Nat.reduceSub, Nat.reducePow, Nat.reduceLT, Nat.reduceGT, Nat.reduceLeDiff, Nat.reduceEqDiff, Int.reduceToNat, gt_iff_lt, if_true, if_false, beq_self_eq_true, reduceIte, decide_true, decide_false, fd2_0, fd2_1, fd2_2, fd2_3, fd2_4, fd2_5, fd2_6, fd2_7, fd2_8, fd2_9, fd3_0, fd3_1, fd3_2, fd3_3, fd3_4, fd3_5, fd3_6, fd3_7, fd3_8, fd3_9, fd4_0, fd4_1, fd4_2, fd4_3, fd4_4, fd9_0, fd9_1, fd9_2, fd9_3, fd9_4, fd9_5, fd9_6, fd9_7, fd22_0, fd22_1, fd22_2, fd22_3, fd22_4, fd22_5, fd22_6, fd22_7, fd22_8, fd22_9, fd22_10, fd22_11, fd22_12, fd22_13, fd22_14, fd22_15, fd22_16, fd22_17, fd22_18, fd22_19, fd22_20, fd22_21, fd22_22, fd22_23, fd24_0, fd24_1, fd24_2, fd24_3, fd24_4, fd24_5, fd24_6, fd24_7, fd24_8, fd24_9, fd24_10, fd24_11, fd25_0, fd25_1, fd25_2, fd25_3, fd25_4, fd25_5, fd25_6, fd25_7, fd25_8, fd25_9, fd25_10, fd25_11, fd25_12, fd25_13, fd25_14, fd25_15, fd25_16, fd25_17, fd25_18, fd25_19, fd25_20, fd25_21, fd25_22, fd25_23, fd26_0, fd26_1, fd26_2, fd26_3, fd26_4, fd26_5, fd26_6, fd26_7, fd26_8, fd26_9, fd34_0, fd34_1, fd34_2, fd34_3, fd34_4, fd34_5, fd34_6, fd34_7, fd34_8, fd34_9, fd34_10, fd34_11, fd34_12, fd34_13, fd34_14, fd34_15, fd34_16, fd34_17, fd34_18, fd34_19, fd34_20, fd34_21, fd34_22, fd34_23, fd36_0, fd36_1, fd36_2, fd36_3, fd36_4, fd36_5, fd36_6, fd36_7, fd36_8, fd36_9, fd36_10, fd36_11, fd36_12, fd36_13, fd36_14, fd36_15, fd36_16, fd36_17, fd36_18, fd36_19, fd36_20, fd36_21, fd36_22, fd36_23, fd37_0, fd37_1, fd37_2, fd37_3, fd37_4, fd37_5, fd37_6, fd37_7, fd37_8, fd37_9, fd39_0, fd39_1, fd39_2, fd39_3, fd39_4, fd39_5, fd39_6, fd39_7, fd39_8, fd39_9, fd39_10, fd39_11, fd41_0, fd41_1, fd41_2, fd41_3, fd41_4, fd41_5, fd41_6, fd41_7]
    exact ⟨_, _, rfl, .bool, rfl⟩
  · obtain ⟨hs, hcnt⟩ := hb (by simpa using hc)
    repeat' (first
      | refine Go.seq ?_
      | refine Go.rg ?_
      | refine GoR.nil ?_
      | refine Go.skip ?_
      | refine Go.ret ?_
      | refine Go.block ?_
      | refine Go.exit ?_
      | refine Go.blkX ?_
      | refine Go.blkN ?_
      | refine Go.passX ?_
      | refine Go.lpX ?_
      | (refine Go.blkE (by decide) ?_)
      | (refine Go.rgS dmx (by decide) ?_)
      | ((first | refine GoR.op (by decide) (by rfl) ?_ | refine GoR.opG (by decide) (by rfl) (by rfl) ?_)
         conv => arg 1; simp only [G, Z, Y, un_neg, Int.reduceEq, Int.reduceLE, cutD, Nat.reduceBEq, Nat.reduceAdd, Nat.reduceMul, Nat.reduceSub, Nat.reducePow, Nat.reduceLT, Nat.reduceGT, Nat.reduceLeDiff, Nat.reduceEqDiff, Int.reduceToNat, gt_iff_lt, if_true, if_false, beq_self_eq_true, reduceIte, decide_true, decide_false, fd2_0, fd2_1, fd2_2, fd2_3, fd2_4, fd2_5, fd2_6, fd2_7, fd2_8, fd2_9, fd3_0, fd3_1, fd3_2, fd3_3, fd3_4, fd3_5, fd3_6, fd3_7, fd3_8, fd3_9, fd4_0, fd4_1, fd4_2, fd4_3, fd4_4, fd9_0, fd9_1, fd9_2, fd9_3, fd9_4, fd9_5, fd9_6, fd9_7, fd22_0, fd22_1, fd22_2, fd22_3, fd22_4, fd22_5, fd22_6, fd22_7, fd22_8, fd22_9, fd22_10, fd22_11, fd22_12, fd22_13, fd22_14, fd22_15, fd22_16, fd22_17, fd22_18, fd22_19, fd22_20, fd22_21, fd22_22, fd22_23, fd24_0, fd24_1, fd24_2, fd24_3, fd24_4, fd24_5, fd24_6, fd24_7, fd24_8, fd24_9, fd24_10, fd24_11, fd25_0, fd25_1, fd25_2, fd25_3, fd25_4, fd25_5, fd25_6, fd25_7, fd25_8, fd25_9, fd25_10, fd25_11, fd25_12, fd25_13, fd25_14, fd25_15, fd25_16, fd25_17, fd25_18, fd25_19, fd25_20, fd25_21, fd25_22, fd25_23, fd26_0, fd26_1, fd26_2, fd26_3, fd26_4, fd26_5, fd26_6, fd26_7, fd26_8, fd26_9, fd34_0, fd34_1, fd34_2, fd34_3, fd34_4, fd34_5, fd34_6, fd34_7, fd34_8, fd34_9, fd34_10, fd34_11, fd34_12, fd34_13, fd34_14, fd34_15, fd34_16, fd34_17, fd34_18, fd34_19, fd34_20, fd34_21, fd34_22, fd34_23, fd36_0, fd36_1, fd36_2, fd36_3, fd36_4, fd36_5, fd36_6, fd36_7, fd36_8, fd36_9, fd36_10, fd36_11, fd36_12, fd36_13, fd36_14, fd36_15, fd36_16, fd36_17, fd36_18, fd36_19, fd36_20, fd36_21, fd36_22, fd36_23, fd37_0, fd37_1, fd37_2, fd37_3, fd37_4, fd37_5, fd37_6, fd37_7, fd37_8, fd37_9, fd39_0, fd39_1, fd39_2, fd39_3, fd39_4, fd39_5, fd39_6, fd39_7, fd39_8, fd39_9, fd39_10, fd39_11, fd41_0, fd41_1, fd41_2, fd41_3, fd41_4, fd41_5, fd41_6, fd41_7]
         show GoR _ _ _ _ _ _ _ _ _ _)
      | ((first | refine GoR.call (f := 7) (by decide) (by rfl) rfl Try.func7 (by decide) (by rfl) ?_ | refine GoR.callG (f := 7) (by decide) (by rfl) (by rfl) rfl Try.func7 (by decide) (by rfl) ?_)
         (refine (hof hs _).ret ?_))
      | ((first | refine GoR.call (f := 6) (by decide) (by rfl) rfl Try.func6 (by decide) (by rfl) ?_ | refine GoR.callG (f := 6) (by decide) (by rfl) (by rfl) rfl Try.func6 (by decide) (by rfl) ?_)
         (refine (hchk hs _).retE ?_; rintro _ ⟨e, rfl, he⟩))
      | ((first | refine GoR.call (f := 8) (by decide) (by rfl) rfl Try.func8 (by decide) (by rfl) ?_ | refine GoR.callG (f := 8) (by decide) (by rfl) (by rfl) rfl Try.func8 (by decide) (by rfl) ?_)
         (refine (hdiv hs _).ret ?_))
      | refine Go.condT (by rfl) ?_
      | refine Go.condF (by rfl) ?_
      | refine GoR.skipG (by decide) rfl rfl ?_
      | (refine GoR.splitG rfl (fun hc => ?_) (fun hc => ?_) <;> simp only [hc])
      | refine Go.condB rfl (fun hc => ?_) (fun hc => ?_))
    · refine ⟨(by first | exact .inl rfl | exact .inr rfl), fin ?_⟩
      rw [resD_tmp (fn := Try.f3) rfl]
      simp only [optThen_some, resultD_tmp, resultD_cell, G, Z, Y, un_neg, Int.reduceEq, Int.reduceLE, cutD, Nat.reduceBEq, Nat.reduceAdd, Nat.reduceMul, Nat.reduceSub, Nat.reducePow, Nat.reduceLT, Nat.reduceGT, Nat.reduceLeDiff, Nat.reduceEqDiff, Int.reduceToNat, gt_iff_lt, if_true, if_false, beq_self_eq_true, reduceIte, decide_true, decide_false, fd2_0, fd2_1, fd2_2, fd2_3, fd2_4, fd2_5, fd2_6, fd2_7, fd2_8, fd2_9, fd3_0, fd3_1, fd3_2, fd3_3, fd3_4, fd3_5, fd3_6, fd3_7, fd3_8, fd3_9, fd4_0, fd4_1, fd4_2, fd4_3, fd4_4, fd9_0, fd9_1, fd9_2, fd9_3, fd9_4, fd9_5, fd9_6, fd9_7, fd22_0, fd22_1, fd22_2, fd22_3, fd22_4, fd22_5, fd22_6, fd22_7, fd22_8, fd22_9, fd22_10, fd22_11, fd22_12, fd22_13, fd22_14, fd22_15, fd22_16, fd22_17, fd22_18, fd22_19, fd22_20, fd22_21, fd22_22, fd22_23, fd24_0, fd24_1, fd24_2, fd24_3, fd24_4, fd24_5, fd24_6, fd24_7, fd24_8, fd24_9, fd24_10, fd24_11, fd25_0, fd25_1, fd25_2, fd25_3, fd25_4, fd25_5, fd25_6, fd25_7, fd25_8, fd25_9, fd25_10, fd25_11, fd25_12, fd25_13, fd25_14, fd25_15, fd25_16, fd25_17, fd25_18, fd25_19, fd25_20, fd25_21, fd25_22, fd25_23, fd26_0, fd26_1, fd26_2, fd26_3, fd26_4, fd26_5, fd26_6, fd26_7, fd26_8, fd26_9, fd34_0, fd34_1, fd34_2, fd34_3, fd34_4, fd34_5, fd34_6, fd34_7, fd34_8, fd34_9, fd34_10, fd34_11, fd34_12, fd34_13, fd34_14, fd34_15, fd34_16, fd34_17, fd34_18, fd34_19, fd34_20, fd34_21, fd34_22, fd34_23, fd36_0, fd36_1, fd36_2, fd36_3, fd36_4, fd36_5, fd36_6, fd36_7, fd36_8, fd36_9, fd36_10, fd36_11, fd36_12, fd36_13, fd36_14, fd36_15, fd36_16, fd36_17, fd36_18, fd36_19, fd36_20, fd36_21, fd36_22, fd36_23, fd37_0, fd37_1, fd37_2, fd37_3, fd37_4, fd37_5, fd37_6, fd37_7, fd37_8, fd37_9, fd39_0, fd39_1, fd39_2, fd39_3, fd39_4, fd39_5, fd39_6, fd39_7, fd39_8, fd39_9, fd39_10, fd39_11, fd41_0, fd41_1, fd41_2, fd41_3, fd41_4, fd41_5, fd41_6, fd41_7]
      exact ⟨_, _, rfl, .bool, rfl⟩
    · refine ⟨(by first | exact .inl rfl | exact .inr rfl), fin ?_⟩
      rw [resD_tmp (fn := Try.f3) rfl]
      simp only [optThen_some, resultD_tmp, resultD_cell, G, Z, Y, un_neg, Int.reduceEq, Int.reduceLE, cutD, Nat.reduceBEq, Nat.reduceAdd, Nat.reduceMul, Nat.reduceSub, Nat.reducePow, Nat.reduceLT, Nat.reduceGT, Nat.reduceLeDiff, Nat.reduceEqDiff, Int.reduceToNat, gt_iff_lt, if_true, if_false, beq_self_eq_true, reduceIte, decide_true, decide_false, fd2_0, fd2_1, fd2_2, fd2_3, fd2_4, fd2_5, fd2_6, fd2_7, fd2_8, fd2_9, fd3_0, fd3_1, fd3_2, fd3_3, fd3_4, fd3_5, fd3_6, fd3_7, fd3_8, fd3_9, fd4_0, fd4_1, fd4_2, fd4_3, fd4_4, fd9_0, fd9_1, fd9_2, fd9_3, fd9_4, fd9_5, fd9_6, fd9_7, fd22_0, fd22_1, fd22_2, fd22_3, fd22_4, fd22_5, fd22_6, fd22_7, fd22_8, fd22_9, fd22_10, fd22_11, fd22_12, fd22_13, fd22_14, fd22_15, fd22_16, fd22_17, fd22_18, fd22_19, fd22_20, fd22_21, fd22_22, fd22_23, fd24_0, fd24_1, fd24_2, fd24_3, fd24_4, fd24_5, fd24_6, fd24_7, fd24_8, fd24_9, fd24_10, fd24_11, fd25_0, fd25_1, fd25_2, fd25_3, fd25_4, fd25_5, fd25_6, fd25_7, fd25_8, fd25_9, fd25_10, fd25_11, fd25_12, fd25_13, fd25_14, fd25_15, fd25_16, fd25_17, fd25_18, fd25_19, fd25_20, fd25_21, fd25_22, fd25_23, fd26_0, fd26_1, fd26_2, fd26_3, fd26_4, fd26_5, fd26_6, fd26_7, fd26_8, fd26_9, fd34_0, fd34_1, fd34_2, fd34_3, fd34_4, fd34_5, fd34_6, fd34_7, fd34_8, fd34_9, fd34_10, fd34_11, fd34_12, fd34_13, fd34_14, fd34_15, fd34_16, fd34_17, fd34_18, fd34_19, fd34_20, fd34_21, fd34_22, fd34_23, fd36_0, fd36_1, fd36_2, fd36_3, fd36_4, fd36_5, fd36_6, fd36_7, fd36_8, fd36_9, fd36_10, fd36_11, fd36_12, fd36_13, fd36_14, fd36_15, fd36_16, fd36_17, fd36_18, fd36_19, fd36_20, fd36_21, fd36_22, fd36_23, fd37_0, fd37_1, fd37_2, fd37_3, fd37_4, fd37_5, fd37_6, fd37_7, fd37_8, fd37_9, fd39_0, fd39_1, fd39_2, fd39_3, fd39_4, fd39_5, fd39_6, fd39_7, fd39_8, fd39_9, fd39_10, fd39_11, fd41_0, fd41_1, fd41_2, fd41_3, fd41_4, fd41_5, fd41_6, fd41_7]
      exact ⟨_, _, rfl, .bool, rfl⟩
    · rename_i hce
      have hf := he (by simpa using hce)
      have hd : divs (.mk op nm n ks) = false := by simpa using hc
      repeat' (first
        | refine Go.seq ?_
        | refine Go.rg ?_
        | refine GoR.nil ?_
        | refine Go.skip ?_
        | refine Go.ret ?_
        | refine Go.block ?_
        | refine Go.exit ?_
        | refine Go.blkX ?_
        | refine Go.blkN ?_
        | refine Go.passX ?_
        | refine Go.lpX ?_
        | (refine Go.blkE (by decide) ?_)
        | (refine Go.rgS dmx (by decide) ?_)
        | ((first | refine GoR.op (by decide) (by rfl) ?_ | refine GoR.opG (by decide) (by rfl) (by rfl) ?_)
           conv => arg 1; simp only [G, Z, Y, un_neg, Int.reduceEq, Int.reduceLE, cutD, Nat.reduceBEq, Nat.reduceAdd, Nat.reduceMul, Nat.reduceSub, Nat.reducePow, Nat.reduceLT, Nat.reduceGT, Nat.reduceLeDiff, Nat.reduceEqDiff, Int.reduceToNat, gt_iff_lt, if_true, if_false, beq_self_eq_true, reduceIte, decide_true, decide_false, fd2_0, fd2_1, fd2_2, fd2_3, fd2_4, fd2_5, fd2_6, fd2_7, fd2_8, fd2_9, fd3_0, fd3_1, fd3_2, fd3_3, fd3_4, fd3_5, fd3_6, fd3_7, fd3_8, fd3_9, fd4_0, fd4_1, fd4_2, fd4_3, fd4_4, fd9_0, fd9_1, fd9_2, fd9_3, fd9_4, fd9_5, fd9_6, fd9_7, fd22_0, fd22_1, fd22_2, fd22_3, fd22_4, fd22_5, fd22_6, fd22_7, fd22_8, fd22_9, fd22_10, fd22_11, fd22_12, fd22_13, fd22_14, fd22_15, fd22_16, fd22_17, fd22_18, fd22_19, fd22_20, fd22_21, fd22_22, fd22_23, fd24_0, fd24_1, fd24_2, fd24_3, fd24_4, fd24_5, fd24_6, fd24_7, fd24_8, fd24_9, fd24_10, fd24_11, fd25_0, fd25_1, fd25_2, fd25_3, fd25_4, fd25_5, fd25_6, fd25_7, fd25_8, fd25_9, fd25_10, fd25_11, fd25_12, fd25_13, fd25_14, fd25_15, fd25_16, fd25_17, fd25_18, fd25_19, fd25_20, fd25_21, fd25_22, fd25_23, fd26_0, fd26_1, fd26_2, fd26_3, fd26_4, fd26_5, fd26_6, fd26_7, fd26_8, fd26_9, fd34_0, fd34_1, fd34_2, fd34_3, fd34_4, fd34_5, fd34_6, fd34_7, fd34_8, fd34_9, fd34_10, fd34_11, fd34_12, fd34_13, fd34_14, fd34_15, fd34_16, fd34_17, fd34_18, fd34_19, fd34_20, fd34_21, fd34_22, fd34_23, fd36_0, fd36_1, fd36_2, fd36_3, fd36_4, fd36_5, fd36_6, fd36_7, fd36_8, fd36_9, fd36_10, fd36_11, fd36_12, fd36_13, fd36_14, fd36_15, fd36_16, fd36_17, fd36_18, fd36_19, fd36_20, fd36_21, fd36_22, fd36_23, fd37_0, fd37_1, fd37_2, fd37_3, fd37_4, fd37_5, fd37_6, fd37_7, fd37_8, fd37_9, fd39_0, fd39_1, fd39_2, fd39_3, fd39_4, fd39_5, fd39_6, fd39_7, fd39_8, fd39_9, fd39_10, fd39_11, fd41_0, fd41_1, fd41_2, fd41_3, fd41_4, fd41_5, fd41_6, fd41_7]
           show GoR _ _ _ _ _ _ _ _ _ _)
        | ((first | refine GoR.call (f := 9) (by decide) (by rfl) rfl Try.func9 (by decide) (by rfl) ?_ | refine GoR.callG (f := 9) (by decide) (by rfl) (by rfl) rfl Try.func9 (by decide) (by rfl) ?_)
           (refine (hnames hs hf (by omega) _).ret ?_))
        | refine Go.condT (by rfl) ?_
        | refine Go.condF (by rfl) ?_
        | refine GoR.skipG (by decide) rfl rfl ?_
        | (refine GoR.splitG rfl (fun hc => ?_) (fun hc => ?_) <;> simp only [hc])
        | refine Go.condB rfl (fun hc => ?_) (fun hc => ?_))
      refine Go.keep [(1, .sl none 1 x.length (intsD x)), (2, .int .u16 there), (3, .ptr S.length 0), (6, .bool false), (7, .sl none 1 N.length (strC N)), (8, .nils), (9, .bool true), (10, .int .i64 ((0 : Nat) : Int))] (.cons .refl (.cons .refl (.cons .refl (.cons .refl (.cons .refl (.cons .refl (.cons .refl (.cons .refl (.nil))))))))) ?_
      have hN60 : N.length ≤ 60 := by omega
      refine Go.while (α := Nat × Bool × List (ByteArray × Int) × D × Mem) (fun a => N.length - a.1) (fun a => [(1, .sl none 1 x.length (intsD x)), (2, .int .u16 there), (3, .ptr S.length 0), (6, .bool false), (7, .sl none 1 N.length (strC N)), (8, a.2.2.2.1), (9, .bool a.2.1), (10, .int .i64 (a.1 : Int))])
        (fun a => S ++ (.obj [.str op, .str nm, .int .i64 n, .sl none 4 ks.length (ndsC ks)] :: a.2.2.2.2))
        (fun a => a.1 ≤ N.length ∧ NInv N a.1 a.2.1 a.2.2.1 ∧ AccD (S.length + 1) a.2.2.2.1 5 a.2.2.1.length (a.2.2.1.flatMap atC) (S ++ (.obj [.str op, .str nm, .int .i64 n, .sl none 4 ks.length (ndsC ks)] :: a.2.2.2.2)))
        ?_ (0, true, [], .nils, []) ⟨Nat.zero_le _, ⟨by simp, fun i h => by simp at h, by simp, by simp, by simp⟩, .inl ⟨rfl, rfl, rfl⟩⟩
      rintro ⟨i, ok, ps, o, E⟩ ⟨hi, hinv, hacc⟩ next
      dsimp only at hi hinv hacc next
      have hpl := hinv.len
      by_cases h1 : i < N.length
      · have happ : ∀ v : Int, ∃ o' E2, appendD Try.prog #[36, 36] o (.sl (some (S.length + (E.length + 1))) 5 1 [.str N[i], .int .i64 1, .int .i64 v, .str ⟨#[]⟩, .nils]) (S ++ (.obj [.str op, .str nm, .int .i64 n, .sl none 4 ks.length (ndsC ks)] :: (E ++ [.own]))) = some (o', S ++ (.obj [.str op, .str nm, .int .i64 n, .sl none 4 ks.length (ndsC ks)] :: E2)) ∧
            AccD (S.length + 1) o' 5 (ps ++ [(N[i], v)]).length ((ps ++ [(N[i], v)]).flatMap atC) (S ++ (.obj [.str op, .str nm, .int .i64 n, .sl none 4 ks.length (ndsC ks)] :: E2)) := by
          intro v
          obtain ⟨o', S2, hap, hacc2, hg2⟩ := (hacc.app [.own]).append (P := Try.prog) del36 (own := some (S.length + (E.length + 1))) (m := 1) (new := atC (N[i], v)) (by simp) (by omega) ⟨by omega, by omega, by omega, rfl⟩
          obtain ⟨E2, rfl⟩ := hg2.pre (E ++ [.own]) (S ++ [.obj [.str op, .str nm, .int .i64 n, .sl none 4 ks.length (ndsC ks)]]) (by simp) (by simp)
          simp only [List.append_assoc, List.cons_append, List.nil_append] at hap hacc2
          refine ⟨o', E2, hap, ?_⟩
          rw [flat_at, List.length_append]
          exact hacc2
        have ho := hacc.one
        repeat' (first
          | refine Go.seq ?_
          | refine Go.rg ?_
          | refine GoR.nil ?_
          | refine Go.skip ?_
          | refine Go.ret ?_
          | refine Go.block ?_
          | refine Go.exit ?_
          | refine Go.blkX ?_
          | refine Go.blkN ?_
          | refine Go.passX ?_
          | refine Go.lpX ?_
          | (refine Go.blkE (by decide) ?_)
          | (refine Go.rgS dmx (by decide) ?_)
          | ((first | refine GoR.op (by decide) (by rfl) ?_ | refine GoR.opG (by decide) (by rfl) (by rfl) ?_)
             conv => arg 1; simp only [G, Z, Y, un_neg, Int.reduceEq, Int.reduceLE, cutD, Nat.reduceBEq, Nat.reduceAdd, Nat.reduceMul, Nat.reduceSub, Nat.reducePow, Nat.reduceLT, Nat.reduceGT, Nat.reduceLeDiff, Nat.reduceEqDiff, Int.reduceToNat, gt_iff_lt, if_true, if_false, beq_self_eq_true, reduceIte, decide_true, decide_false, fd2_0, fd2_1, fd2_2, fd2_3, fd2_4, fd2_5, fd2_6, fd2_7, fd2_8, fd2_9, fd3_0, fd3_1, fd3_2, fd3_3, fd3_4, fd3_5, fd3_6, fd3_7, fd3_8, fd3_9, fd4_0, fd4_1, fd4_2, fd4_3, fd4_4, fd9_0, fd9_1, fd9_2, fd9_3, fd9_4, fd9_5, fd9_6, fd9_7, fd22_0, fd22_1, fd22_2, fd22_3, fd22_4, fd22_5, fd22_6, fd22_7, fd22_8, fd22_9, fd22_10, fd22_11, fd22_12, fd22_13, fd22_14, fd22_15, fd22_16, fd22_17, fd22_18, fd22_19, fd22_20, fd22_21, fd22_22, fd22_23, fd24_0, fd24_1, fd24_2, fd24_3, fd24_4, fd24_5, fd24_6, fd24_7, fd24_8, fd24_9, fd24_10, fd24_11, fd25_0, fd25_1, fd25_2, fd25_3, fd25_4, fd25_5, fd25_6, fd25_7, fd25_8, fd25_9, fd25_10, fd25_11, fd25_12, fd25_13, fd25_14, fd25_15, fd25_16, fd25_17, fd25_18, fd25_19, fd25_20, fd25_21, fd25_22, fd25_23, fd26_0, fd26_1, fd26_2, fd26_3, fd26_4, fd26_5, fd26_6, fd26_7, fd26_8, fd26_9, fd34_0, fd34_1, fd34_2, fd34_3, fd34_4, fd34_5, fd34_6, fd34_7, fd34_8, fd34_9, fd34_10, fd34_11, fd34_12, fd34_13, fd34_14, fd34_15, fd34_16, fd34_17, fd34_18, fd34_19, fd34_20, fd34_21, fd34_22, fd34_23, fd36_0, fd36_1, fd36_2, fd36_3, fd36_4, fd36_5, fd36_6, fd36_7, fd36_8, fd36_9, fd36_10, fd36_11, fd36_12, fd36_13, fd36_14, fd36_15, fd36_16, fd36_17, fd36_18, fd36_19, fd36_20, fd36_21, fd36_22, fd36_23, fd37_0, fd37_1, fd37_2, fd37_3, fd37_4, fd37_5, fd37_6, fd37_7, fd37_8, fd37_9, fd39_0, fd39_1, fd39_2, fd39_3, fd39_4, fd39_5, fd39_6, fd39_7, fd39_8, fd39_9, fd39_10, fd39_11, fd41_0, fd41_1, fd41_2, fd41_3, fd41_4, fd41_5, fd41_6, fd41_7, show decide ((i : Int) < (N.length : Int)) = true by simp; omega, mod16, Int.natCast_nonneg, wrap_succ (show i < 4611686018427387904 by omega)]
             show GoR _ _ _ _ _ _ _ _ _ _)
          | refine Go.condT (by rfl) ?_
          | refine Go.condF (by rfl) ?_
          | refine GoR.skipG (by decide) rfl rfl ?_
          | (refine GoR.splitG rfl (fun hc => ?_) (fun hc => ?_) <;> simp only [hc])
          | refine Go.condB rfl (fun hc => ?_) (fun hc => ?_))
        · refine Go.lpN ?_
          refine Go.keep [(1, .sl none 1 x.length (intsD x)), (2, .int .u16 there), (3, .ptr S.length 0), (6, .bool false), (7, .sl none 1 N.length (strC N)), (8, o), (9, .bool false), (10, .int .i64 ((i + 1 : Nat) : Int))] (.cons .refl (.cons .refl (.cons .refl (.cons .refl (.cons .refl (.cons .refl (.cons .refl (.cons .refl (.nil))))))))) ?_
          exact next (i + 1, false, ps, o, E) (by dsimp only; omega) ⟨h1, hinv.skip hNr h1, hacc⟩
        · have hix : i < x.length := by simpa using hc
          obtain ⟨o', E2, hap, hacc2⟩ := happ x[i]
          repeat' (first
            | refine Go.seq ?_
            | refine Go.rg ?_
            | refine GoR.nil ?_
            | refine Go.skip ?_
            | refine Go.ret ?_
            | refine Go.block ?_
            | refine Go.exit ?_
            | refine Go.blkX ?_
            | refine Go.blkN ?_
            | refine Go.passX ?_
            | refine Go.lpX ?_
            | (refine Go.blkE (by decide) ?_)
            | (refine Go.rgS dmx (by decide) ?_)
            | ((first | refine GoR.op (by decide) (by rfl) ?_ | refine GoR.opG (by decide) (by rfl) (by rfl) ?_)
               conv => arg 1; simp only [G, Z, Y, un_neg, Int.reduceEq, Int.reduceLE, cutD, Nat.reduceBEq, Nat.reduceAdd, Nat.reduceMul, Nat.reduceSub, Nat.reducePow, Nat.reduceLT, Nat.reduceGT, Nat.reduceLeDiff, Nat.reduceEqDiff, Int.reduceToNat, gt_iff_lt, if_true, if_false, beq_self_eq_true, reduceIte, decide_true, decide_false, fd2_0, fd2_1, fd2_2, fd2_3, fd2_4, fd2_5, fd2_6, fd2_7, fd2_8, fd2_9, fd3_0, fd3_1, fd3_2, fd3_3, fd3_4, fd3_5, fd3_6, fd3_7, fd3_8, fd3_9, fd4_0, fd4_1, fd4_2, fd4_3, fd4_4, fd9_0, fd9_1, fd9_2, fd9_3, fd9_4, fd9_5, fd9_6, fd9_7, fd22_0, fd22_1, fd22_2, fd22_3, fd22_4, fd22_5, fd22_6, fd22_7, fd22_8, fd22_9, fd22_10, fd22_11, fd22_12, fd22_13, fd22_14, fd22_15, fd22_16, fd22_17, fd22_18, fd22_19, fd22_20, fd22_21, fd22_22, fd22_23, fd24_0, fd24_1, fd24_2, fd24_3, fd24_4, fd24_5, fd24_6, fd24_7, fd24_8, fd24_9, fd24_10, fd24_11, fd25_0, fd25_1, fd25_2, fd25_3, fd25_4, fd25_5, fd25_6, fd25_7, fd25_8, fd25_9, fd25_10, fd25_11, fd25_12, fd25_13, fd25_14, fd25_15, fd25_16, fd25_17, fd25_18, fd25_19, fd25_20, fd25_21, fd25_22, fd25_23, fd26_0, fd26_1, fd26_2, fd26_3, fd26_4, fd26_5, fd26_6, fd26_7, fd26_8, fd26_9, fd34_0, fd34_1, fd34_2, fd34_3, fd34_4, fd34_5, fd34_6, fd34_7, fd34_8, fd34_9, fd34_10, fd34_11, fd34_12, fd34_13, fd34_14, fd34_15, fd34_16, fd34_17, fd34_18, fd34_19, fd34_20, fd34_21, fd34_22, fd34_23, fd36_0, fd36_1, fd36_2, fd36_3, fd36_4, fd36_5, fd36_6, fd36_7, fd36_8, fd36_9, fd36_10, fd36_11, fd36_12, fd36_13, fd36_14, fd36_15, fd36_16, fd36_17, fd36_18, fd36_19, fd36_20, fd36_21, fd36_22, fd36_23, fd37_0, fd37_1, fd37_2, fd37_3, fd37_4, fd37_5, fd37_6, fd37_7, fd37_8, fd37_9, fd39_0, fd39_1, fd39_2, fd39_3, fd39_4, fd39_5, fd39_6, fd39_7, fd39_8, fd39_9, fd39_10, fd39_11, fd41_0, fd41_1, fd41_2, fd41_3, fd41_4, fd41_5, fd41_6, fd41_7, ho, intsAt hix, strAt h1, hap, builtin_append, wrap_succ (show i < 4611686018427387904 by omega)]
               show GoR _ _ _ _ _ _ _ _ _ _)
            | refine Go.condT (by rfl) ?_
            | refine Go.condF (by rfl) ?_
            | refine GoR.skipG (by decide) rfl rfl ?_
            | (refine GoR.splitG rfl (fun hc => ?_) (fun hc => ?_) <;> simp only [hc])
            | refine Go.condB rfl (fun hc => ?_) (fun hc => ?_))
          refine Go.lpN ?_
          refine Go.keep [(1, .sl none 1 x.length (intsD x)), (2, .int .u16 there), (3, .ptr S.length 0), (6, .bool false), (7, .sl none 1 N.length (strC N)), (8, o'), (9, .bool ok), (10, .int .i64 ((i + 1 : Nat) : Int))] (.cons .refl (.cons .refl (.cons .refl (.cons .refl (.cons .refl (.cons .refl (.cons .refl (.cons .refl (.nil))))))))) ?_
          exact next (i + 1, ok, ps ++ [(N[i], x[i])], o', E2) (by dsimp only; omega) ⟨h1, hinv.put hNr h1 (hx _ (List.getElem_mem _)), hacc2⟩
        · obtain ⟨o', E2, hap, hacc2⟩ := happ 0
          repeat' (first
            | refine Go.seq ?_
            | refine Go.rg ?_
            | refine GoR.nil ?_
            | refine Go.skip ?_
            | refine Go.ret ?_
            | refine Go.block ?_
            | refine Go.exit ?_
            | refine Go.blkX ?_
            | refine Go.blkN ?_
            | refine Go.passX ?_
            | refine Go.lpX ?_
            | (refine Go.blkE (by decide) ?_)
            | (refine Go.rgS dmx (by decide) ?_)
            | ((first | refine GoR.op (by decide) (by rfl) ?_ | refine GoR.opG (by decide) (by rfl) (by rfl) ?_)
               conv => arg 1; simp only [G, Z, Y, un_neg, Int.reduceEq, Int.reduceLE, cutD, Nat.reduceBEq, Nat.reduceAdd, Nat.reduceMul, Nat.reduceSub, Nat.reducePow, Nat.reduceLT, Nat.reduceGT, Nat.reduceLeDiff, Nat.reduceEqDiff, Int.reduceToNat, gt_iff_lt, if_true, if_false, beq_self_eq_true, reduceIte, decide_true, decide_false, fd2_0, fd2_1, fd2_2, fd2_3, fd2_4, fd2_5, fd2_6, fd2_7, fd2_8, fd2_9, fd3_0, fd3_1, fd3_2, fd3_3, fd3_4, fd3_5, fd3_6, fd3_7, fd3_8, fd3_9, fd4_0, fd4_1, fd4_2, fd4_3, fd4_4, fd9_0, fd9_1, fd9_2, fd9_3, fd9_4, fd9_5, fd9_6, fd9_7, fd22_0, fd22_1, fd22_2, fd22_3, fd22_4, fd22_5, fd22_6, fd22_7, fd22_8, fd22_9, fd22_10, fd22_11, fd22_12, fd22_13, fd22_14, fd22_15, fd22_16, fd22_17, fd22_18, fd22_19, fd22_20, fd22_21, fd22_22, fd22_23, fd24_0, fd24_1, fd24_2, fd24_3, fd24_4, fd24_5, fd24_6, fd24_7, fd24_8, fd24_9, fd24_10, fd24_11, fd25_0, fd25_1, fd25_2, fd25_3, fd25_4, fd25_5, fd25_6, fd25_7, fd25_8, fd25_9, fd25_10, fd25_11, fd25_12, fd25_13, fd25_14, fd25_15, fd25_16, fd25_17, fd25_18, fd25_19, fd25_20, fd25_21, fd25_22, fd25_23, fd26_0, fd26_1, fd26_2, fd26_3, fd26_4, fd26_5, fd26_6, fd26_7, fd26_8, fd26_9, fd34_0, fd34_1, fd34_2, fd34_3, fd34_4, fd34_5, fd34_6, fd34_7, fd34_8, fd34_9, fd34_10, fd34_11, fd34_12, fd34_13, fd34_14, fd34_15, fd34_16, fd34_17, fd34_18, fd34_19, fd34_20, fd34_21, fd34_22, fd34_23, fd36_0, fd36_1, fd36_2, fd36_3, fd36_4, fd36_5, fd36_6, fd36_7, fd36_8, fd36_9, fd36_10, fd36_11, fd36_12, fd36_13, fd36_14, fd36_15, fd36_16, fd36_17, fd36_18, fd36_19, fd36_20, fd36_21, fd36_22, fd36_23, fd37_0, fd37_1, fd37_2, fd37_3, fd37_4, fd37_5, fd37_6, fd37_7, fd37_8, fd37_9, fd39_0, fd39_1, fd39_2, fd39_3, fd39_4, fd39_5, fd39_6, fd39_7, fd39_8, fd39_9, fd39_10, fd39_11, fd41_0, fd41_1, fd41_2, fd41_3, fd41_4, fd41_5, fd41_6, fd41_7, ho, strAt h1, hap, builtin_append, wrap_succ (show i < 4611686018427387904 by omega)]
               show GoR _ _ _ _ _ _ _ _ _ _)
            | refine Go.condT (by rfl) ?_
            | refine Go.condF (by rfl) ?_
            | refine GoR.skipG (by decide) rfl rfl ?_
            | (refine GoR.splitG rfl (fun hc => ?_) (fun hc => ?_) <;> simp only [hc])
            | refine Go.condB rfl (fun hc => ?_) (fun hc => ?_))
          refine Go.lpN ?_
          refine Go.keep [(1, .sl none 1 x.length (intsD x)), (2, .int .u16 there), (3, .ptr S.length 0), (6, .bool false), (7, .sl none 1 N.length (strC N)), (8, o'), (9, .bool ok), (10, .int .i64 ((i + 1 : Nat) : Int))] (.cons .refl (.cons .refl (.cons .refl (.cons .refl (.cons .refl (.cons .refl (.cons .refl (.cons .refl (.nil))))))))) ?_
          exact next (i + 1, ok, ps ++ [(N[i], 0)], o', E2) (by dsimp only; omega) ⟨h1, hinv.put hNr h1 ⟨by decide, by decide⟩, hacc2⟩
      · clear next
        have hi' : i = N.length := by omega
        subst hi'
        have ho := hacc.one
        have hev := heval (ps.map toAtt) (rise_att hinv.rise) (by simp; omega) (fun a ha => by obtain ⟨p, _, rfl⟩ := List.mem_map.1 ha; exact (by decide : (0 : Nat) < 1000000)) (fun a ha => by obtain ⟨p, hp, rfl⟩ := List.mem_map.1 ha; exact hinv.num p hp) hs
        rw [List.length_map] at hev
        have hq := hsome hf hd ok ps hinv
        repeat' (first
          | refine Go.seq ?_
          | refine Go.rg ?_
          | refine GoR.nil ?_
          | refine Go.skip ?_
          | refine Go.ret ?_
          | refine Go.block ?_
          | refine Go.exit ?_
          | refine Go.blkX ?_
          | refine Go.blkN ?_
          | refine Go.passX ?_
          | refine Go.lpX ?_
          | (refine Go.blkE (by decide) ?_)
          | (refine Go.rgS dmx (by decide) ?_)
          | ((first | refine GoR.op (by decide) (by rfl) ?_ | refine GoR.opG (by decide) (by rfl) (by rfl) ?_)
             conv => arg 1; simp only [G, Z, Y, un_neg, Int.reduceEq, Int.reduceLE, cutD, Nat.reduceBEq, Nat.reduceAdd, Nat.reduceMul, Nat.reduceSub, Nat.reducePow, Nat.reduceLT, Nat.reduceGT, Nat.reduceLeDiff, Nat.reduceEqDiff, Int.reduceToNat, gt_iff_lt, if_true, if_false, beq_self_eq_true, reduceIte, decide_true, decide_false, fd2_0, fd2_1, fd2_2, fd2_3, fd2_4, fd2_5, fd2_6, fd2_7, fd2_8, fd2_9, fd3_0, fd3_1, fd3_2, fd3_3, fd3_4, fd3_5, fd3_6, fd3_7, fd3_8, fd3_9, fd4_0, fd4_1, fd4_2, fd4_3, fd4_4, fd9_0, fd9_1, fd9_2, fd9_3, fd9_4, fd9_5, fd9_6, fd9_7, fd22_0, fd22_1, fd22_2, fd22_3, fd22_4, fd22_5, fd22_6, fd22_7, fd22_8, fd22_9, fd22_10, fd22_11, fd22_12, fd22_13, fd22_14, fd22_15, fd22_16, fd22_17, fd22_18, fd22_19, fd22_20, fd22_21, fd22_22, fd22_23, fd24_0, fd24_1, fd24_2, fd24_3, fd24_4, fd24_5, fd24_6, fd24_7, fd24_8, fd24_9, fd24_10, fd24_11, fd25_0, fd25_1, fd25_2, fd25_3, fd25_4, fd25_5, fd25_6, fd25_7, fd25_8, fd25_9, fd25_10, fd25_11, fd25_12, fd25_13, fd25_14, fd25_15, fd25_16, fd25_17, fd25_18, fd25_19, fd25_20, fd25_21, fd25_22, fd25_23, fd26_0, fd26_1, fd26_2, fd26_3, fd26_4, fd26_5, fd26_6, fd26_7, fd26_8, fd26_9, fd34_0, fd34_1, fd34_2, fd34_3, fd34_4, fd34_5, fd34_6, fd34_7, fd34_8, fd34_9, fd34_10, fd34_11, fd34_12, fd34_13, fd34_14, fd34_15, fd34_16, fd34_17, fd34_18, fd34_19, fd34_20, fd34_21, fd34_22, fd34_23, fd36_0, fd36_1, fd36_2, fd36_3, fd36_4, fd36_5, fd36_6, fd36_7, fd36_8, fd36_9, fd36_10, fd36_11, fd36_12, fd36_13, fd36_14, fd36_15, fd36_16, fd36_17, fd36_18, fd36_19, fd36_20, fd36_21, fd36_22, fd36_23, fd37_0, fd37_1, fd37_2, fd37_3, fd37_4, fd37_5, fd37_6, fd37_7, fd37_8, fd37_9, fd39_0, fd39_1, fd39_2, fd39_3, fd39_4, fd39_5, fd39_6, fd39_7, fd39_8, fd39_9, fd39_10, fd39_11, fd41_0, fd41_1, fd41_2, fd41_3, fd41_4, fd41_5, fd41_6, fd41_7, ho, show decide ((N.length : Int) < (N.length : Int)) = false by simp]
             show GoR _ _ _ _ _ _ _ _ _ _)
          | ((first | refine GoR.call (f := 10) (by decide) (by rfl) rfl Try.func10 (by decide) (by rfl) ?_ | refine GoR.callG (f := 10) (by decide) (by rfl) (by rfl) rfl Try.func10 (by decide) (by rfl) ?_)
             (refine CallD.weak (args' := [.agg [.str op, .str nm, .int .i64 n, .sl none 4 ks.length (ndsC ks)], .sl none 5 ps.length (attsC (ps.map toAtt))]) (.cons .refl (.cons (hacc.wf.trans (.sl' (at_wf ps))) .nil)) ((hev _).ret ?_)))
          | refine Go.condT (by rfl) ?_
          | refine Go.condF (by rfl) ?_
          | refine GoR.skipG (by decide) rfl rfl ?_
          | (refine GoR.splitG rfl (fun hc => ?_) (fun hc => ?_) <;> simp only [hc])
          | refine Go.condB rfl (fun hc => ?_) (fun hc => ?_))
        refine ⟨(by first | exact .inl rfl | exact .inr rfl), fin ?_⟩
        rw [resD_tmp (fn := Try.f3) rfl]
        simp only [optThen_some, resultD_tmp, resultD_cell, G, Z, Y, un_neg, Int.reduceEq, Int.reduceLE, cutD, Nat.reduceBEq, Nat.reduceAdd, Nat.reduceMul, Nat.reduceSub, Nat.reducePow, Nat.reduceLT, Nat.reduceGT, Nat.reduceLeDiff, Nat.reduceEqDiff, Int.reduceToNat, gt_iff_lt, if_true, if_false, beq_self_eq_true, reduceIte, decide_true, decide_false, fd2_0, fd2_1, fd2_2, fd2_3, fd2_4, fd2_5, fd2_6, fd2_7, fd2_8, fd2_9, fd3_0, fd3_1, fd3_2, fd3_3, fd3_4, fd3_5, fd3_6, fd3_7, fd3_8, fd3_9, fd4_0, fd4_1, fd4_2, fd4_3, fd4_4, fd9_0, fd9_1, fd9_2, fd9_3, fd9_4, fd9_5, fd9_6, fd9_7, fd22_0, fd22_1, fd22_2, fd22_3, fd22_4, fd22_5, fd22_6, fd22_7, fd22_8, fd22_9, fd22_10, fd22_11, fd22_12, fd22_13, fd22_14, fd22_15, fd22_16, fd22_17, fd22_18, fd22_19, fd22_20, fd22_21, fd22_22, fd22_23, fd24_0, fd24_1, fd24_2, fd24_3, fd24_4, fd24_5, fd24_6, fd24_7, fd24_8, fd24_9, fd24_10, fd24_11, fd25_0, fd25_1, fd25_2, fd25_3, fd25_4, fd25_5, fd25_6, fd25_7, fd25_8, fd25_9, fd25_10, fd25_11, fd25_12, fd25_13, fd25_14, fd25_15, fd25_16, fd25_17, fd25_18, fd25_19, fd25_20, fd25_21, fd25_22, fd25_23, fd26_0, fd26_1, fd26_2, fd26_3, fd26_4, fd26_5, fd26_6, fd26_7, fd26_8, fd26_9, fd34_0, fd34_1, fd34_2, fd34_3, fd34_4, fd34_5, fd34_6, fd34_7, fd34_8, fd34_9, fd34_10, fd34_11, fd34_12, fd34_13, fd34_14, fd34_15, fd34_16, fd34_17, fd34_18, fd34_19, fd34_20, fd34_21, fd34_22, fd34_23, fd36_0, fd36_1, fd36_2, fd36_3, fd36_4, fd36_5, fd36_6, fd36_7, fd36_8, fd36_9, fd36_10, fd36_11, fd36_12, fd36_13, fd36_14, fd36_15, fd36_16, fd36_17, fd36_18, fd36_19, fd36_20, fd36_21, fd36_22, fd36_23, fd37_0, fd37_1, fd37_2, fd37_3, fd37_4, fd37_5, fd37_6, fd37_7, fd37_8, fd37_9, fd39_0, fd39_1, fd39_2, fd39_3, fd39_4, fd39_5, fd39_6, fd39_7, fd39_8, fd39_9, fd39_10, fd39_11, fd41_0, fd41_1, fd41_2, fd41_3, fd41_4, fd41_5, fd41_6, fd41_7]
        refine ⟨_, _, rfl, .bool, ?_⟩
        rw [hq]
        simp
end Go.Proofs.DaT
