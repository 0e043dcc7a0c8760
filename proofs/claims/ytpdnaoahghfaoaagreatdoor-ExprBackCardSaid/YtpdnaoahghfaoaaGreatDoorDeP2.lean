/- The program's parser: what looks at a word, what counts a node, what notes an error. -/
import Derived.Test.YtpdnaoahghfaoaaGreatDoorDeP1
set_option linter.unusedSimpArgs false
set_option linter.unusedVariables false
namespace Go.Proofs.DeT
open Go Go.DM
set_option maxRecDepth 100000

/-- Memories that differ in one object. -/
structure Fam (M : List D → Mem) (o n : Nat) : Prop where
  lt : o < n
  len : ∀ c, (M c).length = n
  get : ∀ c, objAt (M c) o = some c
  set : ∀ c c', (M c).set o (.obj c') = M c'
theorem Fam.app {M : List D → Mem} {o n : Nat} (h : Fam M o n) (E : Mem) : Fam (fun c => M c ++ E) o (n + E.length) :=
  ⟨by have := h.lt; omega, fun c => by simp [h.len], fun c => objAt_old (h.get c), fun c c' => by
    show (M c ++ E).set o _ = _
    rw [List.set_append_left _ _ (by rw [h.len]; exact h.lt), h.set]⟩
/-- What a walk wants of such memories. -/
theorem Fam.facts {M : List D → Mem} {o n : Nat} (h : Fam M o n) :
    (∀ c, (M c).length = n) ∧ (∀ c, objAt (M c) o = some c) ∧ (∀ c c', (M c).set o (.obj c') = M c') ∧ (∀ c E, objAt (M c ++ E) o = some c) ∧ (∀ c c' E, (M c ++ E).set o (.obj c') = M c' ++ E) ∧
    (∀ c E k, objAt (M c ++ E) (n + k) = objAt E k) ∧ (∀ c E, objAt (M c ++ E) n = objAt E 0) ∧ (∀ c E k x, (M c ++ E).set (n + k) x = M c ++ E.set k x) ∧ (∀ c E x, (M c ++ E).set n x = M c ++ E.set 0 x) ∧
    (∀ c (E : Mem) k, (M c ++ E)[n + k]? = E[k]?) ∧ (∀ c (E : Mem), (M c ++ E)[n]? = E[0]?) := by
  refine ⟨h.len, h.get, h.set, fun c E => objAt_old (h.get c), fun c c' E => ?_, fun c E k => ?_, fun c E => ?_, fun c E k x => ?_, fun c E x => ?_, fun c E k => ?_, fun c E => ?_⟩
  · rw [List.set_append_left _ _ (by rw [h.len]; exact h.lt), h.set]
  · rw [← h.len c]; exact objAt_app
  · rw [← h.len c]; exact objAt_app0
  · rw [← h.len c]; exact set_app
  · rw [← h.len c]; exact set_app0
  · rw [← h.len c]; exact own_app
  · rw [← h.len c]; exact own_app0

theorem WzL_low {S1 : Mem} {F : List Nat} {n m : Nat} {xs : List D} (hm : m ≤ n) (h : LowL m xs) : WzL S1 F id n xs xs :=
  ⟨rfl, fun j h1 _ => .of_low (fun _ _ => rfl) hm (h.get j h1)⟩
theorem Wf.to_Wz {S1 : Mem} {F : List Nat} {n : Nat} {d d' : D} (h : Wf d d') (hl : DLow n d') : Wz S1 F id n d d' := fun r v hS hr =>
  Wz.of_low (fun _ _ => rfl) (Nat.le_refl n) hl r v hS (h r v hr)
/-- A call that changes one object, and keeps nothing new. -/
theorem CallD.upd {P : Program} {orc : DOracle} {M : List D → Mem} {o n : Nat} (hF : Fam M o n) {f : FuncId} {args : List D} {c : List D} {R : List D → D → Prop}
    (h : CallD P orc f args (M c) fun d S1 => ∃ d' E c', S1 = M c' ++ E ∧ LowL n c' ∧ Wf d d' ∧ DLow n d' ∧ R c' d') : CallD P orc f args (M c) fun d S' => ∃ c', S' = M c' ∧ R c' d := by
  obtain ⟨d, S1, hb, d', E, c', rfl, hl, hw, hd, hr⟩ := h
  refine CallD.keep ⟨d, _, hb, [], id, M c', d', ?_, fun _ _ => rfl, fun i j _ _ e => e, fun o ho => by (cases ho), fun i _ hi => by (cases hi), fun i cells hi => ?_, fun i hi => ?_, Wf.to_Wz hw (by rw [hF.len]; exact hd), c', rfl, hr⟩
  · rw [hF.len, hF.len]; exact Nat.le_refl _
  · by_cases e : i = o
    · subst e
      rw [hF.get] at hi
      cases hi
      exact .inr ⟨c', objAt_old (hF.get c'), WzL_low (m := n) (by rw [hF.len]; exact Nat.le_refl _) hl⟩
    · have hlt : i < (M c').length := objAt_lt hi
      have e2 : objAt (M c) i = some cells := by
        rw [← hF.set c c'] at hi
        unfold objAt at hi ⊢
        rwa [List.getElem?_set_ne (Ne.symm e)] at hi
      exact .inl ⟨by rw [hF.len]; rw [hF.len] at hlt; exact hlt, e2, objAt_old hi⟩
  · have hlt := (List.getElem?_eq_some_iff.1 hi).1
    show (M c' ++ E)[i]? = _
    rw [List.getElem?_append_left hlt]
    exact hi
theorem CallD.updE {P : Program} {orc : DOracle} {M : List D → Mem} {o n : Nat} (hF : Fam M o n) {f : FuncId} {args : List D} {c c2 : List D} {d2 : D}
    (h : CallD P orc f args (M c) fun d S1 => ∃ E, S1 = M c2 ++ E ∧ LowL n c2 ∧ Wf d d2 ∧ DLow n d2) : CallD P orc f args (M c) fun d S' => S' = M c2 ∧ d = d2 :=
  (CallD.upd (R := fun c' d => c' = c2 ∧ d = d2) hF (h.mono fun d S1 ⟨E, h1, h2, h3, h4⟩ => ⟨d2, E, c2, h1, h2, h3, h4, rfl, rfl⟩)).mono fun d S' ⟨c', h1, h2, h3⟩ => ⟨by rw [h1, h2], h3⟩

theorem CallD.ret2 {P : Program} {orc : DOracle} {f : FuncId} {args : List D} {S X : Mem} {Y : D} {Q : D → Mem → Prop} (h : CallD P orc f args S fun d S' => S' = X ∧ d = Y) (hq : Q Y X) : CallD P orc f args S Q := h.mono (by rintro d S' ⟨rfl, rfl⟩; exact hq)
/-- The parser, in cells. -/
def pC (l : List Tok) (st : St) : List D := [.sl none 4 l.length (toksC l), .int .i64 (st.i : Int), .int .i64 (st.n : Int), .int .i64 st.e]
theorem pC_low {m : Nat} (l : List Tok) (st : St) : LowL m (pC l st) := .cons (.sl' (toks_low l)) (.cons (.int _ _) (.cons (.int _ _) (.cons (.int _ _) .nil)))
theorem nil_wf : Wf (.agg [.str ⟨#[]⟩, .str ⟨#[]⟩, .int .i64 0, .nils]) (.agg nilN.c) := by
  rw [nilN, Nd.c_mk]
  exact .agg' (.cons .refl (.cons .refl (.cons .refl (.cons .nilE .nil))))
theorem nd_low {m : Nat} (n : Nd) : DLow m (.agg n.c) := .agg' (Nd.low n)

theorem pFail {M : List D → Mem} {o n0 : Nat} (hF : Fam M o n0) (l : List Tok) (st : St) (he : st.e = 0) (e : Int) :
    CallD Tryz.prog O 190 [.ptr o 0, .int .i64 e] (M (pC l st)) fun d S' => S' = M (pC l ⟨st.i, st.n, e⟩) ∧ d = .agg nilN.c := by
  obtain ⟨m1, m2, m3, m4, m5, m6, m7, m8, m9, m10, m11⟩ := hF.facts
  refine CallD.updE hF ?_
  obtain ⟨i, n, e0⟩ := st
  obtain rfl : e0 = 0 := he
  simp only [pC]
  refine CallD.eb Tryz.func190 rfl Tryz.ntmps190 (by rfl) ?_
  repeat' (first|refine Go.a rfl ?_|refine Go.rg ?_|refine GoR.nil ?_|refine Go.ret ?_|refine Go.b rfl ?_|(refine GoR.o (by rfl) (by rfl) ?_;(conv => arg 1;simp only [G,Z,Y,Gx,un_neg,cutD,decide_true,decide_false,simprocAttr,fb2,fb3,fb9,fb35,fb73,fb75,fb90,fb146,m1, m2, m3, m4, m5, m6, m7, m8, m9, m10, m11]);show GoR ..)|refine Go.condB rfl (fun hc => ?_) (fun hc => ?_))
  refine ⟨(by first | exact .inl rfl | exact .inr rfl), fin ?_⟩
  rw [resD_cell (fn := Tryz.f190) rfl]
  simp only [optThen_some,resultD_tmp,resultD_cell,G,Z,Y,Gx,un_neg,cutD,decide_true,decide_false,simprocAttr,fb2,fb3,fb9,fb35,fb73,fb75,fb90,fb146,m1, m2, m3, m4, m5, m6, m7, m8, m9, m10, m11]
  exact ⟨_, rfl, pC_low l ⟨i, n, e⟩, nil_wf, nd_low _⟩

theorem isT_at {l : List Tok} {i : Nat} (h : i < l.length) {sg : List ByteArray} : isT l i sg = (decide (l[i].k = 3) && Lib.containsS sg l[i].t) := by
  unfold isT
  rw [List.getElem?_eq_getElem h]
  dsimp only
  congr 1
  rw [Bool.eq_iff_iff, Lib.containsS_iff, List.any_eq_true]
  exact ⟨fun ⟨s, hs, e⟩ => by rw [of_decide_eq_true e]; exact hs, fun hm => ⟨_, hm, decide_eq_true rfl⟩⟩
theorem isT_no {l : List Tok} {i : Nat} (h : l.length ≤ i) {sg : List ByteArray} : isT l i sg = false := by
  unfold isT
  rw [List.getElem?_eq_none h]
theorem pIs {M : List D → Mem} {o n0 : Nat} (hF : Fam M o n0) (l : List Tok) (st : St) (own : Option Nat) (sg : List ByteArray) (hs : sg.length < 1000000) :
    CallD Tryz.prog O 158 [.ptr o 0, .sl own 1 sg.length (sg.map .str)] (M (pC l st)) fun d S' => S' = M (pC l st) ∧ d = .bool (isT l st.i sg) := by
  obtain ⟨m1, m2, m3, m4, m5, m6, m7, m8, m9, m10, m11⟩ := hF.facts
  refine CallD.updE hF ?_
  obtain ⟨i, n, e⟩ := st
  simp only [pC]
  refine CallD.eb Tryz.func158 rfl Tryz.ntmps158 (by rfl) ?_
  by_cases hi : i < l.length
  · rw [isT_at hi]
    by_cases hk : l[i].k = 3
    · rw [decide_eq_true hk, Bool.true_and]
      repeat' (first|refine Go.a rfl ?_|refine Go.rg ?_|refine GoR.nil ?_|refine Go.ret ?_|refine Go.b rfl ?_|refine Go.rgS dmx (by decide) ?_|(refine GoR.o (by rfl) (by rfl) ?_;(conv => arg 1;simp only [G,Z,Y,Gx,un_neg,cutD,decide_true,decide_false,simprocAttr,fb2,fb3,fb9,fb35,fb90,fb146,fb148,m1, m2, m4, toksAt hi, Tok.c, hk, show decide ((i : Int) < (l.length : Int)) = true by simp; omega]);show GoR ..)|(refine GoR.c c187 (by rfl) (by rfl) rfl ?_;(refine (containsL own sg _ hs _).ret ?_))|refine GoR.s (by rfl) rfl rfl ?_|(refine GoR.splitG rfl (fun hc => ?_) (fun hc => ?_) <;> simp only [hc])|refine Go.condB rfl (fun hc => ?_) (fun hc => ?_))
      refine ⟨(by first | exact .inl rfl | exact .inr rfl), fin ?_⟩
      rw [resD_tmp (fn := Tryz.f158) rfl]
      simp only [optThen_some,resultD_tmp,resultD_cell,G,Z,Y,Gx,un_neg,cutD,decide_true,decide_false,simprocAttr,fb2,fb3,fb9,fb35,fb90,fb146,fb148]
      exact ⟨[], by simp, pC_low l ⟨i, n, e⟩, .refl, .bool _⟩
    · rw [decide_eq_false hk, Bool.false_and]
      repeat' (first|refine Go.a rfl ?_|refine Go.rg ?_|refine GoR.nil ?_|refine Go.ret ?_|refine Go.b rfl ?_|refine Go.rgS dmx (by decide) ?_|(refine GoR.o (by rfl) (by rfl) ?_;(conv => arg 1;simp only [G,Z,Y,Gx,un_neg,cutD,decide_true,decide_false,simprocAttr,fb2,fb3,fb9,fb35,fb90,fb146,fb148,m1, m2, m4, toksAt hi, Tok.c, hk, show (l[i].k == 3) = false by simp [hk], show decide ((i : Int) < (l.length : Int)) = true by simp; omega]);show GoR ..)|(refine GoR.c c187 (by rfl) (by rfl) rfl ?_;(refine (containsL own sg _ hs _).ret ?_))|refine GoR.s (by rfl) rfl rfl ?_|(refine GoR.splitG rfl (fun hc => ?_) (fun hc => ?_) <;> simp only [hc])|refine Go.condB rfl (fun hc => ?_) (fun hc => ?_))
      refine ⟨(by first | exact .inl rfl | exact .inr rfl), fin ?_⟩
      rw [resD_tmp (fn := Tryz.f158) rfl]
      simp only [optThen_some,resultD_tmp,resultD_cell,G,Z,Y,Gx,un_neg,cutD,decide_true,decide_false,simprocAttr,fb2,fb3,fb9,fb35,fb90,fb146,fb148]
      exact ⟨[], by simp, pC_low l ⟨i, n, e⟩, .refl, .bool _⟩
  · rw [isT_no (by omega)]
    repeat' (first|refine Go.a rfl ?_|refine Go.rg ?_|refine GoR.nil ?_|refine Go.ret ?_|refine Go.b rfl ?_|refine Go.rgS dmx (by decide) ?_|(refine GoR.o (by rfl) (by rfl) ?_;(conv => arg 1;simp only [G,Z,Y,Gx,un_neg,cutD,decide_true,decide_false,simprocAttr,fb2,fb3,fb9,fb35,fb90,fb146,fb148,m1, m2, m4, show decide ((i : Int) < (l.length : Int)) = false by simp; omega]);show GoR ..)|(refine GoR.c c187 (by rfl) (by rfl) rfl ?_;(refine (containsL own sg _ hs _).ret ?_))|refine GoR.s (by rfl) rfl rfl ?_|(refine GoR.splitG rfl (fun hc => ?_) (fun hc => ?_) <;> simp only [hc])|refine Go.condB rfl (fun hc => ?_) (fun hc => ?_))
    refine ⟨(by first | exact .inl rfl | exact .inr rfl), fin ?_⟩
    rw [resD_tmp (fn := Tryz.f158) rfl]
    simp only [optThen_some,resultD_tmp,resultD_cell,G,Z,Y,Gx,un_neg,cutD,decide_true,decide_false,simprocAttr,fb2,fb3,fb9,fb35,fb90,fb146,fb148]
    exact ⟨[], by simp, pC_low l ⟨i, n, e⟩, .refl, .bool _⟩
def madeS (st : St) : St := if 32 < st.n + 1 then ⟨st.i, st.n + 1, 4⟩ else ⟨st.i + 1, st.n + 1, 0⟩
theorem pMade {M : List D → Mem} {o n0 : Nat} (hF : Fam M o n0) (l : List Tok) (st : St) (he : st.e = 0) (hi : st.i < 1000000) (hn : st.n ≤ 100) :
    CallD Tryz.prog O 159 [.ptr o 0] (M (pC l st)) fun d S' => S' = M (pC l (madeS st)) ∧ d = .bool (!decide (32 < st.n + 1)) := by
  obtain ⟨m1, m2, m3, m4, m5, m6, m7, m8, m9, m10, m11⟩ := hF.facts
  refine CallD.updE hF ?_
  obtain ⟨i, n, e0⟩ := st
  obtain rfl : e0 = 0 := he
  dsimp only at hi hn
  simp only [pC]
  refine CallD.eb Tryz.func159 rfl Tryz.ntmps159 (by rfl) ?_
  by_cases hb : 32 < n + 1
  · have hf := pFail hF l ⟨i, n + 1, 0⟩ rfl 4
    simp only [pC] at hf
    repeat' (first|refine Go.a rfl ?_|refine Go.rg ?_|refine GoR.nil ?_|refine Go.ret ?_|refine Go.b rfl ?_|(refine GoR.o (by rfl) (by rfl) ?_;(conv => arg 1;simp only [G,Z,Y,Gx,un_neg,cutD,decide_true,decide_false,simprocAttr,fb3,fb35,fb90,fb146,m1, m2, m3, m4, m5, wrap_succ (show n < 4611686018427387904 by omega), show decide (((n + 1 : Nat) : Int) > 32) = true by simp; omega, show decide ((32 : Int) < ((n + 1 : Nat) : Int)) = true by simp; omega]);show GoR ..)|(refine GoR.c c190 (by rfl) (by rfl) rfl ?_;(refine CallD.ret2 hf ?_))|refine Go.condB rfl (fun hc => ?_) (fun hc => ?_))
    refine ⟨(by first | exact .inl rfl | exact .inr rfl), fin ?_⟩
    rw [resD_tmp (fn := Tryz.f159) rfl]
    simp only [optThen_some,resultD_tmp,resultD_cell,G,Z,Y,Gx,un_neg,cutD,decide_true,decide_false,simprocAttr,fb3,fb35,fb90,fb146]
    have e : madeS ⟨i, n, 0⟩ = ⟨i, n + 1, 4⟩ := by unfold madeS; rw [if_pos hb]
    refine ⟨[], ?_, pC_low l _, ?_, .bool _⟩
    · rw [e, List.append_nil]
    · rw [decide_eq_true hb]; exact .refl
  · repeat' (first|refine Go.a rfl ?_|refine Go.rg ?_|refine GoR.nil ?_|refine Go.ret ?_|refine Go.b rfl ?_|(refine GoR.o (by rfl) (by rfl) ?_;(conv => arg 1;simp only [G,Z,Y,Gx,un_neg,cutD,decide_true,decide_false,simprocAttr,fb3,fb35,fb90,fb146,m1, m2, m3, m4, m5, wrap_succ (show n < 4611686018427387904 by omega), wrap_succ (show i < 4611686018427387904 by omega), show decide (((n + 1 : Nat) : Int) > 32) = false by simp; omega, show decide ((32 : Int) < ((n + 1 : Nat) : Int)) = false by simp; omega]);show GoR ..)|refine Go.condB rfl (fun hc => ?_) (fun hc => ?_))
    refine ⟨(by first | exact .inl rfl | exact .inr rfl), fin ?_⟩
    rw [resD_tmp (fn := Tryz.f159) rfl]
    simp only [optThen_some,resultD_tmp,resultD_cell,G,Z,Y,Gx,un_neg,cutD,decide_true,decide_false,simprocAttr,fb3,fb35,fb90,fb146]
    have e : madeS ⟨i, n, 0⟩ = ⟨i + 1, n + 1, 0⟩ := by unfold madeS; rw [if_neg hb]
    refine ⟨[], ?_, pC_low l _, ?_, .bool _⟩
    · rw [e, List.append_nil]
    · rw [decide_eq_false hb]; exact .refl
end Go.Proofs.DeT
