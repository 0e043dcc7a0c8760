/- The document's reader: what looks at a word, what counts a node, what notes an error; products and sums. -/
import Derived.Test.YtpdnaoahghfaoaaGreatDoorDeP5
set_option linter.unusedSimpArgs false
set_option linter.unusedVariables false
namespace Go.Proofs.DeT
open Go Go.DM
set_option maxRecDepth 100000

/-- The reader, in cells. -/
def rC (l : List Tok) (a c b w : Int) : List D := [.sl none 4 l.length (toksC l), .int .i64 a, .int .i64 c, .int .i64 b, .int .i64 w]
theorem rC_low {m : Nat} {l : List Tok} {a c b w : Int} : LowL m (rC l a c b w) := .cons (.sl' (toks_low l)) (.cons (.int _ _) (.cons (.int _ _) (.cons (.int _ _) (.cons (.int _ _) .nil))))
theorem rC_at {l : List Tok} {a c b w : Int} : (rC l a c b w)[0]? = some (.sl none 4 l.length (toksC l)) ∧ (rC l a c b w)[1]? = some (.int .i64 a) ∧ (rC l a c b w)[2]? = some (.int .i64 c) ∧ (rC l a c b w)[3]? = some (.int .i64 b) ∧ (rC l a c b w)[4]? = some (.int .i64 w) ∧ (rC l a c b w).length = 5 := ⟨rfl, rfl, rfl, rfl, rfl, rfl⟩
theorem rC_wr {l : List Tok} {a c b w x : Int} : (rC l a c b w).set 1 (.int .i64 x) = rC l x c b w ∧ (rC l a c b w).set 2 (.int .i64 x) = rC l a x b w ∧ (rC l a c b w).set 3 (.int .i64 x) = rC l a c x w ∧ (rC l a c b w).set 4 (.int .i64 x) = rC l a c b x ∧
    wr (rC l a c b w) 1 [.int .i64 x] = rC l x c b w ∧ wr (rC l a c b w) 2 [.int .i64 x] = rC l a x b w ∧ wr (rC l a c b w) 3 [.int .i64 x] = rC l a c x w ∧ wr (rC l a c b w) 4 [.int .i64 x] = rC l a c b x := ⟨rfl, rfl, rfl, rfl, rfl, rfl, rfl, rfl⟩

theorem rFail {M : List D → Mem} {o n0 : Nat} (hF : Fam M o n0) (l : List Tok) (a c w e : Int) :
    CallD Tryz.prog O 162 [.ptr o 0, .int .i64 e] (M (rC l a c 0 w)) fun d S' => S' = M (rC l a c e a) ∧ d = .tup [] := by
  obtain ⟨m1, m2, m3, m4, m5, m6, m7, m8, m9, m10, m11⟩ := hF.facts
  refine CallD.updE hF ?_
  refine CallD.eb Tryz.func162 rfl Tryz.ntmps162 (by rfl) ?_
  repeat' (first|refine Go.a rfl ?_|refine Go.rg ?_|refine GoR.nil ?_|refine Go.ret ?_|refine Go.b rfl ?_|(refine GoR.o (by rfl) (by rfl) ?_;(conv => arg 1;simp only [G,Z,Y,Gx,un_neg,cutD,decide_true,decide_false,simprocAttr,fb3,fb86,fb151,m1, m2, m3, m4, m5, m6, m7, m8, m9, m10, m11, rC_at, rC_wr]);show GoR ..)|refine Go.condB rfl (fun hc => ?_) (fun hc => ?_))
  refine ⟨(by first | exact .inl rfl | exact .inr rfl), fin ?_⟩
  rw [resD_none (fn := Tryz.f162) rfl]
  simp only [optThen_some,resultD_tmp,resultD_cell,G,Z,Y,Gx,un_neg,cutD,decide_true,decide_false,simprocAttr,fb3,fb86,fb151,m1, m2, m3, m4, m5, m6, m7, m8, m9, m10, m11]
  exact ⟨[], (List.append_nil _).symm, rC_low, .refl, .tup' .nil⟩
theorem rFailE {M : List D → Mem} {o n0 : Nat} (hF : Fam M o n0) (E : Mem) (l : List Tok) (a c w e : Int) :
    CallD Tryz.prog O 162 [.ptr o 0, .int .i64 e] (M (rC l a c 0 w) ++ E) fun d S' => S' = M (rC l a c e a) ++ E ∧ d = .tup [] := rFail (hF.app E) l a c w e
theorem rIs {M : List D → Mem} {o n0 : Nat} (hF : Fam M o n0) (l : List Tok) (i : Nat) (c b w : Int) (s : ByteArray) :
    CallD Tryz.prog O 135 [.ptr o 0, .str s] (M (rC l (i : Int) c b w)) fun d S' => S' = M (rC l (i : Int) c b w) ∧ d = .bool (isT l i [s]) := by
  obtain ⟨m1, m2, m3, m4, m5, m6, m7, m8, m9, m10, m11⟩ := hF.facts
  refine CallD.updE hF ?_
  refine CallD.eb Tryz.func135 rfl Tryz.ntmps135 (by rfl) ?_
  by_cases hi : i < l.length
  · rw [isT_one hi]
    by_cases hk : l[i].k = 3
    · rw [decide_eq_true hk, Bool.true_and]
      repeat' (first|refine Go.a rfl ?_|refine Go.rg ?_|refine GoR.nil ?_|refine Go.ret ?_|refine Go.b rfl ?_|refine Go.rgS dmx (by decide) ?_|(refine GoR.o (by rfl) (by rfl) ?_;(conv => arg 1;simp only [G,Z,Y,Gx,un_neg,cutD,decide_true,decide_false,simprocAttr,fb2,fb3,fb9,fb86,fb138,fb151,m1, m2, m3, m4, m5, m6, m7, m8, m9, m10, m11, rC_at, toksAt hi, Tok.c, hk, show decide ((i : Int) < (l.length : Int)) = true by simp; omega]);show GoR ..)|refine GoR.s (by rfl) rfl rfl ?_|(refine GoR.splitG rfl (fun hc => ?_) (fun hc => ?_) <;> simp only [hc])|refine Go.condB rfl (fun hc => ?_) (fun hc => ?_))
      refine ⟨(by first | exact .inl rfl | exact .inr rfl), fin ?_⟩
      rw [resD_tmp (fn := Tryz.f135) rfl]
      simp only [optThen_some,resultD_tmp,resultD_cell,G,Z,Y,Gx,un_neg,cutD,decide_true,decide_false,simprocAttr,fb2,fb3,fb9,fb86,fb138,fb151,m1, m2, m3, m4, m5, m6, m7, m8, m9, m10, m11]
      refine ⟨[], by simp, rC_low, ?_, .bool _⟩
      first | exact .refl | (simp; exact .refl)
    · rw [decide_eq_false hk, Bool.false_and]
      repeat' (first|refine Go.a rfl ?_|refine Go.rg ?_|refine GoR.nil ?_|refine Go.ret ?_|refine Go.b rfl ?_|refine Go.rgS dmx (by decide) ?_|(refine GoR.o (by rfl) (by rfl) ?_;(conv => arg 1;simp only [G,Z,Y,Gx,un_neg,cutD,decide_true,decide_false,simprocAttr,fb2,fb3,fb9,fb86,fb138,fb151,m1, m2, m3, m4, m5, m6, m7, m8, m9, m10, m11, rC_at, toksAt hi, Tok.c, show (l[i].k == 3) = false by simpa using hk, show decide ((i : Int) < (l.length : Int)) = true by simp; omega]);show GoR ..)|refine GoR.s (by rfl) rfl rfl ?_|(refine GoR.splitG rfl (fun hc => ?_) (fun hc => ?_) <;> simp only [hc])|refine Go.condB rfl (fun hc => ?_) (fun hc => ?_))
      refine ⟨(by first | exact .inl rfl | exact .inr rfl), fin ?_⟩
      rw [resD_tmp (fn := Tryz.f135) rfl]
      simp only [optThen_some,resultD_tmp,resultD_cell,G,Z,Y,Gx,un_neg,cutD,decide_true,decide_false,simprocAttr,fb2,fb3,fb9,fb86,fb138,fb151,m1, m2, m3, m4, m5, m6, m7, m8, m9, m10, m11]
      exact ⟨[], by simp, rC_low, .refl, .bool _⟩
  · rw [isT_no (by omega)]
    repeat' (first|refine Go.a rfl ?_|refine Go.rg ?_|refine GoR.nil ?_|refine Go.ret ?_|refine Go.b rfl ?_|refine Go.rgS dmx (by decide) ?_|(refine GoR.o (by rfl) (by rfl) ?_;(conv => arg 1;simp only [G,Z,Y,Gx,un_neg,cutD,decide_true,decide_false,simprocAttr,fb2,fb3,fb9,fb86,fb138,fb151,m1, m2, m3, m4, m5, m6, m7, m8, m9, m10, m11, rC_at, show decide ((i : Int) < (l.length : Int)) = false by simp; omega]);show GoR ..)|refine GoR.s (by rfl) rfl rfl ?_|(refine GoR.splitG rfl (fun hc => ?_) (fun hc => ?_) <;> simp only [hc])|refine Go.condB rfl (fun hc => ?_) (fun hc => ?_))
    refine ⟨(by first | exact .inl rfl | exact .inr rfl), fin ?_⟩
    rw [resD_tmp (fn := Tryz.f135) rfl]
    simp only [optThen_some,resultD_tmp,resultD_cell,G,Z,Y,Gx,un_neg,cutD,decide_true,decide_false,simprocAttr,fb2,fb3,fb9,fb86,fb138,fb151,m1, m2, m3, m4, m5, m6, m7, m8, m9, m10, m11]
    exact ⟨[], by simp, rC_low, .refl, .bool _⟩
theorem rIsE {M : List D → Mem} {o n0 : Nat} (hF : Fam M o n0) (E : Mem) (l : List Tok) (i : Nat) (c b w : Int) (s : ByteArray) :
    CallD Tryz.prog O 135 [.ptr o 0, .str s] (M (rC l (i : Int) c b w) ++ E) fun d S' => S' = M (rC l (i : Int) c b w) ++ E ∧ d = .bool (isT l i [s]) := rIs (hF.app E) l i c b w s
def tickC (l : List Tok) (i n : Nat) (w : Int) : List D := if 32 < n + 1 then rC l ((i + 1 : Nat) : Int) ((n + 1 : Nat) : Int) 4 (i : Int) else rC l ((i + 1 : Nat) : Int) ((n + 1 : Nat) : Int) 0 w
theorem rTick {M : List D → Mem} {o n0 : Nat} (hF : Fam M o n0) (l : List Tok) (i n : Nat) (w : Int) (hi : i < 1000000) (hn : n ≤ 100) :
    CallD Tryz.prog O 136 [.ptr o 0] (M (rC l (i : Int) (n : Int) 0 w)) fun d S' => S' = M (tickC l i n w) ∧ d = .tup [] := by
  obtain ⟨m1, m2, m3, m4, m5, m6, m7, m8, m9, m10, m11⟩ := hF.facts
  refine CallD.updE hF ?_
  unfold tickC
  refine CallD.eb Tryz.func136 rfl Tryz.ntmps136 (by rfl) ?_
  have hf := fun E => rFailE hF E l (i : Int) ((n + 1 : Nat) : Int) w 4
  have hf0 := rFail hF l (i : Int) ((n + 1 : Nat) : Int) w 4
  by_cases hb : 32 < n + 1
  · rw [if_pos hb]
    repeat' (first|refine Go.a rfl ?_|refine Go.rg ?_|refine GoR.nil ?_|refine Go.ret ?_|refine Go.b rfl ?_|(refine GoR.o (by rfl) (by rfl) ?_;(conv => arg 1;simp only [G,Z,Y,Gx,un_neg,cutD,decide_true,decide_false,simprocAttr,fb3,fb86,fb151,m1, m2, m3, m4, m5, m6, m7, m8, m9, m10, m11, rC_at, rC_wr, wrap_succ (show n < 4611686018427387904 by omega), wrap_succ (show i < 4611686018427387904 by omega), show decide (((n + 1 : Nat) : Int) > 32) = true by simp; omega, show decide ((32 : Int) < ((n + 1 : Nat) : Int)) = true by simp; omega]);show GoR ..)|(refine GoR.c c162 (by rfl) (by rfl) rfl ?_;(first | refine CallD.ret2 hf0 ?_ | refine CallD.ret2 (hf _) ?_))|refine Go.condB rfl (fun hc => ?_) (fun hc => ?_))
    refine ⟨(by first | exact .inl rfl | exact .inr rfl), fin ?_⟩
    rw [resD_none (fn := Tryz.f136) rfl]
    simp only [optThen_some,resultD_tmp,resultD_cell,G,Z,Y,Gx,un_neg,cutD,decide_true,decide_false,simprocAttr,fb3,fb86,fb151,m1, m2, m3, m4, m5, m6, m7, m8, m9, m10, m11]
    exact ⟨[], (List.append_nil _).symm, rC_low, .refl, .tup' .nil⟩
  · rw [if_neg hb]
    repeat' (first|refine Go.a rfl ?_|refine Go.rg ?_|refine GoR.nil ?_|refine Go.ret ?_|refine Go.b rfl ?_|(refine GoR.o (by rfl) (by rfl) ?_;(conv => arg 1;simp only [G,Z,Y,Gx,un_neg,cutD,decide_true,decide_false,simprocAttr,fb3,fb86,fb151,m1, m2, m3, m4, m5, m6, m7, m8, m9, m10, m11, rC_at, rC_wr, wrap_succ (show n < 4611686018427387904 by omega), wrap_succ (show i < 4611686018427387904 by omega), show decide (((n + 1 : Nat) : Int) > 32) = false by simp; omega, show decide ((32 : Int) < ((n + 1 : Nat) : Int)) = false by simp; omega]);show GoR ..)|refine Go.condB rfl (fun hc => ?_) (fun hc => ?_))
    refine ⟨(by first | exact .inl rfl | exact .inr rfl), fin ?_⟩
    rw [resD_none (fn := Tryz.f136) rfl]
    simp only [optThen_some,resultD_tmp,resultD_cell,G,Z,Y,Gx,un_neg,cutD,decide_true,decide_false,simprocAttr,fb3,fb86,fb151,m1, m2, m3, m4, m5, m6, m7, m8, m9, m10, m11]
    exact ⟨[], (List.append_nil _).symm, rC_low, .refl, .tup' .nil⟩
theorem rTickE {M : List D → Mem} {o n0 : Nat} (hF : Fam M o n0) (E : Mem) (l : List Tok) (i n : Nat) (w : Int) (hi : i < 1000000) (hn : n ≤ 100) :
    CallD Tryz.prog O 136 [.ptr o 0] (M (rC l (i : Int) (n : Int) 0 w) ++ E) fun d S' => S' = M (tickC l i n w) ++ E ∧ d = .tup [] := rTick (hF.app E) l i n w hi hn
end Go.Proofs.DeT
