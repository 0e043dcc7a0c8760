/- Which of two values is less: the program's word, the document's. -/
import Derived.Test.YtpdnaoahghfaoaaGreatDoorDwS22
set_option linter.unusedSimpArgs false
set_option linter.unusedVariables false
namespace Go.Proofs.DwT
open Go Go.DM Go.Proofs.DeT
set_option maxRecDepth 100000
variable {orc : DOracle}

def cmpL : List Int → List Int → Int
  | [], [] => 0
  | [], _ :: _ => -1
  | _ :: _, [] => 1
  | a :: x, b :: y => if cmpI a b = 0 then cmpL x y else cmpI a b
def cmpV (a b : Val) : Int := if cmpI a.k b.k = 0 then (if a.k = 1 then cmpI a.i b.i else if a.k = 2 then cmpB a.s b.s else if a.k = 3 then cmpL a.l b.l else 0) else cmpI a.k b.k
theorem cmpI_zero {a b : Int} : cmpI a b = 0 ↔ a = b := by
  unfold cmpI
  split
  · constructor
    · intro h; cases h
    · omega
  · split
    · constructor
      · intro h; cases h
      · omega
    · constructor
      · omega
      · intro _; rfl
theorem cmpL_step {l m : List Int} {i : Nat} (h1 : i < l.length) (h2 : i < m.length) : cmpL (l.drop i) (m.drop i) = if cmpI l[i] m[i] = 0 then cmpL (l.drop (i + 1)) (m.drop (i + 1)) else cmpI l[i] m[i] := by
  rw [List.drop_eq_getElem_cons h1, List.drop_eq_getElem_cons h2, cmpL]
theorem cmpL_left {l m : List Int} {i : Nat} (h1 : l.length ≤ i) : cmpL (l.drop i) (m.drop i) = if i < m.length then -1 else 0 := by
  rw [List.drop_of_length_le h1]
  split
  · rename_i h; rw [List.drop_eq_getElem_cons h, cmpL]
  · rw [List.drop_of_length_le (by omega), cmpL]
theorem cmpL_right {l m : List Int} {i : Nat} (h1 : i < l.length) (h2 : m.length ≤ i) : cmpL (l.drop i) (m.drop i) = 1 := by
  rw [List.drop_of_length_le h2, List.drop_eq_getElem_cons h1, cmpL]
theorem isNaNN (a : Int) (S : Mem) : CallD Tryz.prog orc 152 [.int .i64 a] S fun d S' => S' = S ∧ d = .bool false := by
  refine CallD.e Tryz.func152 rfl Tryz.ntmps152 (by rfl) ?_
  repeat' (first|refine Go.a rfl ?_|refine Go.rg ?_|refine GoR.nil ?_|refine Go.ret ?_|refine Go.b rfl ?_|(refine GoR.o (by rfl) (by rfl) ?_;(conv => arg 1;simp only [G,Z,Y,Gx,un_neg,cutD,decide_true,decide_false,simprocAttr,fb3]);show GoR ..)|refine Go.condB rfl (fun hc => ?_) (fun hc => ?_))
  all_goals
    refine ⟨(by first | exact .inl rfl | exact .inr rfl), fin ?_⟩
    rw [resD_tmp (fn := Tryz.f152) rfl]
    simp only [optThen_some,resultD_tmp,resultD_cell,G,Z,Y,Gx,un_neg,cutD,decide_true,decide_false,simprocAttr,fb3]
    refine ⟨_, [], by simp, .bool, ?_⟩
    simp
theorem compareN (a b : Int) (S : Mem) : CallD Tryz.prog orc 127 [.int .i64 a, .int .i64 b] S fun d S' => S' = S ∧ d = .int .i64 (cmpI a b) := by
  refine CallD.e Tryz.func127 rfl Tryz.ntmps127 (by rfl) ?_
  repeat' (first|refine Go.a rfl ?_|refine Go.rg ?_|refine GoR.nil ?_|refine Go.ret ?_|refine Go.b rfl ?_|(refine GoR.o (by rfl) (by rfl) ?_;(conv => arg 1;simp only [G,Z,Y,Gx,un_neg,cutD,decide_true,decide_false,simprocAttr,fb3]);show GoR ..)|(refine GoR.c c152 (by rfl) (by rfl) rfl ?_;(refine (isNaNN _ _).ret ?_))|refine Go.condB rfl (fun hc => ?_) (fun hc => ?_))
  all_goals
    refine ⟨(by first | exact .inl rfl | exact .inr rfl), fin ?_⟩
    rw [resD_tmp (fn := Tryz.f127) rfl]
    simp only [optThen_some,resultD_tmp,resultD_cell,G,Z,Y,Gx,un_neg,cutD,decide_true,decide_false,simprocAttr,fb3]
    refine ⟨_, [], by simp, .int, ?_⟩
    unfold cmpI
    first
      | (simp_all; done)
      | (simp at *
         rw [if_neg (by omega), if_neg (by omega)])
theorem compareL (l m : List Int) (hl : l.length < 1000000) (S : Mem) : CallD Tryz.prog orc 128 [.sl none 1 l.length (intsD l), .sl none 1 m.length (intsD m)] S fun d S' => S' = S ∧ d = .int .i64 (cmpL l m) := by
  refine CallD.e Tryz.func128 rfl Tryz.ntmps128 (by rfl) ?_
  repeat' (first|refine Go.a rfl ?_|refine Go.rg ?_|refine GoR.nil ?_|refine Go.ret ?_|refine Go.b rfl ?_|(refine GoR.o (by rfl) (by rfl) ?_;(conv => arg 1;simp only [G,Z,Y,Gx,un_neg,cutD,decide_true,decide_false,simprocAttr,fb2,fb3,fb45]);show GoR ..)|refine Go.condB rfl (fun hc => ?_) (fun hc => ?_))
  refine Go.keep [(0, .sl none 1 l.length (intsD l)), (1, .sl none 1 m.length (intsD m)), (9, .sl none 1 l.length (intsD l)), (10, .int .i64 (l.length : Int)), (11, .int .i64 ((0 : Nat) : Int))] (.cons .refl (.cons .refl (.cons .refl (.cons .refl (.cons .refl (.nil)))))) ?_
  refine Go.while (α := Nat) (fun i => l.length - i) (fun i => [(0, .sl none 1 l.length (intsD l)), (1, .sl none 1 m.length (intsD m)), (9, .sl none 1 l.length (intsD l)), (10, .int .i64 (l.length : Int)), (11, .int .i64 (i : Int))]) (fun _ => S) (fun i => i ≤ l.length ∧ i ≤ m.length ∧ cmpL l m = cmpL (l.drop i) (m.drop i)) ?_ 0 ⟨Nat.zero_le _, Nat.zero_le _, rfl⟩
  rintro i ⟨hi, hj, hk⟩ next
  by_cases h1 : i < l.length
  · by_cases h2 : i < m.length
    · rw [cmpL_step h1 h2] at hk
      by_cases hz : cmpI l[i] m[i] = 0
      · rw [if_pos hz] at hk
        repeat' (first|refine Go.a rfl ?_|refine Go.rg ?_|refine GoR.nil ?_|refine Go.ret ?_|refine Go.b rfl ?_|(refine GoR.o (by rfl) (by rfl) ?_;(conv => arg 1;simp only [G,Z,Y,Gx,un_neg,cutD,decide_true,decide_false,simprocAttr,fb2,fb3,fb45,show (decide ((i : Int) < (l.length : Int))) = true by simp; omega, show (decide ((m.length : Int) ≤ (i : Int))) = false by simp; omega, intsAt h1, intsAt h2, hz, wrap_succ (show i < 4611686018427387904 by omega)]);show GoR ..)|(refine GoR.c c117 (by rfl) (by rfl) rfl ?_;(refine (compareI _ _ _).ret ?_))|refine Go.condB rfl (fun hc => ?_) (fun hc => ?_))
        refine Go.lpN ?_
        refine Go.keep [(0, .sl none 1 l.length (intsD l)), (1, .sl none 1 m.length (intsD m)), (9, .sl none 1 l.length (intsD l)), (10, .int .i64 (l.length : Int)), (11, .int .i64 ((i + 1 : Nat) : Int))] (.cons .refl (.cons .refl (.cons .refl (.cons .refl (.cons .refl (.nil)))))) ?_
        exact next (i + 1) (by omega) ⟨h1, h2, hk⟩
      · clear next
        rw [if_neg hz] at hk
        repeat' (first|refine Go.a rfl ?_|refine Go.rg ?_|refine GoR.nil ?_|refine Go.ret ?_|refine Go.b rfl ?_|(refine GoR.o (by rfl) (by rfl) ?_;(conv => arg 1;simp only [G,Z,Y,Gx,un_neg,cutD,decide_true,decide_false,simprocAttr,fb2,fb3,fb45,show (decide ((i : Int) < (l.length : Int))) = true by simp; omega, show (decide ((m.length : Int) ≤ (i : Int))) = false by simp; omega, intsAt h1, intsAt h2, show (cmpI l[i] m[i] != 0) = true by simpa using hz]);show GoR ..)|(refine GoR.c c117 (by rfl) (by rfl) rfl ?_;(refine (compareI _ _ _).ret ?_))|refine Go.condB rfl (fun hc => ?_) (fun hc => ?_))
        refine ⟨(by first | exact .inl rfl | exact .inr rfl), fin ?_⟩
        rw [resD_tmp (fn := Tryz.f128) rfl]
        simp only [optThen_some,resultD_tmp,resultD_cell,G,Z,Y,Gx,un_neg,cutD,decide_true,decide_false,simprocAttr,fb2,fb3,fb45]
        exact ⟨_, [], by simp, .int, by rw [hk]⟩
    · clear next
      repeat' (first|refine Go.a rfl ?_|refine Go.rg ?_|refine GoR.nil ?_|refine Go.ret ?_|refine Go.b rfl ?_|(refine GoR.o (by rfl) (by rfl) ?_;(conv => arg 1;simp only [G,Z,Y,Gx,un_neg,cutD,decide_true,decide_false,simprocAttr,fb2,fb3,fb45,show (decide ((i : Int) < (l.length : Int))) = true by simp; omega, show (decide ((m.length : Int) ≤ (i : Int))) = true by simp; omega, intsAt h1]);show GoR ..)|refine Go.condB rfl (fun hc => ?_) (fun hc => ?_))
      refine ⟨(by first | exact .inl rfl | exact .inr rfl), fin ?_⟩
      rw [resD_tmp (fn := Tryz.f128) rfl]
      simp only [optThen_some,resultD_tmp,resultD_cell,G,Z,Y,Gx,un_neg,cutD,decide_true,decide_false,simprocAttr,fb2,fb3,fb45]
      exact ⟨_, [], by simp, .int, by rw [hk, cmpL_right h1 (by omega)]⟩
  · clear next
    have e : i = l.length := by omega
    subst e
    rw [cmpL_left (Nat.le_refl _)] at hk
    by_cases h2 : l.length < m.length
    · repeat' (first|refine Go.a rfl ?_|refine Go.rg ?_|refine GoR.nil ?_|refine Go.ret ?_|refine Go.b rfl ?_|(refine GoR.o (by rfl) (by rfl) ?_;(conv => arg 1;simp only [G,Z,Y,Gx,un_neg,cutD,decide_true,decide_false,simprocAttr,fb2,fb3,fb45,show (decide ((l.length : Int) < (l.length : Int))) = false by simp, show (decide ((l.length : Int) < (m.length : Int))) = true by simp; omega]);show GoR ..)|refine Go.condB rfl (fun hc => ?_) (fun hc => ?_))
      refine ⟨(by first | exact .inl rfl | exact .inr rfl), fin ?_⟩
      rw [resD_tmp (fn := Tryz.f128) rfl]
      simp only [optThen_some,resultD_tmp,resultD_cell,G,Z,Y,Gx,un_neg,cutD,decide_true,decide_false,simprocAttr,fb2,fb3,fb45]
      exact ⟨_, [], by simp, .int, by rw [hk, if_pos h2]⟩
    · repeat' (first|refine Go.a rfl ?_|refine Go.rg ?_|refine GoR.nil ?_|refine Go.ret ?_|refine Go.b rfl ?_|(refine GoR.o (by rfl) (by rfl) ?_;(conv => arg 1;simp only [G,Z,Y,Gx,un_neg,cutD,decide_true,decide_false,simprocAttr,fb2,fb3,fb45,show (decide ((l.length : Int) < (l.length : Int))) = false by simp, show (decide ((l.length : Int) < (m.length : Int))) = false by simp; omega]);show GoR ..)|refine Go.condB rfl (fun hc => ?_) (fun hc => ?_))
      refine ⟨(by first | exact .inl rfl | exact .inr rfl), fin ?_⟩
      rw [resD_tmp (fn := Tryz.f128) rfl]
      simp only [optThen_some,resultD_tmp,resultD_cell,G,Z,Y,Gx,un_neg,cutD,decide_true,decide_false,simprocAttr,fb2,fb3,fb45]
      exact ⟨_, [], by simp, .int, by rw [hk, if_neg h2]⟩
theorem valCompare (a b : Val) (hl : a.l.length < 1000000) (S : Mem) : CallD Tryz.prog orc 82 [.agg a.c, .agg b.c] S fun d S' => S' = S ∧ d = .int .i64 (cmpV a b) := by
  obtain ⟨k, i, s, l⟩ := a
  obtain ⟨k', i', s', l'⟩ := b
  simp only [Val.c]
  by_cases hk : cmpI k k' = 0
  · have hv : cmpV ⟨k, i, s, l⟩ ⟨k', i', s', l'⟩ = (if k = 1 then cmpI i i' else if k = 2 then cmpB s s' else if k = 3 then cmpL l l' else 0) := by rw [cmpV, if_pos hk]
    refine CallD.e Tryz.func82 rfl Tryz.ntmps82 (by rfl) ?_
    repeat' (first|refine Go.a rfl ?_|refine Go.rg ?_|refine GoR.nil ?_|refine Go.ret ?_|refine Go.b rfl ?_|(refine GoR.o (by rfl) (by rfl) ?_;(conv => arg 1;simp only [G,Z,Y,Gx,un_neg,cutD,decide_true,decide_false,simprocAttr,fb2,fb3,fb9,fb45,fb47,hk]);show GoR ..)|(refine GoR.c c127 (by rfl) (by rfl) rfl ?_;(refine (compareN _ _ _).ret ?_))|(refine GoR.c c117 (by rfl) (by rfl) rfl ?_;(refine (compareI _ _ _).ret ?_))|(refine GoR.c c118 (by rfl) (by rfl) rfl ?_;(refine (compareS _ _ _).ret ?_))|(refine GoR.c c128 (by rfl) (by rfl) rfl ?_;(refine (compareL _ _ hl _).ret ?_))|refine Go.condB rfl (fun hc => ?_) (fun hc => ?_))
    all_goals
      refine ⟨(by first | exact .inl rfl | exact .inr rfl), fin ?_⟩
      rw [resD_tmp (fn := Tryz.f82) rfl]
      simp only [optThen_some,resultD_tmp,resultD_cell,G,Z,Y,Gx,un_neg,cutD,decide_true,decide_false,simprocAttr,fb2,fb3,fb9,fb45,fb47]
      refine ⟨_, _, rfl, .int, ?_⟩
      rw [hv]
      simp_all
  · refine CallD.e Tryz.func82 rfl Tryz.ntmps82 (by rfl) ?_
    repeat' (first|refine Go.a rfl ?_|refine Go.rg ?_|refine GoR.nil ?_|refine Go.ret ?_|refine Go.b rfl ?_|(refine GoR.o (by rfl) (by rfl) ?_;(conv => arg 1;simp only [G,Z,Y,Gx,un_neg,cutD,decide_true,decide_false,simprocAttr,fb2,fb3,fb9,fb45,fb47,show (cmpI k k' != 0) = true by simpa using hk]);show GoR ..)|(refine GoR.c c127 (by rfl) (by rfl) rfl ?_;(refine (compareN _ _ _).ret ?_))|refine Go.condB rfl (fun hc => ?_) (fun hc => ?_))
    refine ⟨(by first | exact .inl rfl | exact .inr rfl), fin ?_⟩
    rw [resD_tmp (fn := Tryz.f82) rfl]
    simp only [optThen_some,resultD_tmp,resultD_cell,G,Z,Y,Gx,un_neg,cutD,decide_true,decide_false,simprocAttr,fb2,fb3,fb9,fb45,fb47]
    exact ⟨_, _, rfl, .int, by rw [cmpV, if_neg hk]⟩
theorem valSame (a b : Val) (hl : a.l.length < 1000000) (S : Mem) : CallD Tryz.prog orc 36 [.agg a.c, .agg b.c] S fun d S' => S' = S ∧ d = .bool (cmpV a b == 0) := by
  have h := fun S => valCompare (orc := orc) a b hl S
  obtain ⟨k, i, s, l⟩ := a
  obtain ⟨k', i', s', l'⟩ := b
  simp only [Val.c] at *
  refine CallD.e Tryz.func36 rfl Tryz.ntmps36 (by rfl) ?_
  repeat' (first|refine Go.a rfl ?_|refine Go.rg ?_|refine GoR.nil ?_|refine Go.ret ?_|refine Go.b rfl ?_|(refine GoR.o (by rfl) (by rfl) ?_;(conv => arg 1;simp only [G,Z,Y,Gx,un_neg,cutD,decide_true,decide_false,simprocAttr,fb2,fb3,fb9,fb45,fb47]);show GoR ..)|(refine GoR.c c82 (by rfl) (by rfl) rfl ?_;(refine (h _).ret ?_))|refine Go.condB rfl (fun hc => ?_) (fun hc => ?_))
  refine ⟨(by first | exact .inl rfl | exact .inr rfl), fin ?_⟩
  rw [resD_tmp (fn := Tryz.f36) rfl]
  simp only [optThen_some,resultD_tmp,resultD_cell,G,Z,Y,Gx,un_neg,cutD,decide_true,decide_false,simprocAttr,fb2,fb3,fb9,fb45,fb47]
  exact ⟨_, _, rfl, .bool, rfl⟩
theorem refCompareValue (a b : Val) (hl : a.l.length < 1000000) (hm : b.l.length < 1000000) (S : Mem) : CallD Tryz.prog orc 32 [.agg a.c, .agg b.c] S fun d S' => S' = S ∧ d = .int .i64 (cmpV a b) := by
  obtain ⟨k, i, s, l⟩ := a
  obtain ⟨k', i', s', l'⟩ := b
  simp only at hl hm
  simp only [Val.c]
  by_cases hk : cmpI k k' = 0
  · have hv : cmpV ⟨k, i, s, l⟩ ⟨k', i', s', l'⟩ = (if k = 1 then cmpI i i' else if k = 2 then cmpB s s' else if k = 3 then cmpL l l' else 0) := by rw [cmpV, if_pos hk]
    have hkk := cmpI_zero.1 hk
    subst hkk
    rw [hv]
    refine CallD.e Tryz.func32 rfl Tryz.ntmps32 (by rfl) ?_
    by_cases k3 : k = 3
    · subst k3
      have f1 : ((3 : Int) == 1) = false := rfl
      have f2 : ((3 : Int) == 2) = false := rfl
      have f3 : ((3 : Int) == 3) = true := rfl
      have f4 : ((3 : Int) != 3) = false := rfl
      repeat' (first|refine Go.a rfl ?_|refine Go.rg ?_|refine GoR.nil ?_|refine Go.ret ?_|refine Go.b rfl ?_|refine Go.rgS dmx (by decide) ?_|(refine GoR.o (by rfl) (by rfl) ?_;(conv => arg 1;simp only [G,Z,Y,Gx,un_neg,cutD,decide_true,decide_false,simprocAttr,fb2,fb3,fb9,fb45,fb55,f1, f2, f3, f4]);show GoR ..)|refine GoR.s (by rfl) rfl rfl ?_|(refine GoR.splitG rfl (fun hc => ?_) (fun hc => ?_) <;> simp only [hc])|refine Go.condB rfl (fun hc => ?_) (fun hc => ?_))
      refine Go.keep [(2, .ptr S.length 0), (3, .ptr (S.length + 1) 0), (5, .int .i64 ((0 : Nat) : Int))] (.cons .refl (.cons .refl (.cons .refl (.nil)))) ?_
      refine Go.while (α := Nat) (fun i => l.length - i) (fun j => [(2, .ptr S.length 0), (3, .ptr (S.length + 1) 0), (5, .int .i64 (j : Int))]) (fun _ => S ++ [.obj [.int .i64 3, .int .i64 i, .str s, .sl none 1 l.length (intsD l)], .obj [.int .i64 3, .int .i64 i', .str s', .sl none 1 l'.length (intsD l')]]) (fun i => i ≤ l.length ∧ i ≤ l'.length ∧ cmpL l l' = cmpL (l.drop i) (l'.drop i)) ?_ 0 ⟨Nat.zero_le _, Nat.zero_le _, rfl⟩
      rintro j ⟨hj1, hj2, hq⟩ next
      have hmem : ∀ H, H = S ++ [Ob.obj [.int .i64 3, .int .i64 i, .str s, .sl none 1 l.length (intsD l)], .obj [.int .i64 3, .int .i64 i', .str s', .sl none 1 l'.length (intsD l')]] → objAt H S.length = some [.int .i64 3, .int .i64 i, .str s, .sl none 1 l.length (intsD l)] ∧ objAt H (S.length + 1) = some [.int .i64 3, .int .i64 i', .str s', .sl none 1 l'.length (intsD l')] := by
        rintro H rfl
        simp only [List.append_assoc, List.cons_append, List.nil_append, objAt_app, objAt_app0, objAt_succ, objAt_zero, and_self]
      by_cases h1 : j < l.length
      · by_cases h2 : j < l'.length
        · rw [cmpL_step h1 h2] at hq
          by_cases hz : cmpI l[j] l'[j] = 0
          · rw [if_pos hz] at hq
            have hzz := cmpI_zero.1 hz
            repeat' (first|refine Go.a rfl ?_|refine Go.rg ?_|refine GoR.nil ?_|refine Go.ret ?_|refine Go.b rfl ?_|refine Go.rgS dmx (by decide) ?_|(refine GoR.o (by rfl) (by rfl) ?_;(conv => arg 1;simp only [G,Z,Y,Gx,un_neg,cutD,decide_true,decide_false,simprocAttr,fb2,fb3,fb9,fb45,fb55,show (decide ((j : Int) < (l.length : Int))) = true by simp; omega, show (decide ((j : Int) < (l'.length : Int))) = true by simp; omega, intsAt h1, intsAt h2, show (l[j] != l'[j]) = false by simp [hzz], wrap_succ (show j < 4611686018427387904 by omega)]);show GoR ..)|refine GoR.s (by rfl) rfl rfl ?_|(refine GoR.splitG rfl (fun hc => ?_) (fun hc => ?_) <;> simp only [hc])|refine Go.condB rfl (fun hc => ?_) (fun hc => ?_))
            refine Go.lpN ?_
            refine Go.keep [(2, .ptr S.length 0), (3, .ptr (S.length + 1) 0), (5, .int .i64 ((j + 1 : Nat) : Int))] (.cons .refl (.cons .refl (.cons .refl (.nil)))) ?_
            exact next (j + 1) (by omega) ⟨h1, h2, hq⟩
          · clear next
            rw [if_neg hz] at hq
            have hzz : ¬ l[j] = l'[j] := fun h => hz (cmpI_zero.2 h)
            repeat' (first|refine Go.a rfl ?_|refine Go.rg ?_|refine GoR.nil ?_|refine Go.ret ?_|refine Go.b rfl ?_|refine Go.rgS dmx (by decide) ?_|(refine GoR.o (by rfl) (by rfl) ?_;(conv => arg 1;simp only [G,Z,Y,Gx,un_neg,cutD,decide_true,decide_false,simprocAttr,fb2,fb3,fb9,fb45,fb55,show (decide ((j : Int) < (l.length : Int))) = true by simp; omega, show (decide ((j : Int) < (l'.length : Int))) = true by simp; omega, intsAt h1, intsAt h2, show (l[j] != l'[j]) = true by simp [hzz]]);show GoR ..)|(refine GoR.c c80 (by rfl) (by rfl) rfl ?_;(refine (refOrder _ _ _).ret ?_))|refine GoR.s (by rfl) rfl rfl ?_|(refine GoR.splitG rfl (fun hc => ?_) (fun hc => ?_) <;> simp only [hc])|refine Go.condB rfl (fun hc => ?_) (fun hc => ?_))
            refine ⟨(by first | exact .inl rfl | exact .inr rfl), fin ?_⟩
            rw [resD_tmp (fn := Tryz.f32) rfl]
            simp only [optThen_some,resultD_tmp,resultD_cell,G,Z,Y,Gx,un_neg,cutD,decide_true,decide_false,simprocAttr,fb2,fb3,fb9,fb45,fb55]
            exact ⟨_, _, rfl, .int, by simp [hq]⟩
        · clear next
          have e : j = l'.length := by omega
          subst e
          rw [cmpL_right h1 (Nat.le_refl _)] at hq
          repeat' (first|refine Go.a rfl ?_|refine Go.rg ?_|refine GoR.nil ?_|refine Go.ret ?_|refine Go.b rfl ?_|refine Go.rgS dmx (by decide) ?_|(refine GoR.o (by rfl) (by rfl) ?_;(conv => arg 1;simp only [G,Z,Y,Gx,un_neg,cutD,decide_true,decide_false,simprocAttr,fb2,fb3,fb9,fb45,fb55,show (decide ((l'.length : Int) < (l.length : Int))) = true by simp; omega, show (decide ((l'.length : Int) < (l'.length : Int))) = false by simp, i64_cast (show l.length < 4611686018427387904 by omega), i64_cast (show l'.length < 4611686018427387904 by omega)]);show GoR ..)|(refine GoR.c c80 (by rfl) (by rfl) rfl ?_;(refine (refOrder _ _ _).ret ?_))|refine GoR.s (by rfl) rfl rfl ?_|(refine GoR.splitG rfl (fun hc => ?_) (fun hc => ?_) <;> simp only [hc])|refine Go.condB rfl (fun hc => ?_) (fun hc => ?_))
          refine ⟨(by first | exact .inl rfl | exact .inr rfl), fin ?_⟩
          rw [resD_tmp (fn := Tryz.f32) rfl]
          simp only [optThen_some,resultD_tmp,resultD_cell,G,Z,Y,Gx,un_neg,cutD,decide_true,decide_false,simprocAttr,fb2,fb3,fb9,fb45,fb55]
          refine ⟨_, _, rfl, .int, ?_⟩
          simp only [hq, cmpI]
          simp
          omega
      · clear next
        have e : j = l.length := by omega
        subst e
        rw [cmpL_left (Nat.le_refl _)] at hq
        repeat' (first|refine Go.a rfl ?_|refine Go.rg ?_|refine GoR.nil ?_|refine Go.ret ?_|refine Go.b rfl ?_|refine Go.rgS dmx (by decide) ?_|(refine GoR.o (by rfl) (by rfl) ?_;(conv => arg 1;simp only [G,Z,Y,Gx,un_neg,cutD,decide_true,decide_false,simprocAttr,fb2,fb3,fb9,fb45,fb55,show (decide ((l.length : Int) < (l.length : Int))) = false by simp, i64_cast (show l.length < 4611686018427387904 by omega), i64_cast (show l'.length < 4611686018427387904 by omega)]);show GoR ..)|(refine GoR.c c80 (by rfl) (by rfl) rfl ?_;(refine (refOrder _ _ _).ret ?_))|refine GoR.s (by rfl) rfl rfl ?_|(refine GoR.splitG rfl (fun hc => ?_) (fun hc => ?_) <;> simp only [hc])|refine Go.condB rfl (fun hc => ?_) (fun hc => ?_))
        refine ⟨(by first | exact .inl rfl | exact .inr rfl), fin ?_⟩
        rw [resD_tmp (fn := Tryz.f32) rfl]
        simp only [optThen_some,resultD_tmp,resultD_cell,G,Z,Y,Gx,un_neg,cutD,decide_true,decide_false,simprocAttr,fb2,fb3,fb9,fb45,fb55]
        refine ⟨_, _, rfl, .int, ?_⟩
        simp only [hq, cmpI]
        simp
        split <;> first | rfl | (rw [if_neg (by omega), if_neg (by omega)]) | omega
    · repeat' (first|refine Go.a rfl ?_|refine Go.rg ?_|refine GoR.nil ?_|refine Go.ret ?_|refine Go.b rfl ?_|refine Go.rgS dmx (by decide) ?_|(refine GoR.o (by rfl) (by rfl) ?_;(conv => arg 1;simp only [G,Z,Y,Gx,un_neg,cutD,decide_true,decide_false,simprocAttr,fb2,fb3,fb9,fb45,fb55,show (k != k) = false by simp, show (k == 3) = false by simpa using k3]);show GoR ..)|(refine GoR.c c80 (by rfl) (by rfl) rfl ?_;(refine (refOrder _ _ _).ret ?_))|(refine GoR.c c81 (by rfl) (by rfl) rfl ?_;(refine (refOrderText _ _ _).ret ?_))|refine GoR.s (by rfl) rfl rfl ?_|(refine GoR.splitG rfl (fun hc => ?_) (fun hc => ?_) <;> simp only [hc])|refine Go.condB rfl (fun hc => ?_) (fun hc => ?_))
      all_goals
        refine ⟨(by first | exact .inl rfl | exact .inr rfl), fin ?_⟩
        rw [resD_tmp (fn := Tryz.f32) rfl]
        simp only [optThen_some,resultD_tmp,resultD_cell,G,Z,Y,Gx,un_neg,cutD,decide_true,decide_false,simprocAttr,fb2,fb3,fb9,fb45,fb55]
        refine ⟨_, _, rfl, .int, ?_⟩
        simp_all
  · have hne : ¬ k = k' := fun h => hk (cmpI_zero.2 h)
    refine CallD.e Tryz.func32 rfl Tryz.ntmps32 (by rfl) ?_
    repeat' (first|refine Go.a rfl ?_|refine Go.rg ?_|refine GoR.nil ?_|refine Go.ret ?_|refine Go.b rfl ?_|refine Go.rgS dmx (by decide) ?_|(refine GoR.o (by rfl) (by rfl) ?_;(conv => arg 1;simp only [G,Z,Y,Gx,un_neg,cutD,decide_true,decide_false,simprocAttr,fb2,fb3,fb9,fb45,fb55,show (k != k') = true by simpa using hne]);show GoR ..)|(refine GoR.c c80 (by rfl) (by rfl) rfl ?_;(refine (refOrder _ _ _).ret ?_))|refine GoR.s (by rfl) rfl rfl ?_|(refine GoR.splitG rfl (fun hc => ?_) (fun hc => ?_) <;> simp only [hc])|refine Go.condB rfl (fun hc => ?_) (fun hc => ?_))
    refine ⟨(by first | exact .inl rfl | exact .inr rfl), fin ?_⟩
    rw [resD_tmp (fn := Tryz.f32) rfl]
    simp only [optThen_some,resultD_tmp,resultD_cell,G,Z,Y,Gx,un_neg,cutD,decide_true,decide_false,simprocAttr,fb2,fb3,fb9,fb45,fb55]
    exact ⟨_, _, rfl, .int, by rw [cmpV, if_neg hk]⟩
end Go.Proofs.DwT
