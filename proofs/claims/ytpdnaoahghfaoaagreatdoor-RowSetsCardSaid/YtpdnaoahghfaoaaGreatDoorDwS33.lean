/- Whether attributes, rows are the same: the program's word, the document's. -/
import Derived.Test.YtpdnaoahghfaoaaGreatDoorDwS32
set_option linter.unusedSimpArgs false
set_option linter.unusedVariables false
namespace Go.Proofs.DwT
open Go Go.DM Go.Proofs.DeT
set_option maxRecDepth 100000
variable {orc : DOracle}

def sameA (a b : Att) : Bool := decide (a.n = b.n) && (cmpV a.v b.v == 0)
def sameL : List Att → List Att → Bool
  | [], [] => true
  | a :: l, b :: m => sameA a b && sameL l m
  | _, _ => false
theorem sameL_len : ∀ {l m : List Att}, ¬ l.length = m.length → sameL l m = false
  | [], [], h => absurd rfl h
  | [], _ :: _, _ => rfl
  | _ :: _, [], _ => rfl
  | a :: l, b :: m, h => by
    have := sameL_len (l := l) (m := m) (by simpa using h)
    rw [sameL, this, Bool.and_false]
theorem sameL_step {l m : List Att} {i : Nat} (h1 : i < l.length) (h2 : i < m.length) : sameL (l.drop i) (m.drop i) = (sameA l[i] m[i] && sameL (l.drop (i + 1)) (m.drop (i + 1))) := by
  rw [List.drop_eq_getElem_cons h1, List.drop_eq_getElem_cons h2, sameL]
theorem sameL_end {l m : List Att} (h : l.length = m.length) : sameL (l.drop l.length) (m.drop l.length) = true := by
  rw [List.drop_of_length_le (Nat.le_refl _), List.drop_of_length_le (by omega)]
  rfl
theorem sameA1 (a b : Att) (hl : a.v.l.length < 1000000) (S : Mem) : CallD Tryz.prog orc 71 [.agg a.c, .agg b.c] S fun d S' => S' = S ∧ d = .bool (sameA a b) := by
  have h := fun S => valSame (orc := orc) a.v b.v hl S
  obtain ⟨n, v⟩ := a
  obtain ⟨n', v'⟩ := b
  simp only [Val.c] at h
  simp only [Att.c, sameA]
  refine CallD.e Tryz.func71 rfl Tryz.ntmps71 (by rfl) ?_
  by_cases he : n = n'
  · repeat' (first|refine Go.a rfl ?_|refine Go.rg ?_|refine GoR.nil ?_|refine Go.ret ?_|refine Go.b rfl ?_|(refine GoR.o (by rfl) (by rfl) ?_;(conv => arg 1;simp only [G,Z,Y,Gx,un_neg,cutD,decide_true,decide_false,simprocAttr,fb2,fb3,fb9,fb45,fb47,fb71,decide_eq_true he]);show GoR ..)|(refine GoR.c c36 (by rfl) (by rfl) rfl ?_;(refine (h _).ret ?_))|refine GoR.s (by rfl) rfl rfl ?_|(refine GoR.splitG rfl (fun hc => ?_) (fun hc => ?_) <;> simp only [hc])|refine Go.condB rfl (fun hc => ?_) (fun hc => ?_))
    refine ⟨(by first | exact .inl rfl | exact .inr rfl), fin ?_⟩
    rw [resD_tmp (fn := Tryz.f71) rfl]
    simp only [optThen_some,resultD_tmp,resultD_cell,G,Z,Y,Gx,un_neg,cutD,decide_true,decide_false,simprocAttr,fb2,fb3,fb9,fb45,fb47,fb71]
    exact ⟨_, _, rfl, .bool, by simp [he]⟩
  · repeat' (first|refine Go.a rfl ?_|refine Go.rg ?_|refine GoR.nil ?_|refine Go.ret ?_|refine Go.b rfl ?_|(refine GoR.o (by rfl) (by rfl) ?_;(conv => arg 1;simp only [G,Z,Y,Gx,un_neg,cutD,decide_true,decide_false,simprocAttr,fb2,fb3,fb9,fb45,fb47,fb71,decide_eq_false he]);show GoR ..)|refine GoR.s (by rfl) rfl rfl ?_|(refine GoR.splitG rfl (fun hc => ?_) (fun hc => ?_) <;> simp only [hc])|refine Go.condB rfl (fun hc => ?_) (fun hc => ?_))
    refine ⟨(by first | exact .inl rfl | exact .inr rfl), fin ?_⟩
    rw [resD_tmp (fn := Tryz.f71) rfl]
    simp only [optThen_some,resultD_tmp,resultD_cell,G,Z,Y,Gx,un_neg,cutD,decide_true,decide_false,simprocAttr,fb2,fb3,fb9,fb45,fb47,fb71]
    exact ⟨_, _, rfl, .bool, by simp [he]⟩
theorem equalFunc (l m : List Att) (hl : l.length < 1000000) (hv : ∀ a ∈ l, a.v.l.length < 1000000) (S : Mem) :
    CallD Tryz.prog orc 70 [.sl none 5 l.length (attsC l), .sl none 5 m.length (attsC m), .fn (.func 71) [] []] S fun d S' => S' = S ∧ d = .bool (sameL l m) := by
  refine CallD.e Tryz.func70 rfl Tryz.ntmps70 (by rfl) ?_
  by_cases hlm : l.length = m.length
  rotate_left
  · repeat' (first|refine Go.a rfl ?_|refine Go.rg ?_|refine GoR.nil ?_|refine Go.ret ?_|refine Go.b rfl ?_|(refine GoR.o (by rfl) (by rfl) ?_;(conv => arg 1;simp only [G,Z,Y,Gx,un_neg,cutD,decide_true,decide_false,simprocAttr,fb3,fb9,fb24,fb47,fb71,show ((l.length : Int) != (m.length : Int)) = true by simp; omega]);show GoR ..)|refine Go.condB rfl (fun hc => ?_) (fun hc => ?_))
    refine ⟨(by first | exact .inl rfl | exact .inr rfl), fin ?_⟩
    rw [resD_tmp (fn := Tryz.f70) rfl]
    simp only [optThen_some,resultD_tmp,resultD_cell,G,Z,Y,Gx,un_neg,cutD,decide_true,decide_false,simprocAttr,fb3,fb9,fb24,fb47,fb71]
    exact ⟨_, [], by simp, .bool, by rw [sameL_len hlm]⟩
  repeat' (first|refine Go.a rfl ?_|refine Go.rg ?_|refine GoR.nil ?_|refine Go.ret ?_|refine Go.b rfl ?_|(refine GoR.o (by rfl) (by rfl) ?_;(conv => arg 1;simp only [G,Z,Y,Gx,un_neg,cutD,decide_true,decide_false,simprocAttr,fb3,fb9,fb24,fb47,fb71,show ((l.length : Int) != (m.length : Int)) = false by simp; omega]);show GoR ..)|refine Go.condB rfl (fun hc => ?_) (fun hc => ?_))
  refine Go.keep [(1, .sl none 5 m.length (attsC m)), (2, .fn (.func 71) [] []), (15, .sl none 5 l.length (attsC l)), (16, .int .i64 (l.length : Int)), (17, .int .i64 ((0 : Nat) : Int))] (.cons .refl (.cons .refl (.cons .refl (.cons .refl (.cons .refl (.nil)))))) ?_
  refine Go.while (α := Nat × Mem) (fun x => l.length - x.1) (fun x => [(1, .sl none 5 m.length (attsC m)), (2, .fn (.func 71) [] []), (15, .sl none 5 l.length (attsC l)), (16, .int .i64 (l.length : Int)), (17, .int .i64 (x.1 : Int))]) (fun x => x.2)
    (fun x => x.1 ≤ l.length ∧ sameL l m = sameL (l.drop x.1) (m.drop x.1) ∧ Grown S.length S x.2) ?_ (0, S) ⟨Nat.zero_le _, rfl, .refl⟩
  rintro ⟨i, S1⟩ ⟨hi, hk, hg⟩ next
  dsimp only at hi hk hg next
  by_cases h1 : i < l.length
  · have h2 : i < m.length := by omega
    have hs := fun S => sameA1 (orc := orc) l[i] m[i] (hv _ (List.getElem_mem _)) S
    have a1 := attsAt h1
    have a2 := attsAt h2
    have hgE : Grown S.length S (S1 ++ [Ob.obj l[i].c, Ob.obj m[i].c]) := hg.trans Grown.app
    obtain ⟨Eg, hEg⟩ := hgE.pre [] S rfl (by simp)
    simp only [Val.c, Att.c] at a1 a2 hs hEg
    rw [sameL_step h1 h2] at hk
    cases hq : sameA l[i] m[i] with
    | true =>
      rw [hq, Bool.true_and] at hk
      repeat' (first|refine Go.a rfl ?_|refine Go.rg ?_|refine GoR.nil ?_|refine Go.ret ?_|refine Go.b rfl ?_|(refine GoR.o (by rfl) (by rfl) ?_;(conv => arg 1;simp only [G,Z,Y,Gx,un_neg,cutD,decide_true,decide_false,simprocAttr,fb3,fb9,fb24,fb47,fb71,show decide ((i : Int) < (l.length : Int)) = true by simp; omega, a1, a2, hq, wrap_succ (show i < 4611686018427387904 by omega)]);show GoR ..)|(refine GoR.c c71 (by rfl) (by rfl) rfl ?_;(refine (hs _).ret ?_))|refine Go.condB rfl (fun hc => ?_) (fun hc => ?_))
      refine Go.lpN ?_
      refine Go.keep [(1, .sl none 5 m.length (attsC m)), (2, .fn (.func 71) [] []), (15, .sl none 5 l.length (attsC l)), (16, .int .i64 (l.length : Int)), (17, .int .i64 ((i + 1 : Nat) : Int))] (.cons .refl (.cons .refl (.cons .refl (.cons .refl (.cons .refl (.nil)))))) ?_
      exact next (i + 1, _) (by dsimp only; omega) ⟨h1, hk, hg.trans Grown.app⟩
    | false =>
      clear next
      rw [hq, Bool.false_and] at hk
      repeat' (first|refine Go.a rfl ?_|refine Go.rg ?_|refine GoR.nil ?_|refine Go.ret ?_|refine Go.b rfl ?_|(refine GoR.o (by rfl) (by rfl) ?_;(conv => arg 1;simp only [G,Z,Y,Gx,un_neg,cutD,decide_true,decide_false,simprocAttr,fb3,fb9,fb24,fb47,fb71,show decide ((i : Int) < (l.length : Int)) = true by simp; omega, a1, a2, hq]);show GoR ..)|(refine GoR.c c71 (by rfl) (by rfl) rfl ?_;(refine (hs _).ret ?_))|refine Go.condB rfl (fun hc => ?_) (fun hc => ?_))
      refine ⟨(by first | exact .inl rfl | exact .inr rfl), fin ?_⟩
      rw [resD_tmp (fn := Tryz.f70) rfl]
      simp only [optThen_some,resultD_tmp,resultD_cell,G,Z,Y,Gx,un_neg,cutD,decide_true,decide_false,simprocAttr,fb3,fb9,fb24,fb47,fb71]
      exact ⟨_, Eg, hEg, .bool, by rw [hk]⟩
  · clear next
    obtain rfl : i = l.length := by omega
    obtain ⟨E, hE⟩ := hg.pre [] S rfl (by simp)
    repeat' (first|refine Go.a rfl ?_|refine Go.rg ?_|refine GoR.nil ?_|refine Go.ret ?_|refine Go.b rfl ?_|(refine GoR.o (by rfl) (by rfl) ?_;(conv => arg 1;simp only [G,Z,Y,Gx,un_neg,cutD,decide_true,decide_false,simprocAttr,fb3,fb9,fb24,fb47,fb71,show decide ((l.length : Int) < (l.length : Int)) = false by simp]);show GoR ..)|refine Go.condB rfl (fun hc => ?_) (fun hc => ?_))
    refine ⟨(by first | exact .inl rfl | exact .inr rfl), fin ?_⟩
    rw [resD_tmp (fn := Tryz.f70) rfl]
    simp only [optThen_some,resultD_tmp,resultD_cell,G,Z,Y,Gx,un_neg,cutD,decide_true,decide_false,simprocAttr,fb3,fb9,fb24,fb47,fb71]
    exact ⟨_, E, hE, .bool, by rw [hk, sameL_end hlm]⟩
theorem sameAttrs (l m : List Att) (hl : l.length < 1000000) (hv : ∀ a ∈ l, a.v.l.length < 1000000) (S : Mem) :
    CallD Tryz.prog orc 21 [.sl none 5 l.length (attsC l), .sl none 5 m.length (attsC m)] S fun d S' => S' = S ∧ d = .bool (sameL l m) := by
  refine CallD.e Tryz.func21 rfl Tryz.ntmps21 (by rfl) ?_
  repeat' (first|refine Go.a rfl ?_|refine Go.rg ?_|refine GoR.nil ?_|refine Go.ret ?_|refine Go.b rfl ?_|(refine GoR.o (by rfl) (by rfl) ?_;(conv => arg 1;simp only [G,Z,Y,Gx,un_neg,cutD,decide_true,decide_false,simprocAttr]);show GoR ..)|(refine GoR.c c70 (by rfl) (by rfl) rfl ?_;(refine (equalFunc _ _ hl hv _).ret ?_))|refine Go.condB rfl (fun hc => ?_) (fun hc => ?_))
  refine ⟨(by first | exact .inl rfl | exact .inr rfl), fin ?_⟩
  rw [resD_tmp (fn := Tryz.f21) rfl]
  simp only [optThen_some,resultD_tmp,resultD_cell,G,Z,Y,Gx,un_neg,cutD,decide_true,decide_false,simprocAttr]
  exact ⟨_, [], by simp, .bool, rfl⟩
theorem refSameAttrs (l m : List Att) (hl : l.length < 1000000) (hv : ∀ a ∈ l, a.v.l.length < 1000000) (hw : ∀ a ∈ m, a.v.l.length < 1000000) (S : Mem) :
    CallD Tryz.prog orc 22 [.sl none 5 l.length (attsC l), .sl none 5 m.length (attsC m)] S fun d S' => S' = S ∧ d = .bool (sameL l m) := by
  refine CallD.e Tryz.func22 rfl Tryz.ntmps22 (by rfl) ?_
  by_cases hlm : l.length = m.length
  rotate_left
  · repeat' (first|refine Go.a rfl ?_|refine Go.rg ?_|refine GoR.nil ?_|refine Go.ret ?_|refine Go.b rfl ?_|refine Go.rgS dmx (by decide) ?_|(refine GoR.o (by rfl) (by rfl) ?_;(conv => arg 1;simp only [G,Z,Y,Gx,un_neg,cutD,decide_true,decide_false,simprocAttr,fb2,fb3,fb9,fb31,fb45,fb55,fb109,show ((l.length : Int) != (m.length : Int)) = true by simp; omega]);show GoR ..)|refine GoR.s (by rfl) rfl rfl ?_|(refine GoR.splitG rfl (fun hc => ?_) (fun hc => ?_) <;> simp only [hc])|refine Go.condB rfl (fun hc => ?_) (fun hc => ?_))
    refine ⟨(by first | exact .inl rfl | exact .inr rfl), fin ?_⟩
    rw [resD_tmp (fn := Tryz.f22) rfl]
    simp only [optThen_some,resultD_tmp,resultD_cell,G,Z,Y,Gx,un_neg,cutD,decide_true,decide_false,simprocAttr,fb2,fb3,fb9,fb31,fb45,fb55,fb109]
    exact ⟨_, [], by simp, .bool, by rw [sameL_len hlm]⟩
  repeat' (first|refine Go.a rfl ?_|refine Go.rg ?_|refine GoR.nil ?_|refine Go.ret ?_|refine Go.b rfl ?_|refine Go.rgS dmx (by decide) ?_|(refine GoR.o (by rfl) (by rfl) ?_;(conv => arg 1;simp only [G,Z,Y,Gx,un_neg,cutD,decide_true,decide_false,simprocAttr,fb2,fb3,fb9,fb31,fb45,fb55,fb109,show ((l.length : Int) != (m.length : Int)) = false by simp; omega]);show GoR ..)|refine GoR.s (by rfl) rfl rfl ?_|(refine GoR.splitG rfl (fun hc => ?_) (fun hc => ?_) <;> simp only [hc])|refine Go.condB rfl (fun hc => ?_) (fun hc => ?_))
  refine Go.keep [(0, .sl none 5 l.length (attsC l)), (1, .sl none 5 m.length (attsC m)), (5, .int .i64 ((0 : Nat) : Int))] (.cons .refl (.cons .refl (.cons .refl (.nil)))) ?_
  refine Go.while (α := Nat) (fun x => l.length - x) (fun x => [(0, .sl none 5 l.length (attsC l)), (1, .sl none 5 m.length (attsC m)), (5, .int .i64 (x : Int))]) (fun _ => S)
    (fun x => x ≤ l.length ∧ sameL l m = sameL (l.drop x) (m.drop x)) ?_ 0 ⟨Nat.zero_le _, rfl⟩
  rintro i ⟨hi, hk⟩ next
  by_cases h1 : i < l.length
  · have h2 : i < m.length := by omega
    have hs := fun S => refCompareValue (orc := orc) l[i].v m[i].v (hv _ (List.getElem_mem _)) (hw _ (List.getElem_mem _)) S
    have a1 := attsAt h1
    have a2 := attsAt h2
    simp only [Val.c, Att.c] at a1 a2 hs
    rw [sameL_step h1 h2] at hk
    by_cases hn : l[i].n = m[i].n
    · by_cases hc : cmpV l[i].v m[i].v = 0
      · have hq : sameA l[i] m[i] = true := by simp [sameA, hn, hc]
        rw [hq, Bool.true_and] at hk
        repeat' (first|refine Go.a rfl ?_|refine Go.rg ?_|refine GoR.nil ?_|refine Go.ret ?_|refine Go.b rfl ?_|refine Go.rgS dmx (by decide) ?_|(refine GoR.o (by rfl) (by rfl) ?_;(conv => arg 1;simp only [G,Z,Y,Gx,un_neg,cutD,decide_true,decide_false,simprocAttr,fb2,fb3,fb9,fb31,fb45,fb55,fb109,show decide ((i : Int) < (l.length : Int)) = true by simp; omega, a1, a2, decide_eq_true hn, hc, wrap_succ (show i < 4611686018427387904 by omega)]);show GoR ..)|(refine GoR.c c32 (by rfl) (by rfl) rfl ?_;(refine (hs _).ret ?_))|refine GoR.s (by rfl) rfl rfl ?_|(refine GoR.splitG rfl (fun hc => ?_) (fun hc => ?_) <;> simp only [hc])|refine Go.condB rfl (fun hc => ?_) (fun hc => ?_))
        refine Go.lpN ?_
        refine Go.keep [(0, .sl none 5 l.length (attsC l)), (1, .sl none 5 m.length (attsC m)), (5, .int .i64 ((i + 1 : Nat) : Int))] (.cons .refl (.cons .refl (.cons .refl (.nil)))) ?_
        exact next (i + 1) (by omega) ⟨h1, hk⟩
      · clear next
        have hq : sameA l[i] m[i] = false := by simp [sameA, hc]
        rw [hq, Bool.false_and] at hk
        repeat' (first|refine Go.a rfl ?_|refine Go.rg ?_|refine GoR.nil ?_|refine Go.ret ?_|refine Go.b rfl ?_|refine Go.rgS dmx (by decide) ?_|(refine GoR.o (by rfl) (by rfl) ?_;(conv => arg 1;simp only [G,Z,Y,Gx,un_neg,cutD,decide_true,decide_false,simprocAttr,fb2,fb3,fb9,fb31,fb45,fb55,fb109,show decide ((i : Int) < (l.length : Int)) = true by simp; omega, a1, a2, decide_eq_true hn, show (cmpV l[i].v m[i].v != 0) = true by simpa using hc]);show GoR ..)|(refine GoR.c c32 (by rfl) (by rfl) rfl ?_;(refine (hs _).ret ?_))|refine GoR.s (by rfl) rfl rfl ?_|(refine GoR.splitG rfl (fun hc => ?_) (fun hc => ?_) <;> simp only [hc])|refine Go.condB rfl (fun hc => ?_) (fun hc => ?_))
        refine ⟨(by first | exact .inl rfl | exact .inr rfl), fin ?_⟩
        rw [resD_tmp (fn := Tryz.f22) rfl]
        simp only [optThen_some,resultD_tmp,resultD_cell,G,Z,Y,Gx,un_neg,cutD,decide_true,decide_false,simprocAttr,fb2,fb3,fb9,fb31,fb45,fb55,fb109]
        exact ⟨_, [], by simp, .bool, by rw [hk]⟩
    · clear next
      have hq : sameA l[i] m[i] = false := by simp [sameA, hn]
      rw [hq, Bool.false_and] at hk
      repeat' (first|refine Go.a rfl ?_|refine Go.rg ?_|refine GoR.nil ?_|refine Go.ret ?_|refine Go.b rfl ?_|refine Go.rgS dmx (by decide) ?_|(refine GoR.o (by rfl) (by rfl) ?_;(conv => arg 1;simp only [G,Z,Y,Gx,un_neg,cutD,decide_true,decide_false,simprocAttr,fb2,fb3,fb9,fb31,fb45,fb55,fb109,show decide ((i : Int) < (l.length : Int)) = true by simp; omega, a1, a2, decide_eq_false hn]);show GoR ..)|refine GoR.s (by rfl) rfl rfl ?_|(refine GoR.splitG rfl (fun hc => ?_) (fun hc => ?_) <;> simp only [hc])|refine Go.condB rfl (fun hc => ?_) (fun hc => ?_))
      refine ⟨(by first | exact .inl rfl | exact .inr rfl), fin ?_⟩
      rw [resD_tmp (fn := Tryz.f22) rfl]
      simp only [optThen_some,resultD_tmp,resultD_cell,G,Z,Y,Gx,un_neg,cutD,decide_true,decide_false,simprocAttr,fb2,fb3,fb9,fb31,fb45,fb55,fb109]
      exact ⟨_, [], by simp, .bool, by rw [hk]⟩
  · clear next
    obtain rfl : i = l.length := by omega
    repeat' (first|refine Go.a rfl ?_|refine Go.rg ?_|refine GoR.nil ?_|refine Go.ret ?_|refine Go.b rfl ?_|refine Go.rgS dmx (by decide) ?_|(refine GoR.o (by rfl) (by rfl) ?_;(conv => arg 1;simp only [G,Z,Y,Gx,un_neg,cutD,decide_true,decide_false,simprocAttr,fb2,fb3,fb9,fb31,fb45,fb55,fb109,show decide ((l.length : Int) < (l.length : Int)) = false by simp]);show GoR ..)|refine GoR.s (by rfl) rfl rfl ?_|(refine GoR.splitG rfl (fun hc => ?_) (fun hc => ?_) <;> simp only [hc])|refine Go.condB rfl (fun hc => ?_) (fun hc => ?_))
    refine ⟨(by first | exact .inl rfl | exact .inr rfl), fin ?_⟩
    rw [resD_tmp (fn := Tryz.f22) rfl]
    simp only [optThen_some,resultD_tmp,resultD_cell,G,Z,Y,Gx,un_neg,cutD,decide_true,decide_false,simprocAttr,fb2,fb3,fb9,fb31,fb45,fb55,fb109]
    exact ⟨_, [], by simp, .bool, by rw [hk, sameL_end hlm]⟩
def sameR (a b : Rw) : Bool := decide (a.key = b.key) && ((cmpSt a.st b.st == 0) && sameL a.at_ b.at_)
theorem rowSame (a b : Rw) (hl : a.at_.length < 1000000) (hv : ∀ x ∈ a.at_, x.v.l.length < 1000000) (S : Mem) :
    CallD Tryz.prog orc 19 [.agg a.c, .agg b.c] S fun d S' => S' = S ∧ d = .bool (sameR a b) := by
  have h := fun S => compareSt (orc := orc) a.st b.st S
  have hs := fun S => sameAttrs (orc := orc) a.at_ b.at_ hl hv S
  obtain ⟨k, ⟨x, y, z, w⟩, l⟩ := a
  obtain ⟨k', ⟨x', y', z', w'⟩, m⟩ := b
  simp only [Rw.c, St.c, sameR] at *
  generalize cmpSt ⟨x, y, z, w⟩ ⟨x', y', z', w'⟩ = c at *
  refine CallD.e Tryz.func19 rfl Tryz.ntmps19 (by rfl) ?_
  by_cases he : k = k'
  · by_cases hc : c = 0
    · repeat' (first|refine Go.a rfl ?_|refine Go.rg ?_|refine GoR.nil ?_|refine Go.ret ?_|refine Go.b rfl ?_|(refine GoR.o (by rfl) (by rfl) ?_;(conv => arg 1;simp only [G,Z,Y,Gx,un_neg,cutD,decide_true,decide_false,simprocAttr,fb2,fb3,fb9,fb23,fb24,fb26,decide_eq_true he, hc]);show GoR ..)|(refine GoR.c c68 (by rfl) (by rfl) rfl ?_;(refine (h _).ret ?_))|(refine GoR.c c21 (by rfl) (by rfl) rfl ?_;(refine (hs _).ret ?_))|refine GoR.s (by rfl) rfl rfl ?_|(refine GoR.splitG rfl (fun hc => ?_) (fun hc => ?_) <;> simp only [hc])|refine Go.condB rfl (fun hc => ?_) (fun hc => ?_))
      refine ⟨(by first | exact .inl rfl | exact .inr rfl), fin ?_⟩
      rw [resD_tmp (fn := Tryz.f19) rfl]
      simp only [optThen_some,resultD_tmp,resultD_cell,G,Z,Y,Gx,un_neg,cutD,decide_true,decide_false,simprocAttr,fb2,fb3,fb9,fb23,fb24,fb26]
      exact ⟨_, _, rfl, .bool, by simp [he, hc]⟩
    · repeat' (first|refine Go.a rfl ?_|refine Go.rg ?_|refine GoR.nil ?_|refine Go.ret ?_|refine Go.b rfl ?_|(refine GoR.o (by rfl) (by rfl) ?_;(conv => arg 1;simp only [G,Z,Y,Gx,un_neg,cutD,decide_true,decide_false,simprocAttr,fb2,fb3,fb9,fb23,fb24,fb26,decide_eq_true he, show (c == 0) = false by simpa using hc]);show GoR ..)|(refine GoR.c c68 (by rfl) (by rfl) rfl ?_;(refine (h _).ret ?_))|refine GoR.s (by rfl) rfl rfl ?_|(refine GoR.splitG rfl (fun hc => ?_) (fun hc => ?_) <;> simp only [hc])|refine Go.condB rfl (fun hc => ?_) (fun hc => ?_))
      refine ⟨(by first | exact .inl rfl | exact .inr rfl), fin ?_⟩
      rw [resD_tmp (fn := Tryz.f19) rfl]
      simp only [optThen_some,resultD_tmp,resultD_cell,G,Z,Y,Gx,un_neg,cutD,decide_true,decide_false,simprocAttr,fb2,fb3,fb9,fb23,fb24,fb26]
      exact ⟨_, _, rfl, .bool, by simp [he, hc]⟩
  · repeat' (first|refine Go.a rfl ?_|refine Go.rg ?_|refine GoR.nil ?_|refine Go.ret ?_|refine Go.b rfl ?_|(refine GoR.o (by rfl) (by rfl) ?_;(conv => arg 1;simp only [G,Z,Y,Gx,un_neg,cutD,decide_true,decide_false,simprocAttr,fb2,fb3,fb9,fb23,fb24,fb26,decide_eq_false he]);show GoR ..)|refine GoR.s (by rfl) rfl rfl ?_|(refine GoR.splitG rfl (fun hc => ?_) (fun hc => ?_) <;> simp only [hc])|refine Go.condB rfl (fun hc => ?_) (fun hc => ?_))
    refine ⟨(by first | exact .inl rfl | exact .inr rfl), fin ?_⟩
    rw [resD_tmp (fn := Tryz.f19) rfl]
    simp only [optThen_some,resultD_tmp,resultD_cell,G,Z,Y,Gx,un_neg,cutD,decide_true,decide_false,simprocAttr,fb2,fb3,fb9,fb23,fb24,fb26]
    exact ⟨_, _, rfl, .bool, by simp [he]⟩
theorem refSame (a b : Rw) (hl : a.at_.length < 1000000) (hv : ∀ x ∈ a.at_, x.v.l.length < 1000000) (hw : ∀ x ∈ b.at_, x.v.l.length < 1000000) (S : Mem) :
    CallD Tryz.prog orc 20 [.agg a.c, .agg b.c] S fun d S' => S' = S ∧ d = .bool (sameR a b) := by
  have h := fun S => refCompare (orc := orc) a.st b.st S
  have hs := fun S => refSameAttrs (orc := orc) a.at_ b.at_ hl hv hw S
  obtain ⟨k, ⟨x, y, z, w⟩, l⟩ := a
  obtain ⟨k', ⟨x', y', z', w'⟩, m⟩ := b
  simp only [Rw.c, St.c, sameR] at *
  generalize cmpSt ⟨x, y, z, w⟩ ⟨x', y', z', w'⟩ = c at *
  refine CallD.e Tryz.func20 rfl Tryz.ntmps20 (by rfl) ?_
  by_cases he : k = k'
  · by_cases hc : c = 0
    · repeat' (first|refine Go.a rfl ?_|refine Go.rg ?_|refine GoR.nil ?_|refine Go.ret ?_|refine Go.b rfl ?_|(refine GoR.o (by rfl) (by rfl) ?_;(conv => arg 1;simp only [G,Z,Y,Gx,un_neg,cutD,decide_true,decide_false,simprocAttr,fb2,fb3,fb9,fb30,fb31,fb33,decide_eq_true he, hc]);show GoR ..)|(refine GoR.c c69 (by rfl) (by rfl) rfl ?_;(refine (h _).ret ?_))|(refine GoR.c c22 (by rfl) (by rfl) rfl ?_;(refine (hs _).ret ?_))|refine GoR.s (by rfl) rfl rfl ?_|(refine GoR.splitG rfl (fun hc => ?_) (fun hc => ?_) <;> simp only [hc])|refine Go.condB rfl (fun hc => ?_) (fun hc => ?_))
      refine ⟨(by first | exact .inl rfl | exact .inr rfl), fin ?_⟩
      rw [resD_tmp (fn := Tryz.f20) rfl]
      simp only [optThen_some,resultD_tmp,resultD_cell,G,Z,Y,Gx,un_neg,cutD,decide_true,decide_false,simprocAttr,fb2,fb3,fb9,fb30,fb31,fb33]
      exact ⟨_, _, rfl, .bool, by simp [he, hc]⟩
    · repeat' (first|refine Go.a rfl ?_|refine Go.rg ?_|refine GoR.nil ?_|refine Go.ret ?_|refine Go.b rfl ?_|(refine GoR.o (by rfl) (by rfl) ?_;(conv => arg 1;simp only [G,Z,Y,Gx,un_neg,cutD,decide_true,decide_false,simprocAttr,fb2,fb3,fb9,fb30,fb31,fb33,decide_eq_true he, show (c == 0) = false by simpa using hc]);show GoR ..)|(refine GoR.c c69 (by rfl) (by rfl) rfl ?_;(refine (h _).ret ?_))|refine GoR.s (by rfl) rfl rfl ?_|(refine GoR.splitG rfl (fun hc => ?_) (fun hc => ?_) <;> simp only [hc])|refine Go.condB rfl (fun hc => ?_) (fun hc => ?_))
      refine ⟨(by first | exact .inl rfl | exact .inr rfl), fin ?_⟩
      rw [resD_tmp (fn := Tryz.f20) rfl]
      simp only [optThen_some,resultD_tmp,resultD_cell,G,Z,Y,Gx,un_neg,cutD,decide_true,decide_false,simprocAttr,fb2,fb3,fb9,fb30,fb31,fb33]
      exact ⟨_, _, rfl, .bool, by simp [he, hc]⟩
  · repeat' (first|refine Go.a rfl ?_|refine Go.rg ?_|refine GoR.nil ?_|refine Go.ret ?_|refine Go.b rfl ?_|(refine GoR.o (by rfl) (by rfl) ?_;(conv => arg 1;simp only [G,Z,Y,Gx,un_neg,cutD,decide_true,decide_false,simprocAttr,fb2,fb3,fb9,fb30,fb31,fb33,decide_eq_false he]);show GoR ..)|refine GoR.s (by rfl) rfl rfl ?_|(refine GoR.splitG rfl (fun hc => ?_) (fun hc => ?_) <;> simp only [hc])|refine Go.condB rfl (fun hc => ?_) (fun hc => ?_))
    refine ⟨(by first | exact .inl rfl | exact .inr rfl), fin ?_⟩
    rw [resD_tmp (fn := Tryz.f20) rfl]
    simp only [optThen_some,resultD_tmp,resultD_cell,G,Z,Y,Gx,un_neg,cutD,decide_true,decide_false,simprocAttr,fb2,fb3,fb9,fb30,fb31,fb33]
    exact ⟨_, _, rfl, .bool, by simp [he]⟩
end Go.Proofs.DwT
