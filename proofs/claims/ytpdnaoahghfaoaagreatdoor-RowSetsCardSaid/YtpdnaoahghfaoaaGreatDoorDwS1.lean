/- Which of two stamps is the newer. -/
import Derived.Test.YtpdnaoahghfaoaaGreatDoorDeFacts
import Derived.Test.YtpdnaoahghfaoaaGreatDoorDpA
import Derived.Test.YtpdnaoahghfaoaaGreatDoorDmWx
set_option linter.unusedSimpArgs false
set_option linter.unusedVariables false
namespace Go.Proofs.DwT
open Go Go.DM Go.Proofs.DeT
set_option maxRecDepth 100000
variable {orc : DOracle}

structure St where
  tick : Int
  inc : Int
  seq : Int
  org : ByteArray
def St.c (s : St) : List D := [.int .i64 s.tick, .int .i64 s.inc, .int .i64 s.seq, .str s.org]
theorem St.low {n : Nat} {a b c : Int} {s : ByteArray} : LowL n [.int .i64 a, .int .i64 b, .int .i64 c, .str s] := .cons (.int _ _) (.cons (.int _ _) (.cons (.int _ _) (.cons (.str _) .nil)))
def cmpI (a b : Int) : Int := if a < b then -1 else if b < a then 1 else 0
def orI : List Int → Int
  | [] => 0
  | x :: l => if x = 0 then orI l else x
def cmpSt (a b : St) : Int := orI [cmpI a.tick b.tick, cmpI a.inc b.inc, cmpI a.seq b.seq, cmpB a.org b.org]

theorem isNaNS (a : ByteArray) (S : Mem) : CallD Tryz.prog orc 149 [.str a] S fun d S' => S' = S ∧ d = .bool false := by
  refine CallD.e Tryz.func149 rfl Tryz.ntmps149 (by rfl) ?_
  repeat' (first|refine Go.a rfl ?_|refine Go.rg ?_|refine GoR.nil ?_|refine Go.ret ?_|refine Go.b rfl ?_|(refine GoR.o (by rfl) (by rfl) ?_;(conv => arg 1;simp only [G,Z,Y,Gx,un_neg,cutD,decide_true,decide_false,simprocAttr,fb9]);show GoR ..)|refine Go.condB rfl (fun hc => ?_) (fun hc => ?_))
  all_goals
    refine ⟨(by first | exact .inl rfl | exact .inr rfl), fin ?_⟩
    rw [resD_tmp (fn := Tryz.f149) rfl]
    simp only [optThen_some,resultD_tmp,resultD_cell,G,Z,Y,Gx,un_neg,cutD,decide_true,decide_false,simprocAttr,fb9]
    refine ⟨_, [], by simp, .bool, ?_⟩
    simp
theorem compareS (a b : ByteArray) (S : Mem) : CallD Tryz.prog orc 118 [.str a, .str b] S fun d S' => S' = S ∧ d = .int .i64 (cmpB a b) := by
  refine CallD.e Tryz.func118 rfl Tryz.ntmps118 (by rfl) ?_
  repeat' (first|refine Go.a rfl ?_|refine Go.rg ?_|refine GoR.nil ?_|refine Go.ret ?_|refine Go.b rfl ?_|(refine GoR.o (by rfl) (by rfl) ?_;(conv => arg 1;simp only [G,Z,Y,Gx,un_neg,cutD,decide_true,decide_false,simprocAttr,fb9]);show GoR ..)|(refine GoR.c c149 (by rfl) (by rfl) rfl ?_;(refine (isNaNS _ _).ret ?_))|refine Go.condB rfl (fun hc => ?_) (fun hc => ?_))
  all_goals
    refine ⟨(by first | exact .inl rfl | exact .inr rfl), fin ?_⟩
    rw [resD_tmp (fn := Tryz.f118) rfl]
    simp only [optThen_some,resultD_tmp,resultD_cell,G,Z,Y,Gx,un_neg,cutD,decide_true,decide_false,simprocAttr,fb9]
    refine ⟨_, [], by simp, .int, ?_⟩
    unfold cmpB ltB
    simp_all
theorem isNaNI (a : Int) (S : Mem) : CallD Tryz.prog orc 148 [.int .i64 a] S fun d S' => S' = S ∧ d = .bool false := by
  refine CallD.e Tryz.func148 rfl Tryz.ntmps148 (by rfl) ?_
  repeat' (first|refine Go.a rfl ?_|refine Go.rg ?_|refine GoR.nil ?_|refine Go.ret ?_|refine Go.b rfl ?_|(refine GoR.o (by rfl) (by rfl) ?_;(conv => arg 1;simp only [G,Z,Y,Gx,un_neg,cutD,decide_true,decide_false,simprocAttr,fb2]);show GoR ..)|refine Go.condB rfl (fun hc => ?_) (fun hc => ?_))
  all_goals
    refine ⟨(by first | exact .inl rfl | exact .inr rfl), fin ?_⟩
    rw [resD_tmp (fn := Tryz.f148) rfl]
    simp only [optThen_some,resultD_tmp,resultD_cell,G,Z,Y,Gx,un_neg,cutD,decide_true,decide_false,simprocAttr,fb2]
    refine ⟨_, [], by simp, .bool, ?_⟩
    simp
theorem compareI (a b : Int) (S : Mem) : CallD Tryz.prog orc 117 [.int .i64 a, .int .i64 b] S fun d S' => S' = S ∧ d = .int .i64 (cmpI a b) := by
  refine CallD.e Tryz.func117 rfl Tryz.ntmps117 (by rfl) ?_
  repeat' (first|refine Go.a rfl ?_|refine Go.rg ?_|refine GoR.nil ?_|refine Go.ret ?_|refine Go.b rfl ?_|(refine GoR.o (by rfl) (by rfl) ?_;(conv => arg 1;simp only [G,Z,Y,Gx,un_neg,cutD,decide_true,decide_false,simprocAttr,fb2]);show GoR ..)|(refine GoR.c c148 (by rfl) (by rfl) rfl ?_;(refine (isNaNI _ _).ret ?_))|refine Go.condB rfl (fun hc => ?_) (fun hc => ?_))
  all_goals
    refine ⟨(by first | exact .inl rfl | exact .inr rfl), fin ?_⟩
    rw [resD_tmp (fn := Tryz.f117) rfl]
    simp only [optThen_some,resultD_tmp,resultD_cell,G,Z,Y,Gx,un_neg,cutD,decide_true,decide_false,simprocAttr,fb2]
    refine ⟨_, [], by simp, .int, ?_⟩
    unfold cmpI
    first
      | (simp_all; done)
      | (simp at *
         rw [if_neg (by omega), if_neg (by omega)])
def intsD (l : List Int) : List D := l.map (.int .i64 ·)
theorem intsAt {l : List Int} {i : Nat} (h : i < l.length) : ((0 ≤ (i : Int) ∧ (i : Int) < (l.length : Int)) = True) ∧ (intsD l)[i]? = some (.int .i64 l[i]) := ⟨ix_ok h, by simp [intsD, h]⟩
theorem orI_drop {l : List Int} (h : ∀ x ∈ l, x = 0) : ∀ {m : List Int}, orI (l ++ m) = orI m := by
  intro m
  induction l with
  | nil => rfl
  | cons x l ih =>
    have := h x (by simp)
    subst this
    simp only [List.cons_append, orI, if_true]
    exact ih fun y hy => h y (by simp [hy])
theorem cmpOr (own : Option Nat) (l : List Int) (hl : l.length < 1000000) (S : Mem) : CallD Tryz.prog orc 116 [.sl own 1 l.length (intsD l)] S fun d S' => S' = S ∧ d = .int .i64 (orI l) := by
  refine CallD.e Tryz.func116 rfl Tryz.ntmps116 (by rfl) ?_
  repeat' (first|refine Go.a rfl ?_|refine Go.rg ?_|refine GoR.nil ?_|refine Go.ret ?_|refine Go.b rfl ?_|(refine GoR.o (by rfl) (by rfl) ?_;(conv => arg 1;simp only [G,Z,Y,Gx,un_neg,cutD,decide_true,decide_false,simprocAttr,fb3,fb178]);show GoR ..)|refine Go.condB rfl (fun hc => ?_) (fun hc => ?_))
  refine Go.keep [(3, .int .i64 0), (6, .sl own 1 l.length (intsD l)), (7, .int .i64 (l.length : Int)), (8, .int .i64 ((0 : Nat) : Int))] (.cons .refl (.cons .refl (.cons .refl (.cons .refl (.nil))))) ?_
  refine Go.while (α := Nat) (fun i => l.length - i) (fun i => [(3, .int .i64 0), (6, .sl own 1 l.length (intsD l)), (7, .int .i64 (l.length : Int)), (8, .int .i64 (i : Int))]) (fun _ => S) (fun i => i ≤ l.length ∧ ∀ x ∈ l.take i, x = 0) ?_ 0 ⟨Nat.zero_le _, by simp⟩
  rintro i ⟨hi, hz⟩ next
  repeat' (first|refine Go.a rfl ?_|refine Go.rg ?_|refine GoR.nil ?_|refine Go.ret ?_|refine Go.b rfl ?_|(refine GoR.o (by rfl) (by rfl) ?_;(conv => arg 1;simp only [G,Z,Y,Gx,un_neg,cutD,decide_true,decide_false,simprocAttr,fb3,fb178]);show GoR ..)|refine Go.condB rfl (fun hc => ?_) (fun hc => ?_))
  · have h1 : i < l.length := by simpa using hc
    repeat' (first|refine Go.a rfl ?_|refine Go.rg ?_|refine GoR.nil ?_|refine Go.ret ?_|refine Go.b rfl ?_|(refine GoR.o (by rfl) (by rfl) ?_;(conv => arg 1;simp only [G,Z,Y,Gx,un_neg,cutD,decide_true,decide_false,simprocAttr,fb3,fb178,intsAt h1, wrap_succ (show i < 4611686018427387904 by omega)]);show GoR ..)|refine Go.condB rfl (fun hc => ?_) (fun hc => ?_))
    · clear next
      refine ⟨(by first | exact .inl rfl | exact .inr rfl), fin ?_⟩
      rw [resD_tmp (fn := Tryz.f116) rfl]
      simp only [optThen_some,resultD_tmp,resultD_cell,G,Z,Y,Gx,un_neg,cutD,decide_true,decide_false,simprocAttr,fb3,fb178]
      refine ⟨_, [], by simp, .int, ?_⟩
      have hne : l[i] ≠ 0 := by simpa using hc
      have : orI l = orI (l.take i ++ l.drop i) := by rw [List.take_append_drop]
      rw [this, orI_drop hz, List.drop_eq_getElem_cons h1]
      simp [orI, hne]
    · refine Go.lpN ?_
      refine Go.keep [(3, .int .i64 0), (6, .sl own 1 l.length (intsD l)), (7, .int .i64 (l.length : Int)), (8, .int .i64 ((i + 1 : Nat) : Int))] (.cons .refl (.cons .refl (.cons .refl (.cons .refl (.nil))))) ?_
      refine next (i + 1) (by omega) ⟨h1, fun x hx => ?_⟩
      clear next
      rw [List.take_succ_eq_append_getElem h1, List.mem_append] at hx
      rcases hx with hx | hx
      · exact hz x hx
      · have : l[i] = 0 := by simpa using hc
        simp at hx
        exact hx.trans this
  · clear next
    refine ⟨(by first | exact .inl rfl | exact .inr rfl), fin ?_⟩
    rw [resD_tmp (fn := Tryz.f116) rfl]
    simp only [optThen_some,resultD_tmp,resultD_cell,G,Z,Y,Gx,un_neg,cutD,decide_true,decide_false,simprocAttr,fb3,fb178]
    refine ⟨_, [], by simp, .int, ?_⟩
    have : i = l.length := by simp at hc; omega
    subst this
    rw [List.take_length] at hz
    have := orI_drop hz (m := [])
    rw [List.append_nil] at this
    simp [this, orI]
theorem compareSt (a b : St) (S : Mem) : CallD Tryz.prog orc 68 [.agg a.c, .agg b.c] S fun d S' => S' = S ∧ d = .int .i64 (cmpSt a b) := by
  obtain ⟨a1, a2, a3, a4⟩ := a
  obtain ⟨b1, b2, b3, b4⟩ := b
  simp only [St.c]
  refine CallD.e Tryz.func68 rfl Tryz.ntmps68 (by rfl) ?_
  repeat' (first|refine Go.a rfl ?_|refine Go.rg ?_|refine GoR.nil ?_|refine Go.ret ?_|refine Go.b rfl ?_|refine Go.rgS dmx (by decide) ?_|refine Go.rgD [6, 8, 11, 13, 16, 18] (fun H => objAt H S.length = some [.int .i64 a1, .int .i64 a2, .int .i64 a3, .str a4] ∧ objAt H (S.length + 1) = some [.int .i64 b1, .int .i64 b2, .int .i64 b3, .str b4]) dmx (by decide) 19 (by decide) (by (simp only [List.append_assoc, List.cons_append, List.nil_append, objAt_app, objAt_app0, objAt_succ, objAt_zero, and_self])) ?_|refine GoW.nil rfl ?_|((first|refine GoR.o (by rfl) (by rfl) ?_|refine GoW.o (by rfl) (by rfl) ?_|refine GoW.rd (by rfl) (by rfl) ?_);(conv => arg 1;simp only [G,Z,Y,Gx,un_neg,cutD,decide_true,decide_false,simprocAttr,fb2,fb9,fb23,fb178]);first|show GoR ..|(show _ ∧ GoW ..;refine ⟨by (first|exact fun h => absurd h (by decide)|(intro _;(simp only [List.append_assoc, List.cons_append, List.nil_append, objAt_app, objAt_app0, objAt_succ, objAt_zero, and_self]))),?_⟩)|(show _ ∧ _ ∧ _ ∧ GoW ..;refine ⟨rfl,by (simp only [List.append_assoc, List.cons_append, List.nil_append, objAt_app, objAt_app0, objAt_succ, objAt_zero, and_self]),(fun H hI=>by (try dsimp only at hI);simp only [G,Z,Y,Gx,un_neg,cutD,decide_true,decide_false,simprocAttr,fb2,fb9,fb23,fb178,hI]),?_⟩))|(refine GoW.c c117 (by rfl) (by rfl) rfl ?_;(refine (compareI _ _ _).ret ?_);refine ⟨by (first|exact fun h => absurd h (by decide)|(intro _;(simp only [List.append_assoc, List.cons_append, List.nil_append, objAt_app, objAt_app0, objAt_succ, objAt_zero, and_self]))),?_⟩)|(refine GoR.c c117 (by rfl) (by rfl) rfl ?_;(refine (compareI _ _ _).ret ?_))|(refine GoW.c c118 (by rfl) (by rfl) rfl ?_;(refine (compareS _ _ _).ret ?_);refine ⟨by (first|exact fun h => absurd h (by decide)|(intro _;(simp only [List.append_assoc, List.cons_append, List.nil_append, objAt_app, objAt_app0, objAt_succ, objAt_zero, and_self]))),?_⟩)|(refine GoR.c c118 (by rfl) (by rfl) rfl ?_;(refine (compareS _ _ _).ret ?_))|(refine GoW.c c116 (by rfl) (by rfl) rfl ?_;(refine (cmpOr _ [_, _, _, _] (by simp) _).ret ?_);refine ⟨by (first|exact fun h => absurd h (by decide)|(intro _;(simp only [List.append_assoc, List.cons_append, List.nil_append, objAt_app, objAt_app0, objAt_succ, objAt_zero, and_self]))),?_⟩)|(refine GoR.c c116 (by rfl) (by rfl) rfl ?_;(refine (cmpOr _ [_, _, _, _] (by simp) _).ret ?_))|refine Go.condB rfl (fun hc => ?_) (fun hc => ?_))
  refine ⟨(by first | exact .inl rfl | exact .inr rfl), fin ?_⟩
  rw [resD_tmp (fn := Tryz.f68) rfl]
  simp only [optThen_some,resultD_tmp,resultD_cell,G,Z,Y,Gx,un_neg,cutD,decide_true,decide_false,simprocAttr,fb2,fb9,fb23,fb178]
  exact ⟨_, _, rfl, .int, rfl⟩
end Go.Proofs.DwT
