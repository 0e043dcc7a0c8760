/- The document's own stamps: which may be, which is newer, in words. -/
import Derived.Test.YtlllhmenekibjaaDoorDuS1x
set_option linter.unusedSimpArgs false
set_option linter.unusedVariables false
namespace Go.Proofs.DuT
open Go Go.DM Go.Proofs.DuF
set_option maxRecDepth 100000
variable {orc : DOracle}

theorem ofSt (s : St) (S : Mem) : CallD Tryd.prog orc 39 [.agg s.c] S fun d S' => S' = S ∧ d = .agg s.c := by
  obtain ⟨a, b, c, o⟩ := s
  simp only [St.c]
  refine CallD.e Tryd.func39 rfl Tryd.ntmps39 (by rfl) ?_
  repeat' (first|refine Go.a rfl ?_|refine Go.rg ?_|refine GoR.nil ?_|refine Go.ret ?_|refine Go.b rfl ?_|(refine GoR.o (by rfl) (by rfl) ?_;(conv => arg 1;simp only [G,Z,Y,Gx,un_neg,cutD,decide_true,decide_false,simprocAttr,fb2,fb9,fb30,fb46]);show GoR ..)|refine Go.condB rfl (fun hc => ?_) (fun hc => ?_))
  refine ⟨(by first | exact .inl rfl | exact .inr rfl), fin ?_⟩
  rw [resD_cell (fn := Tryd.f39) rfl]
  simp only [optThen_some,resultD_tmp,resultD_cell,G,Z,Y,Gx,un_neg,cutD,decide_true,decide_false,simprocAttr,fb2,fb9,fb30,fb46]
  exact ⟨_, _, rfl, .of_low (.agg' St.low), rfl⟩
theorem refOrder (a b : Int) (S : Mem) : CallD Tryd.prog orc 37 [.int .i64 a, .int .i64 b] S fun d S' => S' = S ∧ d = .int .i64 (cmpI a b) := by
  refine CallD.e Tryd.func37 rfl Tryd.ntmps37 (by rfl) ?_
  repeat' (first|refine Go.a rfl ?_|refine Go.rg ?_|refine GoR.nil ?_|refine Go.ret ?_|refine Go.b rfl ?_|(refine GoR.o (by rfl) (by rfl) ?_;(conv => arg 1;simp only [G,Z,Y,Gx,un_neg,cutD,decide_true,decide_false,simprocAttr,fb2]);show GoR ..)|refine Go.condB rfl (fun hc => ?_) (fun hc => ?_))
  all_goals
    refine ⟨(by first | exact .inl rfl | exact .inr rfl), fin ?_⟩
    rw [resD_tmp (fn := Tryd.f37) rfl]
    simp only [optThen_some,resultD_tmp,resultD_cell,G,Z,Y,Gx,un_neg,cutD,decide_true,decide_false,simprocAttr,fb2]
    refine ⟨_, [], by simp, .int, ?_⟩
    unfold cmpI
    first
      | (simp_all; done)
      | (simp at *
         rw [if_neg (by omega), if_neg (by omega)])
theorem refOrderText (a b : ByteArray) (S : Mem) : CallD Tryd.prog orc 38 [.str a, .str b] S fun d S' => S' = S ∧ d = .int .i64 (cmpB a b) := by
  refine CallD.e Tryd.func38 rfl Tryd.ntmps38 (by rfl) ?_
  repeat' (first|refine Go.a rfl ?_|refine Go.rg ?_|refine GoR.nil ?_|refine Go.ret ?_|refine Go.b rfl ?_|(refine GoR.o (by rfl) (by rfl) ?_;(conv => arg 1;simp only [G,Z,Y,Gx,un_neg,cutD,decide_true,decide_false,simprocAttr,fb9]);show GoR ..)|refine Go.condB rfl (fun hc => ?_) (fun hc => ?_))
  all_goals
    refine ⟨(by first | exact .inl rfl | exact .inr rfl), fin ?_⟩
    rw [resD_tmp (fn := Tryd.f38) rfl]
    simp only [optThen_some,resultD_tmp,resultD_cell,G,Z,Y,Gx,un_neg,cutD,decide_true,decide_false,simprocAttr,fb9]
    refine ⟨_, [], by simp, .int, ?_⟩
    unfold cmpB ltB
    simp_all
end Go.Proofs.DuT

/- The document's own stamps: which may be, which is newer. -/
namespace Go.Proofs.DuT
open Go Go.DM Go.Proofs.DuF
set_option maxRecDepth 100000
variable {orc : DOracle}

theorem refCompare (a b : St) (S : Mem) : CallD Tryd.prog orc 15 [.agg a.c, .agg b.c] S fun d S' => S' = S ∧ d = .int .i64 (cmpSt a b) := by
  obtain ⟨a1, a2, a3, a4⟩ := a
  obtain ⟨b1, b2, b3, b4⟩ := b
  simp only [St.c, cmpSt]
  refine CallD.e Tryd.func15 rfl Tryd.ntmps15 (by rfl) ?_
  repeat' (first|refine Go.a rfl ?_|refine Go.rg ?_|refine GoR.nil ?_|refine Go.ret ?_|refine Go.b rfl ?_|refine Go.rgS dmx (by decide) ?_|refine Go.rgD [6, 8, 11, 13, 16, 18] (fun H => objAt H S.length = some [.int .i64 a1, .int .i64 a2, .int .i64 a3, .str a4] ∧ objAt H (S.length + 1) = some [.int .i64 b1, .int .i64 b2, .int .i64 b3, .str b4]) dmx (by decide) 19 (by decide) (by (simp only [List.append_assoc, List.cons_append, List.nil_append, objAt_app, objAt_app0, objAt_succ, objAt_zero, and_self])) ?_|refine GoW.nil rfl ?_|((first|refine GoR.o (by rfl) (by rfl) ?_|refine GoW.o (by rfl) (by rfl) ?_|refine GoW.rd (by rfl) (by rfl) ?_);(conv => arg 1;simp only [G,Z,Y,Gx,un_neg,cutD,decide_true,decide_false,simprocAttr,fb2,fb3,fb9,fb46,fb72]);first|show GoR ..|(show _ ∧ GoW ..;refine ⟨by (first|exact fun h => absurd h (by decide)|(intro _;(simp only [List.append_assoc, List.cons_append, List.nil_append, objAt_app, objAt_app0, objAt_succ, objAt_zero, and_self]))),?_⟩)|(show _ ∧ _ ∧ _ ∧ GoW ..;refine ⟨rfl,by (simp only [List.append_assoc, List.cons_append, List.nil_append, objAt_app, objAt_app0, objAt_succ, objAt_zero, and_self]),(fun H hI=>by (try dsimp only at hI);simp only [G,Z,Y,Gx,un_neg,cutD,decide_true,decide_false,simprocAttr,fb2,fb3,fb9,fb46,fb72,hI]),?_⟩))|(refine GoW.c c37 (by rfl) (by rfl) rfl ?_;(refine (refOrder _ _ _).ret ?_);refine ⟨by (first|exact fun h => absurd h (by decide)|(intro _;(simp only [List.append_assoc, List.cons_append, List.nil_append, objAt_app, objAt_app0, objAt_succ, objAt_zero, and_self]))),?_⟩)|(refine GoR.c c37 (by rfl) (by rfl) rfl ?_;(refine (refOrder _ _ _).ret ?_))|(refine GoW.c c38 (by rfl) (by rfl) rfl ?_;(refine (refOrderText _ _ _).ret ?_);refine ⟨by (first|exact fun h => absurd h (by decide)|(intro _;(simp only [List.append_assoc, List.cons_append, List.nil_append, objAt_app, objAt_app0, objAt_succ, objAt_zero, and_self]))),?_⟩)|(refine GoR.c c38 (by rfl) (by rfl) rfl ?_;(refine (refOrderText _ _ _).ret ?_))|refine Go.condB rfl (fun hc => ?_) (fun hc => ?_))
  generalize cmpI a1 b1 = x1
  generalize cmpI a2 b2 = x2
  generalize cmpI a3 b3 = x3
  generalize cmpB a4 b4 = x4
  generalize hE : S ++ [Ob.obj [D.int .i64 a1, .int .i64 a2, .int .i64 a3, .str a4], Ob.obj [.int .i64 b1, .int .i64 b2, .int .i64 b3, .str b4], Ob.own] = T
  have hlen : T.length = S.length + 3 := by rw [← hE]; simp
  generalize hl : [x1, x2, x3, x4] = l
  have hl4 : l.length = 4 := by rw [← hl]; rfl
  have hints : intsD l = [.int .i64 x1, .int .i64 x2, .int .i64 x3, .int .i64 x4] := by rw [← hl]; rfl
  refine Go.keep [(5, .sl (some (S.length + 2)) 1 4 (intsD l)), (6, .int .i64 ((0 : Nat) : Int))] (.cons (by rw [hints]; exact .refl) (.cons .refl .nil)) ?_
  refine Go.while (α := Nat) (fun i => 4 - i) (fun i => [(5, .sl (some (S.length + 2)) 1 4 (intsD l)), (6, .int .i64 (i : Int))]) (fun _ => T) (fun i => i ≤ 4 ∧ ∀ x ∈ l.take i, x = 0) ?_ 0 ⟨Nat.zero_le _, by simp⟩
  rintro i ⟨hi, hz⟩ next
  by_cases h1 : i < 4
  · have h2 : i < l.length := by omega
    have di : decide ((i : Int) < 4) = true := by simp; omega
    have hc4 : (0 ≤ (i : Int) ∧ (i : Int) < ((4 : Nat) : Int)) = True := by simp; omega
    have hc4' : (0 ≤ (i : Int) ∧ (i : Int) < (4 : Int)) = True := by simp; omega
    have hx := (intsAt h2).2
    cases hn : (l[i] != 0) with
    | true =>
      clear next
      repeat' (first|refine Go.a rfl ?_|refine Go.rg ?_|refine GoR.nil ?_|refine Go.ret ?_|refine Go.b rfl ?_|refine Go.rgS dmx (by decide) ?_|refine Go.rgD [6, 8, 11, 13, 16, 18] (fun _ => True) dmx (by decide) 19 (by decide) (by trivial) ?_|refine GoW.nil rfl ?_|((first|refine GoR.o (by rfl) (by rfl) ?_|refine GoW.o (by rfl) (by rfl) ?_|refine GoW.rd (by rfl) (by rfl) ?_);(conv => arg 1;simp only [G,Z,Y,Gx,un_neg,cutD,decide_true,decide_false,simprocAttr,fb2,fb3,fb9,fb46,fb72,di, hc4, hc4', hx, hn]);first|show GoR ..|(show _ ∧ GoW ..;refine ⟨by exact fun _ => trivial,?_⟩)|(show _ ∧ _ ∧ _ ∧ GoW ..;refine ⟨rfl,by trivial,(fun H _=>by simp only [G,Z,Y,Gx,un_neg,cutD,decide_true,decide_false,simprocAttr,fb2,fb3,fb9,fb46,fb72,di, hc4, hc4', hx, hn]),?_⟩))|refine Go.condB rfl (fun hc => ?_) (fun hc => ?_))
      refine ⟨(by first | exact .inl rfl | exact .inr rfl), fin ?_⟩
      rw [resD_tmp (fn := Tryd.f15) rfl]
      simp only [optThen_some,resultD_tmp,resultD_cell,G,Z,Y,Gx,un_neg,cutD,decide_true,decide_false,simprocAttr,fb2,fb3,fb9,fb46,fb72]
      refine ⟨_, _, hE.symm, .int, ?_⟩
      have hne : l[i] ≠ 0 := by simpa using hn
      have : orI l = orI (l.take i ++ l.drop i) := by rw [List.take_append_drop]
      rw [this, orI_drop hz, List.drop_eq_getElem_cons h2]
      simp [orI, hne]
    | false =>
      repeat' (first|refine Go.a rfl ?_|refine Go.rg ?_|refine GoR.nil ?_|refine Go.ret ?_|refine Go.b rfl ?_|refine Go.rgS dmx (by decide) ?_|refine Go.rgD [6, 8, 11, 13, 16, 18] (fun _ => True) dmx (by decide) 19 (by decide) (by trivial) ?_|refine GoW.nil rfl ?_|((first|refine GoR.o (by rfl) (by rfl) ?_|refine GoW.o (by rfl) (by rfl) ?_|refine GoW.rd (by rfl) (by rfl) ?_);(conv => arg 1;simp only [G,Z,Y,Gx,un_neg,cutD,decide_true,decide_false,simprocAttr,fb2,fb3,fb9,fb46,fb72,di, hc4, hc4', hx, hn, wrap_succ (show i < 4611686018427387904 by omega)]);first|show GoR ..|(show _ ∧ GoW ..;refine ⟨by exact fun _ => trivial,?_⟩)|(show _ ∧ _ ∧ _ ∧ GoW ..;refine ⟨rfl,by trivial,(fun H _=>by simp only [G,Z,Y,Gx,un_neg,cutD,decide_true,decide_false,simprocAttr,fb2,fb3,fb9,fb46,fb72,di, hc4, hc4', hx, hn, wrap_succ (show i < 4611686018427387904 by omega)]),?_⟩))|refine Go.condB rfl (fun hc => ?_) (fun hc => ?_))
      refine Go.lpN ?_
      refine Go.keep [(5, .sl (some (S.length + 2)) 1 4 (intsD l)), (6, .int .i64 ((i + 1 : Nat) : Int))] (.cons .refl (.cons .refl (.nil))) ?_
      refine next (i + 1) (by omega) ⟨h1, fun x hx => ?_⟩
      clear next
      rw [List.take_succ_eq_append_getElem h2, List.mem_append] at hx
      rcases hx with hx | hx
      · exact hz x hx
      · have : l[i] = 0 := by simpa using hn
        simp at hx
        exact hx.trans this
  · clear next
    have di : decide ((i : Int) < 4) = false := by simp; omega
    repeat' (first|refine Go.a rfl ?_|refine Go.rg ?_|refine GoR.nil ?_|refine Go.ret ?_|refine Go.b rfl ?_|refine Go.rgS dmx (by decide) ?_|refine Go.rgD [6, 8, 11, 13, 16, 18] (fun _ => True) dmx (by decide) 19 (by decide) (by trivial) ?_|refine GoW.nil rfl ?_|((first|refine GoR.o (by rfl) (by rfl) ?_|refine GoW.o (by rfl) (by rfl) ?_|refine GoW.rd (by rfl) (by rfl) ?_);(conv => arg 1;simp only [G,Z,Y,Gx,un_neg,cutD,decide_true,decide_false,simprocAttr,fb2,fb3,fb9,fb46,fb72,di]);first|show GoR ..|(show _ ∧ GoW ..;refine ⟨by exact fun _ => trivial,?_⟩)|(show _ ∧ _ ∧ _ ∧ GoW ..;refine ⟨rfl,by trivial,(fun H _=>by simp only [G,Z,Y,Gx,un_neg,cutD,decide_true,decide_false,simprocAttr,fb2,fb3,fb9,fb46,fb72,di]),?_⟩))|refine Go.condB rfl (fun hc => ?_) (fun hc => ?_))
    refine ⟨(by first | exact .inl rfl | exact .inr rfl), fin ?_⟩
    rw [resD_tmp (fn := Tryd.f15) rfl]
    simp only [optThen_some,resultD_tmp,resultD_cell,G,Z,Y,Gx,un_neg,cutD,decide_true,decide_false,simprocAttr,fb2,fb3,fb9,fb46,fb72]
    refine ⟨_, _, hE.symm, .int, ?_⟩
    have : i = l.length := by omega
    subst this
    rw [List.take_length] at hz
    have := orI_drop hz (m := [])
    rw [List.append_nil] at this
    simp [this, orI]
end Go.Proofs.DuT

/- A stamp in the document's words. -/
namespace Go.Proofs.DuT
open Go Go.DM Go.Proofs.DuF
set_option maxRecDepth 100000
variable {orc : DOracle}

end Go.Proofs.DuT
