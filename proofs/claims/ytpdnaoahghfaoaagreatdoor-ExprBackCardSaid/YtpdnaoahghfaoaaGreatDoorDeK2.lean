/- What is wrong with a tree: by the program, by the document. -/
import Derived.Test.YtpdnaoahghfaoaaGreatDoorDeK1
set_option linter.unusedSimpArgs false
set_option linter.unusedVariables false
namespace Go.Proofs.DeT
open Go Go.DM
set_option maxRecDepth 100000
variable {orc : DOracle}

theorem exprKids (op : ByteArray) (S : Mem) : CallD Tryz.prog orc 137 [.str op] S fun d S' => S' = S ∧ d = .int .i64 (arity op) := by
  refine CallD.e Tryz.func137 rfl Tryz.ntmps137 (by rfl) ?_
  repeat' (first|refine Go.a rfl ?_|refine Go.rg ?_|refine GoR.nil ?_|refine Go.ret ?_|refine Go.b rfl ?_|(refine GoR.o (by rfl) (by rfl) ?_;(conv => arg 1;simp only [G,Z,Y,Gx,un_neg,cutD,decide_true,decide_false,simprocAttr,fb9]);show GoR ..)|refine Go.condB rfl (fun hc => ?_) (fun hc => ?_))
  all_goals
    refine ⟨(by first | exact .inl rfl | exact .inr rfl), fin ?_⟩
    rw [resD_tmp (fn := Tryz.f137) rfl]
    simp only [optThen_some,resultD_tmp,resultD_cell,G,Z,Y,Gx,un_neg,cutD,decide_true,decide_false,simprocAttr,fb9]
    refine ⟨_, [], by simp, .int, ?_⟩
    simp_all [arity]
theorem rowName (s : ByteArray) (hs : s.size < 4611686018427387904) (S : Mem) : CallD Tryz.prog orc 33 [.str s] S fun d S' => S' = S ∧ d = .bool (nameOk s) := by
  refine CallD.e Tryz.func33 rfl Tryz.ntmps33 (by rfl) ?_
  by_cases h0 : s.size = 0
  · have e : s = ⟨#[]⟩ := by
      obtain ⟨d⟩ := s
      have : d = #[] := Array.eq_empty_of_size_eq_zero h0
      rw [this]
    subst e
    repeat' (first|refine Go.a rfl ?_|refine Go.rg ?_|refine GoR.nil ?_|refine Go.ret ?_|refine Go.b rfl ?_|(refine GoR.o (by rfl) (by rfl) ?_;(conv => arg 1;simp only [G,Z,Y,Gx,un_neg,cutD,decide_true,decide_false,simprocAttr,fb3,fb5,fb9]);show GoR ..)|refine GoR.s (by rfl) rfl rfl ?_|(refine GoR.splitG rfl (fun hc => ?_) (fun hc => ?_) <;> simp only [hc])|refine Go.condB rfl (fun hc => ?_) (fun hc => ?_))
    refine ⟨(by first | exact .inl rfl | exact .inr rfl), fin ?_⟩
    rw [resD_tmp (fn := Tryz.f33) rfl]
    simp only [optThen_some,resultD_tmp,resultD_cell,G,Z,Y,Gx,un_neg,cutD,decide_true,decide_false,simprocAttr,fb3,fb5,fb9]
    exact ⟨_, [], by simp, .bool, rfl⟩
  · have h1 : 0 < s.size := by omega
    have hne : decide (s = (⟨#[]⟩ : ByteArray)) = false := by
      rw [decide_eq_false_iff_not]
      rintro rfl
      exact h0 rfl
    have e0 : s.data[0]? = some (s.data[0]'h1) := Array.getElem?_eq_getElem h1
    by_cases h8 : 8 < s.size
    · repeat' (first|refine Go.a rfl ?_|refine Go.rg ?_|refine GoR.nil ?_|refine Go.ret ?_|refine Go.b rfl ?_|(refine GoR.o (by rfl) (by rfl) ?_;(conv => arg 1;simp only [G,Z,Y,Gx,un_neg,cutD,decide_true,decide_false,simprocAttr,fb3,fb5,fb9,hne, show decide ((s.size : Int) > 8) = true by simp; omega, show decide ((8 : Int) < (s.size : Int)) = true by simp; omega]);show GoR ..)|refine GoR.s (by rfl) rfl rfl ?_|(refine GoR.splitG rfl (fun hc => ?_) (fun hc => ?_) <;> simp only [hc])|refine Go.condB rfl (fun hc => ?_) (fun hc => ?_))
      refine ⟨(by first | exact .inl rfl | exact .inr rfl), fin ?_⟩
      rw [resD_tmp (fn := Tryz.f33) rfl]
      simp only [optThen_some,resultD_tmp,resultD_cell,G,Z,Y,Gx,un_neg,cutD,decide_true,decide_false,simprocAttr,fb3,fb5,fb9]
      refine ⟨_, [], by simp, .bool, ?_⟩
      have : decide (s.size ≤ 8) = false := by simp; omega
      simp only [nameOk, this, Bool.and_false, Bool.false_and]
    · have g8 : decide ((s.size : Int) > 8) = false := by simp; omega
      have g8' : decide ((8 : Int) < (s.size : Int)) = false := by simp; omega
      by_cases h97 : ((s.data[0]'h1).toNat : Int) < 97
      · repeat' (first|refine Go.a rfl ?_|refine Go.rg ?_|refine GoR.nil ?_|refine Go.ret ?_|refine Go.b rfl ?_|(refine GoR.o (by rfl) (by rfl) ?_;(conv => arg 1;simp only [G,Z,Y,Gx,un_neg,cutD,decide_true,decide_false,simprocAttr,fb3,fb5,fb9,hne, g8, g8', indexStr_zero h1, decide_eq_true h97]);show GoR ..)|refine GoR.s (by rfl) rfl rfl ?_|(refine GoR.splitG rfl (fun hc => ?_) (fun hc => ?_) <;> simp only [hc])|refine Go.condB rfl (fun hc => ?_) (fun hc => ?_))
        refine ⟨(by first | exact .inl rfl | exact .inr rfl), fin ?_⟩
        rw [resD_tmp (fn := Tryz.f33) rfl]
        simp only [optThen_some,resultD_tmp,resultD_cell,G,Z,Y,Gx,un_neg,cutD,decide_true,decide_false,simprocAttr,fb3,fb5,fb9]
        refine ⟨_, [], by simp, .bool, ?_⟩
        have : lowB (s.data[0]'h1) = false := by
          unfold lowB
          rw [decide_eq_false (by omega), Bool.false_and]
        simp only [nameOk, e0, Option.any_some, this, Bool.and_false, Bool.false_and]
      · repeat' (first|refine Go.a rfl ?_|refine Go.rg ?_|refine GoR.nil ?_|refine Go.ret ?_|refine Go.b rfl ?_|(refine GoR.o (by rfl) (by rfl) ?_;(conv => arg 1;simp only [G,Z,Y,Gx,un_neg,cutD,decide_true,decide_false,simprocAttr,fb3,fb5,fb9,hne, g8, g8', indexStr_zero h1, decide_eq_false h97]);show GoR ..)|refine GoR.s (by rfl) rfl rfl ?_|(refine GoR.splitG rfl (fun hc => ?_) (fun hc => ?_) <;> simp only [hc])|refine Go.condB rfl (fun hc => ?_) (fun hc => ?_))
        refine Go.keep [(0, .str s), (17, .int .i64 (s.size : Int)), (18, .int .i64 ((0 : Nat) : Int))] (.cons .refl (.cons .refl (.cons .refl (.nil)))) ?_
        refine Go.while (α := Nat) (fun i => s.size - i) (fun i => [(0, .str s), (17, .int .i64 (s.size : Int)), (18, .int .i64 (i : Int))]) (fun _ => S) (fun i => i ≤ s.size ∧ ∀ j (h : j < s.size), j < i → (lowB (s.data[j]'h) || digB (s.data[j]'h)) = true) ?_ 0 ⟨Nat.zero_le _, by simp⟩
        rintro i ⟨hi, hk⟩ next
        repeat' (first|refine Go.a rfl ?_|refine Go.rg ?_|refine GoR.nil ?_|refine Go.ret ?_|refine Go.b rfl ?_|(refine GoR.o (by rfl) (by rfl) ?_;(conv => arg 1;simp only [G,Z,Y,Gx,un_neg,cutD,decide_true,decide_false,simprocAttr,fb3,fb5,fb9]);show GoR ..)|refine GoR.s (by rfl) rfl rfl ?_|(refine GoR.splitG rfl (fun hc => ?_) (fun hc => ?_) <;> simp only [hc])|refine Go.condB rfl (fun hc => ?_) (fun hc => ?_))
        · have h2 : i < s.size := by simpa using hc
          repeat' (first|refine Go.a rfl ?_|refine Go.rg ?_|refine GoR.nil ?_|refine Go.ret ?_|refine Go.b rfl ?_|(refine GoR.o (by rfl) (by rfl) ?_;(conv => arg 1;simp only [G,Z,Y,Gx,un_neg,cutD,decide_true,decide_false,simprocAttr,fb3,fb5,fb9,indexStr_cast h2, wrap_succ (show i < 4611686018427387904 by omega)]);show GoR ..)|refine GoR.s (by rfl) rfl rfl ?_|(refine GoR.splitG rfl (fun hc => ?_) (fun hc => ?_) <;> simp only [hc])|refine Go.condB rfl (fun hc => ?_) (fun hc => ?_))
          all_goals first
            | (refine Go.lpN ?_
               refine Go.keep [(0, .str s), (17, .int .i64 (s.size : Int)), (18, .int .i64 ((i + 1 : Nat) : Int))] (.cons .refl (.cons .refl (.cons .refl (.nil)))) ?_
               refine next (i + 1) (by omega) ⟨h2, fun j hj hlt => ?_⟩
               clear next
               rcases Nat.lt_or_ge j i with h | h
               · exact hk j hj h
               · obtain rfl : j = i := by omega
                 clear hk
                 simp [lowB, digB] at *
                 omega)
            | (clear next
               refine ⟨(by first | exact .inl rfl | exact .inr rfl), fin ?_⟩
               rw [resD_tmp (fn := Tryz.f33) rfl]
               simp only [optThen_some,resultD_tmp,resultD_cell,G,Z,Y,Gx,un_neg,cutD,decide_true,decide_false,simprocAttr,fb3,fb5,fb9]
               refine ⟨_, [], by simp, .bool, ?_⟩
               have hp : (fun b => lowB b || digB b) (s.data[i]'h2) = false := by
                 clear hk
                 simp [lowB, digB] at *
                 omega
               simp only [nameOk, bytes_false (p := fun b => lowB b || digB b) h2 hp, Bool.and_false])
        · clear next
          refine ⟨(by first | exact .inl rfl | exact .inr rfl), fin ?_⟩
          rw [resD_tmp (fn := Tryz.f33) rfl]
          simp only [optThen_some,resultD_tmp,resultD_cell,G,Z,Y,Gx,un_neg,cutD,decide_true,decide_false,simprocAttr,fb3,fb5,fb9]
          refine ⟨_, [], by simp, .bool, ?_⟩
          have hall := fun j hj => hk j hj (by simp at hc; omega)
          rw [nameOk, bytes_true hall]
          have h3 := hall 0 h1
          have hl : lowB (s.data[0]'h1) = true := by
            clear hk hall
            simp [lowB, digB] at *
            omega
          have h4 : decide (1 ≤ s.size) = true := by simp; omega
          have h5 : decide (s.size ≤ 8) = true := by simp; omega
          simp only [e0, Option.any_some, hl, h4, h5, Bool.and_true]

set_option maxHeartbeats 4000000 in
theorem refCheckS (n : Nd) (hs : Slim 100 n) : ∀ (S : Mem), CallD Tryz.prog orc 87 [.agg n.c] S fun d S' => S' = S ∧ d = .int .i64 (checkS n) := by
  induction n using Nd.ind with
  | h op nm n ks ih =>
    intro S
    obtain ⟨hnm, hl, hk⟩ := hs
    rw [Nd.c_mk, checkS_mk]
    by_cases har : arity op = ks.length
    rotate_left
    · have hb : (arity op != (ks.length : Int)) = true := by simpa using har
      rw [if_pos har]
      refine CallD.e Tryz.func87 rfl Tryz.ntmps87 (by rfl) ?_
      repeat' (first|refine Go.a rfl ?_|refine Go.rg ?_|refine GoR.nil ?_|refine Go.ret ?_|refine Go.b rfl ?_|refine Go.rgS dmx (by decide) ?_|refine Go.rgD [4] (fun H => objAt H S.length = some [.str op, .str nm, .int .i64 n, .sl none 4 ks.length (ndsC ks)]) dmx (by decide) 8 (by decide) (by (simp only [objAt_app0, objAt_zero])) ?_|refine GoW.nil rfl ?_|((first|refine GoR.o (by rfl) (by rfl) ?_|refine GoW.o (by rfl) (by rfl) ?_|refine GoW.rd (by rfl) (by rfl) ?_);(conv => arg 1;simp only [G,Z,Y,Gx,un_neg,cutD,decide_true,decide_false,simprocAttr,fb2,fb3,fb9,fb78,fb80,hb]);first|show GoR ..|(show _ ∧ GoW ..;refine ⟨by (first|exact fun h => absurd h (by decide)|(intro _;(simp only [objAt_app0, objAt_zero]))),?_⟩)|(show _ ∧ _ ∧ _ ∧ GoW ..;refine ⟨rfl,by (simp only [objAt_app0, objAt_zero]),(fun H hI=>by (try dsimp only at hI);simp only [G,Z,Y,Gx,un_neg,cutD,decide_true,decide_false,simprocAttr,fb2,fb3,fb9,fb78,fb80,hb,hI]),?_⟩))|(refine GoW.c c131 (by rfl) (by rfl) rfl ?_;(refine (kids12 _ _).ret ?_);refine ⟨by (first|exact fun h => absurd h (by decide)|(intro _;(simp only [objAt_app0, objAt_zero]))),?_⟩)|(refine GoR.c c131 (by rfl) (by rfl) rfl ?_;(refine (kids12 _ _).ret ?_))|refine GoR.s (by rfl) rfl rfl ?_|refine GoW.s (by rfl) rfl rfl (by (first|exact fun h => absurd h (by decide)|(intro _;(simp only [objAt_app0, objAt_zero])))) ?_|(refine GoR.splitG rfl (fun hc => ?_) (fun hc => ?_) <;> simp only [hc])|refine Go.condB rfl (fun hc => ?_) (fun hc => ?_))
      refine ⟨(by first | exact .inl rfl | exact .inr rfl), fin ?_⟩
      rw [resD_tmp (fn := Tryz.f87) rfl]
      simp only [optThen_some,resultD_tmp,resultD_cell,G,Z,Y,Gx,un_neg,cutD,decide_true,decide_false,simprocAttr,fb2,fb3,fb9,fb78,fb80]
      exact ⟨_, _, rfl, .int, rfl⟩
    rw [if_neg (fun h => h har)]
    cases hb1 : decide (op = (⟨#[110, 97, 109, 101]⟩ : ByteArray)) <;> cases hb2 : nameOk nm <;> cases hb3 : decide (op = (⟨#[110, 117, 109]⟩ : ByteArray)) <;> cases hb4 : decide (n < 0)
    all_goals first
      | (exfalso; have h1 := of_decide_eq_true hb1; have h3 := of_decide_eq_true hb3; rw [h1] at h3; exact absurd h3 (by decide))
      | skip
    all_goals
      refine CallD.e Tryz.func87 rfl Tryz.ntmps87 (by rfl) ?_
      repeat' (first|refine Go.a rfl ?_|refine Go.rg ?_|refine GoR.nil ?_|refine Go.ret ?_|refine Go.b rfl ?_|refine Go.rgS dmx (by decide) ?_|refine Go.rgD [4] (fun H => objAt H S.length = some [.str op, .str nm, .int .i64 n, .sl none 4 ks.length (ndsC ks)]) dmx (by decide) 8 (by decide) (by (simp only [objAt_app0, objAt_zero])) ?_|refine GoW.nil rfl ?_|((first|refine GoR.o (by rfl) (by rfl) ?_|refine GoW.o (by rfl) (by rfl) ?_|refine GoW.rd (by rfl) (by rfl) ?_);(conv => arg 1;simp only [G,Z,Y,Gx,un_neg,cutD,decide_true,decide_false,simprocAttr,fb2,fb3,fb9,fb78,fb80,har, hb1, hb2, hb3, hb4, bne_self_eq_false, Bool.not_true, Bool.not_false]);first|show GoR ..|(show _ ∧ GoW ..;refine ⟨by (first|exact fun h => absurd h (by decide)|(intro _;(simp only [objAt_app0, objAt_zero]))),?_⟩)|(show _ ∧ _ ∧ _ ∧ GoW ..;refine ⟨rfl,by (simp only [objAt_app0, objAt_zero]),(fun H hI=>by (try dsimp only at hI);simp only [G,Z,Y,Gx,un_neg,cutD,decide_true,decide_false,simprocAttr,fb2,fb3,fb9,fb78,fb80,har, hb1, hb2, hb3, hb4, bne_self_eq_false, Bool.not_true, Bool.not_false,hI]),?_⟩))|(refine GoW.c c131 (by rfl) (by rfl) rfl ?_;(refine (kids12 _ _).ret ?_);refine ⟨by (first|exact fun h => absurd h (by decide)|(intro _;(simp only [objAt_app0, objAt_zero]))),?_⟩)|(refine GoR.c c131 (by rfl) (by rfl) rfl ?_;(refine (kids12 _ _).ret ?_))|(refine GoW.c c34 (by rfl) (by rfl) rfl ?_;(refine (refName _ (by omega) _).ret ?_);refine ⟨by (first|exact fun h => absurd h (by decide)|(intro _;(simp only [objAt_app0, objAt_zero]))),?_⟩)|(refine GoR.c c34 (by rfl) (by rfl) rfl ?_;(refine (refName _ (by omega) _).ret ?_))|refine GoR.s (by rfl) rfl rfl ?_|refine GoW.s (by rfl) rfl rfl (by (first|exact fun h => absurd h (by decide)|(intro _;(simp only [objAt_app0, objAt_zero])))) ?_|(refine GoR.splitG rfl (fun hc => ?_) (fun hc => ?_) <;> simp only [hc])|refine Go.condB rfl (fun hc => ?_) (fun hc => ?_))
    all_goals first
      | (skip
         refine ⟨(by first | exact .inl rfl | exact .inr rfl), fin ?_⟩
         rw [resD_tmp (fn := Tryz.f87) rfl]
         simp only [optThen_some,resultD_tmp,resultD_cell,G,Z,Y,Gx,un_neg,cutD,decide_true,decide_false,simprocAttr,fb2,fb3,fb9,fb78,fb80]
         refine ⟨_, _, rfl, .int, ?_⟩
         simp only [decide_eq_true_eq, decide_eq_false_iff_not] at hb1 hb3 hb4
         simp [hb1, hb3, hb4]
         done)
      | skip
    all_goals
      rw [if_neg (by
        rintro ⟨h, h'⟩
        first
          | (have := decide_eq_true h; rw [hb1] at this; cases this; done)
          | (cases h'; done)
          | (rw [hb2] at h'; cases h'; done)), if_neg (by
        rintro ⟨h, h'⟩
        first
          | (have := decide_eq_true h; rw [hb3] at this; cases this; done)
          | (have := decide_eq_true h'; rw [hb4] at this; cases this; done))]
      clear hb1 hb2 hb3 hb4
      refine Go.keep [(1, .ptr S.length 0), (3, .int .i64 ((0 : Nat) : Int))] (.cons .refl (.cons .refl (.nil))) ?_
      refine Go.while (α := Nat) (fun i => ks.length - i) (fun i => [(1, .ptr S.length 0), (3, .int .i64 (i : Int))]) (fun _ => S ++ [.obj [.str op, .str nm, .int .i64 n, .sl none 4 ks.length (ndsC ks)]]) (fun i => i ≤ ks.length ∧ ∀ j (h : j < ks.length), j < i → checkS ks[j] = 0) ?_ 0 ⟨Nat.zero_le _, by simp⟩
      rintro i ⟨hi, hf⟩ next
      by_cases h1 : i < ks.length
      · have ihk := ih _ (List.getElem_mem h1) (hk _ (List.getElem_mem h1))
        by_cases he : checkS ks[i] = 0
        · rw [he] at ihk
          repeat' (first|refine Go.a rfl ?_|refine Go.rg ?_|refine GoR.nil ?_|refine Go.ret ?_|refine Go.b rfl ?_|refine Go.rgS dmx (by decide) ?_|refine Go.rgD [4] (fun _ => True) dmx (by decide) 8 (by decide) (by trivial) ?_|refine GoW.nil rfl ?_|((first|refine GoR.o (by rfl) (by rfl) ?_|refine GoW.o (by rfl) (by rfl) ?_|refine GoW.rd (by rfl) (by rfl) ?_);(conv => arg 1;simp only [G,Z,Y,Gx,un_neg,cutD,decide_true,decide_false,simprocAttr,fb2,fb3,fb9,fb78,fb80,show decide ((i : Int) < (ks.length : Int)) = true by simp; omega, ndsAt h1, wrap_succ (show i < 4611686018427387904 by omega)]);first|show GoR ..|(show _ ∧ GoW ..;refine ⟨by exact fun _ => trivial,?_⟩)|(show _ ∧ _ ∧ _ ∧ GoW ..;refine ⟨rfl,by trivial,(fun H _=>by simp only [G,Z,Y,Gx,un_neg,cutD,decide_true,decide_false,simprocAttr,fb2,fb3,fb9,fb78,fb80,show decide ((i : Int) < (ks.length : Int)) = true by simp; omega, ndsAt h1, wrap_succ (show i < 4611686018427387904 by omega)]),?_⟩))|(refine GoW.c c87 (by rfl) (by rfl) rfl ?_;(refine (ihk _).ret ?_);refine ⟨by exact fun _ => trivial,?_⟩)|(refine GoR.c c87 (by rfl) (by rfl) rfl ?_;(refine (ihk _).ret ?_))|refine GoR.s (by rfl) rfl rfl ?_|refine GoW.s (by rfl) rfl rfl (by exact fun _ => trivial) ?_|(refine GoR.splitG rfl (fun hc => ?_) (fun hc => ?_) <;> simp only [hc])|refine Go.condB rfl (fun hc => ?_) (fun hc => ?_))
          refine Go.lpN ?_
          refine Go.keep [(1, .ptr S.length 0), (3, .int .i64 ((i + 1 : Nat) : Int))] (.cons .refl (.cons .refl (.nil))) ?_
          refine next (i + 1) (by omega) ⟨h1, fun j hj hlt => ?_⟩
          rcases Nat.lt_or_ge j i with h | h
          · exact hf j hj h
          · obtain rfl : j = i := by omega
            exact he
        · clear next
          repeat' (first|refine Go.a rfl ?_|refine Go.rg ?_|refine GoR.nil ?_|refine Go.ret ?_|refine Go.b rfl ?_|refine Go.rgS dmx (by decide) ?_|refine Go.rgD [4] (fun _ => True) dmx (by decide) 8 (by decide) (by trivial) ?_|refine GoW.nil rfl ?_|((first|refine GoR.o (by rfl) (by rfl) ?_|refine GoW.o (by rfl) (by rfl) ?_|refine GoW.rd (by rfl) (by rfl) ?_);(conv => arg 1;simp only [G,Z,Y,Gx,un_neg,cutD,decide_true,decide_false,simprocAttr,fb2,fb3,fb9,fb78,fb80,show decide ((i : Int) < (ks.length : Int)) = true by simp; omega, ndsAt h1, show (checkS ks[i] != 0) = true by simpa using he, show (checkS ks[i] == 0) = false by simpa using he]);first|show GoR ..|(show _ ∧ GoW ..;refine ⟨by exact fun _ => trivial,?_⟩)|(show _ ∧ _ ∧ _ ∧ GoW ..;refine ⟨rfl,by trivial,(fun H _=>by simp only [G,Z,Y,Gx,un_neg,cutD,decide_true,decide_false,simprocAttr,fb2,fb3,fb9,fb78,fb80,show decide ((i : Int) < (ks.length : Int)) = true by simp; omega, ndsAt h1, show (checkS ks[i] != 0) = true by simpa using he, show (checkS ks[i] == 0) = false by simpa using he]),?_⟩))|(refine GoW.c c87 (by rfl) (by rfl) rfl ?_;(refine (ihk _).ret ?_);refine ⟨by exact fun _ => trivial,?_⟩)|(refine GoR.c c87 (by rfl) (by rfl) rfl ?_;(refine (ihk _).ret ?_))|refine GoR.s (by rfl) rfl rfl ?_|refine GoW.s (by rfl) rfl rfl (by exact fun _ => trivial) ?_|(refine GoR.splitG rfl (fun hc => ?_) (fun hc => ?_) <;> simp only [hc])|refine Go.condB rfl (fun hc => ?_) (fun hc => ?_))
          refine ⟨(by first | exact .inl rfl | exact .inr rfl), fin ?_⟩
          rw [resD_tmp (fn := Tryz.f87) rfl]
          simp only [optThen_some,resultD_tmp,resultD_cell,G,Z,Y,Gx,un_neg,cutD,decide_true,decide_false,simprocAttr,fb2,fb3,fb9,fb78,fb80]
          refine ⟨_, _, rfl, .int, ?_⟩
          rw [firstE_at (l := ks.map checkS) (i := i) (by simpa using h1) (fun j hj hlt => by simpa using hf j (by simpa using hj) hlt) (by simpa using he)]
          simp
      · clear next
        repeat' (first|refine Go.a rfl ?_|refine Go.rg ?_|refine GoR.nil ?_|refine Go.ret ?_|refine Go.b rfl ?_|refine Go.rgS dmx (by decide) ?_|refine Go.rgD [4] (fun _ => True) dmx (by decide) 8 (by decide) (by trivial) ?_|refine GoW.nil rfl ?_|((first|refine GoR.o (by rfl) (by rfl) ?_|refine GoW.o (by rfl) (by rfl) ?_|refine GoW.rd (by rfl) (by rfl) ?_);(conv => arg 1;simp only [G,Z,Y,Gx,un_neg,cutD,decide_true,decide_false,simprocAttr,fb2,fb3,fb9,fb78,fb80,show decide ((i : Int) < (ks.length : Int)) = false by simp; omega]);first|show GoR ..|(show _ ∧ GoW ..;refine ⟨by exact fun _ => trivial,?_⟩)|(show _ ∧ _ ∧ _ ∧ GoW ..;refine ⟨rfl,by trivial,(fun H _=>by simp only [G,Z,Y,Gx,un_neg,cutD,decide_true,decide_false,simprocAttr,fb2,fb3,fb9,fb78,fb80,show decide ((i : Int) < (ks.length : Int)) = false by simp; omega]),?_⟩))|refine GoR.s (by rfl) rfl rfl ?_|refine GoW.s (by rfl) rfl rfl (by exact fun _ => trivial) ?_|(refine GoR.splitG rfl (fun hc => ?_) (fun hc => ?_) <;> simp only [hc])|refine Go.condB rfl (fun hc => ?_) (fun hc => ?_))
        refine ⟨(by first | exact .inl rfl | exact .inr rfl), fin ?_⟩
        rw [resD_tmp (fn := Tryz.f87) rfl]
        simp only [optThen_some,resultD_tmp,resultD_cell,G,Z,Y,Gx,un_neg,cutD,decide_true,decide_false,simprocAttr,fb2,fb3,fb9,fb78,fb80]
        refine ⟨_, _, rfl, .int, ?_⟩
        rw [firstE_all]
        intro x hx
        obtain ⟨y, hy, rfl⟩ := List.mem_map.1 hx
        obtain ⟨j, hj, rfl⟩ := List.mem_iff_getElem.1 hy
        exact hf j hj (by omega)

set_option maxHeartbeats 4000000 in
theorem exprWrong (n : Nd) (hs : Slim 100 n) : ∀ (S : Mem), CallD Tryz.prog orc 96 [.agg n.c] S fun d S' => S' = S ∧ d = .int .i64 (checkS n) := by
  induction n using Nd.ind with
  | h op nm n ks ih =>
    intro S
    obtain ⟨hnm, hl, hk⟩ := hs
    rw [Nd.c_mk, checkS_mk]
    by_cases har : arity op = ks.length
    rotate_left
    · have hb : (arity op != (ks.length : Int)) = true := by simpa using har
      rw [if_pos har]
      refine CallD.e Tryz.func96 rfl Tryz.ntmps96 (by rfl) ?_
      repeat' (first|refine Go.a rfl ?_|refine Go.rg ?_|refine GoR.nil ?_|refine Go.ret ?_|refine Go.b rfl ?_|refine Go.rgS dmx (by decide) ?_|refine Go.rgD [4] (fun H => objAt H S.length = some [.str op, .str nm, .int .i64 n, .sl none 4 ks.length (ndsC ks)]) dmx (by decide) 8 (by decide) (by (simp only [objAt_app0, objAt_zero])) ?_|refine GoW.nil rfl ?_|((first|refine GoR.o (by rfl) (by rfl) ?_|refine GoW.o (by rfl) (by rfl) ?_|refine GoW.rd (by rfl) (by rfl) ?_);(conv => arg 1;simp only [G,Z,Y,Gx,un_neg,cutD,decide_true,decide_false,simprocAttr,fb2,fb3,fb9,fb35,fb73,fb75,hb]);first|show GoR ..|(show _ ∧ GoW ..;refine ⟨by (first|exact fun h => absurd h (by decide)|(intro _;(simp only [objAt_app0, objAt_zero]))),?_⟩)|(show _ ∧ _ ∧ _ ∧ GoW ..;refine ⟨rfl,by (simp only [objAt_app0, objAt_zero]),(fun H hI=>by (try dsimp only at hI);simp only [G,Z,Y,Gx,un_neg,cutD,decide_true,decide_false,simprocAttr,fb2,fb3,fb9,fb35,fb73,fb75,hb,hI]),?_⟩))|(refine GoW.c c137 (by rfl) (by rfl) rfl ?_;(refine (exprKids _ _).ret ?_);refine ⟨by (first|exact fun h => absurd h (by decide)|(intro _;(simp only [objAt_app0, objAt_zero]))),?_⟩)|(refine GoR.c c137 (by rfl) (by rfl) rfl ?_;(refine (exprKids _ _).ret ?_))|refine GoR.s (by rfl) rfl rfl ?_|refine GoW.s (by rfl) rfl rfl (by (first|exact fun h => absurd h (by decide)|(intro _;(simp only [objAt_app0, objAt_zero])))) ?_|(refine GoR.splitG rfl (fun hc => ?_) (fun hc => ?_) <;> simp only [hc])|refine Go.condB rfl (fun hc => ?_) (fun hc => ?_))
      refine ⟨(by first | exact .inl rfl | exact .inr rfl), fin ?_⟩
      rw [resD_tmp (fn := Tryz.f96) rfl]
      simp only [optThen_some,resultD_tmp,resultD_cell,G,Z,Y,Gx,un_neg,cutD,decide_true,decide_false,simprocAttr,fb2,fb3,fb9,fb35,fb73,fb75]
      exact ⟨_, _, rfl, .int, rfl⟩
    rw [if_neg (fun h => h har)]
    cases hb1 : decide (op = (⟨#[110, 97, 109, 101]⟩ : ByteArray)) <;> cases hb2 : nameOk nm <;> cases hb3 : decide (op = (⟨#[110, 117, 109]⟩ : ByteArray)) <;> cases hb4 : decide (n < 0)
    all_goals first
      | (exfalso; have h1 := of_decide_eq_true hb1; have h3 := of_decide_eq_true hb3; rw [h1] at h3; exact absurd h3 (by decide))
      | skip
    all_goals
      refine CallD.e Tryz.func96 rfl Tryz.ntmps96 (by rfl) ?_
      repeat' (first|refine Go.a rfl ?_|refine Go.rg ?_|refine GoR.nil ?_|refine Go.ret ?_|refine Go.b rfl ?_|refine Go.rgS dmx (by decide) ?_|refine Go.rgD [4] (fun H => objAt H S.length = some [.str op, .str nm, .int .i64 n, .sl none 4 ks.length (ndsC ks)]) dmx (by decide) 8 (by decide) (by (simp only [objAt_app0, objAt_zero])) ?_|refine GoW.nil rfl ?_|((first|refine GoR.o (by rfl) (by rfl) ?_|refine GoW.o (by rfl) (by rfl) ?_|refine GoW.rd (by rfl) (by rfl) ?_);(conv => arg 1;simp only [G,Z,Y,Gx,un_neg,cutD,decide_true,decide_false,simprocAttr,fb2,fb3,fb9,fb35,fb73,fb75,har, hb1, hb2, hb3, hb4, bne_self_eq_false, Bool.not_true, Bool.not_false]);first|show GoR ..|(show _ ∧ GoW ..;refine ⟨by (first|exact fun h => absurd h (by decide)|(intro _;(simp only [objAt_app0, objAt_zero]))),?_⟩)|(show _ ∧ _ ∧ _ ∧ GoW ..;refine ⟨rfl,by (simp only [objAt_app0, objAt_zero]),(fun H hI=>by (try dsimp only at hI);simp only [G,Z,Y,Gx,un_neg,cutD,decide_true,decide_false,simprocAttr,fb2,fb3,fb9,fb35,fb73,fb75,har, hb1, hb2, hb3, hb4, bne_self_eq_false, Bool.not_true, Bool.not_false,hI]),?_⟩))|(refine GoW.c c137 (by rfl) (by rfl) rfl ?_;(refine (exprKids _ _).ret ?_);refine ⟨by (first|exact fun h => absurd h (by decide)|(intro _;(simp only [objAt_app0, objAt_zero]))),?_⟩)|(refine GoR.c c137 (by rfl) (by rfl) rfl ?_;(refine (exprKids _ _).ret ?_))|(refine GoW.c c33 (by rfl) (by rfl) rfl ?_;(refine (rowName _ (by omega) _).ret ?_);refine ⟨by (first|exact fun h => absurd h (by decide)|(intro _;(simp only [objAt_app0, objAt_zero]))),?_⟩)|(refine GoR.c c33 (by rfl) (by rfl) rfl ?_;(refine (rowName _ (by omega) _).ret ?_))|refine GoR.s (by rfl) rfl rfl ?_|refine GoW.s (by rfl) rfl rfl (by (first|exact fun h => absurd h (by decide)|(intro _;(simp only [objAt_app0, objAt_zero])))) ?_|(refine GoR.splitG rfl (fun hc => ?_) (fun hc => ?_) <;> simp only [hc])|refine Go.condB rfl (fun hc => ?_) (fun hc => ?_))
    all_goals first
      | (skip
         refine ⟨(by first | exact .inl rfl | exact .inr rfl), fin ?_⟩
         rw [resD_tmp (fn := Tryz.f96) rfl]
         simp only [optThen_some,resultD_tmp,resultD_cell,G,Z,Y,Gx,un_neg,cutD,decide_true,decide_false,simprocAttr,fb2,fb3,fb9,fb35,fb73,fb75]
         refine ⟨_, _, rfl, .int, ?_⟩
         simp only [decide_eq_true_eq, decide_eq_false_iff_not] at hb1 hb3 hb4
         simp [hb1, hb3, hb4]
         done)
      | skip
    all_goals
      rw [if_neg (by
        rintro ⟨h, h'⟩
        first
          | (have := decide_eq_true h; rw [hb1] at this; cases this; done)
          | (cases h'; done)
          | (rw [hb2] at h'; cases h'; done)), if_neg (by
        rintro ⟨h, h'⟩
        first
          | (have := decide_eq_true h; rw [hb3] at this; cases this; done)
          | (have := decide_eq_true h'; rw [hb4] at this; cases this; done))]
      clear hb1 hb2 hb3 hb4
      refine Go.keep [(1, .ptr S.length 0), (34, .sl none 4 ks.length (ndsC ks)), (35, .int .i64 (ks.length : Int)), (36, .int .i64 ((0 : Nat) : Int))] (.cons .refl (.cons .refl (.cons .refl (.cons .refl (.nil))))) ?_
      refine Go.while (α := Nat × Mem) (fun a => ks.length - a.1) (fun a => [(1, .ptr S.length 0), (34, .sl none 4 ks.length (ndsC ks)), (35, .int .i64 (ks.length : Int)), (36, .int .i64 (a.1 : Int))]) (fun a => S ++ (.obj [.str op, .str nm, .int .i64 n, .sl none 4 ks.length (ndsC ks)] :: a.2)) (fun a => a.1 ≤ ks.length ∧ ∀ j (h : j < ks.length), j < a.1 → checkS ks[j] = 0) ?_ (0, []) ⟨Nat.zero_le _, by simp⟩
      rintro ⟨i, E⟩ ⟨hi, hf⟩ next
      dsimp only at hi hf next
      by_cases h1 : i < ks.length
      · have ihk := ih _ (List.getElem_mem h1) (hk _ (List.getElem_mem h1))
        by_cases he : checkS ks[i] = 0
        · rw [he] at ihk
          cases hq : ks[i] with
          | mk kop knm kn kks =>
          rw [hq] at ihk he
          rw [Nd.c_mk] at ihk
          repeat' (first|refine Go.a rfl ?_|refine Go.rg ?_|refine GoR.nil ?_|refine Go.ret ?_|refine Go.b rfl ?_|refine Go.rgS dmx (by decide) ?_|refine Go.rgD [4] (fun _ => True) dmx (by decide) 8 (by decide) (by trivial) ?_|refine GoW.nil rfl ?_|((first|refine GoR.o (by rfl) (by rfl) ?_|refine GoW.o (by rfl) (by rfl) ?_|refine GoW.rd (by rfl) (by rfl) ?_);(conv => arg 1;simp only [G,Z,Y,Gx,un_neg,cutD,decide_true,decide_false,simprocAttr,fb2,fb3,fb9,fb35,fb73,fb75,show decide ((i : Int) < (ks.length : Int)) = true by simp; omega, ndsAt h1, hq, Nd.c_mk, wrap_succ (show i < 4611686018427387904 by omega)]);first|show GoR ..|(show _ ∧ GoW ..;refine ⟨by exact fun _ => trivial,?_⟩)|(show _ ∧ _ ∧ _ ∧ GoW ..;refine ⟨rfl,by trivial,(fun H _=>by simp only [G,Z,Y,Gx,un_neg,cutD,decide_true,decide_false,simprocAttr,fb2,fb3,fb9,fb35,fb73,fb75,show decide ((i : Int) < (ks.length : Int)) = true by simp; omega, ndsAt h1, hq, Nd.c_mk, wrap_succ (show i < 4611686018427387904 by omega)]),?_⟩))|(refine GoW.c c96 (by rfl) (by rfl) rfl ?_;(refine (ihk _).ret ?_);refine ⟨by exact fun _ => trivial,?_⟩)|(refine GoR.c c96 (by rfl) (by rfl) rfl ?_;(refine (ihk _).ret ?_))|refine GoR.s (by rfl) rfl rfl ?_|refine GoW.s (by rfl) rfl rfl (by exact fun _ => trivial) ?_|(refine GoR.splitG rfl (fun hc => ?_) (fun hc => ?_) <;> simp only [hc])|refine Go.condB rfl (fun hc => ?_) (fun hc => ?_))
          refine Go.lpN ?_
          refine Go.keep [(1, .ptr S.length 0), (34, .sl none 4 ks.length (ndsC ks)), (35, .int .i64 (ks.length : Int)), (36, .int .i64 ((i + 1 : Nat) : Int))] (.cons .refl (.cons .refl (.cons .refl (.cons .refl (.nil))))) ?_
          refine next (i + 1, _) (by dsimp only; omega) ⟨h1, fun j hj hlt => ?_⟩
          dsimp only at hlt
          rcases Nat.lt_or_ge j i with h | h
          · exact hf j hj h
          · obtain rfl : j = i := by omega
            rw [hq]; exact he
        · clear next
          have hfirst := firstE_at (l := ks.map checkS) (i := i) (by simpa using h1) (fun j hj hlt => by simpa using hf j (by simpa using hj) hlt) (by simpa using he)
          simp only [List.getElem_map] at hfirst
          cases hq : ks[i] with
          | mk kop knm kn kks =>
          rw [hq] at ihk he hfirst
          rw [Nd.c_mk] at ihk
          repeat' (first|refine Go.a rfl ?_|refine Go.rg ?_|refine GoR.nil ?_|refine Go.ret ?_|refine Go.b rfl ?_|refine Go.rgS dmx (by decide) ?_|refine Go.rgD [4] (fun _ => True) dmx (by decide) 8 (by decide) (by trivial) ?_|refine GoW.nil rfl ?_|((first|refine GoR.o (by rfl) (by rfl) ?_|refine GoW.o (by rfl) (by rfl) ?_|refine GoW.rd (by rfl) (by rfl) ?_);(conv => arg 1;simp only [G,Z,Y,Gx,un_neg,cutD,decide_true,decide_false,simprocAttr,fb2,fb3,fb9,fb35,fb73,fb75,show decide ((i : Int) < (ks.length : Int)) = true by simp; omega, ndsAt h1, hq, Nd.c_mk, show (checkS (.mk kop knm kn kks) != 0) = true by simpa using he, show (checkS (.mk kop knm kn kks) == 0) = false by simpa using he]);first|show GoR ..|(show _ ∧ GoW ..;refine ⟨by exact fun _ => trivial,?_⟩)|(show _ ∧ _ ∧ _ ∧ GoW ..;refine ⟨rfl,by trivial,(fun H _=>by simp only [G,Z,Y,Gx,un_neg,cutD,decide_true,decide_false,simprocAttr,fb2,fb3,fb9,fb35,fb73,fb75,show decide ((i : Int) < (ks.length : Int)) = true by simp; omega, ndsAt h1, hq, Nd.c_mk, show (checkS (.mk kop knm kn kks) != 0) = true by simpa using he, show (checkS (.mk kop knm kn kks) == 0) = false by simpa using he]),?_⟩))|(refine GoW.c c96 (by rfl) (by rfl) rfl ?_;(refine (ihk _).ret ?_);refine ⟨by exact fun _ => trivial,?_⟩)|(refine GoR.c c96 (by rfl) (by rfl) rfl ?_;(refine (ihk _).ret ?_))|refine GoR.s (by rfl) rfl rfl ?_|refine GoW.s (by rfl) rfl rfl (by exact fun _ => trivial) ?_|(refine GoR.splitG rfl (fun hc => ?_) (fun hc => ?_) <;> simp only [hc])|refine Go.condB rfl (fun hc => ?_) (fun hc => ?_))
          refine ⟨(by first | exact .inl rfl | exact .inr rfl), fin ?_⟩
          rw [resD_tmp (fn := Tryz.f96) rfl]
          simp only [optThen_some,resultD_tmp,resultD_cell,G,Z,Y,Gx,un_neg,cutD,decide_true,decide_false,simprocAttr,fb2,fb3,fb9,fb35,fb73,fb75]
          refine ⟨_, _, rfl, .int, ?_⟩
          rw [hfirst]
      · clear next
        repeat' (first|refine Go.a rfl ?_|refine Go.rg ?_|refine GoR.nil ?_|refine Go.ret ?_|refine Go.b rfl ?_|refine Go.rgS dmx (by decide) ?_|refine Go.rgD [4] (fun _ => True) dmx (by decide) 8 (by decide) (by trivial) ?_|refine GoW.nil rfl ?_|((first|refine GoR.o (by rfl) (by rfl) ?_|refine GoW.o (by rfl) (by rfl) ?_|refine GoW.rd (by rfl) (by rfl) ?_);(conv => arg 1;simp only [G,Z,Y,Gx,un_neg,cutD,decide_true,decide_false,simprocAttr,fb2,fb3,fb9,fb35,fb73,fb75,show decide ((i : Int) < (ks.length : Int)) = false by simp; omega]);first|show GoR ..|(show _ ∧ GoW ..;refine ⟨by exact fun _ => trivial,?_⟩)|(show _ ∧ _ ∧ _ ∧ GoW ..;refine ⟨rfl,by trivial,(fun H _=>by simp only [G,Z,Y,Gx,un_neg,cutD,decide_true,decide_false,simprocAttr,fb2,fb3,fb9,fb35,fb73,fb75,show decide ((i : Int) < (ks.length : Int)) = false by simp; omega]),?_⟩))|refine GoR.s (by rfl) rfl rfl ?_|refine GoW.s (by rfl) rfl rfl (by exact fun _ => trivial) ?_|(refine GoR.splitG rfl (fun hc => ?_) (fun hc => ?_) <;> simp only [hc])|refine Go.condB rfl (fun hc => ?_) (fun hc => ?_))
        refine ⟨(by first | exact .inl rfl | exact .inr rfl), fin ?_⟩
        rw [resD_tmp (fn := Tryz.f96) rfl]
        simp only [optThen_some,resultD_tmp,resultD_cell,G,Z,Y,Gx,un_neg,cutD,decide_true,decide_false,simprocAttr,fb2,fb3,fb9,fb35,fb73,fb75]
        refine ⟨_, _, rfl, .int, ?_⟩
        rw [firstE_all]
        intro x hx
        obtain ⟨y, hy, rfl⟩ := List.mem_map.1 hx
        obtain ⟨j, hj, rfl⟩ := List.mem_iff_getElem.1 hy
        exact hf j hj (by omega)

theorem refCheckN (n : Nd) (hs : Slim 100 n) (S : Mem) : CallD Tryz.prog orc 40 [.agg n.c] S fun d S' => S' = S ∧ d = .int .i64 (checkN n) := by
  have hcount := fun S => countX (orc := orc) n 32 (by omega) (by omega) S
  have hcheck := fun S => refCheckS (orc := orc) n hs S
  unfold checkN
  obtain ⟨op, nm, n, ks⟩ := n
  rw [Nd.c_mk] at hcount hcheck ⊢
  refine CallD.e Tryz.func40 rfl Tryz.ntmps40 (by rfl) ?_
  repeat' (first|refine Go.a rfl ?_|refine Go.rg ?_|refine GoR.nil ?_|refine Go.ret ?_|refine Go.b rfl ?_|(refine GoR.o (by rfl) (by rfl) ?_;(conv => arg 1;simp only [G,Z,Y,Gx,un_neg,cutD,decide_true,decide_false,simprocAttr,fb2,fb3,fb9,fb78,fb80]);show GoR ..)|(refine GoR.c c86 (by rfl) (by rfl) rfl ?_;(refine (hcount _).retE ?_; rintro _ ⟨r, rfl, h1⟩; unfold CntR at h1))|(refine GoR.c c87 (by rfl) (by rfl) rfl ?_;(refine (hcheck _).ret ?_))|refine Go.condB rfl (fun hc => ?_) (fun hc => ?_))
  · refine ⟨(by first | exact .inl rfl | exact .inr rfl), fin ?_⟩
    rw [resD_tmp (fn := Tryz.f40) rfl]
    simp only [optThen_some,resultD_tmp,resultD_cell,G,Z,Y,Gx,un_neg,cutD,decide_true,decide_false,simprocAttr,fb2,fb3,fb9,fb78,fb80]
    refine ⟨_, _, rfl, .int, ?_⟩
    have : r < 0 := by simpa using hc
    rw [if_pos (by omega)]
  · refine ⟨(by first | exact .inl rfl | exact .inr rfl), fin ?_⟩
    rw [resD_tmp (fn := Tryz.f40) rfl]
    simp only [optThen_some,resultD_tmp,resultD_cell,G,Z,Y,Gx,un_neg,cutD,decide_true,decide_false,simprocAttr,fb2,fb3,fb9,fb78,fb80]
    refine ⟨_, _, rfl, .int, ?_⟩
    have : ¬ r < 0 := by simpa using hc
    rw [if_neg (by omega)]
theorem exprCheck (n : Nd) (hs : Slim 100 n) (S : Mem) : CallD Tryz.prog orc 48 [.agg n.c] S fun d S' => S' = S ∧ d = .int .i64 (checkN n) := by
  have hcount := fun S => sizeX (orc := orc) n 32 (by omega) (by omega) S
  have hcheck := fun S => exprWrong (orc := orc) n hs S
  unfold checkN
  obtain ⟨op, nm, n, ks⟩ := n
  rw [Nd.c_mk] at hcount hcheck ⊢
  refine CallD.e Tryz.func48 rfl Tryz.ntmps48 (by rfl) ?_
  repeat' (first|refine Go.a rfl ?_|refine Go.rg ?_|refine GoR.nil ?_|refine Go.ret ?_|refine Go.b rfl ?_|(refine GoR.o (by rfl) (by rfl) ?_;(conv => arg 1;simp only [G,Z,Y,Gx,un_neg,cutD,decide_true,decide_false,simprocAttr,fb2,fb3,fb9,fb73,fb75]);show GoR ..)|(refine GoR.c c95 (by rfl) (by rfl) rfl ?_;(refine (hcount _).retE ?_; rintro _ ⟨r, rfl, h1⟩; unfold SizR at h1))|(refine GoR.c c96 (by rfl) (by rfl) rfl ?_;(refine (hcheck _).ret ?_))|refine Go.condB rfl (fun hc => ?_) (fun hc => ?_))
  · refine ⟨(by first | exact .inl rfl | exact .inr rfl), fin ?_⟩
    rw [resD_tmp (fn := Tryz.f48) rfl]
    simp only [optThen_some,resultD_tmp,resultD_cell,G,Z,Y,Gx,un_neg,cutD,decide_true,decide_false,simprocAttr,fb2,fb3,fb9,fb73,fb75]
    refine ⟨_, _, rfl, .int, ?_⟩
    have : 32 < r := by simpa using hc
    rw [if_pos (by omega)]
  · refine ⟨(by first | exact .inl rfl | exact .inr rfl), fin ?_⟩
    rw [resD_tmp (fn := Tryz.f48) rfl]
    simp only [optThen_some,resultD_tmp,resultD_cell,G,Z,Y,Gx,un_neg,cutD,decide_true,decide_false,simprocAttr,fb2,fb3,fb9,fb73,fb75]
    refine ⟨_, _, rfl, .int, ?_⟩
    have : ¬ 32 < r := by simpa using hc
    rw [if_neg (by omega)]
end Go.Proofs.DeT
