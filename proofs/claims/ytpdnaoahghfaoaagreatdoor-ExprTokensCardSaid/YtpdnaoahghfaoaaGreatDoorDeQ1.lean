/- Any text as an expression: the law. Any token on: the law. -/
import Derived.Test.YtpdnaoahghfaoaaGreatDoorDeK4
set_option linter.unusedSimpArgs false
set_option linter.unusedVariables false
namespace Go.Proofs.DeT
open Go Go.DM
set_option maxRecDepth 100000

theorem lawTexts (s : ByteArray) (S : Mem) : CallD Tryz.prog O 6 [.str s] S fun d S' => S' = S ∧ d = .bool true := by
  by_cases hs : 1100 < s.size
  · refine CallD.e Tryz.func6 rfl Tryz.ntmps6 (by rfl) ?_
    repeat' (first|refine Go.a rfl ?_|refine Go.rg ?_|refine GoR.nil ?_|refine Go.ret ?_|refine Go.b rfl ?_|refine Go.rgS dmx (by decide) ?_|refine Go.rgD [10] (fun _ => True) dmx (by decide) 11 (by decide) (by trivial) ?_|refine GoW.nil rfl ?_|((first|refine GoR.o (by rfl) (by rfl) ?_|refine GoW.o (by rfl) (by rfl) ?_|refine GoW.rd (by rfl) (by rfl) ?_);(conv => arg 1;simp only [G,Z,Y,Gx,un_neg,cutD,decide_true,decide_false,simprocAttr,fb2,fb3,fb9,fb73,fb75,fb78,fb80,show decide ((s.size : Int) > 1100) = true by simp; omega, show decide ((1100 : Int) < (s.size : Int)) = true by simp; omega, Bool.not_true]);first|show GoR ..|(show _ ∧ GoW ..;refine ⟨by exact fun _ => trivial,?_⟩)|(show _ ∧ _ ∧ _ ∧ GoW ..;refine ⟨rfl,by trivial,(fun H _=>by simp only [G,Z,Y,Gx,un_neg,cutD,decide_true,decide_false,simprocAttr,fb2,fb3,fb9,fb73,fb75,fb78,fb80,show decide ((s.size : Int) > 1100) = true by simp; omega, show decide ((1100 : Int) < (s.size : Int)) = true by simp; omega, Bool.not_true]),?_⟩))|(refine GoW.c c37 (by rfl) (by rfl) rfl ?_;(refine (known _).ret ?_);refine ⟨by exact fun _ => trivial,?_⟩)|(refine GoR.c c37 (by rfl) (by rfl) rfl ?_;(refine (known _).ret ?_))|refine GoR.s (by rfl) rfl rfl ?_|refine GoW.s (by rfl) rfl rfl (by exact fun _ => trivial) ?_|(refine GoR.splitG rfl (fun hc => ?_) (fun hc => ?_) <;> simp only [hc])|refine Go.condB rfl (fun hc => ?_) (fun hc => ?_))
    refine ⟨(by first | exact .inl rfl | exact .inr rfl), fin ?_⟩
    rw [resD_tmp (fn := Tryz.f6) rfl]
    simp only [optThen_some,resultD_tmp,resultD_cell,G,Z,Y,Gx,un_neg,cutD,decide_true,decide_false,simprocAttr,fb2,fb3,fb9,fb73,fb75,fb78,fb80]
    exact ⟨_, [], by simp, .bool, rfl⟩
  have g1 : decide ((s.size : Int) > 1100) = false := by simp; omega
  have g2 : decide ((1100 : Int) < (s.size : Int)) = false := by simp; omega
  have h1 := fun S => parse s (by omega) S
  have h2 := fun S => parseR s (by omega) S
  have hw := parse_whole (s := s)
  generalize parseF s = x at *
  obtain ⟨n, a, e⟩ := x
  dsimp only [resC] at h1 h2 hw
  by_cases he : e = 0
  · subst he
    obtain ⟨hw, hc⟩ := hw rfl
    have hsl := whole_slim _ hw
    have hof := fun S => of9 (orc := O) n hsl S
    have hck := fun S => refCheckN (orc := O) n hsl S
    have hsm := fun S => refSame (orc := O) n hsl n S
    rw [whole_checkN hw hc] at hck
    rw [sameS_self] at hsm
    obtain ⟨y1, hy1, hk1⟩ := kidY_of n
    have ho1 := hk1.one
    have hc1 := hk1.cells
    simp only [hy1, ndX] at h1 h2 hof hck hsm
    refine CallD.e Tryz.func6 rfl Tryz.ntmps6 (by rfl) ?_
    repeat' (first|refine Go.a rfl ?_|refine Go.rg ?_|refine GoR.nil ?_|refine Go.ret ?_|refine Go.b rfl ?_|refine Go.rgS dmx (by decide) ?_|refine Go.rgD [10] (fun H => objAt H S.length = some [.str n.op, .str n.name, .int .i64 n.n, y1] ∧ objAt H (S.length + 1) = some [.str n.op, .str n.name, .int .i64 n.n, y1]) dmx (by decide) 11 (by decide) (by (simp only [List.append_assoc, List.cons_append, List.nil_append, objAt_app, objAt_app0, objAt_succ, objAt_zero, and_self])) ?_|refine GoW.nil rfl ?_|((first|refine GoR.o (by rfl) (by rfl) ?_|refine GoW.o (by rfl) (by rfl) ?_|refine GoW.rd (by rfl) (by rfl) ?_);(conv => arg 1;simp only [G,Z,Y,Gx,un_neg,cutD,decide_true,decide_false,simprocAttr,fb2,fb3,fb9,fb73,fb75,fb78,fb80,g1, g2, ho1, hc1, bne_self_eq_false, Bool.not_true]);first|show GoR ..|(show _ ∧ GoW ..;refine ⟨by (first|exact fun h => absurd h (by decide)|(intro _;(simp only [List.append_assoc, List.cons_append, List.nil_append, objAt_app, objAt_app0, objAt_succ, objAt_zero, and_self]))),?_⟩)|(show _ ∧ _ ∧ _ ∧ GoW ..;refine ⟨rfl,by (simp only [List.append_assoc, List.cons_append, List.nil_append, objAt_app, objAt_app0, objAt_succ, objAt_zero, and_self]),(fun H hI=>by (try dsimp only at hI);simp only [G,Z,Y,Gx,un_neg,cutD,decide_true,decide_false,simprocAttr,fb2,fb3,fb9,fb73,fb75,fb78,fb80,g1, g2, ho1, hc1, bne_self_eq_false, Bool.not_true,hI]),?_⟩))|(refine GoW.c c37 (by rfl) (by rfl) rfl ?_;(refine (known _).ret ?_);refine ⟨by (first|exact fun h => absurd h (by decide)|(intro _;(simp only [List.append_assoc, List.cons_append, List.nil_append, objAt_app, objAt_app0, objAt_succ, objAt_zero, and_self]))),?_⟩)|(refine GoR.c c37 (by rfl) (by rfl) rfl ?_;(refine (known _).ret ?_))|(refine GoW.c c38 (by rfl) (by rfl) rfl ?_;(refine (h1 _).ret ?_);refine ⟨by (first|exact fun h => absurd h (by decide)|(intro _;(simp only [List.append_assoc, List.cons_append, List.nil_append, objAt_app, objAt_app0, objAt_succ, objAt_zero, and_self]))),?_⟩)|(refine GoR.c c38 (by rfl) (by rfl) rfl ?_;(refine (h1 _).ret ?_))|(refine GoW.c c39 (by rfl) (by rfl) rfl ?_;(refine (h2 _).ret ?_);refine ⟨by (first|exact fun h => absurd h (by decide)|(intro _;(simp only [List.append_assoc, List.cons_append, List.nil_append, objAt_app, objAt_app0, objAt_succ, objAt_zero, and_self]))),?_⟩)|(refine GoR.c c39 (by rfl) (by rfl) rfl ?_;(refine (h2 _).ret ?_))|(refine GoW.c c41 (by rfl) (by rfl) rfl ?_;(refine (hof _).ret ?_);refine ⟨by (first|exact fun h => absurd h (by decide)|(intro _;(simp only [List.append_assoc, List.cons_append, List.nil_append, objAt_app, objAt_app0, objAt_succ, objAt_zero, and_self]))),?_⟩)|(refine GoR.c c41 (by rfl) (by rfl) rfl ?_;(refine (hof _).ret ?_))|(refine GoW.c c40 (by rfl) (by rfl) rfl ?_;(refine (hck _).ret ?_);refine ⟨by (first|exact fun h => absurd h (by decide)|(intro _;(simp only [List.append_assoc, List.cons_append, List.nil_append, objAt_app, objAt_app0, objAt_succ, objAt_zero, and_self]))),?_⟩)|(refine GoR.c c40 (by rfl) (by rfl) rfl ?_;(refine (hck _).ret ?_))|(refine GoW.c c42 (by rfl) (by rfl) rfl ?_;(refine (hsm _).ret ?_);refine ⟨by (first|exact fun h => absurd h (by decide)|(intro _;(simp only [List.append_assoc, List.cons_append, List.nil_append, objAt_app, objAt_app0, objAt_succ, objAt_zero, and_self]))),?_⟩)|(refine GoR.c c42 (by rfl) (by rfl) rfl ?_;(refine (hsm _).ret ?_))|refine GoR.s (by rfl) rfl rfl ?_|refine GoW.s (by rfl) rfl rfl (by (first|exact fun h => absurd h (by decide)|(intro _;(simp only [List.append_assoc, List.cons_append, List.nil_append, objAt_app, objAt_app0, objAt_succ, objAt_zero, and_self])))) ?_|(refine GoR.splitG rfl (fun hc => ?_) (fun hc => ?_) <;> simp only [hc])|refine Go.condB rfl (fun hc => ?_) (fun hc => ?_))
    refine ⟨(by first | exact .inl rfl | exact .inr rfl), fin ?_⟩
    rw [resD_tmp (fn := Tryz.f6) rfl]
    simp only [optThen_some,resultD_tmp,resultD_cell,G,Z,Y,Gx,un_neg,cutD,decide_true,decide_false,simprocAttr,fb2,fb3,fb9,fb73,fb75,fb78,fb80]
    first | exact ⟨_, _, rfl, .bool, rfl⟩ | exact ⟨_, [], by simp, .bool, rfl⟩
  · clear hw
    obtain ⟨y1, hy1, hk1⟩ := kidY_of n
    have ho1 := hk1.one
    have hc1 := hk1.cells
    simp only [hy1, ndX] at h1 h2
    refine CallD.e Tryz.func6 rfl Tryz.ntmps6 (by rfl) ?_
    repeat' (first|refine Go.a rfl ?_|refine Go.rg ?_|refine GoR.nil ?_|refine Go.ret ?_|refine Go.b rfl ?_|refine Go.rgS dmx (by decide) ?_|refine Go.rgD [10] (fun _ => True) dmx (by decide) 11 (by decide) (by trivial) ?_|refine GoW.nil rfl ?_|((first|refine GoR.o (by rfl) (by rfl) ?_|refine GoW.o (by rfl) (by rfl) ?_|refine GoW.rd (by rfl) (by rfl) ?_);(conv => arg 1;simp only [G,Z,Y,Gx,un_neg,cutD,decide_true,decide_false,simprocAttr,fb2,fb3,fb9,fb73,fb75,fb78,fb80,g1, g2, ho1, hc1, bne_self_eq_false, Bool.not_true, show (e == 0) = false by simpa using he, show (e != 0) = true by simpa using he]);first|show GoR ..|(show _ ∧ GoW ..;refine ⟨by exact fun _ => trivial,?_⟩)|(show _ ∧ _ ∧ _ ∧ GoW ..;refine ⟨rfl,by trivial,(fun H _=>by simp only [G,Z,Y,Gx,un_neg,cutD,decide_true,decide_false,simprocAttr,fb2,fb3,fb9,fb73,fb75,fb78,fb80,g1, g2, ho1, hc1, bne_self_eq_false, Bool.not_true, show (e == 0) = false by simpa using he, show (e != 0) = true by simpa using he]),?_⟩))|(refine GoW.c c37 (by rfl) (by rfl) rfl ?_;(refine (known _).ret ?_);refine ⟨by exact fun _ => trivial,?_⟩)|(refine GoR.c c37 (by rfl) (by rfl) rfl ?_;(refine (known _).ret ?_))|(refine GoW.c c38 (by rfl) (by rfl) rfl ?_;(refine (h1 _).ret ?_);refine ⟨by exact fun _ => trivial,?_⟩)|(refine GoR.c c38 (by rfl) (by rfl) rfl ?_;(refine (h1 _).ret ?_))|(refine GoW.c c39 (by rfl) (by rfl) rfl ?_;(refine (h2 _).ret ?_);refine ⟨by exact fun _ => trivial,?_⟩)|(refine GoR.c c39 (by rfl) (by rfl) rfl ?_;(refine (h2 _).ret ?_))|refine GoR.s (by rfl) rfl rfl ?_|refine GoW.s (by rfl) rfl rfl (by exact fun _ => trivial) ?_|(refine GoR.splitG rfl (fun hc => ?_) (fun hc => ?_) <;> simp only [hc])|refine Go.condB rfl (fun hc => ?_) (fun hc => ?_))
    refine ⟨(by first | exact .inl rfl | exact .inr rfl), fin ?_⟩
    rw [resD_tmp (fn := Tryz.f6) rfl]
    simp only [optThen_some,resultD_tmp,resultD_cell,G,Z,Y,Gx,un_neg,cutD,decide_true,decide_false,simprocAttr,fb2,fb3,fb9,fb73,fb75,fb78,fb80]
    first | exact ⟨_, _, rfl, .bool, rfl⟩ | exact ⟨_, [], by simp, .bool, rfl⟩

theorem toToks (ts : List Tok) (hl : ts.length < 1000000) (S : Mem) {orc : DOracle} : CallD Tryz.prog orc 45 [.sl none 4 ts.length (toksC ts)] S fun d S' => S' = S ∧ d = .sl none 4 ts.length (toksC ts) := by
  refine CallD.e Tryz.func45 rfl Tryz.ntmps45 (by rfl) ?_
  repeat' (first|refine Go.a rfl ?_|refine Go.rg ?_|refine GoR.nil ?_|refine Go.ret ?_|refine Go.b rfl ?_|refine Go.rgS dmx (by decide) ?_|(refine GoR.o (by rfl) (by rfl) ?_;(conv => arg 1;simp only [G,Z,Y,Gx,un_neg,cutD,decide_true,decide_false,simprocAttr,fb2,fb3,fb9,fb86,fb90,fb138,fb148]);show GoR ..)|refine Go.condB rfl (fun hc => ?_) (fun hc => ?_))
  refine Go.keep [(0, .sl none 4 ts.length (toksC ts)), (3, .nils), (4, .int .i64 ((0 : Nat) : Int))] (.cons .refl (.cons .refl (.cons .refl (.nil)))) ?_
  refine Go.while (α := Nat × D × Mem) (fun a => ts.length - a.1) (fun a => [(0, .sl none 4 ts.length (toksC ts)), (3, a.2.1), (4, .int .i64 (a.1 : Int))]) (fun a => a.2.2)
    (fun a => a.1 ≤ ts.length ∧ AccD S.length a.2.1 4 a.1 (toksC (ts.take a.1)) a.2.2 ∧ Grown S.length S a.2.2) ?_ (0, .nils, S) ⟨Nat.zero_le _, .inl ⟨rfl, rfl, rfl⟩, .refl⟩
  rintro ⟨i, o, S1⟩ ⟨hi, hacc, hg⟩ next
  dsimp only at hi hacc hg next
  by_cases h1 : i < ts.length
  · obtain ⟨o', S2, hap, hacc2, hg2⟩ := (hacc.app [.own]).append (P := Tryz.prog) del90 (own := some S1.length) (m := 1) (new := Tok.c ts[i]) (by simp; have := hg.len; omega) (by omega) ⟨by omega, by omega, by omega, rfl⟩
    rw [← toksC_succ h1] at hacc2
    have hta := toksAt h1
    simp only [Tok.c] at hap hta
    have ho := hacc.one
    repeat' (first|refine Go.a rfl ?_|refine Go.rg ?_|refine GoR.nil ?_|refine Go.ret ?_|refine Go.b rfl ?_|refine Go.rgS dmx (by decide) ?_|(refine GoR.o (by rfl) (by rfl) ?_;(conv => arg 1;simp only [G,Z,Y,Gx,un_neg,cutD,decide_true,decide_false,simprocAttr,fb2,fb3,fb9,fb86,fb90,fb138,fb148,show decide ((i : Int) < (ts.length : Int)) = true by simp; omega, hta, ho, wr_full, wrap_succ (show i < 4611686018427387904 by omega), hap, builtin_append]);show GoR ..)|refine Go.condB rfl (fun hc => ?_) (fun hc => ?_))
    refine Go.lpN ?_
    refine Go.keep [(0, .sl none 4 ts.length (toksC ts)), (3, o'), (4, .int .i64 ((i + 1 : Nat) : Int))] (.cons .refl (.cons .refl (.cons .refl (.nil)))) ?_
    exact next (i + 1, o', S2) (by dsimp only; omega) ⟨h1, hacc2, hg.trans (Grown.app.trans hg2)⟩
  · clear next
    have hi' : i = ts.length := by omega
    subst hi'
    rw [List.take_length] at hacc
    repeat' (first|refine Go.a rfl ?_|refine Go.rg ?_|refine GoR.nil ?_|refine Go.ret ?_|refine Go.b rfl ?_|refine Go.rgS dmx (by decide) ?_|(refine GoR.o (by rfl) (by rfl) ?_;(conv => arg 1;simp only [G,Z,Y,Gx,un_neg,cutD,decide_true,decide_false,simprocAttr,fb2,fb3,fb9,fb86,fb90,fb138,fb148,show decide ((ts.length : Int) < (ts.length : Int)) = false by simp]);show GoR ..)|refine Go.condB rfl (fun hc => ?_) (fun hc => ?_))
    refine ⟨(by first | exact .inl rfl | exact .inr rfl), fin ?_⟩
    rw [resD_tmp (fn := Tryz.f45) rfl]
    simp only [optThen_some,resultD_tmp,resultD_cell,G,Z,Y,Gx,un_neg,cutD,decide_true,decide_false,simprocAttr,fb2,fb3,fb9,fb86,fb90,fb138,fb148]
    obtain ⟨E, hE⟩ := hg.pre [] S rfl (by simp)
    exact ⟨_, E, hE, hacc.wf.to_Wk (.sl' (toks_low ts)), rfl⟩
theorem refTokensBig (s : ByteArray) (h : 1024 < s.size) (S : Mem) {orc : DOracle} : CallD Tryz.prog orc 43 [.str s] S fun d S' => S' = S ∧ d = .tup [.sl none 4 0 [], .int .i64 0, .int .i64 4] := by
  refine CallD.e Tryz.func43 rfl Tryz.ntmps43 (by rfl) ?_
  repeat' (first|refine Go.a rfl ?_|refine Go.rg ?_|refine GoR.nil ?_|refine Go.ret ?_|refine Go.b rfl ?_|(refine GoR.o (by rfl) (by rfl) ?_;(conv => arg 1;simp only [G,Z,Y,Gx,un_neg,cutD,decide_true,decide_false,simprocAttr,fb2,fb3,fb5,fb9,fb86,fb138,show decide ((s.size : Int) > 1024) = true by simp; omega, show decide ((1024 : Int) < (s.size : Int)) = true by simp; omega]);show GoR ..)|refine GoR.s (by rfl) rfl rfl ?_|(refine GoR.splitG rfl (fun hc => ?_) (fun hc => ?_) <;> simp only [hc])|refine Go.condB rfl (fun hc => ?_) (fun hc => ?_))
  refine ⟨(by first | exact .inl rfl | exact .inr rfl), fin ?_⟩
  rw [resD_three (fn := Tryz.f43) rfl]
  simp only [optThen_some,resultD_tmp,resultD_cell,G,Z,Y,Gx,un_neg,cutD,decide_true,decide_false,simprocAttr,fb2,fb3,fb5,fb9,fb86,fb138]
  exact ⟨_, [], by simp, toks_err, rfl⟩
theorem tmod_cast {a b : Nat} : (a : Int).tmod (b : Int) = ((a % b : Nat) : Int) := (Int.ofNat_tmod a b).symm
theorem lawTokens (s : ByteArray) (k0 : Nat) (hk0 : k0 < 256) (S : Mem) : CallD Tryz.prog O 7 [.str s, .int .u8 (k0 : Int)] S fun d S' => S' = S ∧ d = .bool true := by
  by_cases hbig : 1024 < s.size
  · have ht := refTokensBig (orc := O) s hbig
    refine CallD.e Tryz.func7 rfl Tryz.ntmps7 (by rfl) ?_
    repeat' (first|refine Go.a rfl ?_|refine Go.rg ?_|refine GoR.nil ?_|refine Go.ret ?_|refine Go.b rfl ?_|refine Go.rgS dmx (by decide) ?_|refine Go.rgD [19] (fun _ => True) dmx (by decide) 20 (by decide) (by trivial) ?_|refine GoW.nil rfl ?_|((first|refine GoR.o (by rfl) (by rfl) ?_|refine GoW.o (by rfl) (by rfl) ?_|refine GoW.rd (by rfl) (by rfl) ?_);(conv => arg 1;simp only [G,Z,Y,Gx,un_neg,cutD,decide_true,decide_false,simprocAttr,fb2,fb3,fb5,fb9,fb73,fb75,fb78,fb80,fb86,Bool.not_true, show decide ((s.size : Int) > 500) = true by simp; omega, show decide ((500 : Int) < (s.size : Int)) = true by simp; omega]);first|show GoR ..|(show _ ∧ GoW ..;refine ⟨by exact fun _ => trivial,?_⟩)|(show _ ∧ _ ∧ _ ∧ GoW ..;refine ⟨rfl,by trivial,(fun H _=>by simp only [G,Z,Y,Gx,un_neg,cutD,decide_true,decide_false,simprocAttr,fb2,fb3,fb5,fb9,fb73,fb75,fb78,fb80,fb86,Bool.not_true, show decide ((s.size : Int) > 500) = true by simp; omega, show decide ((500 : Int) < (s.size : Int)) = true by simp; omega]),?_⟩))|(refine GoW.c c37 (by rfl) (by rfl) rfl ?_;(refine (known _).ret ?_);refine ⟨by exact fun _ => trivial,?_⟩)|(refine GoR.c c37 (by rfl) (by rfl) rfl ?_;(refine (known _).ret ?_))|(refine GoW.c c43 (by rfl) (by rfl) rfl ?_;(refine (ht _).ret ?_);refine ⟨by exact fun _ => trivial,?_⟩)|(refine GoR.c c43 (by rfl) (by rfl) rfl ?_;(refine (ht _).ret ?_))|refine GoR.s (by rfl) rfl rfl ?_|refine GoW.s (by rfl) rfl rfl (by exact fun _ => trivial) ?_|(refine GoR.splitG rfl (fun hc => ?_) (fun hc => ?_) <;> simp only [hc])|refine Go.condB rfl (fun hc => ?_) (fun hc => ?_))
    refine ⟨(by first | exact .inl rfl | exact .inr rfl), fin ?_⟩
    rw [resD_tmp (fn := Tryz.f7) rfl]
    simp only [optThen_some,resultD_tmp,resultD_cell,G,Z,Y,Gx,un_neg,cutD,decide_true,decide_false,simprocAttr,fb2,fb3,fb5,fb9,fb73,fb75,fb78,fb80,fb86]
    first | exact ⟨_, _, rfl, .bool, rfl⟩ | exact ⟨_, [], by simp, .bool, rfl⟩
  have ht := refTokens (orc := O) s (by omega)
  cases hl : lexF s with
  | error x =>
    obtain ⟨a, e⟩ := x
    have he := lexF_err hl
    rw [hl] at ht
    simp only [toksD] at ht
    refine CallD.e Tryz.func7 rfl Tryz.ntmps7 (by rfl) ?_
    repeat' (first|refine Go.a rfl ?_|refine Go.rg ?_|refine GoR.nil ?_|refine Go.ret ?_|refine Go.b rfl ?_|refine Go.rgS dmx (by decide) ?_|refine Go.rgD [19] (fun _ => True) dmx (by decide) 20 (by decide) (by trivial) ?_|refine GoW.nil rfl ?_|((first|refine GoR.o (by rfl) (by rfl) ?_|refine GoW.o (by rfl) (by rfl) ?_|refine GoW.rd (by rfl) (by rfl) ?_);(conv => arg 1;simp only [G,Z,Y,Gx,un_neg,cutD,decide_true,decide_false,simprocAttr,fb2,fb3,fb5,fb9,fb73,fb75,fb78,fb80,fb86,Bool.not_true, show (e == 0) = false by simpa using he, show (e != 0) = true by simpa using he]);first|show GoR ..|(show _ ∧ GoW ..;refine ⟨by exact fun _ => trivial,?_⟩)|(show _ ∧ _ ∧ _ ∧ GoW ..;refine ⟨rfl,by trivial,(fun H _=>by simp only [G,Z,Y,Gx,un_neg,cutD,decide_true,decide_false,simprocAttr,fb2,fb3,fb5,fb9,fb73,fb75,fb78,fb80,fb86,Bool.not_true, show (e == 0) = false by simpa using he, show (e != 0) = true by simpa using he]),?_⟩))|(refine GoW.c c37 (by rfl) (by rfl) rfl ?_;(refine (known _).ret ?_);refine ⟨by exact fun _ => trivial,?_⟩)|(refine GoR.c c37 (by rfl) (by rfl) rfl ?_;(refine (known _).ret ?_))|(refine GoW.c c43 (by rfl) (by rfl) rfl ?_;(refine (ht _).ret ?_);refine ⟨by exact fun _ => trivial,?_⟩)|(refine GoR.c c43 (by rfl) (by rfl) rfl ?_;(refine (ht _).ret ?_))|refine GoR.s (by rfl) rfl rfl ?_|refine GoW.s (by rfl) rfl rfl (by exact fun _ => trivial) ?_|(refine GoR.splitG rfl (fun hc => ?_) (fun hc => ?_) <;> simp only [hc])|refine Go.condB rfl (fun hc => ?_) (fun hc => ?_))
    all_goals
      refine ⟨(by first | exact .inl rfl | exact .inr rfl), fin ?_⟩
      rw [resD_tmp (fn := Tryz.f7) rfl]
      simp only [optThen_some,resultD_tmp,resultD_cell,G,Z,Y,Gx,un_neg,cutD,decide_true,decide_false,simprocAttr,fb2,fb3,fb5,fb9,fb73,fb75,fb78,fb80,fb86]
      first | exact ⟨_, _, rfl, .bool, rfl⟩ | exact ⟨_, [], by simp, .bool, rfl⟩
  | ok l =>
    rw [hl] at ht
    simp only [toksD] at ht
    have hlen := lexF_len (by omega) hl
    have hword := lex_word hl
    have hkm : k0 % (l.length + 1) ≤ l.length := by have := Nat.mod_lt k0 (show 0 < l.length + 1 by omega); omega
    obtain ⟨r, hr, hg⟩ := ofF_good hword hkm
    have h1 := exprOf (l := l) (by omega) hkm hr
    have h2 := refOf (l := l) (by omega) hword hkm hr
    have hto := toToks l (by omega) (orc := O)
    have w1 : IntKind.i64.wrap (k0 : Int) = (k0 : Int) := wrap64 (by omega) (by omega)
    have w2 := wrap_succ (show l.length < 4611686018427387904 by omega)
    have w3 : (((l.length + 1 : Nat) : Int) = 0) = False := by simp; omega
    by_cases hsz : 500 < s.size
    · refine CallD.e Tryz.func7 rfl Tryz.ntmps7 (by rfl) ?_
      repeat' (first|refine Go.a rfl ?_|refine Go.rg ?_|refine GoR.nil ?_|refine Go.ret ?_|refine Go.b rfl ?_|refine Go.rgS dmx (by decide) ?_|refine Go.rgD [19] (fun _ => True) dmx (by decide) 20 (by decide) (by trivial) ?_|refine GoW.nil rfl ?_|((first|refine GoR.o (by rfl) (by rfl) ?_|refine GoW.o (by rfl) (by rfl) ?_|refine GoW.rd (by rfl) (by rfl) ?_);(conv => arg 1;simp only [G,Z,Y,Gx,un_neg,cutD,decide_true,decide_false,simprocAttr,fb2,fb3,fb5,fb9,fb73,fb75,fb78,fb80,fb86,Bool.not_true, show decide ((s.size : Int) > 500) = true by simp; omega, show decide ((500 : Int) < (s.size : Int)) = true by simp; omega]);first|show GoR ..|(show _ ∧ GoW ..;refine ⟨by exact fun _ => trivial,?_⟩)|(show _ ∧ _ ∧ _ ∧ GoW ..;refine ⟨rfl,by trivial,(fun H _=>by simp only [G,Z,Y,Gx,un_neg,cutD,decide_true,decide_false,simprocAttr,fb2,fb3,fb5,fb9,fb73,fb75,fb78,fb80,fb86,Bool.not_true, show decide ((s.size : Int) > 500) = true by simp; omega, show decide ((500 : Int) < (s.size : Int)) = true by simp; omega]),?_⟩))|(refine GoW.c c37 (by rfl) (by rfl) rfl ?_;(refine (known _).ret ?_);refine ⟨by exact fun _ => trivial,?_⟩)|(refine GoR.c c37 (by rfl) (by rfl) rfl ?_;(refine (known _).ret ?_))|(refine GoW.c c43 (by rfl) (by rfl) rfl ?_;(refine (ht _).ret ?_);refine ⟨by exact fun _ => trivial,?_⟩)|(refine GoR.c c43 (by rfl) (by rfl) rfl ?_;(refine (ht _).ret ?_))|refine GoR.s (by rfl) rfl rfl ?_|refine GoW.s (by rfl) rfl rfl (by exact fun _ => trivial) ?_|(refine GoR.splitG rfl (fun hc => ?_) (fun hc => ?_) <;> simp only [hc])|refine Go.condB rfl (fun hc => ?_) (fun hc => ?_))
      refine ⟨(by first | exact .inl rfl | exact .inr rfl), fin ?_⟩
      rw [resD_tmp (fn := Tryz.f7) rfl]
      simp only [optThen_some,resultD_tmp,resultD_cell,G,Z,Y,Gx,un_neg,cutD,decide_true,decide_false,simprocAttr,fb2,fb3,fb5,fb9,fb73,fb75,fb78,fb80,fb86]
      first | exact ⟨_, _, rfl, .bool, rfl⟩ | exact ⟨_, [], by simp, .bool, rfl⟩
    have g1 : decide ((s.size : Int) > 500) = false := by simp; omega
    have g2 : decide ((500 : Int) < (s.size : Int)) = false := by simp; omega
    by_cases he : r.2.e = 0
    · obtain ⟨hw, hcn, hn32⟩ := hg.ok he
      have hokr : okN r = r.1 := if_pos he
      rw [hokr, he] at h1 h2
      generalize r.1 = n at *
      generalize r.2.i = p at *
      have hsl := whole_slim _ hw
      have hof := fun S => of9 (orc := O) n hsl S
      have hck := fun S => refCheckN (orc := O) n hsl S
      have hsm := fun S => refSame (orc := O) n hsl n S
      rw [whole_checkN hw (by dsimp only at hcn; omega)] at hck
      rw [sameS_self] at hsm
      obtain ⟨y1, hy1, hk1⟩ := kidY_of n
      have ho1 := hk1.one
      have hc1 := hk1.cells
      simp only [hy1, ndX] at h1 h2 hof hck hsm
      refine CallD.e Tryz.func7 rfl Tryz.ntmps7 (by rfl) ?_
      repeat' (first|refine Go.a rfl ?_|refine Go.rg ?_|refine GoR.nil ?_|refine Go.ret ?_|refine Go.b rfl ?_|refine Go.rgS dmx (by decide) ?_|refine Go.rgD [19] (fun H => objAt H S.length = some [.str n.op, .str n.name, .int .i64 n.n, y1] ∧ objAt H (S.length + 1) = some [.str n.op, .str n.name, .int .i64 n.n, y1]) dmx (by decide) 20 (by decide) (by (simp only [List.append_assoc, List.cons_append, List.nil_append, objAt_app, objAt_app0, objAt_succ, objAt_zero, and_self])) ?_|refine GoW.nil rfl ?_|((first|refine GoR.o (by rfl) (by rfl) ?_|refine GoW.o (by rfl) (by rfl) ?_|refine GoW.rd (by rfl) (by rfl) ?_);(conv => arg 1;simp only [G,Z,Y,Gx,un_neg,cutD,decide_true,decide_false,simprocAttr,fb2,fb3,fb5,fb9,fb73,fb75,fb78,fb80,fb86,g1, g2, w1, w2, w3, tmod_cast, ho1, hc1, bne_self_eq_false, Bool.not_true]);first|show GoR ..|(show _ ∧ GoW ..;refine ⟨by (first|exact fun h => absurd h (by decide)|(intro _;(simp only [List.append_assoc, List.cons_append, List.nil_append, objAt_app, objAt_app0, objAt_succ, objAt_zero, and_self]))),?_⟩)|(show _ ∧ _ ∧ _ ∧ GoW ..;refine ⟨rfl,by (simp only [List.append_assoc, List.cons_append, List.nil_append, objAt_app, objAt_app0, objAt_succ, objAt_zero, and_self]),(fun H hI=>by (try dsimp only at hI);simp only [G,Z,Y,Gx,un_neg,cutD,decide_true,decide_false,simprocAttr,fb2,fb3,fb5,fb9,fb73,fb75,fb78,fb80,fb86,g1, g2, w1, w2, w3, tmod_cast, ho1, hc1, bne_self_eq_false, Bool.not_true,hI]),?_⟩))|(refine GoW.c c37 (by rfl) (by rfl) rfl ?_;(refine (known _).ret ?_);refine ⟨by (first|exact fun h => absurd h (by decide)|(intro _;(simp only [List.append_assoc, List.cons_append, List.nil_append, objAt_app, objAt_app0, objAt_succ, objAt_zero, and_self]))),?_⟩)|(refine GoR.c c37 (by rfl) (by rfl) rfl ?_;(refine (known _).ret ?_))|(refine GoW.c c43 (by rfl) (by rfl) rfl ?_;(refine (ht _).ret ?_);refine ⟨by (first|exact fun h => absurd h (by decide)|(intro _;(simp only [List.append_assoc, List.cons_append, List.nil_append, objAt_app, objAt_app0, objAt_succ, objAt_zero, and_self]))),?_⟩)|(refine GoR.c c43 (by rfl) (by rfl) rfl ?_;(refine (ht _).ret ?_))|(refine GoW.c c45 (by rfl) (by rfl) rfl ?_;(refine (hto _).ret ?_);refine ⟨by (first|exact fun h => absurd h (by decide)|(intro _;(simp only [List.append_assoc, List.cons_append, List.nil_append, objAt_app, objAt_app0, objAt_succ, objAt_zero, and_self]))),?_⟩)|(refine GoR.c c45 (by rfl) (by rfl) rfl ?_;(refine (hto _).ret ?_))|(refine GoW.c c44 (by rfl) (by rfl) rfl ?_;(refine (h1 _).ret ?_);refine ⟨by (first|exact fun h => absurd h (by decide)|(intro _;(simp only [List.append_assoc, List.cons_append, List.nil_append, objAt_app, objAt_app0, objAt_succ, objAt_zero, and_self]))),?_⟩)|(refine GoR.c c44 (by rfl) (by rfl) rfl ?_;(refine (h1 _).ret ?_))|(refine GoW.c c46 (by rfl) (by rfl) rfl ?_;(refine (h2 _).ret ?_);refine ⟨by (first|exact fun h => absurd h (by decide)|(intro _;(simp only [List.append_assoc, List.cons_append, List.nil_append, objAt_app, objAt_app0, objAt_succ, objAt_zero, and_self]))),?_⟩)|(refine GoR.c c46 (by rfl) (by rfl) rfl ?_;(refine (h2 _).ret ?_))|(refine GoW.c c41 (by rfl) (by rfl) rfl ?_;(refine (hof _).ret ?_);refine ⟨by (first|exact fun h => absurd h (by decide)|(intro _;(simp only [List.append_assoc, List.cons_append, List.nil_append, objAt_app, objAt_app0, objAt_succ, objAt_zero, and_self]))),?_⟩)|(refine GoR.c c41 (by rfl) (by rfl) rfl ?_;(refine (hof _).ret ?_))|(refine GoW.c c40 (by rfl) (by rfl) rfl ?_;(refine (hck _).ret ?_);refine ⟨by (first|exact fun h => absurd h (by decide)|(intro _;(simp only [List.append_assoc, List.cons_append, List.nil_append, objAt_app, objAt_app0, objAt_succ, objAt_zero, and_self]))),?_⟩)|(refine GoR.c c40 (by rfl) (by rfl) rfl ?_;(refine (hck _).ret ?_))|(refine GoW.c c42 (by rfl) (by rfl) rfl ?_;(refine (hsm _).ret ?_);refine ⟨by (first|exact fun h => absurd h (by decide)|(intro _;(simp only [List.append_assoc, List.cons_append, List.nil_append, objAt_app, objAt_app0, objAt_succ, objAt_zero, and_self]))),?_⟩)|(refine GoR.c c42 (by rfl) (by rfl) rfl ?_;(refine (hsm _).ret ?_))|refine GoR.s (by rfl) rfl rfl ?_|refine GoW.s (by rfl) rfl rfl (by (first|exact fun h => absurd h (by decide)|(intro _;(simp only [List.append_assoc, List.cons_append, List.nil_append, objAt_app, objAt_app0, objAt_succ, objAt_zero, and_self])))) ?_|(refine GoR.splitG rfl (fun hc => ?_) (fun hc => ?_) <;> simp only [hc])|refine Go.condB rfl (fun hc => ?_) (fun hc => ?_))
      refine ⟨(by first | exact .inl rfl | exact .inr rfl), fin ?_⟩
      rw [resD_tmp (fn := Tryz.f7) rfl]
      simp only [optThen_some,resultD_tmp,resultD_cell,G,Z,Y,Gx,un_neg,cutD,decide_true,decide_false,simprocAttr,fb2,fb3,fb5,fb9,fb73,fb75,fb78,fb80,fb86]
      first | exact ⟨_, _, rfl, .bool, rfl⟩ | exact ⟨_, [], by simp, .bool, rfl⟩
    · have hokr : okN r = nilN := if_neg he
      rw [hokr] at h1 h2
      generalize r.2.e = e at *
      generalize r.2.i = p at *
      simp only [nilN, Nd.c_mk] at h1 h2
      refine CallD.e Tryz.func7 rfl Tryz.ntmps7 (by rfl) ?_
      repeat' (first|refine Go.a rfl ?_|refine Go.rg ?_|refine GoR.nil ?_|refine Go.ret ?_|refine Go.b rfl ?_|refine Go.rgS dmx (by decide) ?_|refine Go.rgD [19] (fun _ => True) dmx (by decide) 20 (by decide) (by trivial) ?_|refine GoW.nil rfl ?_|((first|refine GoR.o (by rfl) (by rfl) ?_|refine GoW.o (by rfl) (by rfl) ?_|refine GoW.rd (by rfl) (by rfl) ?_);(conv => arg 1;simp only [G,Z,Y,Gx,un_neg,cutD,decide_true,decide_false,simprocAttr,fb2,fb3,fb5,fb9,fb73,fb75,fb78,fb80,fb86,g1, g2, w1, w2, w3, tmod_cast, Bool.not_true, beq_self_eq_true, show (e == 0) = false by simpa using he, show (e != 0) = true by simpa using he]);first|show GoR ..|(show _ ∧ GoW ..;refine ⟨by exact fun _ => trivial,?_⟩)|(show _ ∧ _ ∧ _ ∧ GoW ..;refine ⟨rfl,by trivial,(fun H _=>by simp only [G,Z,Y,Gx,un_neg,cutD,decide_true,decide_false,simprocAttr,fb2,fb3,fb5,fb9,fb73,fb75,fb78,fb80,fb86,g1, g2, w1, w2, w3, tmod_cast, Bool.not_true, beq_self_eq_true, show (e == 0) = false by simpa using he, show (e != 0) = true by simpa using he]),?_⟩))|(refine GoW.c c37 (by rfl) (by rfl) rfl ?_;(refine (known _).ret ?_);refine ⟨by exact fun _ => trivial,?_⟩)|(refine GoR.c c37 (by rfl) (by rfl) rfl ?_;(refine (known _).ret ?_))|(refine GoW.c c43 (by rfl) (by rfl) rfl ?_;(refine (ht _).ret ?_);refine ⟨by exact fun _ => trivial,?_⟩)|(refine GoR.c c43 (by rfl) (by rfl) rfl ?_;(refine (ht _).ret ?_))|(refine GoW.c c45 (by rfl) (by rfl) rfl ?_;(refine (hto _).ret ?_);refine ⟨by exact fun _ => trivial,?_⟩)|(refine GoR.c c45 (by rfl) (by rfl) rfl ?_;(refine (hto _).ret ?_))|(refine GoW.c c44 (by rfl) (by rfl) rfl ?_;(refine (h1 _).ret ?_);refine ⟨by exact fun _ => trivial,?_⟩)|(refine GoR.c c44 (by rfl) (by rfl) rfl ?_;(refine (h1 _).ret ?_))|(refine GoW.c c46 (by rfl) (by rfl) rfl ?_;(refine (h2 _).ret ?_);refine ⟨by exact fun _ => trivial,?_⟩)|(refine GoR.c c46 (by rfl) (by rfl) rfl ?_;(refine (h2 _).ret ?_))|refine GoR.s (by rfl) rfl rfl ?_|refine GoW.s (by rfl) rfl rfl (by exact fun _ => trivial) ?_|(refine GoR.splitG rfl (fun hc => ?_) (fun hc => ?_) <;> simp only [hc])|refine Go.condB rfl (fun hc => ?_) (fun hc => ?_))
      refine ⟨(by first | exact .inl rfl | exact .inr rfl), fin ?_⟩
      rw [resD_tmp (fn := Tryz.f7) rfl]
      simp only [optThen_some,resultD_tmp,resultD_cell,G,Z,Y,Gx,un_neg,cutD,decide_true,decide_false,simprocAttr,fb2,fb3,fb5,fb9,fb73,fb75,fb78,fb80,fb86]
      first | exact ⟨_, _, rfl, .bool, rfl⟩ | exact ⟨_, [], by simp, .bool, rfl⟩
end Go.Proofs.DeT
