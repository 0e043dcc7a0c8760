/- An expression out of words, and out of a text, by the document. -/
import Derived.Test.YtpdnaoahghfaoaaGreatDoorDeP8
set_option linter.unusedSimpArgs false
set_option linter.unusedVariables false
namespace Go.Proofs.DeT
open Go Go.DM
set_option maxRecDepth 100000

theorem refOf {l : List Tok} (hl : l.length < 100000) (hw : ∀ t ∈ l, WordOk t) {k : Nat} (hk : k ≤ l.length) {r : Nd × St} (hr : ofF l k = some r) (S : Mem) :
    CallD Tryz.prog O 46 [.sl none 4 l.length (toksC l), .int .i64 (k : Int)] S fun d S' => S' = S ∧ d = .tup [.agg (okN r).c, .int .i64 (r.2.i : Int), .int .i64 r.2.e] := by
  have hp : PartR l (S.length + 1) 93 (sumF l (l.length + 1)) := sumR hl (prdR hl (facR hl hw (l.length + 1)))
  have hs : CallD Tryz.prog O 93 [.ptr (S.length + 1) 0] (S ++ [.obj [.str ⟨#[]⟩, .str ⟨#[]⟩, .int .i64 0, .nils], .obj (rC l (k : Int) ((0 : Nat) : Int) 0 0)]) fun d S' => ∃ c, S' = S ++ [.obj [.str ⟨#[]⟩, .str ⟨#[]⟩, .int .i64 0, .nils], .obj c] ∧ RR l r 0 c d :=
    hp.ok _ _ (Fam.new S _) k 0 r 0 ⟨hk, Nat.zero_le _, fun _ => Nat.zero_le _⟩ hr
  simp only [rC, Int.natCast_zero, Int.ofNat_zero, Int.cast_ofNat_Int] at hs
  refine CallD.e Tryz.func46 rfl Tryz.ntmps46 (by rfl) ?_
  by_cases he : r.2.e = 0
  · repeat' (first|refine Go.a rfl ?_|refine Go.rg ?_|refine GoR.nil ?_|refine Go.ret ?_|refine Go.b rfl ?_|refine Go.rgS dmx (by decide) ?_|refine Go.rgD [4, 8] (fun H => objAt H (S.length + 1) = some (rC l (r.2.i : Int) (r.2.n : Int) 0 0)) dmx (by decide) 12 (by decide) (by (simp only [objAt_app, objAt_succ, objAt_zero])) ?_|refine Go.rgD [4] (fun H => objAt H (S.length + 1) = some (rC l (r.2.i : Int) (r.2.n : Int) 0 0)) dmx (by decide) 8 (by decide) (by (simp only [objAt_app, objAt_succ, objAt_zero])) ?_|refine GoW.nil rfl ?_|((first|refine GoR.o (by rfl) (by rfl) ?_|refine GoW.o (by rfl) (by rfl) ?_|refine GoW.rd (by rfl) (by rfl) ?_);(conv => arg 1;simp only [G,Z,Y,Gx,un_neg,cutD,decide_true,decide_false,simprocAttr,fb2,fb3,fb9,fb78,fb80,fb86,fb151]);first|show GoR ..|(show _ ∧ GoW ..;refine ⟨by (first|exact fun h => absurd h (by decide)|(intro _;(simp only [objAt_app, objAt_succ, objAt_zero]))),?_⟩)|(show _ ∧ _ ∧ _ ∧ GoW ..;refine ⟨rfl,by (simp only [objAt_app, objAt_succ, objAt_zero]),(fun H hI=>by (try dsimp only at hI);simp only [G,Z,Y,Gx,un_neg,cutD,decide_true,decide_false,simprocAttr,fb2,fb3,fb9,fb78,fb80,fb86,fb151,hI]),?_⟩))|(refine GoW.c c93 (by rfl) (by rfl) rfl ?_;(refine CallD.mono hs ?_; rintro _ _ ⟨c1, rfl, hrr⟩; obtain ⟨nd1, y1, rfl, hy1, hrr⟩ := hrr.form; have ho1 := hy1.one; have hc1 := hy1.cells; obtain ⟨_, rfl, rfl⟩ := hrr.resolve_right (fun h => h.1 he));refine ⟨by (first|exact fun h => absurd h (by decide)|(intro _;(simp only [objAt_app, objAt_succ, objAt_zero]))),?_⟩)|(refine GoR.c c93 (by rfl) (by rfl) rfl ?_;(refine CallD.mono hs ?_; rintro _ _ ⟨c1, rfl, hrr⟩; obtain ⟨nd1, y1, rfl, hy1, hrr⟩ := hrr.form; have ho1 := hy1.one; have hc1 := hy1.cells; obtain ⟨_, rfl, rfl⟩ := hrr.resolve_right (fun h => h.1 he)))|refine Go.condB rfl (fun hc => ?_) (fun hc => ?_))
    repeat' (first|refine Go.a rfl ?_|refine Go.rg ?_|refine GoR.nil ?_|refine Go.ret ?_|refine Go.b rfl ?_|refine Go.rgS dmx (by decide) ?_|refine Go.rgD [4, 8] (fun H => objAt H (S.length + 1) = some (rC l (r.2.i : Int) (r.2.n : Int) 0 0)) dmx (by decide) 12 (by decide) (by (simp only [objAt_app, objAt_succ, objAt_zero])) ?_|refine Go.rgD [4] (fun H => objAt H (S.length + 1) = some (rC l (r.2.i : Int) (r.2.n : Int) 0 0)) dmx (by decide) 8 (by decide) (by (simp only [objAt_app, objAt_succ, objAt_zero])) ?_|refine GoW.nil rfl ?_|((first|refine GoR.o (by rfl) (by rfl) ?_|refine GoW.o (by rfl) (by rfl) ?_|refine GoW.rd (by rfl) (by rfl) ?_);(conv => arg 1;simp only [G,Z,Y,Gx,un_neg,cutD,decide_true,decide_false,simprocAttr,fb2,fb3,fb9,fb78,fb80,fb86,fb151,ho1, hc1, rC_at]);first|show GoR ..|(show _ ∧ GoW ..;refine ⟨by (first|exact fun h => absurd h (by decide)|(intro _;(simp only [objAt_app, objAt_succ, objAt_zero]))),?_⟩)|(show _ ∧ _ ∧ _ ∧ GoW ..;refine ⟨rfl,by (simp only [objAt_app, objAt_succ, objAt_zero]),(fun H hI=>by (try dsimp only at hI);simp only [G,Z,Y,Gx,un_neg,cutD,decide_true,decide_false,simprocAttr,fb2,fb3,fb9,fb78,fb80,fb86,fb151,ho1, hc1, rC_at,hI]),?_⟩))|refine Go.condB rfl (fun hc => ?_) (fun hc => ?_))
    refine ⟨(by first | exact .inl rfl | exact .inr rfl), fin ?_⟩
    rw [resD_three (fn := Tryz.f46) rfl]
    simp only [optThen_some,resultD_tmp,resultD_cell,G,Z,Y,Gx,un_neg,cutD,decide_true,decide_false,simprocAttr,fb2,fb3,fb9,fb78,fb80,fb86,fb151,ho1, hc1]
    have : okN r = r.1 := if_pos he
    rw [this, he]
    exact ⟨_, _, rfl, Wf.to_Wk (.tup' (.cons (.agg' (ndX_wf hy1)) .refl)) triple_low, rfl⟩
  · repeat' (first|refine Go.a rfl ?_|refine Go.rg ?_|refine GoR.nil ?_|refine Go.ret ?_|refine Go.b rfl ?_|refine Go.rgS dmx (by decide) ?_|refine Go.rgD [4, 8] (fun _ => True) dmx (by decide) 12 (by decide) (by trivial) ?_|refine Go.rgD [4] (fun _ => True) dmx (by decide) 8 (by decide) (by trivial) ?_|refine GoW.nil rfl ?_|((first|refine GoR.o (by rfl) (by rfl) ?_|refine GoW.o (by rfl) (by rfl) ?_|refine GoW.rd (by rfl) (by rfl) ?_);(conv => arg 1;simp only [G,Z,Y,Gx,un_neg,cutD,decide_true,decide_false,simprocAttr,fb2,fb3,fb9,fb78,fb80,fb86,fb151]);first|show GoR ..|(show _ ∧ GoW ..;refine ⟨by exact fun _ => trivial,?_⟩)|(show _ ∧ _ ∧ _ ∧ GoW ..;refine ⟨rfl,by trivial,(fun H _=>by simp only [G,Z,Y,Gx,un_neg,cutD,decide_true,decide_false,simprocAttr,fb2,fb3,fb9,fb78,fb80,fb86,fb151]),?_⟩))|(refine GoW.c c93 (by rfl) (by rfl) rfl ?_;(refine CallD.mono hs ?_; rintro _ _ ⟨c1, rfl, hrr⟩; obtain ⟨nd1, y1, rfl, hy1, hrr⟩ := hrr.form; have ho1 := hy1.one; have hc1 := hy1.cells; obtain ⟨_, p, q, rfl⟩ := hrr.resolve_left (fun h => he h.1));refine ⟨by exact fun _ => trivial,?_⟩)|(refine GoR.c c93 (by rfl) (by rfl) rfl ?_;(refine CallD.mono hs ?_; rintro _ _ ⟨c1, rfl, hrr⟩; obtain ⟨nd1, y1, rfl, hy1, hrr⟩ := hrr.form; have ho1 := hy1.one; have hc1 := hy1.cells; obtain ⟨_, p, q, rfl⟩ := hrr.resolve_left (fun h => he h.1)))|refine Go.condB rfl (fun hc => ?_) (fun hc => ?_))
    repeat' (first|refine Go.a rfl ?_|refine Go.rg ?_|refine GoR.nil ?_|refine Go.ret ?_|refine Go.b rfl ?_|refine Go.rgS dmx (by decide) ?_|refine Go.rgD [4, 8] (fun H => objAt H (S.length + 1) = some (rC l p q r.2.e (r.2.i : Int))) dmx (by decide) 12 (by decide) (by (simp only [objAt_app, objAt_succ, objAt_zero])) ?_|refine Go.rgD [4] (fun H => objAt H (S.length + 1) = some (rC l p q r.2.e (r.2.i : Int))) dmx (by decide) 8 (by decide) (by (simp only [objAt_app, objAt_succ, objAt_zero])) ?_|refine GoW.nil rfl ?_|((first|refine GoR.o (by rfl) (by rfl) ?_|refine GoW.o (by rfl) (by rfl) ?_|refine GoW.rd (by rfl) (by rfl) ?_);(conv => arg 1;simp only [G,Z,Y,Gx,un_neg,cutD,decide_true,decide_false,simprocAttr,fb2,fb3,fb9,fb78,fb80,fb86,fb151,ho1, hc1, rC_at, show (r.2.e == 0) = false by simpa using he, show (r.2.e != 0) = true by simpa using he]);first|show GoR ..|(show _ ∧ GoW ..;refine ⟨by (first|exact fun h => absurd h (by decide)|(intro _;(simp only [objAt_app, objAt_succ, objAt_zero]))),?_⟩)|(show _ ∧ _ ∧ _ ∧ GoW ..;refine ⟨rfl,by (simp only [objAt_app, objAt_succ, objAt_zero]),(fun H hI=>by (try dsimp only at hI);simp only [G,Z,Y,Gx,un_neg,cutD,decide_true,decide_false,simprocAttr,fb2,fb3,fb9,fb78,fb80,fb86,fb151,ho1, hc1, rC_at, show (r.2.e == 0) = false by simpa using he, show (r.2.e != 0) = true by simpa using he,hI]),?_⟩))|refine Go.condB rfl (fun hc => ?_) (fun hc => ?_))
    refine ⟨(by first | exact .inl rfl | exact .inr rfl), fin ?_⟩
    rw [resD_three (fn := Tryz.f46) rfl]
    simp only [optThen_some,resultD_tmp,resultD_cell,G,Z,Y,Gx,un_neg,cutD,decide_true,decide_false,simprocAttr,fb2,fb3,fb9,fb78,fb80,fb86,fb151,ho1, hc1]
    have : okN r = nilN := if_neg he
    rw [this]
    exact ⟨_, _, rfl, Wf.to_Wk (.tup' (.cons nil_wf .refl)) triple_low, rfl⟩
theorem refPlace (l : List Tok) (i : Nat) (s : ByteArray) (S : Mem) : CallD Tryz.prog O 85 [.str s, .sl none 4 l.length (toksC l), .int .i64 (i : Int)] S fun d S' => S' = S ∧ d = .int .i64 (placeF l i s : Int) := by
  refine CallD.e Tryz.func85 rfl Tryz.ntmps85 (by rfl) ?_
  by_cases hi : i < l.length
  · have e : placeF l i s = l[i].a := by simp [placeF, hi]
    rw [e]
    repeat' (first|refine Go.a rfl ?_|refine Go.rg ?_|refine GoR.nil ?_|refine Go.ret ?_|refine Go.b rfl ?_|(refine GoR.o (by rfl) (by rfl) ?_;(conv => arg 1;simp only [G,Z,Y,Gx,un_neg,cutD,decide_true,decide_false,simprocAttr,fb2,fb3,fb9,fb86,fb138,toksAt hi, Tok.c, show decide ((i : Int) ≥ 0) = true by simp, show decide ((0 : Int) ≤ (i : Int)) = true by simp, show decide ((i : Int) < (l.length : Int)) = true by simp; omega]);show GoR ..)|refine GoR.s (by rfl) rfl rfl ?_|(refine GoR.splitG rfl (fun hc => ?_) (fun hc => ?_) <;> simp only [hc])|refine Go.condB rfl (fun hc => ?_) (fun hc => ?_))
    refine ⟨(by first | exact .inl rfl | exact .inr rfl), fin ?_⟩
    rw [resD_tmp (fn := Tryz.f85) rfl]
    simp only [optThen_some,resultD_tmp,resultD_cell,G,Z,Y,Gx,un_neg,cutD,decide_true,decide_false,simprocAttr,fb2,fb3,fb9,fb86,fb138]
    exact ⟨_, [], by simp, .int, rfl⟩
  · have e : placeF l i s = s.size := by simp [placeF, show l[i]? = none by simp; omega]
    rw [e]
    repeat' (first|refine Go.a rfl ?_|refine Go.rg ?_|refine GoR.nil ?_|refine Go.ret ?_|refine Go.b rfl ?_|(refine GoR.o (by rfl) (by rfl) ?_;(conv => arg 1;simp only [G,Z,Y,Gx,un_neg,cutD,decide_true,decide_false,simprocAttr,fb2,fb3,fb9,fb86,fb138,show decide ((i : Int) ≥ 0) = true by simp, show decide ((0 : Int) ≤ (i : Int)) = true by simp, show decide ((i : Int) < (l.length : Int)) = false by simp; omega]);show GoR ..)|refine GoR.s (by rfl) rfl rfl ?_|(refine GoR.splitG rfl (fun hc => ?_) (fun hc => ?_) <;> simp only [hc])|refine Go.condB rfl (fun hc => ?_) (fun hc => ?_))
    refine ⟨(by first | exact .inl rfl | exact .inr rfl), fin ?_⟩
    rw [resD_tmp (fn := Tryz.f85) rfl]
    simp only [optThen_some,resultD_tmp,resultD_cell,G,Z,Y,Gx,un_neg,cutD,decide_true,decide_false,simprocAttr,fb2,fb3,fb9,fb86,fb138]
    exact ⟨_, [], by simp, .int, rfl⟩
theorem refParse (s : ByteArray) (hs : s.size < 1000000) (hw : ∀ l, lexF s = .ok l → ∀ t ∈ l, WordOk t) (S : Mem) :
    CallD Tryz.prog O 39 [.str s] S fun d S' => S' = S ∧ d = resC (parseF s) := by
  have ht := refTokens (orc := O) s hs
  unfold parseF
  cases hl : lexF s with
  | error x =>
    obtain ⟨a, e⟩ := x
    have he := lexF_err hl
    rw [hl] at ht
    simp only [toksD] at ht
    refine CallD.e Tryz.func39 rfl Tryz.ntmps39 (by rfl) ?_
    repeat' (first|refine Go.a rfl ?_|refine Go.rg ?_|refine GoR.nil ?_|refine Go.ret ?_|refine Go.b rfl ?_|refine Go.rgS dmx (by decide) ?_|refine Go.rgD [5] (fun _ => True) dmx (by decide) 9 (by decide) (by trivial) ?_|refine GoW.nil rfl ?_|((first|refine GoR.o (by rfl) (by rfl) ?_|refine GoW.o (by rfl) (by rfl) ?_|refine GoW.rd (by rfl) (by rfl) ?_);(conv => arg 1;simp only [G,Z,Y,Gx,un_neg,cutD,decide_true,decide_false,simprocAttr,fb2,fb3,fb9,fb78,fb80,fb86,fb138,show (e == 0) = false by simpa using he, show (e != 0) = true by simpa using he]);first|show GoR ..|(show _ ∧ GoW ..;refine ⟨by exact fun _ => trivial,?_⟩)|(show _ ∧ _ ∧ _ ∧ GoW ..;refine ⟨rfl,by trivial,(fun H _=>by simp only [G,Z,Y,Gx,un_neg,cutD,decide_true,decide_false,simprocAttr,fb2,fb3,fb9,fb78,fb80,fb86,fb138,show (e == 0) = false by simpa using he, show (e != 0) = true by simpa using he]),?_⟩))|(refine GoW.c c43 (by rfl) (by rfl) rfl ?_;(refine (ht _).ret ?_);refine ⟨by exact fun _ => trivial,?_⟩)|(refine GoR.c c43 (by rfl) (by rfl) rfl ?_;(refine (ht _).ret ?_))|refine Go.condB rfl (fun hc => ?_) (fun hc => ?_))
    refine ⟨(by first | exact .inl rfl | exact .inr rfl), fin ?_⟩
    rw [resD_three (fn := Tryz.f39) rfl]
    simp only [optThen_some,resultD_tmp,resultD_cell,G,Z,Y,Gx,un_neg,cutD,decide_true,decide_false,simprocAttr,fb2,fb3,fb9,fb78,fb80,fb86,fb138]
    exact ⟨_, _, rfl, Wf.to_Wk (.tup' (.cons nil_wf .refl)) triple_low, rfl⟩
  | ok l =>
    obtain ⟨r, hr, hg⟩ := ofF_good (hw l hl) (Nat.zero_le _)
    have hlen := lexF_len hs hl
    rw [hl] at ht
    simp only [toksD] at ht
    have hof := refOf (l := l) (by omega) (hw l hl) (Nat.zero_le _) hr
    have hpl := refPlace l r.2.i s
    simp only [hr]
    obtain ⟨nd, ⟨i1, n1, e1⟩⟩ := r
    simp only [Int.ofNat_zero, Int.cast_ofNat_Int] at hof hpl
    by_cases he : e1 = 0
    · subst he
      have hok : okN (nd, ⟨i1, n1, 0⟩) = nd := rfl
      rw [hok] at hof
      obtain ⟨y1, hy1, hk1⟩ := kidY_of nd
      have ho1 := hk1.one
      have hc1 := hk1.cells
      simp only [hy1, ndX] at hof
      by_cases hi : i1 < l.length
      · have hw : wholeF s l (nd, ⟨i1, n1, 0⟩) = (nilN, placeF l i1 s, 2) := by
          have e : errF l (nd, ⟨i1, n1, 0⟩) = 2 := if_pos ⟨rfl, hi⟩
          unfold wholeF
          rw [e, if_pos (by decide)]
        have e2 : placeF l i1 s = l[i1].a := by simp [placeF, hi]
        rw [hw, e2]
        refine CallD.e Tryz.func39 rfl Tryz.ntmps39 (by rfl) ?_
        repeat' (first|refine Go.a rfl ?_|refine Go.rg ?_|refine GoR.nil ?_|refine Go.ret ?_|refine Go.b rfl ?_|refine Go.rgS dmx (by decide) ?_|refine Go.rgD [5] (fun _ => True) dmx (by decide) 9 (by decide) (by trivial) ?_|refine GoW.nil rfl ?_|((first|refine GoR.o (by rfl) (by rfl) ?_|refine GoW.o (by rfl) (by rfl) ?_|refine GoW.rd (by rfl) (by rfl) ?_);(conv => arg 1;simp only [G,Z,Y,Gx,un_neg,cutD,decide_true,decide_false,simprocAttr,fb2,fb3,fb9,fb78,fb80,fb86,fb138,ho1, hc1, toksAt hi, Tok.c, show decide ((i1 : Int) < (l.length : Int)) = true by simp; omega]);first|show GoR ..|(show _ ∧ GoW ..;refine ⟨by exact fun _ => trivial,?_⟩)|(show _ ∧ _ ∧ _ ∧ GoW ..;refine ⟨rfl,by trivial,(fun H _=>by simp only [G,Z,Y,Gx,un_neg,cutD,decide_true,decide_false,simprocAttr,fb2,fb3,fb9,fb78,fb80,fb86,fb138,ho1, hc1, toksAt hi, Tok.c, show decide ((i1 : Int) < (l.length : Int)) = true by simp; omega]),?_⟩))|(refine GoW.c c43 (by rfl) (by rfl) rfl ?_;(refine (ht _).ret ?_);refine ⟨by exact fun _ => trivial,?_⟩)|(refine GoR.c c43 (by rfl) (by rfl) rfl ?_;(refine (ht _).ret ?_))|(refine GoW.c c46 (by rfl) (by rfl) rfl ?_;(refine (hof _).ret ?_);refine ⟨by exact fun _ => trivial,?_⟩)|(refine GoR.c c46 (by rfl) (by rfl) rfl ?_;(refine (hof _).ret ?_))|refine Go.condB rfl (fun hc => ?_) (fun hc => ?_))
        refine ⟨(by first | exact .inl rfl | exact .inr rfl), fin ?_⟩
        rw [resD_three (fn := Tryz.f39) rfl]
        simp only [optThen_some,resultD_tmp,resultD_cell,G,Z,Y,Gx,un_neg,cutD,decide_true,decide_false,simprocAttr,fb2,fb3,fb9,fb78,fb80,fb86,fb138]
        exact ⟨_, _, rfl, Wf.to_Wk (.tup' (.cons nil_wf .refl)) triple_low, rfl⟩
      · have hw : wholeF s l (nd, ⟨i1, n1, 0⟩) = (nd, 0, 0) := by
          have e : errF l (nd, ⟨i1, n1, 0⟩) = 0 := if_neg fun h => hi h.2
          unfold wholeF
          rw [e, if_neg (by decide)]
        rw [hw]
        refine CallD.e Tryz.func39 rfl Tryz.ntmps39 (by rfl) ?_
        repeat' (first|refine Go.a rfl ?_|refine Go.rg ?_|refine GoR.nil ?_|refine Go.ret ?_|refine Go.b rfl ?_|refine Go.rgS dmx (by decide) ?_|refine Go.rgD [5] (fun _ => True) dmx (by decide) 9 (by decide) (by trivial) ?_|refine GoW.nil rfl ?_|((first|refine GoR.o (by rfl) (by rfl) ?_|refine GoW.o (by rfl) (by rfl) ?_|refine GoW.rd (by rfl) (by rfl) ?_);(conv => arg 1;simp only [G,Z,Y,Gx,un_neg,cutD,decide_true,decide_false,simprocAttr,fb2,fb3,fb9,fb78,fb80,fb86,fb138,ho1, hc1, show decide ((i1 : Int) < (l.length : Int)) = false by simp; omega]);first|show GoR ..|(show _ ∧ GoW ..;refine ⟨by exact fun _ => trivial,?_⟩)|(show _ ∧ _ ∧ _ ∧ GoW ..;refine ⟨rfl,by trivial,(fun H _=>by simp only [G,Z,Y,Gx,un_neg,cutD,decide_true,decide_false,simprocAttr,fb2,fb3,fb9,fb78,fb80,fb86,fb138,ho1, hc1, show decide ((i1 : Int) < (l.length : Int)) = false by simp; omega]),?_⟩))|(refine GoW.c c43 (by rfl) (by rfl) rfl ?_;(refine (ht _).ret ?_);refine ⟨by exact fun _ => trivial,?_⟩)|(refine GoR.c c43 (by rfl) (by rfl) rfl ?_;(refine (ht _).ret ?_))|(refine GoW.c c46 (by rfl) (by rfl) rfl ?_;(refine (hof _).ret ?_);refine ⟨by exact fun _ => trivial,?_⟩)|(refine GoR.c c46 (by rfl) (by rfl) rfl ?_;(refine (hof _).ret ?_))|refine Go.condB rfl (fun hc => ?_) (fun hc => ?_))
        refine ⟨(by first | exact .inl rfl | exact .inr rfl), fin ?_⟩
        rw [resD_three (fn := Tryz.f39) rfl]
        simp only [optThen_some,resultD_tmp,resultD_cell,G,Z,Y,Gx,un_neg,cutD,decide_true,decide_false,simprocAttr,fb2,fb3,fb9,fb78,fb80,fb86,fb138,ho1, hc1]
        exact ⟨_, _, rfl, Wf.to_Wk (.tup' (.cons (.agg' (ndX_wf hk1)) .refl)) triple_low, rfl⟩
    · have hok : okN (nd, ⟨i1, n1, e1⟩) = nilN := by unfold okN; rw [if_neg he]
      rw [hok] at hof
      simp only [nilN, Nd.c_mk] at hof
      have hw : wholeF s l (nd, ⟨i1, n1, e1⟩) = (nilN, placeF l i1 s, e1) := by
        have e : errF l (nd, ⟨i1, n1, e1⟩) = e1 := if_neg fun h => he h.1
        unfold wholeF
        rw [e, if_pos he]
      rw [hw]
      refine CallD.e Tryz.func39 rfl Tryz.ntmps39 (by rfl) ?_
      repeat' (first|refine Go.a rfl ?_|refine Go.rg ?_|refine GoR.nil ?_|refine Go.ret ?_|refine Go.b rfl ?_|refine Go.rgS dmx (by decide) ?_|refine Go.rgD [5] (fun _ => True) dmx (by decide) 9 (by decide) (by trivial) ?_|refine GoW.nil rfl ?_|((first|refine GoR.o (by rfl) (by rfl) ?_|refine GoW.o (by rfl) (by rfl) ?_|refine GoW.rd (by rfl) (by rfl) ?_);(conv => arg 1;simp only [G,Z,Y,Gx,un_neg,cutD,decide_true,decide_false,simprocAttr,fb2,fb3,fb9,fb78,fb80,fb86,fb138,show (e1 == 0) = false by simpa using he, show (e1 != 0) = true by simpa using he]);first|show GoR ..|(show _ ∧ GoW ..;refine ⟨by exact fun _ => trivial,?_⟩)|(show _ ∧ _ ∧ _ ∧ GoW ..;refine ⟨rfl,by trivial,(fun H _=>by simp only [G,Z,Y,Gx,un_neg,cutD,decide_true,decide_false,simprocAttr,fb2,fb3,fb9,fb78,fb80,fb86,fb138,show (e1 == 0) = false by simpa using he, show (e1 != 0) = true by simpa using he]),?_⟩))|(refine GoW.c c43 (by rfl) (by rfl) rfl ?_;(refine (ht _).ret ?_);refine ⟨by exact fun _ => trivial,?_⟩)|(refine GoR.c c43 (by rfl) (by rfl) rfl ?_;(refine (ht _).ret ?_))|(refine GoW.c c46 (by rfl) (by rfl) rfl ?_;(refine (hof _).ret ?_);refine ⟨by exact fun _ => trivial,?_⟩)|(refine GoR.c c46 (by rfl) (by rfl) rfl ?_;(refine (hof _).ret ?_))|(refine GoW.c c85 (by rfl) (by rfl) rfl ?_;(refine (hpl _).ret ?_);refine ⟨by exact fun _ => trivial,?_⟩)|(refine GoR.c c85 (by rfl) (by rfl) rfl ?_;(refine (hpl _).ret ?_))|refine Go.condB rfl (fun hc => ?_) (fun hc => ?_))
      refine ⟨(by first | exact .inl rfl | exact .inr rfl), fin ?_⟩
      rw [resD_three (fn := Tryz.f39) rfl]
      simp only [optThen_some,resultD_tmp,resultD_cell,G,Z,Y,Gx,un_neg,cutD,decide_true,decide_false,simprocAttr,fb2,fb3,fb9,fb78,fb80,fb86,fb138]
      exact ⟨_, _, rfl, Wf.to_Wk (.tup' (.cons nil_wf .refl)) triple_low, rfl⟩
end Go.Proofs.DeT
