/- An expression out of words, and out of a text, by the program. -/
import Derived.Test.YtpdnaoahghfaoaaGreatDoorDeP4
import Derived.Test.YtpdnaoahghfaoaaGreatDoorDeL8
set_option linter.unusedSimpArgs false
set_option linter.unusedVariables false
namespace Go.Proofs.DeT
open Go Go.DM
set_option maxRecDepth 100000

theorem Fam.new (S : Mem) (x : Ob) : Fam (fun c => S ++ [x, .obj c]) (S.length + 1) (S.length + 2) :=
  ⟨by omega, fun c => by simp, fun c => by simp [objAt, List.getElem?_append_right], fun c c' => by
    show (S ++ [x, .obj c]).set (S.length + 1) _ = _
    rw [set_app]
    rfl⟩
/-- What is read from a word on. -/
def ofF (l : List Tok) (k : Nat) : Option (Nd × St) := sumF l (l.length + 1) ⟨k, 0, 0⟩
theorem ofF_good {l : List Tok} (hw : ∀ t ∈ l, WordOk t) {k : Nat} (hk : k ≤ l.length) : ∃ r, ofF l k = some r ∧ GoodR l (l.length + 1) ⟨k, 0, 0⟩ r :=
  sum_good hw _ ⟨k, 0, 0⟩ hk (by dsimp only; omega) (.inl (Nat.zero_le _)) (Nat.zero_le _) (.inl rfl)
def okN (r : Nd × St) : Nd := if r.2.e = 0 then r.1 else nilN
theorem triple_low {m : Nat} {n : Nd} {a b : Int} : DLow m (.tup [.agg n.c, .int .i64 a, .int .i64 b]) := .tup' (.cons (nd_low n) (.cons (.int _ _) (.cons (.int _ _) .nil)))
theorem exprOf {l : List Tok} (hl : l.length < 100000) {k : Nat} (hk : k ≤ l.length) {r : Nd × St} (hr : ofF l k = some r) (S : Mem) :
    CallD Tryz.prog O 44 [.sl none 4 l.length (toksC l), .int .i64 (k : Int)] S fun d S' => S' = S ∧ d = .tup [.agg (okN r).c, .int .i64 (r.2.i : Int), .int .i64 r.2.e] := by
  have hs : ∀ E : Mem, CallD Tryz.prog O 92 [.ptr (S.length + 1) 0] (S ++ [.obj [.str ⟨#[]⟩, .str ⟨#[]⟩, .int .i64 0, .nils], .obj (pC l ⟨k, 0, 0⟩)]) fun d S' => S' = S ++ [.obj [.str ⟨#[]⟩, .str ⟨#[]⟩, .int .i64 0, .nils], .obj (pC l r.2)] ∧ d = .agg r.1.c := fun E =>
    (sumW hl (facW hl (l.length + 1)) _ _ (Fam.new S _) ⟨k, 0, 0⟩ r ⟨hk, Nat.zero_le _, fun _ => Nat.zero_le _⟩ hr).2
  obtain ⟨nd, ⟨i1, n1, e1⟩⟩ := r
  obtain ⟨y1, hy1, hk1⟩ := kidY_of nd
  have ho1 := hk1.one
  have hc1 := hk1.cells
  simp only [pC, hy1, ndX, Int.natCast_zero, Int.ofNat_zero, Int.cast_ofNat_Int] at hs
  have hk0 : ((k : Int) < 0) = False := eq_false (by omega)
  have hkl : ((l.length : Int) < (k : Int)) = False := eq_false (by omega)
  refine CallD.e Tryz.func44 rfl Tryz.ntmps44 (by rfl) ?_
  by_cases he : e1 = 0
  · subst he
    repeat' (first|refine Go.a rfl ?_|refine Go.rg ?_|refine GoR.nil ?_|refine Go.ret ?_|refine Go.b rfl ?_|refine Go.rgS dmx (by decide) ?_|refine Go.rgD [4, 8] (fun H => objAt H (S.length + 1) = some [.sl none 4 l.length (toksC l), .int .i64 (i1 : Int), .int .i64 (n1 : Int), .int .i64 0]) dmx (by decide) 12 (by decide) (by (simp only [objAt_app, objAt_succ, objAt_zero])) ?_|refine Go.rgD [4] (fun H => objAt H (S.length + 1) = some [.sl none 4 l.length (toksC l), .int .i64 (i1 : Int), .int .i64 (n1 : Int), .int .i64 0]) dmx (by decide) 8 (by decide) (by (simp only [objAt_app, objAt_succ, objAt_zero])) ?_|refine GoW.nil rfl ?_|((first|refine GoR.o (by rfl) (by rfl) ?_|refine GoW.o (by rfl) (by rfl) ?_|refine GoW.rd (by rfl) (by rfl) ?_);(conv => arg 1;simp only [G,Z,Y,Gx,un_neg,cutD,decide_true,decide_false,simprocAttr,fb2,fb3,fb9,fb35,fb73,fb75,fb90,fb146,ho1, hc1, hk0, hkl]);first|show GoR ..|(show _ ∧ GoW ..;refine ⟨by (first|exact fun h => absurd h (by decide)|(intro _;(simp only [objAt_app, objAt_succ, objAt_zero]))),?_⟩)|(show _ ∧ _ ∧ _ ∧ GoW ..;refine ⟨rfl,by (simp only [objAt_app, objAt_succ, objAt_zero]),(fun H hI=>by (try dsimp only at hI);simp only [G,Z,Y,Gx,un_neg,cutD,decide_true,decide_false,simprocAttr,fb2,fb3,fb9,fb35,fb73,fb75,fb90,fb146,ho1, hc1, hk0, hkl,hI]),?_⟩))|(refine GoW.c c92 (by rfl) (by rfl) rfl ?_;(refine CallD.ret2 (hs []) ?_);refine ⟨by (first|exact fun h => absurd h (by decide)|(intro _;(simp only [objAt_app, objAt_succ, objAt_zero]))),?_⟩)|(refine GoR.c c92 (by rfl) (by rfl) rfl ?_;(refine CallD.ret2 (hs []) ?_))|refine Go.condB rfl (fun hc => ?_) (fun hc => ?_))
    refine ⟨(by first | exact .inl rfl | exact .inr rfl), fin ?_⟩
    rw [resD_three (fn := Tryz.f44) rfl]
    simp only [optThen_some,resultD_tmp,resultD_cell,G,Z,Y,Gx,un_neg,cutD,decide_true,decide_false,simprocAttr,fb2,fb3,fb9,fb35,fb73,fb75,fb90,fb146,ho1, hc1]
    exact ⟨_, _, rfl, Wf.to_Wk (.tup' (.cons (.agg' (ndX_wf hk1)) .refl)) triple_low, rfl⟩
  · repeat' (first|refine Go.a rfl ?_|refine Go.rg ?_|refine GoR.nil ?_|refine Go.ret ?_|refine Go.b rfl ?_|refine Go.rgS dmx (by decide) ?_|refine Go.rgD [4, 8] (fun H => objAt H (S.length + 1) = some [.sl none 4 l.length (toksC l), .int .i64 (i1 : Int), .int .i64 (n1 : Int), .int .i64 e1]) dmx (by decide) 12 (by decide) (by (simp only [objAt_app, objAt_succ, objAt_zero])) ?_|refine Go.rgD [4] (fun H => objAt H (S.length + 1) = some [.sl none 4 l.length (toksC l), .int .i64 (i1 : Int), .int .i64 (n1 : Int), .int .i64 e1]) dmx (by decide) 8 (by decide) (by (simp only [objAt_app, objAt_succ, objAt_zero])) ?_|refine GoW.nil rfl ?_|((first|refine GoR.o (by rfl) (by rfl) ?_|refine GoW.o (by rfl) (by rfl) ?_|refine GoW.rd (by rfl) (by rfl) ?_);(conv => arg 1;simp only [G,Z,Y,Gx,un_neg,cutD,decide_true,decide_false,simprocAttr,fb2,fb3,fb9,fb35,fb73,fb75,fb90,fb146,ho1, hc1, hk0, hkl, show (e1 == 0) = false by simpa using he, show (e1 != 0) = true by simpa using he]);first|show GoR ..|(show _ ∧ GoW ..;refine ⟨by (first|exact fun h => absurd h (by decide)|(intro _;(simp only [objAt_app, objAt_succ, objAt_zero]))),?_⟩)|(show _ ∧ _ ∧ _ ∧ GoW ..;refine ⟨rfl,by (simp only [objAt_app, objAt_succ, objAt_zero]),(fun H hI=>by (try dsimp only at hI);simp only [G,Z,Y,Gx,un_neg,cutD,decide_true,decide_false,simprocAttr,fb2,fb3,fb9,fb35,fb73,fb75,fb90,fb146,ho1, hc1, hk0, hkl, show (e1 == 0) = false by simpa using he, show (e1 != 0) = true by simpa using he,hI]),?_⟩))|(refine GoW.c c92 (by rfl) (by rfl) rfl ?_;(refine CallD.ret2 (hs []) ?_);refine ⟨by (first|exact fun h => absurd h (by decide)|(intro _;(simp only [objAt_app, objAt_succ, objAt_zero]))),?_⟩)|(refine GoR.c c92 (by rfl) (by rfl) rfl ?_;(refine CallD.ret2 (hs []) ?_))|refine Go.condB rfl (fun hc => ?_) (fun hc => ?_))
    refine ⟨(by first | exact .inl rfl | exact .inr rfl), fin ?_⟩
    rw [resD_three (fn := Tryz.f44) rfl]
    simp only [optThen_some,resultD_tmp,resultD_cell,G,Z,Y,Gx,un_neg,cutD,decide_true,decide_false,simprocAttr,fb2,fb3,fb9,fb35,fb73,fb75,fb90,fb146,ho1, hc1]
    have : okN (nd, ⟨i1, n1, e1⟩) = nilN := by unfold okN; rw [if_neg he]
    rw [this]
    exact ⟨_, _, rfl, Wf.to_Wk (.tup' (.cons nil_wf .refl)) triple_low, rfl⟩
/-- Where a word begins; behind all: the text's length. -/
def placeF (l : List Tok) (i : Nat) (s : ByteArray) : Nat := match l[i]? with | some t => t.a | none => s.size
theorem exprPlace (l : List Tok) (i : Nat) (s : ByteArray) (S : Mem) : CallD Tryz.prog O 84 [.sl none 4 l.length (toksC l), .int .i64 (i : Int), .str s] S fun d S' => S' = S ∧ d = .int .i64 (placeF l i s : Int) := by
  refine CallD.e Tryz.func84 rfl Tryz.ntmps84 (by rfl) ?_
  by_cases hi : i < l.length
  · have e : placeF l i s = l[i].a := by simp [placeF, hi]
    rw [e]
    repeat' (first|refine Go.a rfl ?_|refine Go.rg ?_|refine GoR.nil ?_|refine Go.ret ?_|refine Go.b rfl ?_|(refine GoR.o (by rfl) (by rfl) ?_;(conv => arg 1;simp only [G,Z,Y,Gx,un_neg,cutD,decide_true,decide_false,simprocAttr,fb2,fb3,fb9,fb90,fb148,toksAt hi, Tok.c, show decide ((i : Int) ≥ (l.length : Int)) = false by simp; omega, show decide ((l.length : Int) ≤ (i : Int)) = false by simp; omega]);show GoR ..)|refine Go.condB rfl (fun hc => ?_) (fun hc => ?_))
    refine ⟨(by first | exact .inl rfl | exact .inr rfl), fin ?_⟩
    rw [resD_tmp (fn := Tryz.f84) rfl]
    simp only [optThen_some,resultD_tmp,resultD_cell,G,Z,Y,Gx,un_neg,cutD,decide_true,decide_false,simprocAttr,fb2,fb3,fb9,fb90,fb148]
    exact ⟨_, [], by simp, .int, rfl⟩
  · have e : placeF l i s = s.size := by simp [placeF, show l[i]? = none by simp; omega]
    rw [e]
    repeat' (first|refine Go.a rfl ?_|refine Go.rg ?_|refine GoR.nil ?_|refine Go.ret ?_|refine Go.b rfl ?_|(refine GoR.o (by rfl) (by rfl) ?_;(conv => arg 1;simp only [G,Z,Y,Gx,un_neg,cutD,decide_true,decide_false,simprocAttr,fb2,fb3,fb9,fb90,fb148,show decide ((i : Int) ≥ (l.length : Int)) = true by simp; omega, show decide ((l.length : Int) ≤ (i : Int)) = true by simp; omega]);show GoR ..)|refine Go.condB rfl (fun hc => ?_) (fun hc => ?_))
    refine ⟨(by first | exact .inl rfl | exact .inr rfl), fin ?_⟩
    rw [resD_tmp (fn := Tryz.f84) rfl]
    simp only [optThen_some,resultD_tmp,resultD_cell,G,Z,Y,Gx,un_neg,cutD,decide_true,decide_false,simprocAttr,fb2,fb3,fb9,fb90,fb148]
    exact ⟨_, [], by simp, .int, rfl⟩
/-- What a text is as an expression: the tree, where, what is wrong. -/
def errF (l : List Tok) (r : Nd × St) : Int := if r.2.e = 0 ∧ r.2.i < l.length then 2 else r.2.e
def wholeF (s : ByteArray) (l : List Tok) (r : Nd × St) : Nd × Nat × Int := if errF l r ≠ 0 then (nilN, placeF l r.2.i s, errF l r) else (r.1, 0, 0)
def parseF (s : ByteArray) : Nd × Nat × Int :=
  match lexF s with
  | .error (a, e) => (nilN, a, e)
  | .ok l => match ofF l 0 with
    | none => (nilN, 0, 0)
    | some r => wholeF s l r
def resC (x : Nd × Nat × Int) : D := .tup [.agg x.1.c, .int .i64 (x.2.1 : Int), .int .i64 x.2.2]
theorem lexF_err {s : ByteArray} {a : Nat} {e : Int} (h : lexF s = .error (a, e)) : e ≠ 0 := by
  unfold lexF at h
  split at h
  · cases h; decide
  · unfold lexS at h
    exact key _ _ _ _ _ h
where
  one : ∀ (l : List UInt8) (e : Int), lexOne l = .error e → e ≠ 0 := by
    intro l e h
    unfold lexOne at h
    repeat' split at h
    all_goals first
      | (cases h; decide)
      | (cases h; done)
  key : ∀ (f : Nat) (l : List UInt8) (b a : Nat) (e : Int), lexAll f l b = .error (a, e) → e ≠ 0
    | 0, _, _, _, _, h => by cases h
    | _ + 1, [], _, _, _, h => by cases h
    | f + 1, x :: r, b, a, e, h => by
      unfold lexAll at h
      split at h
      · exact key f r (b + 1) a e h
      · split at h
        · rename_i e' ho
          cases h
          exact one _ _ ho
        · rename_i k n v ho
          cases hq : lexAll f ((x :: r).drop n) (b + n) with
          | error y =>
            rw [hq] at h
            obtain ⟨a', e'⟩ := y
            cases h
            exact key f _ _ _ _ hq
          | ok ts => rw [hq] at h; cases h
theorem lexF_len {s : ByteArray} (hs : s.size < 1000000) {l : List Tok} (h : lexF s = .ok l) : l.length ≤ 1024 := by
  unfold lexF at h
  split at h
  · cases h
  · have := (lexS_placed h).count.1
    have e : s.data.toList.length = s.size := Array.length_toList
    omega
theorem exprParse (s : ByteArray) (hs : s.size < 1000000) (hr : ∀ l, lexF s = .ok l → ∃ r, ofF l 0 = some r) (S : Mem) :
    CallD Tryz.prog O 38 [.str s] S fun d S' => S' = S ∧ d = resC (parseF s) := by
  have ht := lexTokens s hs
  unfold parseF
  cases hl : lexF s with
  | error x =>
    obtain ⟨a, e⟩ := x
    have he := lexF_err hl
    rw [hl] at ht
    simp only [toksD] at ht
    refine CallD.e Tryz.func38 rfl Tryz.ntmps38 (by rfl) ?_
    repeat' (first|refine Go.a rfl ?_|refine Go.rg ?_|refine GoR.nil ?_|refine Go.ret ?_|refine Go.b rfl ?_|(refine GoR.o (by rfl) (by rfl) ?_;(conv => arg 1;simp only [G,Z,Y,Gx,un_neg,cutD,decide_true,decide_false,simprocAttr,fb2,fb3,fb9,fb35,fb73,fb75,fb90,show (e == 0) = false by simpa using he, show (e != 0) = true by simpa using he]);show GoR ..)|(refine GoR.c c83 (by rfl) (by rfl) rfl ?_;(refine (ht _).ret ?_))|refine GoR.s (by rfl) rfl rfl ?_|(refine GoR.splitG rfl (fun hc => ?_) (fun hc => ?_) <;> simp only [hc])|refine Go.condB rfl (fun hc => ?_) (fun hc => ?_))
    refine ⟨(by first | exact .inl rfl | exact .inr rfl), fin ?_⟩
    rw [resD_three (fn := Tryz.f38) rfl]
    simp only [optThen_some,resultD_tmp,resultD_cell,G,Z,Y,Gx,un_neg,cutD,decide_true,decide_false,simprocAttr,fb2,fb3,fb9,fb35,fb73,fb75,fb90]
    exact ⟨_, _, rfl, Wf.to_Wk (.tup' (.cons nil_wf .refl)) triple_low, rfl⟩
  | ok l =>
    obtain ⟨r, hr⟩ := hr l hl
    have hlen := lexF_len hs hl
    rw [hl] at ht
    simp only [toksD] at ht
    have hof := exprOf (l := l) (by omega) (Nat.zero_le _) hr
    have hpl := exprPlace l r.2.i s
    simp only [hr]
    obtain ⟨nd, ⟨i1, n1, e1⟩⟩ := r
    simp only [Int.ofNat_zero, Int.cast_ofNat_Int] at hof hpl
    by_cases he : e1 = 0
    · subst he
      have hok : okN (nd, ⟨i1, n1, 0⟩) = nd := rfl
      rw [hok] at hof
      obtain ⟨y1, hy1, hk1⟩ := kidY_of nd
      have ho1 := hk1.one
      have hc1 := hk1.cells
      simp only [hy1, ndX] at hof
      by_cases hi : i1 < l.length
      · have hw : wholeF s l (nd, ⟨i1, n1, 0⟩) = (nilN, placeF l i1 s, 2) := by
          have e : errF l (nd, ⟨i1, n1, 0⟩) = 2 := if_pos ⟨rfl, hi⟩
          unfold wholeF
          rw [e, if_pos (by decide)]
        rw [hw]
        refine CallD.e Tryz.func38 rfl Tryz.ntmps38 (by rfl) ?_
        repeat' (first|refine Go.a rfl ?_|refine Go.rg ?_|refine GoR.nil ?_|refine Go.ret ?_|refine Go.b rfl ?_|(refine GoR.o (by rfl) (by rfl) ?_;(conv => arg 1;simp only [G,Z,Y,Gx,un_neg,cutD,decide_true,decide_false,simprocAttr,fb2,fb3,fb9,fb35,fb73,fb75,fb90,ho1, hc1, show decide ((i1 : Int) < (l.length : Int)) = true by simp; omega]);show GoR ..)|(refine GoR.c c83 (by rfl) (by rfl) rfl ?_;(refine (ht _).ret ?_))|(refine GoR.c c44 (by rfl) (by rfl) rfl ?_;(refine (hof _).ret ?_))|(refine GoR.c c84 (by rfl) (by rfl) rfl ?_;(refine (hpl _).ret ?_))|refine GoR.s (by rfl) rfl rfl ?_|(refine GoR.splitG rfl (fun hc => ?_) (fun hc => ?_) <;> simp only [hc])|refine Go.condB rfl (fun hc => ?_) (fun hc => ?_))
        refine ⟨(by first | exact .inl rfl | exact .inr rfl), fin ?_⟩
        rw [resD_three (fn := Tryz.f38) rfl]
        simp only [optThen_some,resultD_tmp,resultD_cell,G,Z,Y,Gx,un_neg,cutD,decide_true,decide_false,simprocAttr,fb2,fb3,fb9,fb35,fb73,fb75,fb90]
        exact ⟨_, _, rfl, Wf.to_Wk (.tup' (.cons nil_wf .refl)) triple_low, rfl⟩
      · have hw : wholeF s l (nd, ⟨i1, n1, 0⟩) = (nd, 0, 0) := by
          have e : errF l (nd, ⟨i1, n1, 0⟩) = 0 := if_neg fun h => hi h.2
          unfold wholeF
          rw [e, if_neg (by decide)]
        rw [hw]
        refine CallD.e Tryz.func38 rfl Tryz.ntmps38 (by rfl) ?_
        repeat' (first|refine Go.a rfl ?_|refine Go.rg ?_|refine GoR.nil ?_|refine Go.ret ?_|refine Go.b rfl ?_|(refine GoR.o (by rfl) (by rfl) ?_;(conv => arg 1;simp only [G,Z,Y,Gx,un_neg,cutD,decide_true,decide_false,simprocAttr,fb2,fb3,fb9,fb35,fb73,fb75,fb90,ho1, hc1, show decide ((i1 : Int) < (l.length : Int)) = false by simp; omega]);show GoR ..)|(refine GoR.c c83 (by rfl) (by rfl) rfl ?_;(refine (ht _).ret ?_))|(refine GoR.c c44 (by rfl) (by rfl) rfl ?_;(refine (hof _).ret ?_))|(refine GoR.c c84 (by rfl) (by rfl) rfl ?_;(refine (hpl _).ret ?_))|refine GoR.s (by rfl) rfl rfl ?_|(refine GoR.splitG rfl (fun hc => ?_) (fun hc => ?_) <;> simp only [hc])|refine Go.condB rfl (fun hc => ?_) (fun hc => ?_))
        refine ⟨(by first | exact .inl rfl | exact .inr rfl), fin ?_⟩
        rw [resD_three (fn := Tryz.f38) rfl]
        simp only [optThen_some,resultD_tmp,resultD_cell,G,Z,Y,Gx,un_neg,cutD,decide_true,decide_false,simprocAttr,fb2,fb3,fb9,fb35,fb73,fb75,fb90,ho1, hc1]
        exact ⟨_, _, rfl, Wf.to_Wk (.tup' (.cons (.agg' (ndX_wf hk1)) .refl)) triple_low, rfl⟩
    · have hok : okN (nd, ⟨i1, n1, e1⟩) = nilN := by unfold okN; rw [if_neg he]
      rw [hok] at hof
      simp only [nilN, Nd.c_mk] at hof
      have hw : wholeF s l (nd, ⟨i1, n1, e1⟩) = (nilN, placeF l i1 s, e1) := by
        have e : errF l (nd, ⟨i1, n1, e1⟩) = e1 := if_neg fun h => he h.1
        unfold wholeF
        rw [e, if_pos he]
      rw [hw]
      refine CallD.e Tryz.func38 rfl Tryz.ntmps38 (by rfl) ?_
      repeat' (first|refine Go.a rfl ?_|refine Go.rg ?_|refine GoR.nil ?_|refine Go.ret ?_|refine Go.b rfl ?_|(refine GoR.o (by rfl) (by rfl) ?_;(conv => arg 1;simp only [G,Z,Y,Gx,un_neg,cutD,decide_true,decide_false,simprocAttr,fb2,fb3,fb9,fb35,fb73,fb75,fb90,show (e1 == 0) = false by simpa using he, show (e1 != 0) = true by simpa using he]);show GoR ..)|(refine GoR.c c83 (by rfl) (by rfl) rfl ?_;(refine (ht _).ret ?_))|(refine GoR.c c44 (by rfl) (by rfl) rfl ?_;(refine (hof _).ret ?_))|(refine GoR.c c84 (by rfl) (by rfl) rfl ?_;(refine (hpl _).ret ?_))|refine GoR.s (by rfl) rfl rfl ?_|(refine GoR.splitG rfl (fun hc => ?_) (fun hc => ?_) <;> simp only [hc])|refine Go.condB rfl (fun hc => ?_) (fun hc => ?_))
      refine ⟨(by first | exact .inl rfl | exact .inr rfl), fin ?_⟩
      rw [resD_three (fn := Tryz.f38) rfl]
      simp only [optThen_some,resultD_tmp,resultD_cell,G,Z,Y,Gx,un_neg,cutD,decide_true,decide_false,simprocAttr,fb2,fb3,fb9,fb35,fb73,fb75,fb90]
      exact ⟨_, _, rfl, Wf.to_Wk (.tup' (.cons nil_wf .refl)) triple_low, rfl⟩
end Go.Proofs.DeT
