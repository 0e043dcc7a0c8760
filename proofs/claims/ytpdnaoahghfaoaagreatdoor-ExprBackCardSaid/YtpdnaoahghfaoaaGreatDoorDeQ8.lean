/- Any two trees: whether they may be, in words and back, whether they are one, their names: the law. -/
import Derived.Test.YtpdnaoahghfaoaaGreatDoorDeQ7
set_option linter.unusedSimpArgs false
set_option linter.unusedVariables false
namespace Go.Proofs.DeT
open Go Go.DM
set_option maxRecDepth 100000

theorem lawBack (n o : Nd) (hin : In64 n) (hio : In64 o) (S : Mem) : CallD Tryz.prog O 8 [.agg n.c, .agg o.c] S fun d S' => S' = S ∧ d = .bool true := by
  have hfn := fun S => few9 (orc := O) n S
  have hfo := fun S => few9 (orc := O) o S
  have hofn := fun hs S => of9 (orc := O) n hs S
  have hofo := fun hs S => of9 (orc := O) o hs S
  have hckn := fun hs S => refCheckN (orc := O) n hs S
  have hcko := fun hs S => refCheckN (orc := O) o hs S
  have hech := fun hs S => exprCheck (orc := O) n hs S
  have htx := fun hw hc S => exprText n hw hc S
  have hrt := fun hw hc S => refNodeText (orc := O) n hw hc S
  have hpa := fun hs S => parse (textS n) hs S
  have hpb := parse_back n
  have hpw := parse_whole (s := textS n)
  have hcs := clean_same n
  have hofx := fun hs S => of9 (orc := O) (cleanN n) hs S
  have hckx := fun hs S => refCheckN (orc := O) (cleanN n) hs S
  have hsmx := fun hs S => refSame (orc := O) (cleanN n) hs n S
  have hsm := fun hs S => refSame (orc := O) n hs o S
  have hesm := fun hs S => exprSame (orc := O) n hs o S
  have hnm := fun hw hc S => names n (whole_slim n hw) (whole_fits n hw) hc (fun h => namesR_pos h) S
  have hrn := fun hw hc S => refNames n hw hc S
  have hwn := whole_ofN (n := n) hin
  have hwo := whole_ofN (n := o) hio
  have hslx := whole_slim (cleanN n)
  have hsln := whole_slim n
  have hckw := fun h hc => whole_checkN (n := cleanN n) h hc
  have htz := text_size n
  have hNle := namesR_le n
  have htxs := fun hl S => texts6 (namesR n) hl S
  generalize hX : cleanN n = x at *
  generalize textS n = T at *
  generalize namesR n = N at *
  obtain ⟨y1, hy1, hk1⟩ := kidY_of n
  obtain ⟨y2, hy2, hk2⟩ := kidY_of o
  obtain ⟨y3, hy3, hk3⟩ := kidY_of x
  have o1 := hk1.one
  have c1 := hk1.cells
  have o2 := hk2.one
  have c2 := hk2.cells
  have o3 := hk3.one
  have c3 := hk3.cells
  simp only [hy1, hy2, hy3, ndX] at hfn hfo hofn hofo hckn hcko hech htx hrt hofx hckx hsmx hsm hesm hnm hrn ⊢
  refine CallD.e Tryz.func8 rfl Tryz.ntmps8 (by rfl) ?_
  repeat' (first|refine Go.a rfl ?_|refine Go.rg ?_|refine GoR.nil ?_|refine Go.ret ?_|refine Go.b rfl ?_|refine Go.rgS dmx (by decide) ?_|refine Go.rgD [18, 26, 28, 36] (fun _ => True) dmx (by decide) 37 (by decide) (by trivial) ?_|refine GoW.nil rfl ?_|((first|refine GoR.o (by rfl) (by rfl) ?_|refine GoW.o (by rfl) (by rfl) ?_|refine GoW.rd (by rfl) (by rfl) ?_);(conv => arg 1;simp only [G,Z,Y,Gx,un_neg,cutD,decide_true,decide_false,simprocAttr,fb2,fb3,fb4,fb9,fb73,fb75,Bool.not_true, Bool.not_false, o1, c1, o2, c2]);first|show GoR ..|(show _ ∧ GoW ..;refine ⟨by exact fun _ => trivial,?_⟩)|(show _ ∧ _ ∧ _ ∧ GoW ..;refine ⟨rfl,by trivial,(fun H _=>by simp only [G,Z,Y,Gx,un_neg,cutD,decide_true,decide_false,simprocAttr,fb2,fb3,fb4,fb9,fb73,fb75,Bool.not_true, Bool.not_false, o1, c1, o2, c2]),?_⟩))|(refine GoW.c c37 (by rfl) (by rfl) rfl ?_;(refine (known _).ret ?_);refine ⟨by exact fun _ => trivial,?_⟩)|(refine GoR.c c37 (by rfl) (by rfl) rfl ?_;(refine (known _).ret ?_))|(refine GoW.c c47 (by rfl) (by rfl) rfl ?_;(first | (refine (hfn _).retE ?_; rintro _ ⟨b, rfl, hb⟩) | (refine (hfo _).retE ?_; rintro _ ⟨b2, rfl, hb2⟩));refine ⟨by exact fun _ => trivial,?_⟩)|(refine GoR.c c47 (by rfl) (by rfl) rfl ?_;(first | (refine (hfn _).retE ?_; rintro _ ⟨b, rfl, hb⟩) | (refine (hfo _).retE ?_; rintro _ ⟨b2, rfl, hb2⟩)))|refine GoR.s (by rfl) rfl rfl ?_|refine GoW.s (by rfl) rfl rfl (by exact fun _ => trivial) ?_|(refine GoR.splitG rfl (fun hc => ?_) (fun hc => ?_) <;> simp only [hc])|refine Go.condB rfl (fun hc => ?_) (fun hc => ?_))
  · refine ⟨(by first | exact .inl rfl | exact .inr rfl), fin ?_⟩
    rw [resD_tmp (fn := Tryz.f8) rfl]
    simp only [optThen_some,resultD_tmp,resultD_cell,G,Z,Y,Gx,un_neg,cutD,decide_true,decide_false,simprocAttr,fb2,fb3,fb4,fb9,fb73,fb75]
    exact ⟨_, _, rfl, .bool, rfl⟩
  · refine ⟨(by first | exact .inl rfl | exact .inr rfl), fin ?_⟩
    rw [resD_tmp (fn := Tryz.f8) rfl]
    simp only [optThen_some,resultD_tmp,resultD_cell,G,Z,Y,Gx,un_neg,cutD,decide_true,decide_false,simprocAttr,fb2,fb3,fb4,fb9,fb73,fb75]
    exact ⟨_, _, rfl, .bool, rfl⟩
  obtain ⟨hsn, hcn⟩ := hb (by rename_i q; simpa using q)
  obtain ⟨hso, hco⟩ := hb2 (by simpa using hc)
  by_cases hen : checkN n = 0
  rotate_left
  · repeat' (first|refine Go.a rfl ?_|refine Go.rg ?_|refine GoR.nil ?_|refine Go.ret ?_|refine Go.b rfl ?_|refine Go.rgS dmx (by decide) ?_|refine Go.rgD [18, 26, 28, 36] (fun _ => True) dmx (by decide) 37 (by decide) (by trivial) ?_|refine GoW.nil rfl ?_|((first|refine GoR.o (by rfl) (by rfl) ?_|refine GoW.o (by rfl) (by rfl) ?_|refine GoW.rd (by rfl) (by rfl) ?_);(conv => arg 1;simp only [G,Z,Y,Gx,un_neg,cutD,decide_true,decide_false,simprocAttr,fb2,fb3,fb4,fb9,fb73,fb75,o1, c1, o2, c2, show (checkN n != 0) = true by simpa using hen, show (checkN n == 0) = false by simpa using hen, bne_self_eq_false]);first|show GoR ..|(show _ ∧ GoW ..;refine ⟨by exact fun _ => trivial,?_⟩)|(show _ ∧ _ ∧ _ ∧ GoW ..;refine ⟨rfl,by trivial,(fun H _=>by simp only [G,Z,Y,Gx,un_neg,cutD,decide_true,decide_false,simprocAttr,fb2,fb3,fb4,fb9,fb73,fb75,o1, c1, o2, c2, show (checkN n != 0) = true by simpa using hen, show (checkN n == 0) = false by simpa using hen, bne_self_eq_false]),?_⟩))|(refine GoW.c c41 (by rfl) (by rfl) rfl ?_;(refine (hofn hsn _).ret ?_);refine ⟨by exact fun _ => trivial,?_⟩)|(refine GoR.c c41 (by rfl) (by rfl) rfl ?_;(refine (hofn hsn _).ret ?_))|(refine GoW.c c40 (by rfl) (by rfl) rfl ?_;(refine (hckn hsn _).ret ?_);refine ⟨by exact fun _ => trivial,?_⟩)|(refine GoR.c c40 (by rfl) (by rfl) rfl ?_;(refine (hckn hsn _).ret ?_))|(refine GoW.c c48 (by rfl) (by rfl) rfl ?_;(refine (hech hsn _).ret ?_);refine ⟨by exact fun _ => trivial,?_⟩)|(refine GoR.c c48 (by rfl) (by rfl) rfl ?_;(refine (hech hsn _).ret ?_))|refine GoR.s (by rfl) rfl rfl ?_|refine GoW.s (by rfl) rfl rfl (by exact fun _ => trivial) ?_|(refine GoR.splitG rfl (fun hc => ?_) (fun hc => ?_) <;> simp only [hc])|refine Go.condB rfl (fun hc => ?_) (fun hc => ?_))
    refine ⟨(by first | exact .inl rfl | exact .inr rfl), fin ?_⟩
    rw [resD_tmp (fn := Tryz.f8) rfl]
    simp only [optThen_some,resultD_tmp,resultD_cell,G,Z,Y,Gx,un_neg,cutD,decide_true,decide_false,simprocAttr,fb2,fb3,fb4,fb9,fb73,fb75]
    exact ⟨_, _, rfl, .bool, rfl⟩
  rw [hen] at hckn hech
  by_cases heo : checkN o = 0
  rotate_left
  · repeat' (first|refine Go.a rfl ?_|refine Go.rg ?_|refine GoR.nil ?_|refine Go.ret ?_|refine Go.b rfl ?_|refine Go.rgS dmx (by decide) ?_|refine Go.rgD [18, 26, 28, 36] (fun _ => True) dmx (by decide) 37 (by decide) (by trivial) ?_|refine GoW.nil rfl ?_|((first|refine GoR.o (by rfl) (by rfl) ?_|refine GoW.o (by rfl) (by rfl) ?_|refine GoW.rd (by rfl) (by rfl) ?_);(conv => arg 1;simp only [G,Z,Y,Gx,un_neg,cutD,decide_true,decide_false,simprocAttr,fb2,fb3,fb4,fb9,fb73,fb75,o1, c1, o2, c2, show (checkN o != 0) = true by simpa using heo, show (checkN o == 0) = false by simpa using heo, bne_self_eq_false]);first|show GoR ..|(show _ ∧ GoW ..;refine ⟨by exact fun _ => trivial,?_⟩)|(show _ ∧ _ ∧ _ ∧ GoW ..;refine ⟨rfl,by trivial,(fun H _=>by simp only [G,Z,Y,Gx,un_neg,cutD,decide_true,decide_false,simprocAttr,fb2,fb3,fb4,fb9,fb73,fb75,o1, c1, o2, c2, show (checkN o != 0) = true by simpa using heo, show (checkN o == 0) = false by simpa using heo, bne_self_eq_false]),?_⟩))|(refine GoW.c c41 (by rfl) (by rfl) rfl ?_;(first | refine (hofn hsn _).ret ?_ | refine (hofo hso _).ret ?_);refine ⟨by exact fun _ => trivial,?_⟩)|(refine GoR.c c41 (by rfl) (by rfl) rfl ?_;(first | refine (hofn hsn _).ret ?_ | refine (hofo hso _).ret ?_))|(refine GoW.c c40 (by rfl) (by rfl) rfl ?_;(first | refine (hckn hsn _).ret ?_ | refine (hcko hso _).ret ?_);refine ⟨by exact fun _ => trivial,?_⟩)|(refine GoR.c c40 (by rfl) (by rfl) rfl ?_;(first | refine (hckn hsn _).ret ?_ | refine (hcko hso _).ret ?_))|(refine GoW.c c48 (by rfl) (by rfl) rfl ?_;(refine (hech hsn _).ret ?_);refine ⟨by exact fun _ => trivial,?_⟩)|(refine GoR.c c48 (by rfl) (by rfl) rfl ?_;(refine (hech hsn _).ret ?_))|refine GoR.s (by rfl) rfl rfl ?_|refine GoW.s (by rfl) rfl rfl (by exact fun _ => trivial) ?_|(refine GoR.splitG rfl (fun hc => ?_) (fun hc => ?_) <;> simp only [hc])|refine Go.condB rfl (fun hc => ?_) (fun hc => ?_))
    refine ⟨(by first | exact .inl rfl | exact .inr rfl), fin ?_⟩
    rw [resD_tmp (fn := Tryz.f8) rfl]
    simp only [optThen_some,resultD_tmp,resultD_cell,G,Z,Y,Gx,un_neg,cutD,decide_true,decide_false,simprocAttr,fb2,fb3,fb4,fb9,fb73,fb75]
    exact ⟨_, _, rfl, .bool, rfl⟩
  rw [heo] at hcko
  obtain ⟨hwn, hcn⟩ := hwn hsn hen
  have hpb := hpb hwn hcn
  rw [hpb] at hpw hpa
  obtain ⟨hwx, hcx⟩ := hpw rfl
  have htz := htz hwn
  have htx := htx hwn (by omega)
  have hrt := hrt hwn (by omega)
  have hnm := hnm hwn (by omega)
  have hrn := hrn hwn (by omega)
  have hpa := hpa (by omega)
  have hslx := hslx hwx
  have hofx := hofx hslx
  have hckx := hckx hslx
  have hsmx := hsmx hslx
  rw [hckw hwx hcx] at hckx
  rw [hcs hwn] at hsmx
  have htxs := htxs (by omega)
  have hsm := hsm hsn
  have hesm := hesm hsn
  have hofn := hofn hsn
  have hofo := hofo hso
  have hckn := hckn hsn
  have hcko := hcko hso
  have hech := hech hsn
  simp only [resC, hy3, ndX] at hpa
  clear hcs hckw hpb hwo hsln hpw hfn hfo
  repeat' (first|refine Go.a rfl ?_|refine Go.rg ?_|refine GoR.nil ?_|refine Go.ret ?_|refine Go.b rfl ?_|refine Go.rgS dmx (by decide) ?_|refine Go.rgD [18, 26, 28, 36] (fun H => objAt H S.length = some [.str n.op, .str n.name, .int .i64 n.n, y1] ∧ objAt H (S.length + 1) = some [.str o.op, .str o.name, .int .i64 o.n, y2] ∧ objAt H (S.length + 2) = some [.str x.op, .str x.name, .int .i64 x.n, y3]) dmx (by decide) 37 (by decide) (by (simp only [List.append_assoc, List.cons_append, List.nil_append, objAt_app, objAt_app0, objAt_succ, objAt_zero, and_self])) ?_|refine GoW.nil rfl ?_|((first|refine GoR.o (by rfl) (by rfl) ?_|refine GoW.o (by rfl) (by rfl) ?_|refine GoW.rd (by rfl) (by rfl) ?_);(conv => arg 1;simp only [G,Z,Y,Gx,un_neg,cutD,decide_true,decide_false,simprocAttr,fb2,fb3,fb4,fb9,fb73,fb75,o1, c1, o2, c2, o3, c3, bne_self_eq_false, beq_self_eq_true, decide_true, Bool.not_true]);first|show GoR ..|(show _ ∧ GoW ..;refine ⟨by (first|exact fun h => absurd h (by decide)|(intro _;(simp only [List.append_assoc, List.cons_append, List.nil_append, objAt_app, objAt_app0, objAt_succ, objAt_zero, and_self]))),?_⟩)|(show _ ∧ _ ∧ _ ∧ GoW ..;refine ⟨rfl,by (simp only [List.append_assoc, List.cons_append, List.nil_append, objAt_app, objAt_app0, objAt_succ, objAt_zero, and_self]),(fun H hI=>by (try dsimp only at hI);simp only [G,Z,Y,Gx,un_neg,cutD,decide_true,decide_false,simprocAttr,fb2,fb3,fb4,fb9,fb73,fb75,o1, c1, o2, c2, o3, c3, bne_self_eq_false, beq_self_eq_true, decide_true, Bool.not_true,hI]),?_⟩))|(refine GoW.c c41 (by rfl) (by rfl) rfl ?_;(first | refine (hofn _).ret ?_ | refine (hofo _).ret ?_ | refine (hofx _).ret ?_);refine ⟨by (first|exact fun h => absurd h (by decide)|(intro _;(simp only [List.append_assoc, List.cons_append, List.nil_append, objAt_app, objAt_app0, objAt_succ, objAt_zero, and_self]))),?_⟩)|(refine GoR.c c41 (by rfl) (by rfl) rfl ?_;(first | refine (hofn _).ret ?_ | refine (hofo _).ret ?_ | refine (hofx _).ret ?_))|(refine GoW.c c40 (by rfl) (by rfl) rfl ?_;(first | refine (hckn _).ret ?_ | refine (hcko _).ret ?_ | refine (hckx _).ret ?_);refine ⟨by (first|exact fun h => absurd h (by decide)|(intro _;(simp only [List.append_assoc, List.cons_append, List.nil_append, objAt_app, objAt_app0, objAt_succ, objAt_zero, and_self]))),?_⟩)|(refine GoR.c c40 (by rfl) (by rfl) rfl ?_;(first | refine (hckn _).ret ?_ | refine (hcko _).ret ?_ | refine (hckx _).ret ?_))|(refine GoW.c c48 (by rfl) (by rfl) rfl ?_;(refine (hech _).ret ?_);refine ⟨by (first|exact fun h => absurd h (by decide)|(intro _;(simp only [List.append_assoc, List.cons_append, List.nil_append, objAt_app, objAt_app0, objAt_succ, objAt_zero, and_self]))),?_⟩)|(refine GoR.c c48 (by rfl) (by rfl) rfl ?_;(refine (hech _).ret ?_))|(refine GoW.c c49 (by rfl) (by rfl) rfl ?_;(refine (htx _).ret ?_);refine ⟨by (first|exact fun h => absurd h (by decide)|(intro _;(simp only [List.append_assoc, List.cons_append, List.nil_append, objAt_app, objAt_app0, objAt_succ, objAt_zero, and_self]))),?_⟩)|(refine GoR.c c49 (by rfl) (by rfl) rfl ?_;(refine (htx _).ret ?_))|(refine GoW.c c38 (by rfl) (by rfl) rfl ?_;(refine (hpa _).ret ?_);refine ⟨by (first|exact fun h => absurd h (by decide)|(intro _;(simp only [List.append_assoc, List.cons_append, List.nil_append, objAt_app, objAt_app0, objAt_succ, objAt_zero, and_self]))),?_⟩)|(refine GoR.c c38 (by rfl) (by rfl) rfl ?_;(refine (hpa _).ret ?_))|(refine GoW.c c50 (by rfl) (by rfl) rfl ?_;(refine (hrt _).ret ?_);refine ⟨by (first|exact fun h => absurd h (by decide)|(intro _;(simp only [List.append_assoc, List.cons_append, List.nil_append, objAt_app, objAt_app0, objAt_succ, objAt_zero, and_self]))),?_⟩)|(refine GoR.c c50 (by rfl) (by rfl) rfl ?_;(refine (hrt _).ret ?_))|(refine GoW.c c42 (by rfl) (by rfl) rfl ?_;(first | refine (hsmx _).ret ?_ | refine (hsm _).ret ?_);refine ⟨by (first|exact fun h => absurd h (by decide)|(intro _;(simp only [List.append_assoc, List.cons_append, List.nil_append, objAt_app, objAt_app0, objAt_succ, objAt_zero, and_self]))),?_⟩)|(refine GoR.c c42 (by rfl) (by rfl) rfl ?_;(first | refine (hsmx _).ret ?_ | refine (hsm _).ret ?_))|(refine GoW.c c51 (by rfl) (by rfl) rfl ?_;(refine (hesm _).ret ?_);refine ⟨by (first|exact fun h => absurd h (by decide)|(intro _;(simp only [List.append_assoc, List.cons_append, List.nil_append, objAt_app, objAt_app0, objAt_succ, objAt_zero, and_self]))),?_⟩)|(refine GoR.c c51 (by rfl) (by rfl) rfl ?_;(refine (hesm _).ret ?_))|(refine GoW.c c53 (by rfl) (by rfl) rfl ?_;(refine (hnm _).ret ?_);refine ⟨by (first|exact fun h => absurd h (by decide)|(intro _;(simp only [List.append_assoc, List.cons_append, List.nil_append, objAt_app, objAt_app0, objAt_succ, objAt_zero, and_self]))),?_⟩)|(refine GoR.c c53 (by rfl) (by rfl) rfl ?_;(refine (hnm _).ret ?_))|(refine GoW.c c54 (by rfl) (by rfl) rfl ?_;(refine (hrn _).ret ?_);refine ⟨by (first|exact fun h => absurd h (by decide)|(intro _;(simp only [List.append_assoc, List.cons_append, List.nil_append, objAt_app, objAt_app0, objAt_succ, objAt_zero, and_self]))),?_⟩)|(refine GoR.c c54 (by rfl) (by rfl) rfl ?_;(refine (hrn _).ret ?_))|(refine GoW.c c52 (by rfl) (by rfl) rfl ?_;(refine (htxs _).ret ?_);refine ⟨by (first|exact fun h => absurd h (by decide)|(intro _;(simp only [List.append_assoc, List.cons_append, List.nil_append, objAt_app, objAt_app0, objAt_succ, objAt_zero, and_self]))),?_⟩)|(refine GoR.c c52 (by rfl) (by rfl) rfl ?_;(refine (htxs _).ret ?_))|refine GoR.s (by rfl) rfl rfl ?_|refine GoW.s (by rfl) rfl rfl (by (first|exact fun h => absurd h (by decide)|(intro _;(simp only [List.append_assoc, List.cons_append, List.nil_append, objAt_app, objAt_app0, objAt_succ, objAt_zero, and_self])))) ?_|(refine GoR.splitG rfl (fun hc => ?_) (fun hc => ?_) <;> simp only [hc])|refine Go.condB rfl (fun hc => ?_) (fun hc => ?_))
  refine ⟨(by first | exact .inl rfl | exact .inr rfl), fin ?_⟩
  rw [resD_tmp (fn := Tryz.f8) rfl]
  simp only [optThen_some,resultD_tmp,resultD_cell,G,Z,Y,Gx,un_neg,cutD,decide_true,decide_false,simprocAttr,fb2,fb3,fb4,fb9,fb73,fb75]
  exact ⟨_, _, rfl, .bool, rfl⟩
end Go.Proofs.DeT
