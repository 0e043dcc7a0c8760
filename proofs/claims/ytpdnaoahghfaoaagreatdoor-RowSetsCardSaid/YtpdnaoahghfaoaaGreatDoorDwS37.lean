/- The law RowAny. -/
import Derived.Test.YtpdnaoahghfaoaaGreatDoorDwS36
set_option linter.unusedSimpArgs false
set_option linter.unusedVariables false
namespace Go.Proofs.DwT
open Go Go.DM Go.Proofs.DeT
set_option maxRecDepth 100000

/-- A row whose numbers are numbers of 64 bits. -/
structure InR (r : Rw) : Prop where
  st : In64 r.st
  i : ∀ a ∈ r.at_, in64 a.v.i
  l : ∀ a ∈ r.at_, ∀ x ∈ a.v.l, in64 x
theorem fewR_few {r : Rw} (h : fewR r = true) : FewR r ∧ r.at_.length ≤ 40 := by
  simp only [fewR, Bool.and_eq_true, decide_eq_true_eq] at h
  obtain ⟨h1, h2, h3⟩ := h
  exact ⟨fewR_of (k := r.key) (st := r.st) (l := r.at_) (by omega) (by omega) h3, (fewA_size h3).1⟩
theorem fewR_t {r : Rw} (h : fewR r = true) (hi : InR r) : ∀ a ∈ r.at_, FewT a := by
  simp only [fewR, Bool.and_eq_true, decide_eq_true_eq] at h
  obtain ⟨_, _, h3⟩ := h
  obtain ⟨_, h4⟩ := fewA_size h3
  intro a ha
  have := h4 a ha
  exact ⟨by omega, by omega, by omega, hi.i a ha, hi.l a ha⟩
theorem lawAny (a b : Rw) (ha : InR a) (hb : InR b) (S : Mem) : CallD Tryz.prog O 3 [.agg a.c, .agg b.c] S fun d S' => S' = S ∧ d = .bool true := by
  have fa := fun S => few4 (orc := O) a S
  have fb := fun S => few4 (orc := O) b S
  cases hfa : fewR a with
  | false =>
    simp only [Rw.c] at fa fb ⊢
    refine CallD.e Tryz.func3 rfl Tryz.ntmps3 (by rfl) ?_
    repeat' (first|refine Go.a rfl ?_|refine Go.rg ?_|refine GoR.nil ?_|refine Go.ret ?_|refine Go.b rfl ?_|refine Go.rgS dmx (by decide) ?_|refine Go.rgD [2, 10, 12, 24, 27] (fun _ => True) dmx (by decide) 28 (by decide) (by trivial) ?_|refine GoW.nil rfl ?_|((first|refine GoR.o (by rfl) (by rfl) ?_|refine GoW.o (by rfl) (by rfl) ?_|refine GoW.rd (by rfl) (by rfl) ?_);(conv => arg 1;simp only [G,Z,Y,Gx,un_neg,cutD,decide_true,decide_false,simprocAttr,fb3,fb4,fb9,fb23,fb24,fb26,hfa]);first|show GoR ..|(show _ ∧ GoW ..;refine ⟨by exact fun _ => trivial,?_⟩)|(show _ ∧ _ ∧ _ ∧ GoW ..;refine ⟨rfl,by trivial,(fun H _=>by simp only [G,Z,Y,Gx,un_neg,cutD,decide_true,decide_false,simprocAttr,fb3,fb4,fb9,fb23,fb24,fb26,hfa]),?_⟩))|(refine GoW.c c12 (by rfl) (by rfl) rfl ?_;(refine (known _).ret ?_);refine ⟨by exact fun _ => trivial,?_⟩)|(refine GoR.c c12 (by rfl) (by rfl) rfl ?_;(refine (known _).ret ?_))|(refine GoW.c c13 (by rfl) (by rfl) rfl ?_;(refine (fa _).ret ?_);refine ⟨by exact fun _ => trivial,?_⟩)|(refine GoR.c c13 (by rfl) (by rfl) rfl ?_;(refine (fa _).ret ?_))|refine GoR.s (by rfl) rfl rfl ?_|refine GoW.s (by rfl) rfl rfl (by exact fun _ => trivial) ?_|(refine GoR.splitG rfl (fun hc => ?_) (fun hc => ?_) <;> simp only [hc])|refine Go.condB rfl (fun hc => ?_) (fun hc => ?_))
    refine ⟨(by first | exact .inl rfl | exact .inr rfl), fin ?_⟩
    rw [resD_tmp (fn := Tryz.f3) rfl]
    simp only [optThen_some,resultD_tmp,resultD_cell,G,Z,Y,Gx,un_neg,cutD,decide_true,decide_false,simprocAttr,fb3,fb4,fb9,fb23,fb24,fb26]
    exact ⟨_, _, rfl, .bool, rfl⟩
  | true =>
  cases hfb : fewR b with
  | false =>
    simp only [Rw.c] at fa fb ⊢
    refine CallD.e Tryz.func3 rfl Tryz.ntmps3 (by rfl) ?_
    repeat' (first|refine Go.a rfl ?_|refine Go.rg ?_|refine GoR.nil ?_|refine Go.ret ?_|refine Go.b rfl ?_|refine Go.rgS dmx (by decide) ?_|refine Go.rgD [2, 10, 12, 24, 27] (fun _ => True) dmx (by decide) 28 (by decide) (by trivial) ?_|refine GoW.nil rfl ?_|((first|refine GoR.o (by rfl) (by rfl) ?_|refine GoW.o (by rfl) (by rfl) ?_|refine GoW.rd (by rfl) (by rfl) ?_);(conv => arg 1;simp only [G,Z,Y,Gx,un_neg,cutD,decide_true,decide_false,simprocAttr,fb3,fb4,fb9,fb23,fb24,fb26,hfa, hfb]);first|show GoR ..|(show _ ∧ GoW ..;refine ⟨by exact fun _ => trivial,?_⟩)|(show _ ∧ _ ∧ _ ∧ GoW ..;refine ⟨rfl,by trivial,(fun H _=>by simp only [G,Z,Y,Gx,un_neg,cutD,decide_true,decide_false,simprocAttr,fb3,fb4,fb9,fb23,fb24,fb26,hfa, hfb]),?_⟩))|(refine GoW.c c12 (by rfl) (by rfl) rfl ?_;(refine (known _).ret ?_);refine ⟨by exact fun _ => trivial,?_⟩)|(refine GoR.c c12 (by rfl) (by rfl) rfl ?_;(refine (known _).ret ?_))|(refine GoW.c c13 (by rfl) (by rfl) rfl ?_;(first | (refine (fa _).ret ?_) | (refine (fb _).ret ?_));refine ⟨by exact fun _ => trivial,?_⟩)|(refine GoR.c c13 (by rfl) (by rfl) rfl ?_;(first | (refine (fa _).ret ?_) | (refine (fb _).ret ?_)))|refine GoR.s (by rfl) rfl rfl ?_|refine GoW.s (by rfl) rfl rfl (by exact fun _ => trivial) ?_|(refine GoR.splitG rfl (fun hc => ?_) (fun hc => ?_) <;> simp only [hc])|refine Go.condB rfl (fun hc => ?_) (fun hc => ?_))
    all_goals
      refine ⟨(by first | exact .inl rfl | exact .inr rfl), fin ?_⟩
      rw [resD_tmp (fn := Tryz.f3) rfl]
      simp only [optThen_some,resultD_tmp,resultD_cell,G,Z,Y,Gx,un_neg,cutD,decide_true,decide_false,simprocAttr,fb3,fb4,fb9,fb23,fb24,fb26]
      exact ⟨_, _, rfl, .bool, rfl⟩
  | true =>
  obtain ⟨fra, la⟩ := fewR_few hfa
  obtain ⟨frb, lb⟩ := fewR_few hfb
  have ofa := fun S => of4 (orc := O) a (by omega) S
  have ofb := fun S => of4 (orc := O) b (by omega) S
  have ca := fun S => rowCheck a fra S
  have ra := fun S => refCheck a fra S
  have rb := fun S => refCheck b frb S
  by_cases c1 : chkR a = 0
  rotate_left
  · simp only [Rw.c] at fa fb ofa ofb ca ra rb ⊢
    have c1b : (chkR a != 0) = true := by simpa using c1
    have c1s : (chkR a != chkR a) = false := by simp
    refine CallD.e Tryz.func3 rfl Tryz.ntmps3 (by rfl) ?_
    repeat' (first|refine Go.a rfl ?_|refine Go.rg ?_|refine GoR.nil ?_|refine Go.ret ?_|refine Go.b rfl ?_|refine Go.rgS dmx (by decide) ?_|refine Go.rgD [2, 10, 12, 24, 27] (fun _ => True) dmx (by decide) 28 (by decide) (by trivial) ?_|refine GoW.nil rfl ?_|((first|refine GoR.o (by rfl) (by rfl) ?_|refine GoW.o (by rfl) (by rfl) ?_|refine GoW.rd (by rfl) (by rfl) ?_);(conv => arg 1;simp only [G,Z,Y,Gx,un_neg,cutD,decide_true,decide_false,simprocAttr,fb3,fb4,fb9,fb23,fb24,fb26,hfa, hfb, c1b, c1s]);first|show GoR ..|(show _ ∧ GoW ..;refine ⟨by exact fun _ => trivial,?_⟩)|(show _ ∧ _ ∧ _ ∧ GoW ..;refine ⟨rfl,by trivial,(fun H _=>by simp only [G,Z,Y,Gx,un_neg,cutD,decide_true,decide_false,simprocAttr,fb3,fb4,fb9,fb23,fb24,fb26,hfa, hfb, c1b, c1s]),?_⟩))|(refine GoW.c c12 (by rfl) (by rfl) rfl ?_;(refine (known _).ret ?_);refine ⟨by exact fun _ => trivial,?_⟩)|(refine GoR.c c12 (by rfl) (by rfl) rfl ?_;(refine (known _).ret ?_))|(refine GoW.c c13 (by rfl) (by rfl) rfl ?_;(first | (refine (fa _).ret ?_) | (refine (fb _).ret ?_));refine ⟨by exact fun _ => trivial,?_⟩)|(refine GoR.c c13 (by rfl) (by rfl) rfl ?_;(first | (refine (fa _).ret ?_) | (refine (fb _).ret ?_)))|(refine GoW.c c15 (by rfl) (by rfl) rfl ?_;(first | (refine (ofa _).ret ?_) | (refine (ofb _).ret ?_));refine ⟨by exact fun _ => trivial,?_⟩)|(refine GoR.c c15 (by rfl) (by rfl) rfl ?_;(first | (refine (ofa _).ret ?_) | (refine (ofb _).ret ?_)))|(refine GoW.c c14 (by rfl) (by rfl) rfl ?_;(first | (refine (ra _).ret ?_) | (refine (rb _).ret ?_));refine ⟨by exact fun _ => trivial,?_⟩)|(refine GoR.c c14 (by rfl) (by rfl) rfl ?_;(first | (refine (ra _).ret ?_) | (refine (rb _).ret ?_)))|(refine GoW.c c16 (by rfl) (by rfl) rfl ?_;(refine (ca _).ret ?_);refine ⟨by exact fun _ => trivial,?_⟩)|(refine GoR.c c16 (by rfl) (by rfl) rfl ?_;(refine (ca _).ret ?_))|refine GoR.s (by rfl) rfl rfl ?_|refine GoW.s (by rfl) rfl rfl (by exact fun _ => trivial) ?_|(refine GoR.splitG rfl (fun hc => ?_) (fun hc => ?_) <;> simp only [hc])|refine Go.condB rfl (fun hc => ?_) (fun hc => ?_))
    all_goals
      refine ⟨(by first | exact .inl rfl | exact .inr rfl), fin ?_⟩
      rw [resD_tmp (fn := Tryz.f3) rfl]
      simp only [optThen_some,resultD_tmp,resultD_cell,G,Z,Y,Gx,un_neg,cutD,decide_true,decide_false,simprocAttr,fb3,fb4,fb9,fb23,fb24,fb26]
      exact ⟨_, _, rfl, .bool, rfl⟩
  by_cases c2 : chkR b = 0
  rotate_left
  · simp only [Rw.c] at fa fb ofa ofb ca ra rb ⊢
    have c2b : (chkR b != 0) = true := by simpa using c2
    refine CallD.e Tryz.func3 rfl Tryz.ntmps3 (by rfl) ?_
    repeat' (first|refine Go.a rfl ?_|refine Go.rg ?_|refine GoR.nil ?_|refine Go.ret ?_|refine Go.b rfl ?_|refine Go.rgS dmx (by decide) ?_|refine Go.rgD [2, 10, 12, 24, 27] (fun _ => True) dmx (by decide) 28 (by decide) (by trivial) ?_|refine GoW.nil rfl ?_|((first|refine GoR.o (by rfl) (by rfl) ?_|refine GoW.o (by rfl) (by rfl) ?_|refine GoW.rd (by rfl) (by rfl) ?_);(conv => arg 1;simp only [G,Z,Y,Gx,un_neg,cutD,decide_true,decide_false,simprocAttr,fb3,fb4,fb9,fb23,fb24,fb26,hfa, hfb, c1, c2b]);first|show GoR ..|(show _ ∧ GoW ..;refine ⟨by exact fun _ => trivial,?_⟩)|(show _ ∧ _ ∧ _ ∧ GoW ..;refine ⟨rfl,by trivial,(fun H _=>by simp only [G,Z,Y,Gx,un_neg,cutD,decide_true,decide_false,simprocAttr,fb3,fb4,fb9,fb23,fb24,fb26,hfa, hfb, c1, c2b]),?_⟩))|(refine GoW.c c12 (by rfl) (by rfl) rfl ?_;(refine (known _).ret ?_);refine ⟨by exact fun _ => trivial,?_⟩)|(refine GoR.c c12 (by rfl) (by rfl) rfl ?_;(refine (known _).ret ?_))|(refine GoW.c c13 (by rfl) (by rfl) rfl ?_;(first | (refine (fa _).ret ?_) | (refine (fb _).ret ?_));refine ⟨by exact fun _ => trivial,?_⟩)|(refine GoR.c c13 (by rfl) (by rfl) rfl ?_;(first | (refine (fa _).ret ?_) | (refine (fb _).ret ?_)))|(refine GoW.c c15 (by rfl) (by rfl) rfl ?_;(first | (refine (ofa _).ret ?_) | (refine (ofb _).ret ?_));refine ⟨by exact fun _ => trivial,?_⟩)|(refine GoR.c c15 (by rfl) (by rfl) rfl ?_;(first | (refine (ofa _).ret ?_) | (refine (ofb _).ret ?_)))|(refine GoW.c c14 (by rfl) (by rfl) rfl ?_;(first | (refine (ra _).ret ?_) | (refine (rb _).ret ?_));refine ⟨by exact fun _ => trivial,?_⟩)|(refine GoR.c c14 (by rfl) (by rfl) rfl ?_;(first | (refine (ra _).ret ?_) | (refine (rb _).ret ?_)))|(refine GoW.c c16 (by rfl) (by rfl) rfl ?_;(refine (ca _).ret ?_);refine ⟨by exact fun _ => trivial,?_⟩)|(refine GoR.c c16 (by rfl) (by rfl) rfl ?_;(refine (ca _).ret ?_))|refine GoR.s (by rfl) rfl rfl ?_|refine GoW.s (by rfl) rfl rfl (by exact fun _ => trivial) ?_|(refine GoR.splitG rfl (fun hc => ?_) (fun hc => ?_) <;> simp only [hc])|refine Go.condB rfl (fun hc => ?_) (fun hc => ?_))
    all_goals
      refine ⟨(by first | exact .inl rfl | exact .inr rfl), fin ?_⟩
      rw [resD_tmp (fn := Tryz.f3) rfl]
      simp only [optThen_some,resultD_tmp,resultD_cell,G,Z,Y,Gx,un_neg,cutD,decide_true,decide_false,simprocAttr,fb3,fb4,fb9,fb23,fb24,fb26]
      exact ⟨_, _, rfl, .bool, rfl⟩
  have ta := fun S => rowText a fra.key ha.st fra.org (fewR_t hfa ha) (by omega) S
  have rta := fun S => refRowText a fra.key ha.st fra.org (fewR_t hfa ha) (by omega) S
  have sab := fun S => rowSame (orc := O) a b (by omega) fra.atl S
  have saa := fun S => rowSame (orc := O) a a (by omega) fra.atl S
  have rsab := fun S => refSame (orc := O) a b (by omega) fra.atl frb.atl S
  have sl := fun S => sameAttrs (orc := O) a.at_ b.at_ (by omega) fra.atl S
  have rsl := fun S => refSameAttrs (orc := O) a.at_ b.at_ (by omega) fra.atl frb.atl S
  have oa := fun S => ofAttrs (orc := O) a.at_ (by omega) S
  have ob := fun S => ofAttrs (orc := O) b.at_ (by omega) S
  rw [sameR_self] at saa
  have ea : a.c = [.str a.key, .int .i64 a.st.tick, .int .i64 a.st.inc, .int .i64 a.st.seq, .str a.st.org, .sl none 5 a.at_.length (attsC a.at_)] := rfl
  have eb : b.c = [.str b.key, .int .i64 b.st.tick, .int .i64 b.st.inc, .int .i64 b.st.seq, .str b.st.org, .sl none 5 b.at_.length (attsC b.at_)] := rfl
  rw [ea] at fa ofa ca ra ta rta sab saa rsab ⊢
  rw [eb] at fb ofb rb sab rsab ⊢
  generalize sameR a b = q1 at *
  generalize sameL a.at_ b.at_ = q2 at *
  generalize textR a = tx at *
  refine CallD.e Tryz.func3 rfl Tryz.ntmps3 (by rfl) ?_
  repeat' (first|refine Go.a rfl ?_|refine Go.rg ?_|refine GoR.nil ?_|refine Go.ret ?_|refine Go.b rfl ?_|refine Go.rgS dmx (by decide) ?_|refine Go.rgD [2, 10, 12, 24, 27] (fun H => objAt H S.length = some [.str a.key, .int .i64 a.st.tick, .int .i64 a.st.inc, .int .i64 a.st.seq, .str a.st.org, .sl none 5 a.at_.length (attsC a.at_)] ∧ objAt H (S.length + 1) = some [.str b.key, .int .i64 b.st.tick, .int .i64 b.st.inc, .int .i64 b.st.seq, .str b.st.org, .sl none 5 b.at_.length (attsC b.at_)]) dmx (by decide) 28 (by decide) (by (simp only [List.append_assoc, List.cons_append, List.nil_append, objAt_app, objAt_app0, objAt_succ, objAt_zero, and_self])) ?_|refine GoW.nil rfl ?_|((first|refine GoR.o (by rfl) (by rfl) ?_|refine GoW.o (by rfl) (by rfl) ?_|refine GoW.rd (by rfl) (by rfl) ?_);(conv => arg 1;simp only [G,Z,Y,Gx,un_neg,cutD,decide_true,decide_false,simprocAttr,fb3,fb4,fb9,fb23,fb24,fb26,hfa, hfb, c1, c2, eq_self, beq_self_eq_true]);first|show GoR ..|(show _ ∧ GoW ..;refine ⟨by (first|exact fun h => absurd h (by decide)|(intro _;(simp only [List.append_assoc, List.cons_append, List.nil_append, objAt_app, objAt_app0, objAt_succ, objAt_zero, and_self]))),?_⟩)|(show _ ∧ _ ∧ _ ∧ GoW ..;refine ⟨rfl,by (simp only [List.append_assoc, List.cons_append, List.nil_append, objAt_app, objAt_app0, objAt_succ, objAt_zero, and_self]),(fun H hI=>by (try dsimp only at hI);simp only [G,Z,Y,Gx,un_neg,cutD,decide_true,decide_false,simprocAttr,fb3,fb4,fb9,fb23,fb24,fb26,hfa, hfb, c1, c2, eq_self, beq_self_eq_true,hI]),?_⟩))|(refine GoW.c c12 (by rfl) (by rfl) rfl ?_;(refine (known _).ret ?_);refine ⟨by (first|exact fun h => absurd h (by decide)|(intro _;(simp only [List.append_assoc, List.cons_append, List.nil_append, objAt_app, objAt_app0, objAt_succ, objAt_zero, and_self]))),?_⟩)|(refine GoR.c c12 (by rfl) (by rfl) rfl ?_;(refine (known _).ret ?_))|(refine GoW.c c13 (by rfl) (by rfl) rfl ?_;(first | (refine (fa _).ret ?_) | (refine (fb _).ret ?_));refine ⟨by (first|exact fun h => absurd h (by decide)|(intro _;(simp only [List.append_assoc, List.cons_append, List.nil_append, objAt_app, objAt_app0, objAt_succ, objAt_zero, and_self]))),?_⟩)|(refine GoR.c c13 (by rfl) (by rfl) rfl ?_;(first | (refine (fa _).ret ?_) | (refine (fb _).ret ?_)))|(refine GoW.c c15 (by rfl) (by rfl) rfl ?_;(first | (refine (ofa _).ret ?_) | (refine (ofb _).ret ?_));refine ⟨by (first|exact fun h => absurd h (by decide)|(intro _;(simp only [List.append_assoc, List.cons_append, List.nil_append, objAt_app, objAt_app0, objAt_succ, objAt_zero, and_self]))),?_⟩)|(refine GoR.c c15 (by rfl) (by rfl) rfl ?_;(first | (refine (ofa _).ret ?_) | (refine (ofb _).ret ?_)))|(refine GoW.c c14 (by rfl) (by rfl) rfl ?_;(first | (refine (ra _).ret ?_) | (refine (rb _).ret ?_));refine ⟨by (first|exact fun h => absurd h (by decide)|(intro _;(simp only [List.append_assoc, List.cons_append, List.nil_append, objAt_app, objAt_app0, objAt_succ, objAt_zero, and_self]))),?_⟩)|(refine GoR.c c14 (by rfl) (by rfl) rfl ?_;(first | (refine (ra _).ret ?_) | (refine (rb _).ret ?_)))|(refine GoW.c c16 (by rfl) (by rfl) rfl ?_;(refine (ca _).ret ?_);refine ⟨by (first|exact fun h => absurd h (by decide)|(intro _;(simp only [List.append_assoc, List.cons_append, List.nil_append, objAt_app, objAt_app0, objAt_succ, objAt_zero, and_self]))),?_⟩)|(refine GoR.c c16 (by rfl) (by rfl) rfl ?_;(refine (ca _).ret ?_))|(refine GoW.c c17 (by rfl) (by rfl) rfl ?_;(refine (ta _).ret ?_);refine ⟨by (first|exact fun h => absurd h (by decide)|(intro _;(simp only [List.append_assoc, List.cons_append, List.nil_append, objAt_app, objAt_app0, objAt_succ, objAt_zero, and_self]))),?_⟩)|(refine GoR.c c17 (by rfl) (by rfl) rfl ?_;(refine (ta _).ret ?_))|(refine GoW.c c18 (by rfl) (by rfl) rfl ?_;(refine (rta _).ret ?_);refine ⟨by (first|exact fun h => absurd h (by decide)|(intro _;(simp only [List.append_assoc, List.cons_append, List.nil_append, objAt_app, objAt_app0, objAt_succ, objAt_zero, and_self]))),?_⟩)|(refine GoR.c c18 (by rfl) (by rfl) rfl ?_;(refine (rta _).ret ?_))|(refine GoW.c c19 (by rfl) (by rfl) rfl ?_;(first | (refine (sab _).ret ?_) | (refine (saa _).ret ?_));refine ⟨by (first|exact fun h => absurd h (by decide)|(intro _;(simp only [List.append_assoc, List.cons_append, List.nil_append, objAt_app, objAt_app0, objAt_succ, objAt_zero, and_self]))),?_⟩)|(refine GoR.c c19 (by rfl) (by rfl) rfl ?_;(first | (refine (sab _).ret ?_) | (refine (saa _).ret ?_)))|(refine GoW.c c20 (by rfl) (by rfl) rfl ?_;(refine (rsab _).ret ?_);refine ⟨by (first|exact fun h => absurd h (by decide)|(intro _;(simp only [List.append_assoc, List.cons_append, List.nil_append, objAt_app, objAt_app0, objAt_succ, objAt_zero, and_self]))),?_⟩)|(refine GoR.c c20 (by rfl) (by rfl) rfl ?_;(refine (rsab _).ret ?_))|(refine GoW.c c21 (by rfl) (by rfl) rfl ?_;(refine (sl _).ret ?_);refine ⟨by (first|exact fun h => absurd h (by decide)|(intro _;(simp only [List.append_assoc, List.cons_append, List.nil_append, objAt_app, objAt_app0, objAt_succ, objAt_zero, and_self]))),?_⟩)|(refine GoR.c c21 (by rfl) (by rfl) rfl ?_;(refine (sl _).ret ?_))|(refine GoW.c c22 (by rfl) (by rfl) rfl ?_;(refine (rsl _).ret ?_);refine ⟨by (first|exact fun h => absurd h (by decide)|(intro _;(simp only [List.append_assoc, List.cons_append, List.nil_append, objAt_app, objAt_app0, objAt_succ, objAt_zero, and_self]))),?_⟩)|(refine GoR.c c22 (by rfl) (by rfl) rfl ?_;(refine (rsl _).ret ?_))|(refine GoW.c c23 (by rfl) (by rfl) rfl ?_;(first | (refine (oa _).ret ?_) | (refine (ob _).ret ?_));refine ⟨by (first|exact fun h => absurd h (by decide)|(intro _;(simp only [List.append_assoc, List.cons_append, List.nil_append, objAt_app, objAt_app0, objAt_succ, objAt_zero, and_self]))),?_⟩)|(refine GoR.c c23 (by rfl) (by rfl) rfl ?_;(first | (refine (oa _).ret ?_) | (refine (ob _).ret ?_)))|refine GoR.s (by rfl) rfl rfl ?_|refine GoW.s (by rfl) rfl rfl (by (first|exact fun h => absurd h (by decide)|(intro _;(simp only [List.append_assoc, List.cons_append, List.nil_append, objAt_app, objAt_app0, objAt_succ, objAt_zero, and_self])))) ?_|(refine GoR.splitG rfl (fun hc => ?_) (fun hc => ?_) <;> simp only [hc])|refine Go.condB rfl (fun hc => ?_) (fun hc => ?_))
  refine ⟨(by first | exact .inl rfl | exact .inr rfl), fin ?_⟩
  rw [resD_tmp (fn := Tryz.f3) rfl]
  simp only [optThen_some,resultD_tmp,resultD_cell,G,Z,Y,Gx,un_neg,cutD,decide_true,decide_false,simprocAttr,fb3,fb4,fb9,fb23,fb24,fb26]
  exact ⟨_, _, rfl, .bool, rfl⟩
end Go.Proofs.DwT
