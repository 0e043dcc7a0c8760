/- The law RowPlays. -/
import Derived.Test.YtpdnaoahghfaoaaGreatDoorDwS37
set_option linter.unusedSimpArgs false
set_option linter.unusedVariables false
namespace Go.Proofs.DwT
open Go Go.DM Go.Proofs.DeT
set_option maxRecDepth 100000

structure Ac where
  op : Int
  n : ByteArray
  v : Val
def Ac.c (a : Ac) : List D := [.int .i64 a.op, .str a.n, .int .i64 a.v.k, .int .i64 a.v.i, .str a.v.s, .sl none 1 a.v.l.length (intsD a.v.l)]
theorem Ac.len (a : Ac) : a.c.length = 6 := rfl
def acsC (l : List Ac) : List D := l.flatMap Ac.c
theorem acsAt {l : List Ac} {i : Nat} (h : i < l.length) : ((0 ≤ (i : Int) ∧ (i : Int) < (l.length : Int)) = True) ∧ ((i * 6 + 6 ≤ (acsC l).length) = True) ∧ ((acsC l).drop (i * 6)).take 6 = l[i].c :=
  ⟨ix_ok h, flat_fits0 Ac.len l i h, flat_all Ac.len l i h⟩
/-- Attributes that a play comes by. -/
structure OkA (l : List Att) : Prop where
  rise : RiseB Att.n l
  len : l.length ≤ 32
  s : ∀ a ∈ l, a.v.s.size < 1000000
  l : ∀ a ∈ l, a.v.l.length < 1000000
theorem OkA.nil : OkA [] := ⟨rise0, by simp, by simp, by simp⟩
theorem OkA.set {l : List Att} (h : OkA l) {s : ByteArray} {v : Val} (h1 : v.s.size < 1000000) (h2 : v.l.length < 1000000) (hf : ¬ ((look l s).isSome = false ∧ 32 ≤ l.length)) : OkA (setL l s v) := by
  have hl := len_set h.rise s v
  have := h.len
  refine ⟨rise_set h.rise s v, ?_, fun a ha => ?_, fun a ha => ?_⟩
  · cases hq : (look l s).isSome with
    | true => rw [hl.2 hq]; exact h.len
    | false =>
      have : ¬ 32 ≤ l.length := fun h => hf ⟨hq, h⟩
      omega
  · rcases mem_set h.rise ha with ha | rfl
    · exact h.s a ha
    · exact h1
  · rcases mem_set h.rise ha with ha | rfl
    · exact h.l a ha
    · exact h2
theorem OkA.drop {l : List Att} (h : OkA l) (s : ByteArray) : OkA (dropL l s) :=
  ⟨rise_drop h.rise s, Nat.le_trans (len_drop h.rise s) h.len, fun a ha => h.s a (mem_drop h.rise ha), fun a ha => h.l a (mem_drop h.rise ha)⟩
theorem setD_some {l : List Att} (h : OkA l) (s : ByteArray) {v : Val} (h1 : v.s.size < 1000000) (h2 : v.l.length < 1000000) : ∃ x e, setD l s v = .tup [attsD x, .int .i64 e] ∧ OkA x := by
  cases hn : nameOk s with
  | false => exact ⟨[], 5, setD_name hn, .nil⟩
  | true =>
    by_cases hc : chkV v = 0
    · by_cases hf : (look l s).isSome = false ∧ 32 ≤ l.length
      · exact ⟨[], 4, setD_full hn hc hf, .nil⟩
      · exact ⟨_, 0, setD_ok hn hc hf, h.set h1 h2 hf⟩
    · exact ⟨[], chkV v, setD_val hn hc, .nil⟩
theorem look_mem {l : List Att} {s : ByteArray} {v : Val} (h : look l s = some v) : ∃ a ∈ l, a.v = v := by
  unfold look at h
  obtain ⟨a, ha, rfl⟩ := Option.map_eq_some_iff.1 h
  exact ⟨a, List.mem_of_find?_eq_some ha, rfl⟩
theorem look_len {l : List Att} (h : OkA l) (s : ByteArray) : ((look l s).getD noVal).l.length < 1000000 := by
  cases hq : look l s with
  | none => decide
  | some v =>
    obtain ⟨a, ha, rfl⟩ := look_mem hq
    exact h.l a ha
set_option maxHeartbeats 2000000 in
theorem lawPlays (l : List Ac) (nm : ByteArray) (S : Mem) : CallD Tryz.prog O 4 [.sl none 6 l.length (acsC l), .str nm] S fun d S' => S' = S ∧ d = .bool true := by
  refine CallD.e Tryz.func4 rfl Tryz.ntmps4 (by rfl) ?_
  by_cases h80 : 80 < l.length
  · repeat' (first|refine Go.a rfl ?_|refine Go.rg ?_|refine GoR.nil ?_|refine Go.ret ?_|refine Go.b rfl ?_|refine Go.rgS dmx (by decide) ?_|refine Go.rgD [2] (fun _ => True) dmx (by decide) 6 (by decide) (by trivial) ?_|refine Go.rgD [9] (fun _ => True) dmx (by decide) 10 (by decide) (by trivial) ?_|refine GoW.nil rfl ?_|((first|refine GoR.o (by rfl) (by rfl) ?_|refine GoW.o (by rfl) (by rfl) ?_|refine GoW.rd (by rfl) (by rfl) ?_);(conv => arg 1;simp only [G,Z,Y,Gx,un_neg,cutD,decide_true,decide_false,simprocAttr,fb2,fb3,fb4,fb9,fb44,fb45,fb47,fb49,fb55,show decide (80 < (l.length : Int)) = true by simp; omega]);first|show GoR ..|(show _ ∧ GoW ..;refine ⟨by exact fun _ => trivial,?_⟩)|(show _ ∧ _ ∧ _ ∧ GoW ..;refine ⟨rfl,by trivial,(fun H _=>by simp only [G,Z,Y,Gx,un_neg,cutD,decide_true,decide_false,simprocAttr,fb2,fb3,fb4,fb9,fb44,fb45,fb47,fb49,fb55,show decide (80 < (l.length : Int)) = true by simp; omega]),?_⟩))|(refine GoW.c c12 (by rfl) (by rfl) rfl ?_;(refine (known _).ret ?_);refine ⟨by exact fun _ => trivial,?_⟩)|(refine GoR.c c12 (by rfl) (by rfl) rfl ?_;(refine (known _).ret ?_))|refine GoR.s (by rfl) rfl rfl ?_|refine GoW.s (by rfl) rfl rfl (by exact fun _ => trivial) ?_|(refine GoR.splitG rfl (fun hc => ?_) (fun hc => ?_) <;> simp only [hc])|refine Go.condB rfl (fun hc => ?_) (fun hc => ?_))
    refine ⟨(by first | exact .inl rfl | exact .inr rfl), fin ?_⟩
    rw [resD_tmp (fn := Tryz.f4) rfl]
    simp only [optThen_some,resultD_tmp,resultD_cell,G,Z,Y,Gx,un_neg,cutD,decide_true,decide_false,simprocAttr,fb2,fb3,fb4,fb9,fb44,fb45,fb47,fb49,fb55]
    exact ⟨_, [], by simp, .bool, rfl⟩
  have d80 : decide (80 < (l.length : Int)) = false := by simp; omega
  by_cases h100 : 100 < nm.size
  · repeat' (first|refine Go.a rfl ?_|refine Go.rg ?_|refine GoR.nil ?_|refine Go.ret ?_|refine Go.b rfl ?_|refine Go.rgS dmx (by decide) ?_|refine Go.rgD [2] (fun _ => True) dmx (by decide) 6 (by decide) (by trivial) ?_|refine Go.rgD [9] (fun _ => True) dmx (by decide) 10 (by decide) (by trivial) ?_|refine GoW.nil rfl ?_|((first|refine GoR.o (by rfl) (by rfl) ?_|refine GoW.o (by rfl) (by rfl) ?_|refine GoW.rd (by rfl) (by rfl) ?_);(conv => arg 1;simp only [G,Z,Y,Gx,un_neg,cutD,decide_true,decide_false,simprocAttr,fb2,fb3,fb4,fb9,fb44,fb45,fb47,fb49,fb55,d80, show decide (100 < (nm.size : Int)) = true by simp; omega]);first|show GoR ..|(show _ ∧ GoW ..;refine ⟨by exact fun _ => trivial,?_⟩)|(show _ ∧ _ ∧ _ ∧ GoW ..;refine ⟨rfl,by trivial,(fun H _=>by simp only [G,Z,Y,Gx,un_neg,cutD,decide_true,decide_false,simprocAttr,fb2,fb3,fb4,fb9,fb44,fb45,fb47,fb49,fb55,d80, show decide (100 < (nm.size : Int)) = true by simp; omega]),?_⟩))|(refine GoW.c c12 (by rfl) (by rfl) rfl ?_;(refine (known _).ret ?_);refine ⟨by exact fun _ => trivial,?_⟩)|(refine GoR.c c12 (by rfl) (by rfl) rfl ?_;(refine (known _).ret ?_))|refine GoR.s (by rfl) rfl rfl ?_|refine GoW.s (by rfl) rfl rfl (by exact fun _ => trivial) ?_|(refine GoR.splitG rfl (fun hc => ?_) (fun hc => ?_) <;> simp only [hc])|refine Go.condB rfl (fun hc => ?_) (fun hc => ?_))
    refine ⟨(by first | exact .inl rfl | exact .inr rfl), fin ?_⟩
    rw [resD_tmp (fn := Tryz.f4) rfl]
    simp only [optThen_some,resultD_tmp,resultD_cell,G,Z,Y,Gx,un_neg,cutD,decide_true,decide_false,simprocAttr,fb2,fb3,fb4,fb9,fb44,fb45,fb47,fb49,fb55]
    exact ⟨_, [], by simp, .bool, rfl⟩
  repeat' (first|refine Go.a rfl ?_|refine Go.rg ?_|refine GoR.nil ?_|refine Go.ret ?_|refine Go.b rfl ?_|refine Go.rgS dmx (by decide) ?_|refine Go.rgD [2] (fun _ => True) dmx (by decide) 6 (by decide) (by trivial) ?_|refine Go.rgD [9] (fun _ => True) dmx (by decide) 10 (by decide) (by trivial) ?_|refine GoW.nil rfl ?_|((first|refine GoR.o (by rfl) (by rfl) ?_|refine GoW.o (by rfl) (by rfl) ?_|refine GoW.rd (by rfl) (by rfl) ?_);(conv => arg 1;simp only [G,Z,Y,Gx,un_neg,cutD,decide_true,decide_false,simprocAttr,fb2,fb3,fb4,fb9,fb44,fb45,fb47,fb49,fb55,d80, show decide (100 < (nm.size : Int)) = false by simp; omega]);first|show GoR ..|(show _ ∧ GoW ..;refine ⟨by exact fun _ => trivial,?_⟩)|(show _ ∧ _ ∧ _ ∧ GoW ..;refine ⟨rfl,by trivial,(fun H _=>by simp only [G,Z,Y,Gx,un_neg,cutD,decide_true,decide_false,simprocAttr,fb2,fb3,fb4,fb9,fb44,fb45,fb47,fb49,fb55,d80, show decide (100 < (nm.size : Int)) = false by simp; omega]),?_⟩))|(refine GoW.c c12 (by rfl) (by rfl) rfl ?_;(refine (known _).ret ?_);refine ⟨by exact fun _ => trivial,?_⟩)|(refine GoR.c c12 (by rfl) (by rfl) rfl ?_;(refine (known _).ret ?_))|refine GoR.s (by rfl) rfl rfl ?_|refine GoW.s (by rfl) rfl rfl (by exact fun _ => trivial) ?_|(refine GoR.splitG rfl (fun hc => ?_) (fun hc => ?_) <;> simp only [hc])|refine Go.condB rfl (fun hc => ?_) (fun hc => ?_))
  refine Go.keep [(0, .sl none 6 l.length (acsC l)), (1, .str nm), (5, attsD []), (6, attsD []), (7, .int .i64 ((0 : Nat) : Int))] (.cons .refl (.cons .refl (.cons .nilE (.cons .nilE (.cons .refl .nil))))) ?_
  refine Go.while (α := Nat × List Att × Mem) (fun x => l.length - x.1) (fun x => [(0, .sl none 6 l.length (acsC l)), (1, .str nm), (5, attsD x.2.1), (6, attsD x.2.1), (7, .int .i64 (x.1 : Int))]) (fun x => x.2.2)
    (fun x => x.1 ≤ l.length ∧ OkA x.2.1 ∧ Grown S.length S x.2.2) ?_ (0, [], S) ⟨Nat.zero_le _, .nil, .refl⟩
  rintro ⟨i, cur, S1⟩ ⟨hi, hok, hg⟩ next
  dsimp only at hi hok hg next
  have hlen := hok.len
  by_cases h1 : i < l.length
  · have dl : decide ((i : Int) < (l.length : Int)) = true := by simp; omega
    have a1 := acsAt h1
    have hgE : Grown S.length S (S1 ++ [Ob.obj l[i].c]) := hg.trans Grown.app
    obtain ⟨Eg, hEg⟩ := hgE.pre [] S rfl (by simp)
    have hfw := fun S => few2 (orc := O) l[i].v S
    generalize l[i] = x at *
    simp only [Ac.c, Val.c] at a1 hEg hfw
    by_cases hn : 100 < x.n.size
    · clear next
      repeat' (first|refine Go.a rfl ?_|refine Go.rg ?_|refine GoR.nil ?_|refine Go.ret ?_|refine Go.b rfl ?_|refine Go.rgS dmx (by decide) ?_|refine Go.rgD [2] (fun _ => True) dmx (by decide) 6 (by decide) (by trivial) ?_|refine Go.rgD [9] (fun _ => True) dmx (by decide) 10 (by decide) (by trivial) ?_|refine GoW.nil rfl ?_|((first|refine GoR.o (by rfl) (by rfl) ?_|refine GoW.o (by rfl) (by rfl) ?_|refine GoW.rd (by rfl) (by rfl) ?_);(conv => arg 1;simp only [G,Z,Y,Gx,un_neg,cutD,decide_true,decide_false,simprocAttr,fb2,fb3,fb4,fb9,fb44,fb45,fb47,fb49,fb55,dl, a1, show decide (100 < (x.n.size : Int)) = true by simp; omega]);first|show GoR ..|(show _ ∧ GoW ..;refine ⟨by exact fun _ => trivial,?_⟩)|(show _ ∧ _ ∧ _ ∧ GoW ..;refine ⟨rfl,by trivial,(fun H _=>by simp only [G,Z,Y,Gx,un_neg,cutD,decide_true,decide_false,simprocAttr,fb2,fb3,fb4,fb9,fb44,fb45,fb47,fb49,fb55,dl, a1, show decide (100 < (x.n.size : Int)) = true by simp; omega]),?_⟩))|refine GoR.s (by rfl) rfl rfl ?_|refine GoW.s (by rfl) rfl rfl (by exact fun _ => trivial) ?_|(refine GoR.splitG rfl (fun hc => ?_) (fun hc => ?_) <;> simp only [hc])|refine Go.condB rfl (fun hc => ?_) (fun hc => ?_))
      refine ⟨(by first | exact .inl rfl | exact .inr rfl), fin ?_⟩
      rw [resD_tmp (fn := Tryz.f4) rfl]
      simp only [optThen_some,resultD_tmp,resultD_cell,G,Z,Y,Gx,un_neg,cutD,decide_true,decide_false,simprocAttr,fb2,fb3,fb4,fb9,fb44,fb45,fb47,fb49,fb55]
      exact ⟨_, Eg, hEg, .bool, rfl⟩
    have dn : decide (100 < (x.n.size : Int)) = false := by simp; omega
    cases hfe : (decide (x.v.s.size ≤ 200) && decide (x.v.l.length ≤ 40)) with
    | false =>
      clear next
      repeat' (first|refine Go.a rfl ?_|refine Go.rg ?_|refine GoR.nil ?_|refine Go.ret ?_|refine Go.b rfl ?_|refine Go.rgS dmx (by decide) ?_|refine Go.rgD [2] (fun _ => True) dmx (by decide) 6 (by decide) (by trivial) ?_|refine Go.rgD [9] (fun _ => True) dmx (by decide) 10 (by decide) (by trivial) ?_|refine GoW.nil rfl ?_|((first|refine GoR.o (by rfl) (by rfl) ?_|refine GoW.o (by rfl) (by rfl) ?_|refine GoW.rd (by rfl) (by rfl) ?_);(conv => arg 1;simp only [G,Z,Y,Gx,un_neg,cutD,decide_true,decide_false,simprocAttr,fb2,fb3,fb4,fb9,fb44,fb45,fb47,fb49,fb55,dl, a1, dn, hfe]);first|show GoR ..|(show _ ∧ GoW ..;refine ⟨by exact fun _ => trivial,?_⟩)|(show _ ∧ _ ∧ _ ∧ GoW ..;refine ⟨rfl,by trivial,(fun H _=>by simp only [G,Z,Y,Gx,un_neg,cutD,decide_true,decide_false,simprocAttr,fb2,fb3,fb4,fb9,fb44,fb45,fb47,fb49,fb55,dl, a1, dn, hfe]),?_⟩))|(refine GoW.c c24 (by rfl) (by rfl) rfl ?_;(refine (hfw _).ret ?_);refine ⟨by exact fun _ => trivial,?_⟩)|(refine GoR.c c24 (by rfl) (by rfl) rfl ?_;(refine (hfw _).ret ?_))|refine GoR.s (by rfl) rfl rfl ?_|refine GoW.s (by rfl) rfl rfl (by exact fun _ => trivial) ?_|(refine GoR.splitG rfl (fun hc => ?_) (fun hc => ?_) <;> simp only [hc])|refine Go.condB rfl (fun hc => ?_) (fun hc => ?_))
      refine ⟨(by first | exact .inl rfl | exact .inr rfl), fin ?_⟩
      rw [resD_tmp (fn := Tryz.f4) rfl]
      simp only [optThen_some,resultD_tmp,resultD_cell,G,Z,Y,Gx,un_neg,cutD,decide_true,decide_false,simprocAttr,fb2,fb3,fb4,fb9,fb44,fb45,fb47,fb49,fb55]
      exact ⟨_, Eg, hEg, .bool, rfl⟩
    | true =>
      simp only [Bool.and_eq_true, decide_eq_true_eq] at hfe
      have hfe2 : (decide (x.v.s.size ≤ 200) && decide (x.v.l.length ≤ 40)) = true := by simp [hfe]
      have hof := fun S => ofAttrs (orc := O) cur (by omega) S
      have hsm := fun S => refSameAttrs (orc := O) cur cur (by omega) hok.l hok.l S
      rw [sameL_self] at hsm
      by_cases ho : x.op = 1
      · have b1 : (x.op == 1) = true := by simpa using ho
        obtain ⟨y, e, he, hy⟩ := setD_some hok x.n (v := x.v) (by omega) (by omega)
        have hset := fun S => rowSet cur x.n x.v hok.rise (by omega) hok.l (by omega) (by omega) S
        have hrset := fun S => refSet (orc := O) cur x.n x.v hok.rise (by omega) (by omega) (by omega) S
        have hov := fun S => of2 (orc := O) x.v S
        rw [setRD_eq hok.rise] at hrset
        rw [he] at hset hrset
        have hofy := fun S => ofAttrs (orc := O) y (by have := hy.len; omega) S
        have hsmy := fun S => refSameAttrs (orc := O) y y (by have := hy.len; omega) hy.l hy.l S
        rw [sameL_self] at hsmy
        simp only [Val.c] at hset hrset hov
        simp only [attsD] at *
        by_cases he0 : e = 0
        · subst he0
          repeat' (first|refine Go.a rfl ?_|refine Go.rg ?_|refine GoR.nil ?_|refine Go.ret ?_|refine Go.b rfl ?_|refine Go.rgS dmx (by decide) ?_|refine Go.rgD [2] (fun H => objAt H S1.length = some [.int .i64 x.op, .str x.n, .int .i64 x.v.k, .int .i64 x.v.i, .str x.v.s, .sl none 1 x.v.l.length (intsD x.v.l)]) dmx (by decide) 6 (by decide) (by (simp [objAt, List.getElem?_append_right])) ?_|refine Go.rgD [9] (fun H => objAt H S1.length = some [.int .i64 x.op, .str x.n, .int .i64 x.v.k, .int .i64 x.v.i, .str x.v.s, .sl none 1 x.v.l.length (intsD x.v.l)]) dmx (by decide) 10 (by decide) (by (simp [objAt, List.getElem?_append_right])) ?_|refine GoW.nil rfl ?_|((first|refine GoR.o (by rfl) (by rfl) ?_|refine GoW.o (by rfl) (by rfl) ?_|refine GoW.rd (by rfl) (by rfl) ?_);(conv => arg 1;simp only [G,Z,Y,Gx,un_neg,cutD,decide_true,decide_false,simprocAttr,fb2,fb3,fb4,fb9,fb44,fb45,fb47,fb49,fb55,dl, a1, dn, hfe2, b1, wrap_succ (show i < 4611686018427387904 by omega)]);first|show GoR ..|(show _ ∧ GoW ..;refine ⟨by (first|exact fun h => absurd h (by decide)|(intro _;(simp [objAt, List.getElem?_append_right]))),?_⟩)|(show _ ∧ _ ∧ _ ∧ GoW ..;refine ⟨rfl,by (simp [objAt, List.getElem?_append_right]),(fun H hI=>by (try dsimp only at hI);simp only [G,Z,Y,Gx,un_neg,cutD,decide_true,decide_false,simprocAttr,fb2,fb3,fb4,fb9,fb44,fb45,fb47,fb49,fb55,dl, a1, dn, hfe2, b1, wrap_succ (show i < 4611686018427387904 by omega),hI]),?_⟩))|(refine GoW.c c24 (by rfl) (by rfl) rfl ?_;(refine (hfw _).ret ?_);refine ⟨by (first|exact fun h => absurd h (by decide)|(intro _;(simp [objAt, List.getElem?_append_right]))),?_⟩)|(refine GoR.c c24 (by rfl) (by rfl) rfl ?_;(refine (hfw _).ret ?_))|(refine GoW.c c23 (by rfl) (by rfl) rfl ?_;(first | (refine (hof _).ret ?_) | (refine (hofy _).ret ?_));refine ⟨by (first|exact fun h => absurd h (by decide)|(intro _;(simp [objAt, List.getElem?_append_right]))),?_⟩)|(refine GoR.c c23 (by rfl) (by rfl) rfl ?_;(first | (refine (hof _).ret ?_) | (refine (hofy _).ret ?_)))|(refine GoW.c c25 (by rfl) (by rfl) rfl ?_;(refine (hset _).ret ?_);refine ⟨by (first|exact fun h => absurd h (by decide)|(intro _;(simp [objAt, List.getElem?_append_right]))),?_⟩)|(refine GoR.c c25 (by rfl) (by rfl) rfl ?_;(refine (hset _).ret ?_))|(refine GoW.c c27 (by rfl) (by rfl) rfl ?_;(refine (hov _).ret ?_);refine ⟨by (first|exact fun h => absurd h (by decide)|(intro _;(simp [objAt, List.getElem?_append_right]))),?_⟩)|(refine GoR.c c27 (by rfl) (by rfl) rfl ?_;(refine (hov _).ret ?_))|(refine GoW.c c26 (by rfl) (by rfl) rfl ?_;(refine (hrset _).ret ?_);refine ⟨by (first|exact fun h => absurd h (by decide)|(intro _;(simp [objAt, List.getElem?_append_right]))),?_⟩)|(refine GoR.c c26 (by rfl) (by rfl) rfl ?_;(refine (hrset _).ret ?_))|(refine GoW.c c22 (by rfl) (by rfl) rfl ?_;(first | (refine (hsm _).ret ?_) | (refine (hsmy _).ret ?_));refine ⟨by (first|exact fun h => absurd h (by decide)|(intro _;(simp [objAt, List.getElem?_append_right]))),?_⟩)|(refine GoR.c c22 (by rfl) (by rfl) rfl ?_;(first | (refine (hsm _).ret ?_) | (refine (hsmy _).ret ?_)))|refine GoR.s (by rfl) rfl rfl ?_|refine GoW.s (by rfl) rfl rfl (by (first|exact fun h => absurd h (by decide)|(intro _;(simp [objAt, List.getElem?_append_right])))) ?_|(refine GoR.splitG rfl (fun hc => ?_) (fun hc => ?_) <;> simp only [hc])|refine Go.condB rfl (fun hc => ?_) (fun hc => ?_))
          refine Go.lpN ?_
          refine Go.keep [(0, .sl none 6 l.length (acsC l)), (1, .str nm), (5, .sl none 5 y.length (attsC y)), (6, .sl none 5 y.length (attsC y)), (7, .int .i64 ((i + 1 : Nat) : Int))] (.cons .refl (.cons .refl (.cons .refl (.cons .refl (.cons .refl (.nil)))))) ?_
          exact next (i + 1, y, _) (by dsimp only; omega) ⟨h1, hy, hg.trans Grown.app⟩
        · repeat' (first|refine Go.a rfl ?_|refine Go.rg ?_|refine GoR.nil ?_|refine Go.ret ?_|refine Go.b rfl ?_|refine Go.rgS dmx (by decide) ?_|refine Go.rgD [2] (fun H => objAt H S1.length = some [.int .i64 x.op, .str x.n, .int .i64 x.v.k, .int .i64 x.v.i, .str x.v.s, .sl none 1 x.v.l.length (intsD x.v.l)]) dmx (by decide) 6 (by decide) (by (simp [objAt, List.getElem?_append_right])) ?_|refine Go.rgD [9] (fun H => objAt H S1.length = some [.int .i64 x.op, .str x.n, .int .i64 x.v.k, .int .i64 x.v.i, .str x.v.s, .sl none 1 x.v.l.length (intsD x.v.l)]) dmx (by decide) 10 (by decide) (by (simp [objAt, List.getElem?_append_right])) ?_|refine GoW.nil rfl ?_|((first|refine GoR.o (by rfl) (by rfl) ?_|refine GoW.o (by rfl) (by rfl) ?_|refine GoW.rd (by rfl) (by rfl) ?_);(conv => arg 1;simp only [G,Z,Y,Gx,un_neg,cutD,decide_true,decide_false,simprocAttr,fb2,fb3,fb4,fb9,fb44,fb45,fb47,fb49,fb55,dl, a1, dn, hfe2, b1, show (e == 0) = false by simpa using he0, bne_self_eq_false, wrap_succ (show i < 4611686018427387904 by omega)]);first|show GoR ..|(show _ ∧ GoW ..;refine ⟨by (first|exact fun h => absurd h (by decide)|(intro _;(simp [objAt, List.getElem?_append_right]))),?_⟩)|(show _ ∧ _ ∧ _ ∧ GoW ..;refine ⟨rfl,by (simp [objAt, List.getElem?_append_right]),(fun H hI=>by (try dsimp only at hI);simp only [G,Z,Y,Gx,un_neg,cutD,decide_true,decide_false,simprocAttr,fb2,fb3,fb4,fb9,fb44,fb45,fb47,fb49,fb55,dl, a1, dn, hfe2, b1, show (e == 0) = false by simpa using he0, bne_self_eq_false, wrap_succ (show i < 4611686018427387904 by omega),hI]),?_⟩))|(refine GoW.c c24 (by rfl) (by rfl) rfl ?_;(refine (hfw _).ret ?_);refine ⟨by (first|exact fun h => absurd h (by decide)|(intro _;(simp [objAt, List.getElem?_append_right]))),?_⟩)|(refine GoR.c c24 (by rfl) (by rfl) rfl ?_;(refine (hfw _).ret ?_))|(refine GoW.c c23 (by rfl) (by rfl) rfl ?_;(refine (hof _).ret ?_);refine ⟨by (first|exact fun h => absurd h (by decide)|(intro _;(simp [objAt, List.getElem?_append_right]))),?_⟩)|(refine GoR.c c23 (by rfl) (by rfl) rfl ?_;(refine (hof _).ret ?_))|(refine GoW.c c25 (by rfl) (by rfl) rfl ?_;(refine (hset _).ret ?_);refine ⟨by (first|exact fun h => absurd h (by decide)|(intro _;(simp [objAt, List.getElem?_append_right]))),?_⟩)|(refine GoR.c c25 (by rfl) (by rfl) rfl ?_;(refine (hset _).ret ?_))|(refine GoW.c c27 (by rfl) (by rfl) rfl ?_;(refine (hov _).ret ?_);refine ⟨by (first|exact fun h => absurd h (by decide)|(intro _;(simp [objAt, List.getElem?_append_right]))),?_⟩)|(refine GoR.c c27 (by rfl) (by rfl) rfl ?_;(refine (hov _).ret ?_))|(refine GoW.c c26 (by rfl) (by rfl) rfl ?_;(refine (hrset _).ret ?_);refine ⟨by (first|exact fun h => absurd h (by decide)|(intro _;(simp [objAt, List.getElem?_append_right]))),?_⟩)|(refine GoR.c c26 (by rfl) (by rfl) rfl ?_;(refine (hrset _).ret ?_))|(refine GoW.c c22 (by rfl) (by rfl) rfl ?_;(refine (hsm _).ret ?_);refine ⟨by (first|exact fun h => absurd h (by decide)|(intro _;(simp [objAt, List.getElem?_append_right]))),?_⟩)|(refine GoR.c c22 (by rfl) (by rfl) rfl ?_;(refine (hsm _).ret ?_))|refine GoR.s (by rfl) rfl rfl ?_|refine GoW.s (by rfl) rfl rfl (by (first|exact fun h => absurd h (by decide)|(intro _;(simp [objAt, List.getElem?_append_right])))) ?_|(refine GoR.splitG rfl (fun hc => ?_) (fun hc => ?_) <;> simp only [hc])|refine Go.condB rfl (fun hc => ?_) (fun hc => ?_))
          refine Go.lpN ?_
          refine Go.keep [(0, .sl none 6 l.length (acsC l)), (1, .str nm), (5, .sl none 5 cur.length (attsC cur)), (6, .sl none 5 cur.length (attsC cur)), (7, .int .i64 ((i + 1 : Nat) : Int))] (.cons .refl (.cons .refl (.cons .refl (.cons .refl (.cons .refl (.nil)))))) ?_
          exact next (i + 1, cur, _) (by dsimp only; omega) ⟨h1, hok, hg.trans Grown.app⟩
      · have b1 : (x.op == 1) = false := by simpa using ho
        have hdr := fun S => rowDrop cur x.n hok.rise (by omega) hok.l S
        have hrdr := fun S => refDrop (orc := O) cur x.n (by omega) S
        rw [rest_lt hok.rise, rest_drop hok.rise] at hrdr
        have hy := hok.drop x.n
        simp only [dropD] at hdr
        generalize dropL cur x.n = y at *
        have hofy := fun S => ofAttrs (orc := O) y (by have := hy.len; omega) S
        have hsmy := fun S => refSameAttrs (orc := O) y y (by have := hy.len; omega) hy.l hy.l S
        rw [sameL_self] at hsmy
        simp only [attsD] at *
        cases hq : (look cur x.n).isSome with
        | true =>
          rw [hq] at hdr hrdr
          repeat' (first|refine Go.a rfl ?_|refine Go.rg ?_|refine GoR.nil ?_|refine Go.ret ?_|refine Go.b rfl ?_|refine Go.rgS dmx (by decide) ?_|refine Go.rgD [2] (fun _ => True) dmx (by decide) 6 (by decide) (by trivial) ?_|refine Go.rgD [9] (fun _ => True) dmx (by decide) 10 (by decide) (by trivial) ?_|refine GoW.nil rfl ?_|((first|refine GoR.o (by rfl) (by rfl) ?_|refine GoW.o (by rfl) (by rfl) ?_|refine GoW.rd (by rfl) (by rfl) ?_);(conv => arg 1;simp only [G,Z,Y,Gx,un_neg,cutD,decide_true,decide_false,simprocAttr,fb2,fb3,fb4,fb9,fb44,fb45,fb47,fb49,fb55,dl, a1, dn, hfe2, b1, bne_self_eq_false, wrap_succ (show i < 4611686018427387904 by omega)]);first|show GoR ..|(show _ ∧ GoW ..;refine ⟨by exact fun _ => trivial,?_⟩)|(show _ ∧ _ ∧ _ ∧ GoW ..;refine ⟨rfl,by trivial,(fun H _=>by simp only [G,Z,Y,Gx,un_neg,cutD,decide_true,decide_false,simprocAttr,fb2,fb3,fb4,fb9,fb44,fb45,fb47,fb49,fb55,dl, a1, dn, hfe2, b1, bne_self_eq_false, wrap_succ (show i < 4611686018427387904 by omega)]),?_⟩))|(refine GoW.c c24 (by rfl) (by rfl) rfl ?_;(refine (hfw _).ret ?_);refine ⟨by exact fun _ => trivial,?_⟩)|(refine GoR.c c24 (by rfl) (by rfl) rfl ?_;(refine (hfw _).ret ?_))|(refine GoW.c c23 (by rfl) (by rfl) rfl ?_;(first | (refine (hof _).ret ?_) | (refine (hofy _).ret ?_));refine ⟨by exact fun _ => trivial,?_⟩)|(refine GoR.c c23 (by rfl) (by rfl) rfl ?_;(first | (refine (hof _).ret ?_) | (refine (hofy _).ret ?_)))|(refine GoW.c c28 (by rfl) (by rfl) rfl ?_;(refine (hdr _).ret ?_);refine ⟨by exact fun _ => trivial,?_⟩)|(refine GoR.c c28 (by rfl) (by rfl) rfl ?_;(refine (hdr _).ret ?_))|(refine GoW.c c29 (by rfl) (by rfl) rfl ?_;(refine (hrdr _).ret ?_);refine ⟨by exact fun _ => trivial,?_⟩)|(refine GoR.c c29 (by rfl) (by rfl) rfl ?_;(refine (hrdr _).ret ?_))|(refine GoW.c c22 (by rfl) (by rfl) rfl ?_;(first | (refine (hsm _).ret ?_) | (refine (hsmy _).ret ?_));refine ⟨by exact fun _ => trivial,?_⟩)|(refine GoR.c c22 (by rfl) (by rfl) rfl ?_;(first | (refine (hsm _).ret ?_) | (refine (hsmy _).ret ?_)))|refine GoR.s (by rfl) rfl rfl ?_|refine GoW.s (by rfl) rfl rfl (by exact fun _ => trivial) ?_|(refine GoR.splitG rfl (fun hc => ?_) (fun hc => ?_) <;> simp only [hc])|refine Go.condB rfl (fun hc => ?_) (fun hc => ?_))
          refine Go.lpN ?_
          refine Go.keep [(0, .sl none 6 l.length (acsC l)), (1, .str nm), (5, .sl none 5 y.length (attsC y)), (6, .sl none 5 y.length (attsC y)), (7, .int .i64 ((i + 1 : Nat) : Int))] (.cons .refl (.cons .refl (.cons .refl (.cons .refl (.cons .refl (.nil)))))) ?_
          exact next (i + 1, y, _) (by dsimp only; omega) ⟨h1, hy, hg.trans Grown.app⟩
        | false =>
          rw [hq] at hdr hrdr
          repeat' (first|refine Go.a rfl ?_|refine Go.rg ?_|refine GoR.nil ?_|refine Go.ret ?_|refine Go.b rfl ?_|refine Go.rgS dmx (by decide) ?_|refine Go.rgD [2] (fun _ => True) dmx (by decide) 6 (by decide) (by trivial) ?_|refine Go.rgD [9] (fun _ => True) dmx (by decide) 10 (by decide) (by trivial) ?_|refine GoW.nil rfl ?_|((first|refine GoR.o (by rfl) (by rfl) ?_|refine GoW.o (by rfl) (by rfl) ?_|refine GoW.rd (by rfl) (by rfl) ?_);(conv => arg 1;simp only [G,Z,Y,Gx,un_neg,cutD,decide_true,decide_false,simprocAttr,fb2,fb3,fb4,fb9,fb44,fb45,fb47,fb49,fb55,dl, a1, dn, hfe2, b1, bne_self_eq_false, wrap_succ (show i < 4611686018427387904 by omega)]);first|show GoR ..|(show _ ∧ GoW ..;refine ⟨by exact fun _ => trivial,?_⟩)|(show _ ∧ _ ∧ _ ∧ GoW ..;refine ⟨rfl,by trivial,(fun H _=>by simp only [G,Z,Y,Gx,un_neg,cutD,decide_true,decide_false,simprocAttr,fb2,fb3,fb4,fb9,fb44,fb45,fb47,fb49,fb55,dl, a1, dn, hfe2, b1, bne_self_eq_false, wrap_succ (show i < 4611686018427387904 by omega)]),?_⟩))|(refine GoW.c c24 (by rfl) (by rfl) rfl ?_;(refine (hfw _).ret ?_);refine ⟨by exact fun _ => trivial,?_⟩)|(refine GoR.c c24 (by rfl) (by rfl) rfl ?_;(refine (hfw _).ret ?_))|(refine GoW.c c23 (by rfl) (by rfl) rfl ?_;(refine (hof _).ret ?_);refine ⟨by exact fun _ => trivial,?_⟩)|(refine GoR.c c23 (by rfl) (by rfl) rfl ?_;(refine (hof _).ret ?_))|(refine GoW.c c28 (by rfl) (by rfl) rfl ?_;(refine (hdr _).ret ?_);refine ⟨by exact fun _ => trivial,?_⟩)|(refine GoR.c c28 (by rfl) (by rfl) rfl ?_;(refine (hdr _).ret ?_))|(refine GoW.c c29 (by rfl) (by rfl) rfl ?_;(refine (hrdr _).ret ?_);refine ⟨by exact fun _ => trivial,?_⟩)|(refine GoR.c c29 (by rfl) (by rfl) rfl ?_;(refine (hrdr _).ret ?_))|(refine GoW.c c22 (by rfl) (by rfl) rfl ?_;(refine (hsm _).ret ?_);refine ⟨by exact fun _ => trivial,?_⟩)|(refine GoR.c c22 (by rfl) (by rfl) rfl ?_;(refine (hsm _).ret ?_))|refine GoR.s (by rfl) rfl rfl ?_|refine GoW.s (by rfl) rfl rfl (by exact fun _ => trivial) ?_|(refine GoR.splitG rfl (fun hc => ?_) (fun hc => ?_) <;> simp only [hc])|refine Go.condB rfl (fun hc => ?_) (fun hc => ?_))
          refine Go.lpN ?_
          refine Go.keep [(0, .sl none 6 l.length (acsC l)), (1, .str nm), (5, .sl none 5 cur.length (attsC cur)), (6, .sl none 5 cur.length (attsC cur)), (7, .int .i64 ((i + 1 : Nat) : Int))] (.cons .refl (.cons .refl (.cons .refl (.cons .refl (.cons .refl (.nil)))))) ?_
          exact next (i + 1, cur, _) (by dsimp only; omega) ⟨h1, hok, hg.trans Grown.app⟩
  · clear next
    have dl : decide ((i : Int) < (l.length : Int)) = false := by simp; omega
    have hget := fun S => rowGet (orc := O) cur nm hok.rise (by omega) hok.l S
    have hrget := fun S => refGet (orc := O) cur nm hok.rise (by omega) S
    have hx := look_len hok nm
    generalize (look cur nm).getD noVal = x at *
    generalize (look cur nm).isSome = b at *
    have hov := fun S => of2 (orc := O) x S
    have hcm := fun S => refCompareValue (orc := O) x x hx hx S
    rw [cmpV_self] at hcm
    have hnr := fun S => rowName (orc := O) nm S
    have hnd := fun S => refName (orc := O) nm (by omega) S
    have hgE : Grown S.length S (S1 ++ [Ob.obj x.c, Ob.obj x.c]) := hg.trans Grown.app
    obtain ⟨Eg, hEg⟩ := hgE.pre [] S rfl (by simp)
    simp only [Val.c, attsD] at *
    generalize nameOk nm = q at *
    cases b
    all_goals
      repeat' (first|refine Go.a rfl ?_|refine Go.rg ?_|refine GoR.nil ?_|refine Go.ret ?_|refine Go.b rfl ?_|refine Go.rgS dmx (by decide) ?_|refine Go.rgD [2] (fun H => objAt H (S1.length + 1) = some [.int .i64 x.k, .int .i64 x.i, .str x.s, .sl none 1 x.l.length (intsD x.l)]) dmx (by decide) 6 (by decide) (by (simp [objAt, List.getElem?_append_right])) ?_|refine Go.rgD [9] (fun H => objAt H (S1.length + 1) = some [.int .i64 x.k, .int .i64 x.i, .str x.s, .sl none 1 x.l.length (intsD x.l)]) dmx (by decide) 10 (by decide) (by (simp [objAt, List.getElem?_append_right])) ?_|refine GoW.nil rfl ?_|((first|refine GoR.o (by rfl) (by rfl) ?_|refine GoW.o (by rfl) (by rfl) ?_|refine GoW.rd (by rfl) (by rfl) ?_);(conv => arg 1;simp only [G,Z,Y,Gx,un_neg,cutD,decide_true,decide_false,simprocAttr,fb2,fb3,fb4,fb9,fb44,fb45,fb47,fb49,fb55,dl, eq_self, beq_self_eq_true]);first|show GoR ..|(show _ ∧ GoW ..;refine ⟨by (first|exact fun h => absurd h (by decide)|(intro _;(simp [objAt, List.getElem?_append_right]))),?_⟩)|(show _ ∧ _ ∧ _ ∧ GoW ..;refine ⟨rfl,by (simp [objAt, List.getElem?_append_right]),(fun H hI=>by (try dsimp only at hI);simp only [G,Z,Y,Gx,un_neg,cutD,decide_true,decide_false,simprocAttr,fb2,fb3,fb4,fb9,fb44,fb45,fb47,fb49,fb55,dl, eq_self, beq_self_eq_true,hI]),?_⟩))|(refine GoW.c c30 (by rfl) (by rfl) rfl ?_;(refine (hget _).ret ?_);refine ⟨by (first|exact fun h => absurd h (by decide)|(intro _;(simp [objAt, List.getElem?_append_right]))),?_⟩)|(refine GoR.c c30 (by rfl) (by rfl) rfl ?_;(refine (hget _).ret ?_))|(refine GoW.c c31 (by rfl) (by rfl) rfl ?_;(refine (hrget _).ret ?_);refine ⟨by (first|exact fun h => absurd h (by decide)|(intro _;(simp [objAt, List.getElem?_append_right]))),?_⟩)|(refine GoR.c c31 (by rfl) (by rfl) rfl ?_;(refine (hrget _).ret ?_))|(refine GoW.c c27 (by rfl) (by rfl) rfl ?_;(refine (hov _).ret ?_);refine ⟨by (first|exact fun h => absurd h (by decide)|(intro _;(simp [objAt, List.getElem?_append_right]))),?_⟩)|(refine GoR.c c27 (by rfl) (by rfl) rfl ?_;(refine (hov _).ret ?_))|(refine GoW.c c32 (by rfl) (by rfl) rfl ?_;(refine (hcm _).ret ?_);refine ⟨by (first|exact fun h => absurd h (by decide)|(intro _;(simp [objAt, List.getElem?_append_right]))),?_⟩)|(refine GoR.c c32 (by rfl) (by rfl) rfl ?_;(refine (hcm _).ret ?_))|(refine GoW.c c33 (by rfl) (by rfl) rfl ?_;(refine (hnr _).ret ?_);refine ⟨by (first|exact fun h => absurd h (by decide)|(intro _;(simp [objAt, List.getElem?_append_right]))),?_⟩)|(refine GoR.c c33 (by rfl) (by rfl) rfl ?_;(refine (hnr _).ret ?_))|(refine GoW.c c34 (by rfl) (by rfl) rfl ?_;(refine (hnd _).ret ?_);refine ⟨by (first|exact fun h => absurd h (by decide)|(intro _;(simp [objAt, List.getElem?_append_right]))),?_⟩)|(refine GoR.c c34 (by rfl) (by rfl) rfl ?_;(refine (hnd _).ret ?_))|refine GoR.s (by rfl) rfl rfl ?_|refine GoW.s (by rfl) rfl rfl (by (first|exact fun h => absurd h (by decide)|(intro _;(simp [objAt, List.getElem?_append_right])))) ?_|(refine GoR.splitG rfl (fun hc => ?_) (fun hc => ?_) <;> simp only [hc])|refine Go.condB rfl (fun hc => ?_) (fun hc => ?_))
      refine ⟨(by first | exact .inl rfl | exact .inr rfl), fin ?_⟩
      rw [resD_tmp (fn := Tryz.f4) rfl]
      simp only [optThen_some,resultD_tmp,resultD_cell,G,Z,Y,Gx,un_neg,cutD,decide_true,decide_false,simprocAttr,fb2,fb3,fb4,fb9,fb44,fb45,fb47,fb49,fb55]
      exact ⟨_, Eg, hEg, .bool, rfl⟩
end Go.Proofs.DwT
