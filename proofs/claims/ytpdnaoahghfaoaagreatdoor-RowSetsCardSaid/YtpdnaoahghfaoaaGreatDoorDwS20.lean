/- What the law's own helpers on values and attributes do. -/
import Derived.Test.YtpdnaoahghfaoaaGreatDoorDwS12
set_option linter.unusedSimpArgs false
set_option linter.unusedVariables false
namespace Go.Proofs.DwT
open Go Go.DM Go.Proofs.DeT
set_option maxRecDepth 100000
variable {orc : DOracle}

structure Val where
  k : Int
  i : Int
  s : ByteArray
  l : List Int
theorem intsD_low {n : Nat} {l : List Int} : LowL n (intsD l) := .of_mem (by simp [intsD]; intros; constructor)
def Val.c (v : Val) : List D := [.int .i64 v.k, .int .i64 v.i, .str v.s, .sl none 1 v.l.length (intsD v.l)]
structure Att where
  n : ByteArray
  v : Val
def Att.c (a : Att) : List D := [.str a.n, .int .i64 a.v.k, .int .i64 a.v.i, .str a.v.s, .sl none 1 a.v.l.length (intsD a.v.l)]
def attsC (l : List Att) : List D := l.flatMap Att.c
theorem Val.low {n : Nat} {k i : Int} {s : ByteArray} {m : Nat} {l : List Int} : LowL n [.int .i64 k, .int .i64 i, .str s, .sl none 1 m (intsD l)] := .cons (.int _ _) (.cons (.int _ _) (.cons (.str _) (.cons (.sl' intsD_low) .nil)))
theorem few2 (v : Val) (S : Mem) : CallD Tryz.prog orc 24 [.agg v.c] S fun d S' => S' = S ∧ d = .bool (decide (v.s.size ≤ 200) && decide (v.l.length ≤ 40)) := by
  obtain ⟨k, i, s, l⟩ := v
  simp only [Val.c]
  refine CallD.e Tryz.func24 rfl Tryz.ntmps24 (by rfl) ?_
  repeat' (first|refine Go.a rfl ?_|refine Go.rg ?_|refine GoR.nil ?_|refine Go.ret ?_|refine Go.b rfl ?_|(refine GoR.o (by rfl) (by rfl) ?_;(conv => arg 1;simp only [G,Z,Y,Gx,un_neg,cutD,decide_true,decide_false,simprocAttr,fb2,fb3,fb9,fb45,fb47]);show GoR ..)|refine GoR.s (by rfl) rfl rfl ?_|(refine GoR.splitG rfl (fun hc => ?_) (fun hc => ?_) <;> simp only [hc])|refine Go.condB rfl (fun hc => ?_) (fun hc => ?_))
  · refine ⟨(by first | exact .inl rfl | exact .inr rfl), fin ?_⟩
    rw [resD_tmp (fn := Tryz.f24) rfl]
    simp only [optThen_some,resultD_tmp,resultD_cell,G,Z,Y,Gx,un_neg,cutD,decide_true,decide_false,simprocAttr,fb2,fb3,fb9,fb45,fb47]
    refine ⟨_, _, rfl, .bool, ?_⟩
    simp at hc
    congr 1
    rw [Bool.eq_iff_iff]
    simp
    omega
  · refine ⟨(by first | exact .inl rfl | exact .inr rfl), fin ?_⟩
    rw [resD_tmp (fn := Tryz.f24) rfl]
    simp only [optThen_some,resultD_tmp,resultD_cell,G,Z,Y,Gx,un_neg,cutD,decide_true,decide_false,simprocAttr,fb2,fb3,fb9,fb45,fb47]
    refine ⟨_, _, rfl, .bool, ?_⟩
    simp at hc
    congr 1
    rw [Bool.eq_iff_iff]
    simp
    omega
theorem of2 (v : Val) (S : Mem) : CallD Tryz.prog orc 27 [.agg v.c] S fun d S' => S' = S ∧ d = .agg v.c := by
  obtain ⟨k, i, s, l⟩ := v
  simp only [Val.c]
  refine CallD.e Tryz.func27 rfl Tryz.ntmps27 (by rfl) ?_
  repeat' (first|refine Go.a rfl ?_|refine Go.rg ?_|refine GoR.nil ?_|refine Go.ret ?_|refine Go.b rfl ?_|(refine GoR.o (by rfl) (by rfl) ?_;(conv => arg 1;simp only [G,Z,Y,Gx,un_neg,cutD,decide_true,decide_false,simprocAttr,fb2,fb3,fb9,fb45,fb47,fb55]);show GoR ..)|refine Go.condB rfl (fun hc => ?_) (fun hc => ?_))
  refine ⟨(by first | exact .inl rfl | exact .inr rfl), fin ?_⟩
  rw [resD_cell (fn := Tryz.f27) rfl]
  simp only [optThen_some,resultD_tmp,resultD_cell,G,Z,Y,Gx,un_neg,cutD,decide_true,decide_false,simprocAttr,fb2,fb3,fb9,fb45,fb47,fb55]
  exact ⟨_, _, rfl, .of_low (.agg' Val.low), rfl⟩
theorem clip1 (own : Option Nat) (l : List Int) (S : Mem) : CallD Tryz.prog orc 123 [.sl own 1 l.length (intsD l)] S fun d S' => S' = S ∧ d = .sl none 1 l.length (intsD l) := by
  refine CallD.e Tryz.func123 rfl Tryz.ntmps123 (by rfl) ?_
  have hll : (intsD l).length = l.length := by simp [intsD]
  by_cases h0 : l.length = 0
  · have hi : intsD l = [] := by rw [List.length_eq_zero_iff.1 h0]; rfl
    rw [hi, h0]
    have c : sliceD Tryz.prog 45 (.sl own 1 0 []) none (some (.int .i64 0)) (some (.int .i64 0)) = some .sl0 := by
      simp [sliceD, optNatD, natD, Tryz.underlying45, dsz2]
    repeat' (first|refine Go.a rfl ?_|refine Go.rg ?_|refine GoR.nil ?_|refine Go.ret ?_|refine Go.b rfl ?_|(refine GoR.o (by rfl) (by rfl) ?_;(conv => arg 1;simp only [G,Z,Y,Gx,un_neg,cutD,decide_true,decide_false,simprocAttr,fb45,c, Option.map_some, Option.map_none]);show GoR ..)|refine Go.condB rfl (fun hc => ?_) (fun hc => ?_))
    refine ⟨(by first | exact .inl rfl | exact .inr rfl), fin ?_⟩
    rw [resD_tmp (fn := Tryz.f123) rfl]
    simp only [optThen_some,resultD_tmp,resultD_cell,G,Z,Y,Gx,un_neg,cutD,decide_true,decide_false,simprocAttr,fb45]
    exact ⟨_, [], by simp, .sl0E, rfl⟩
  · generalize l.length = n at *
    have c : ∃ o', sliceD Tryz.prog 45 (.sl own 1 n (intsD l)) none (some (.int .i64 (n : Int))) (some (.int .i64 (n : Int))) = some (.sl o' 1 n (intsD l)) := by
      refine ⟨own, ?_⟩
      simp [sliceD, optNatD, natD, Tryz.underlying45, dsz2, h0]
      rw [List.take_of_length_le (by omega)]
    obtain ⟨o', c⟩ := c
    repeat' (first|refine Go.a rfl ?_|refine Go.rg ?_|refine GoR.nil ?_|refine Go.ret ?_|refine Go.b rfl ?_|(refine GoR.o (by rfl) (by rfl) ?_;(conv => arg 1;simp only [G,Z,Y,Gx,un_neg,cutD,decide_true,decide_false,simprocAttr,fb45,c, Option.map_some, Option.map_none]);show GoR ..)|refine Go.condB rfl (fun hc => ?_) (fun hc => ?_))
    refine ⟨(by first | exact .inl rfl | exact .inr rfl), fin ?_⟩
    rw [resD_tmp (fn := Tryz.f123) rfl]
    simp only [optThen_some,resultD_tmp,resultD_cell,G,Z,Y,Gx,un_neg,cutD,decide_true,decide_false,simprocAttr,fb45]
    exact ⟨_, [], by simp, .disown intsD_low.get, rfl⟩
theorem Att.len (a : Att) : a.c.length = 5 := rfl
theorem attsAt {l : List Att} {i : Nat} (h : i < l.length) :
    ((0 ≤ (i : Int) ∧ (i : Int) < (l.length : Int)) = True) ∧ (attsC l)[i * 5]? = some (.str l[i].n) ∧ ((i * 5 + 1 + 4 ≤ (attsC l).length) = True) ∧ ((attsC l).drop (i * 5 + 1)).take 4 = l[i].v.c ∧
    ((i * 5 + 5 ≤ (attsC l).length) = True) ∧ ((attsC l).drop (i * 5)).take 5 = l[i].c :=
  ⟨ix_ok h, flat_cell0 Att.len l i h (by omega), flat_fits Att.len l i h (by omega), flat_part Att.len l i h (by omega), flat_fits0 Att.len l i h, flat_all Att.len l i h⟩
def fewV (v : Val) : Bool := decide (v.s.size ≤ 200) && decide (v.l.length ≤ 40)
def fewA (a : Att) : Bool := decide (a.n.size ≤ 100) && fewV a.v
theorem fewAttrs (l : List Att) (S : Mem) : CallD Tryz.prog orc 57 [.sl none 5 l.length (attsC l)] S fun d S' => S' = S ∧ d = .bool (decide (l.length ≤ 40) && l.all fewA) := by
  refine CallD.e Tryz.func57 rfl Tryz.ntmps57 (by rfl) ?_
  repeat' (first|refine Go.a rfl ?_|refine Go.rg ?_|refine GoR.nil ?_|refine Go.ret ?_|refine Go.b rfl ?_|(refine GoR.o (by rfl) (by rfl) ?_;(conv => arg 1;simp only [G,Z,Y,Gx,un_neg,cutD,decide_true,decide_false,simprocAttr,fb2,fb3,fb9,fb24,fb45,fb47,fb71]);show GoR ..)|refine GoR.s (by rfl) rfl rfl ?_|(refine GoR.splitG rfl (fun hc => ?_) (fun hc => ?_) <;> simp only [hc])|refine Go.condB rfl (fun hc => ?_) (fun hc => ?_))
  · refine ⟨(by first | exact .inl rfl | exact .inr rfl), fin ?_⟩
    rw [resD_tmp (fn := Tryz.f57) rfl]
    simp only [optThen_some,resultD_tmp,resultD_cell,G,Z,Y,Gx,un_neg,cutD,decide_true,decide_false,simprocAttr,fb2,fb3,fb9,fb24,fb45,fb47,fb71]
    refine ⟨_, [], by simp, .bool, ?_⟩
    simp at hc
    congr 1
    symm
    simp
    omega
  · have h40 : l.length ≤ 40 := by simp at hc; omega
    refine Go.keep [(0, .sl none 5 l.length (attsC l)), (3, .int .i64 ((0 : Nat) : Int))] (.cons .refl (.cons .refl (.nil))) ?_
    refine Go.while (α := Nat) (fun i => l.length - i) (fun i => [(0, .sl none 5 l.length (attsC l)), (3, .int .i64 (i : Int))]) (fun _ => S) (fun i => i ≤ l.length ∧ ∀ j (h : j < l.length), j < i → fewA l[j] = true) ?_ 0 ⟨Nat.zero_le _, by simp⟩
    rintro i ⟨hi, hk⟩ next
    repeat' (first|refine Go.a rfl ?_|refine Go.rg ?_|refine GoR.nil ?_|refine Go.ret ?_|refine Go.b rfl ?_|(refine GoR.o (by rfl) (by rfl) ?_;(conv => arg 1;simp only [G,Z,Y,Gx,un_neg,cutD,decide_true,decide_false,simprocAttr,fb2,fb3,fb9,fb24,fb45,fb47,fb71]);show GoR ..)|refine GoR.s (by rfl) rfl rfl ?_|(refine GoR.splitG rfl (fun hc => ?_) (fun hc => ?_) <;> simp only [hc])|refine Go.condB rfl (fun hc => ?_) (fun hc => ?_))
    · have h1 : i < l.length := by simpa using hc
      repeat' (first|refine Go.a rfl ?_|refine Go.rg ?_|refine GoR.nil ?_|refine Go.ret ?_|refine Go.b rfl ?_|(refine GoR.o (by rfl) (by rfl) ?_;(conv => arg 1;simp only [G,Z,Y,Gx,un_neg,cutD,decide_true,decide_false,simprocAttr,fb2,fb3,fb9,fb24,fb45,fb47,fb71,attsAt h1, wrap_succ (show i < 4611686018427387904 by omega)]);show GoR ..)|(refine GoR.c c24 (by rfl) (by rfl) rfl ?_;(refine (few2 _ _).ret ?_))|refine GoR.s (by rfl) rfl rfl ?_|(refine GoR.splitG rfl (fun hc => ?_) (fun hc => ?_) <;> simp only [hc])|refine Go.condB rfl (fun hc => ?_) (fun hc => ?_))
      · clear next
        refine ⟨(by first | exact .inl rfl | exact .inr rfl), fin ?_⟩
        rw [resD_tmp (fn := Tryz.f57) rfl]
        simp only [optThen_some,resultD_tmp,resultD_cell,G,Z,Y,Gx,un_neg,cutD,decide_true,decide_false,simprocAttr,fb2,fb3,fb9,fb24,fb45,fb47,fb71]
        refine ⟨_, [], by simp, .bool, ?_⟩
        rw [all_false_at h1 (by simp at hc; simp [fewA]; omega)]
        simp
      · clear next
        refine ⟨(by first | exact .inl rfl | exact .inr rfl), fin ?_⟩
        rw [resD_tmp (fn := Tryz.f57) rfl]
        simp only [optThen_some,resultD_tmp,resultD_cell,G,Z,Y,Gx,un_neg,cutD,decide_true,decide_false,simprocAttr,fb2,fb3,fb9,fb24,fb45,fb47,fb71]
        refine ⟨_, [], by simp, .bool, ?_⟩
        have h2 : fewV l[i].v = false := by simp at hc; simp [fewV]; omega
        rw [all_false_at h1 (by simp [fewA, h2])]
        simp
      · refine Go.lpN ?_
        refine Go.keep [(0, .sl none 5 l.length (attsC l)), (3, .int .i64 ((i + 1 : Nat) : Int))] (.cons .refl (.cons .refl (.nil))) ?_
        refine next (i + 1) (by omega) ⟨h1, fun j hj hlt => ?_⟩
        clear next
        rcases Nat.lt_or_ge j i with h | h
        · exact hk j hj h
        · obtain rfl : j = i := by omega
          rename_i h3 h4
          simp at h4 hc
          simp [fewA, fewV, hc]
          omega
    · refine ⟨(by first | exact .inl rfl | exact .inr rfl), fin ?_⟩
      rw [resD_tmp (fn := Tryz.f57) rfl]
      simp only [optThen_some,resultD_tmp,resultD_cell,G,Z,Y,Gx,un_neg,cutD,decide_true,decide_false,simprocAttr,fb2,fb3,fb9,fb24,fb45,fb47,fb71]
      refine ⟨_, [], by simp, .bool, ?_⟩
      have hge : l.length ≤ i := by simpa using hc
      rw [all_true_of fun j hj => hk j hj (by omega)]
      simp [h40]
theorem att_low {n : Nat} (a : Att) : LowL n a.c := .cons (.str _) Val.low
theorem atts_low {n : Nat} (l : List Att) : LowL n (attsC l) := .of_mem (by
  intro x hx
  simp only [attsC, List.mem_flatMap] at hx
  obtain ⟨a, _, hx⟩ := hx
  obtain ⟨i, hi, rfl⟩ := List.mem_iff_getElem.1 hx
  exact (att_low a).get i hi)
theorem ofAttrs (l : List Att) (hl : l.length ≤ 1000000) (S : Mem) : CallD Tryz.prog orc 23 [.sl none 5 l.length (attsC l)] S fun d S' => S' = S ∧ d = .sl none 5 l.length (attsC l) := by
  refine CallD.e Tryz.func23 rfl Tryz.ntmps23 (by rfl) ?_
  repeat' (first|refine Go.a rfl ?_|refine Go.rg ?_|refine GoR.nil ?_|refine Go.ret ?_|refine Go.b rfl ?_|refine Go.rgS dmx (by decide) ?_|refine Go.rgD [5] (fun _ => True) dmx (by decide) 13 (by decide) (by trivial) ?_|refine GoW.nil rfl ?_|((first|refine GoR.o (by rfl) (by rfl) ?_|refine GoW.o (by rfl) (by rfl) ?_|refine GoW.rd (by rfl) (by rfl) ?_);(conv => arg 1;simp only [G,Z,Y,Gx,un_neg,cutD,decide_true,decide_false,simprocAttr,fb2,fb3,fb9,fb24,fb31,fb45,fb47,fb55,fb71,fb109]);first|show GoR ..|(show _ ∧ GoW ..;refine ⟨by exact fun _ => trivial,?_⟩)|(show _ ∧ _ ∧ _ ∧ GoW ..;refine ⟨rfl,by trivial,(fun H _=>by simp only [G,Z,Y,Gx,un_neg,cutD,decide_true,decide_false,simprocAttr,fb2,fb3,fb9,fb24,fb31,fb45,fb47,fb55,fb71,fb109]),?_⟩))|refine Go.condB rfl (fun hc => ?_) (fun hc => ?_))
  refine Go.keep [(0, .sl none 5 l.length (attsC l)), (3, .nils), (4, .int .i64 ((0 : Nat) : Int))] (.cons .refl (.cons .refl (.cons .refl (.nil)))) ?_
  refine Go.while (α := Nat × D × Mem) (fun a => l.length - a.1) (fun a => [(0, .sl none 5 l.length (attsC l)), (3, a.2.1), (4, .int .i64 (a.1 : Int))]) (fun a => a.2.2)
    (fun a => a.1 ≤ l.length ∧ AccD S.length a.2.1 5 a.1 (attsC (l.take a.1)) a.2.2 ∧ Grown S.length S a.2.2) ?_ (0, .nils, S) ⟨Nat.zero_le _, .inl ⟨rfl, rfl, rfl⟩, .refl⟩
  rintro ⟨i, o, S1⟩ ⟨hi, hacc, hg⟩ next
  dsimp only at hi hacc hg next
  repeat' (first|refine Go.a rfl ?_|refine Go.rg ?_|refine GoR.nil ?_|refine Go.ret ?_|refine Go.b rfl ?_|refine Go.rgS dmx (by decide) ?_|refine Go.rgD [5] (fun _ => True) dmx (by decide) 13 (by decide) (by trivial) ?_|refine GoW.nil rfl ?_|((first|refine GoR.o (by rfl) (by rfl) ?_|refine GoW.o (by rfl) (by rfl) ?_|refine GoW.rd (by rfl) (by rfl) ?_);(conv => arg 1;simp only [G,Z,Y,Gx,un_neg,cutD,decide_true,decide_false,simprocAttr,fb2,fb3,fb9,fb24,fb31,fb45,fb47,fb55,fb71,fb109]);first|show GoR ..|(show _ ∧ GoW ..;refine ⟨by exact fun _ => trivial,?_⟩)|(show _ ∧ _ ∧ _ ∧ GoW ..;refine ⟨rfl,by trivial,(fun H _=>by simp only [G,Z,Y,Gx,un_neg,cutD,decide_true,decide_false,simprocAttr,fb2,fb3,fb9,fb24,fb31,fb45,fb47,fb55,fb71,fb109]),?_⟩))|refine Go.condB rfl (fun hc => ?_) (fun hc => ?_))
  · have h1 : i < l.length := by simpa using hc
    obtain ⟨o', S2, hap, hacc2, hg2⟩ := (hacc.app [.own]).append (P := Tryz.prog) del31 (own := some S1.length) (m := 1) (new := l[i].c) (by simp; have := hg.len; omega) (by omega) ⟨by omega, by omega, by omega, rfl⟩
    simp only [Att.c] at hap
    repeat' (first|refine Go.a rfl ?_|refine Go.rg ?_|refine GoR.nil ?_|refine Go.ret ?_|refine Go.b rfl ?_|refine Go.rgS dmx (by decide) ?_|refine Go.rgD [5] (fun _ => True) dmx (by decide) 13 (by decide) (by trivial) ?_|refine GoW.nil rfl ?_|((first|refine GoR.o (by rfl) (by rfl) ?_|refine GoW.o (by rfl) (by rfl) ?_|refine GoW.rd (by rfl) (by rfl) ?_);(conv => arg 1;simp only [G,Z,Y,Gx,un_neg,cutD,decide_true,decide_false,simprocAttr,fb2,fb3,fb9,fb24,fb31,fb45,fb47,fb55,fb71,fb109,attsAt h1, wrap_succ (show i < 4611686018427387904 by omega), Val.c, hap, builtin_append]);first|show GoR ..|(show _ ∧ GoW ..;refine ⟨by exact fun _ => trivial,?_⟩)|(show _ ∧ _ ∧ _ ∧ GoW ..;refine ⟨rfl,by trivial,(fun H _=>by simp only [G,Z,Y,Gx,un_neg,cutD,decide_true,decide_false,simprocAttr,fb2,fb3,fb9,fb24,fb31,fb45,fb47,fb55,fb71,fb109,attsAt h1, wrap_succ (show i < 4611686018427387904 by omega), Val.c, hap, builtin_append]),?_⟩))|(refine GoW.c c27 (by rfl) (by rfl) rfl ?_;(refine (of2 _ _).ret ?_);refine ⟨by exact fun _ => trivial,?_⟩)|(refine GoR.c c27 (by rfl) (by rfl) rfl ?_;(refine (of2 _ _).ret ?_))|refine Go.condB rfl (fun hc => ?_) (fun hc => ?_))
    refine Go.lpN ?_
    refine Go.keep [(0, .sl none 5 l.length (attsC l)), (3, o'), (4, .int .i64 ((i + 1 : Nat) : Int))] (.cons .refl (.cons .refl (.cons .refl (.nil)))) ?_
    refine next (i + 1, o', S2) (by dsimp only; omega) ⟨h1, ?_, hg.trans (Grown.app.trans hg2)⟩
    have e : attsC (l.take (i + 1)) = attsC (l.take i) ++ l[i].c := flat_take_succ h1
    dsimp only
    rw [e]
    exact hacc2
  · clear next
    refine ⟨(by first | exact .inl rfl | exact .inr rfl), fin ?_⟩
    rw [resD_tmp (fn := Tryz.f23) rfl]
    simp only [optThen_some,resultD_tmp,resultD_cell,G,Z,Y,Gx,un_neg,cutD,decide_true,decide_false,simprocAttr,fb2,fb3,fb9,fb24,fb31,fb45,fb47,fb55,fb71,fb109]
    have hi' : i = l.length := by have : l.length ≤ i := by simpa using hc
                                  omega
    subst hi'
    rw [List.take_length] at hacc
    obtain ⟨E, hE⟩ := hg.pre [] S rfl (by simp)
    exact ⟨_, E, hE, hacc.wf.to_Wk (.sl' (atts_low l)), rfl⟩
end Go.Proofs.DwT
