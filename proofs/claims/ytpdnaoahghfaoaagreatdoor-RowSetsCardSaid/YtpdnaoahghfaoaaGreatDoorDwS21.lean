/- Attributes are searched and looked up. -/
import Derived.Test.YtpdnaoahghfaoaaGreatDoorDwS20
set_option linter.unusedSimpArgs false
set_option linter.unusedVariables false
namespace Go.Proofs.DwT
open Go Go.DM Go.Proofs.DeT
set_option maxRecDepth 100000
variable {orc : DOracle}

theorem find1 (a : Att) (s : ByteArray) (S : Mem) : CallD Tryz.prog orc 122 [.agg a.c, .str s] S fun d S' => S' = S ∧ d = .int .i64 (cmpB a.n s) := by
  obtain ⟨n, v⟩ := a
  simp only [Att.c]
  refine CallD.e Tryz.func122 rfl Tryz.ntmps122 (by rfl) ?_
  repeat' (first|refine Go.a rfl ?_|refine Go.rg ?_|refine GoR.nil ?_|refine Go.ret ?_|refine Go.b rfl ?_|(refine GoR.o (by rfl) (by rfl) ?_;(conv => arg 1;simp only [G,Z,Y,Gx,un_neg,cutD,decide_true,decide_false,simprocAttr,fb9,fb47,fb71]);show GoR ..)|(refine GoR.c c118 (by rfl) (by rfl) rfl ?_;(refine (compareS _ _ _).ret ?_))|refine Go.condB rfl (fun hc => ?_) (fun hc => ?_))
  refine ⟨(by first | exact .inl rfl | exact .inr rfl), fin ?_⟩
  rw [resD_tmp (fn := Tryz.f122) rfl]
  simp only [optThen_some,resultD_tmp,resultD_cell,G,Z,Y,Gx,un_neg,cutD,decide_true,decide_false,simprocAttr,fb9,fb47,fb71]
  exact ⟨_, _, rfl, .int, rfl⟩
theorem shr1 (n : Nat) : (n : Int).fdiv (2 ^ (min (1 : Nat) IntKind.u64.bits)) = ((n / 2 : Nat) : Int) := by
  rw [show (2 : Int) ^ (min (1 : Nat) IntKind.u64.bits) = ((2 : Nat) : Int) from rfl, Int.fdiv_eq_ediv_of_nonneg _ (by omega)]
  omega
theorem add_cast {i j : Nat} (h : i + j < 4611686018427387904) : IntKind.i64.wrap ((i : Int) + (j : Int)) = ((i + j : Nat) : Int) := by rw [wrap64 (by omega) (by omega)]; omega
theorem i64_cast {i : Nat} (h : i < 4611686018427387904) : IntKind.i64.wrap (i : Int) = (i : Int) := wrap64 (by omega) (by omega)
theorem u64_cast {i : Nat} (h : i < 4611686018427387904) : IntKind.u64.wrap (i : Int) = (i : Int) := wrapu64 (by omega) (by omega)
theorem search (l : List Att) (s : ByteArray) (hr : RiseB Att.n l) (hl : l.length < 1000000) (S : Mem) :
    CallD Tryz.prog orc 121 [.sl none 5 l.length (attsC l), .str s, .fn (.func 122) [] []] S
      fun d S' => S' = S ∧ ∃ i b, d = .tup [.int .i64 ((i : Nat) : Int), .bool b] ∧ i ≤ l.length ∧ (∀ k (h : k < l.length), k < i → ltB l[k].n s = true) ∧ (∀ k (h : k < l.length), i ≤ k → ltB l[k].n s = false) ∧ (b = true ↔ ∃ h : i < l.length, l[i].n = s) := by
  refine CallD.e Tryz.func121 rfl Tryz.ntmps121 (by rfl) ?_
  repeat' (first|refine Go.a rfl ?_|refine Go.rg ?_|refine GoR.nil ?_|refine Go.ret ?_|refine Go.b rfl ?_|(refine GoR.o (by rfl) (by rfl) ?_;(conv => arg 1;simp only [G,Z,Y,Gx,un_neg,cutD,decide_true,decide_false,simprocAttr,fb3,fb9,fb24,fb47,fb71,fb196]);show GoR ..)|refine GoR.s (by rfl) rfl rfl ?_|(refine GoR.splitG rfl (fun hc => ?_) (fun hc => ?_) <;> simp only [hc])|refine Go.condB rfl (fun hc => ?_) (fun hc => ?_))
  refine Go.keep [(0, .sl none 5 l.length (attsC l)), (1, .str s), (2, .fn (.func 122) [] []), (8, .int .i64 (l.length : Int)), (9, .int .i64 ((0 : Nat) : Int)), (10, .int .i64 (l.length : Int))] (.cons .refl (.cons .refl (.cons .refl (.cons .refl (.cons .refl (.cons .refl (.nil))))))) ?_
  refine Go.while (α := Nat × Nat) (fun a => a.2 - a.1) (fun a => [(0, .sl none 5 l.length (attsC l)), (1, .str s), (2, .fn (.func 122) [] []), (8, .int .i64 (l.length : Int)), (9, .int .i64 (a.1 : Int)), (10, .int .i64 (a.2 : Int))]) (fun _ => S)
    (fun a => a.1 ≤ a.2 ∧ a.2 ≤ l.length ∧ (∀ k (h : k < l.length), k < a.1 → ltB l[k].n s = true) ∧ (∀ k (h : k < l.length), a.2 ≤ k → ltB l[k].n s = false)) ?_ (0, l.length) ⟨Nat.zero_le _, Nat.le_refl _, by simp, fun k h h2 => absurd h (by dsimp only at h2; omega)⟩
  rintro ⟨i, j⟩ ⟨hij, hj, hlo, hhi⟩ next
  dsimp only at hij hj hlo hhi next
  repeat' (first|refine Go.a rfl ?_|refine Go.rg ?_|refine GoR.nil ?_|refine Go.ret ?_|refine Go.b rfl ?_|(refine GoR.o (by rfl) (by rfl) ?_;(conv => arg 1;simp only [G,Z,Y,Gx,un_neg,cutD,decide_true,decide_false,simprocAttr,fb3,fb9,fb24,fb47,fb71,fb196]);show GoR ..)|refine GoR.s (by rfl) rfl rfl ?_|(refine GoR.splitG rfl (fun hc => ?_) (fun hc => ?_) <;> simp only [hc])|refine Go.condB rfl (fun hc => ?_) (fun hc => ?_))
  · have h1 : i < j := by simpa using hc
    have hh : (i + j) / 2 < l.length := by omega
    repeat' (first|refine Go.a rfl ?_|refine Go.rg ?_|refine GoR.nil ?_|refine Go.ret ?_|refine Go.b rfl ?_|(refine GoR.o (by rfl) (by rfl) ?_;(conv => arg 1;simp only [G,Z,Y,Gx,un_neg,cutD,decide_true,decide_false,simprocAttr,fb3,fb9,fb24,fb47,fb71,fb196,add_cast (show i + j < 4611686018427387904 by omega), u64_cast (show i + j < 4611686018427387904 by omega), shr1, i64_cast (show (i + j) / 2 < 4611686018427387904 by omega), attsAt hh, wrap_succ (show (i + j) / 2 < 4611686018427387904 by omega)]);show GoR ..)|(refine GoR.c c122 (by rfl) (by rfl) rfl ?_;(refine (find1 _ _ _).ret ?_))|refine GoR.s (by rfl) rfl rfl ?_|(refine GoR.splitG rfl (fun hc => ?_) (fun hc => ?_) <;> simp only [hc])|refine Go.condB rfl (fun hc => ?_) (fun hc => ?_))
    · refine Go.lpN ?_
      refine Go.keep [(0, .sl none 5 l.length (attsC l)), (1, .str s), (2, .fn (.func 122) [] []), (8, .int .i64 (l.length : Int)), (9, .int .i64 (((i + j) / 2 + 1 : Nat) : Int)), (10, .int .i64 (j : Int))] (.cons .refl (.cons .refl (.cons .refl (.cons .refl (.cons .refl (.cons .refl (.nil))))))) ?_
      have hlt := cmpB_neg.1 (of_decide_eq_true hc)
      refine next ((i + j) / 2 + 1, j) (by dsimp only; omega) ⟨by dsimp only; omega, hj, fun k hk hk2 => ?_, hhi⟩
      dsimp only at hk2
      rcases Nat.lt_or_ge k ((i + j) / 2) with h | h
      · exact ltB_trans (hr.lt hh h) hlt
      · obtain rfl : k = (i + j) / 2 := by omega
        exact hlt
    · refine Go.lpN ?_
      refine Go.keep [(0, .sl none 5 l.length (attsC l)), (1, .str s), (2, .fn (.func 122) [] []), (8, .int .i64 (l.length : Int)), (9, .int .i64 (i : Int)), (10, .int .i64 (((i + j) / 2 : Nat) : Int))] (.cons .refl (.cons .refl (.cons .refl (.cons .refl (.cons .refl (.cons .refl (.nil))))))) ?_
      have hge : ltB l[(i + j) / 2].n s = false := by
        cases hq : ltB l[(i + j) / 2].n s with
        | false => rfl
        | true => exact absurd (cmpB_neg.2 hq) (of_decide_eq_false hc)
      refine next (i, (i + j) / 2) (by dsimp only; omega) ⟨by dsimp only; omega, by dsimp only; omega, hlo, fun k hk hk2 => ?_⟩
      dsimp only at hk2
      rcases Nat.lt_or_ge ((i + j) / 2) k with h | h
      · cases hq : ltB l[k].n s with
        | false => rfl
        | true => rw [ltB_trans (hr.lt hk h) hq] at hge; cases hge
      · obtain rfl : k = (i + j) / 2 := by omega
        exact hge
  · clear next
    rename_i h0
    have hi : i = j := by have : j ≤ i := by simpa using h0
                          omega
    subst hi
    have hn : i < l.length := by simpa using hc
    repeat' (first|refine Go.a rfl ?_|refine Go.rg ?_|refine GoR.nil ?_|refine Go.ret ?_|refine Go.b rfl ?_|(refine GoR.o (by rfl) (by rfl) ?_;(conv => arg 1;simp only [G,Z,Y,Gx,un_neg,cutD,decide_true,decide_false,simprocAttr,fb3,fb9,fb24,fb47,fb71,fb196,attsAt hn]);show GoR ..)|(refine GoR.c c122 (by rfl) (by rfl) rfl ?_;(refine (find1 _ _ _).ret ?_))|refine GoR.s (by rfl) rfl rfl ?_|(refine GoR.splitG rfl (fun hc => ?_) (fun hc => ?_) <;> simp only [hc])|refine Go.condB rfl (fun hc => ?_) (fun hc => ?_))
    refine ⟨(by first | exact .inl rfl | exact .inr rfl), fin ?_⟩
    rw [resD_two (fn := Tryz.f121) rfl]
    simp only [optThen_some,resultD_tmp,resultD_cell,G,Z,Y,Gx,un_neg,cutD,decide_true,decide_false,simprocAttr,fb3,fb9,fb24,fb47,fb71,fb196]
    exact ⟨_, [], by simp, .of_low (.tup' (.cons (.int _ _) (.cons (.bool _) .nil))), i, _, rfl, hj, hlo, hhi, by simp [cmpB_zero, hn]⟩
  · clear next
    rename_i h0
    have hi : i = j := by have : j ≤ i := by simpa using h0
                          omega
    subst hi
    have hn : ¬ i < l.length := by simpa using hc
    refine ⟨(by first | exact .inl rfl | exact .inr rfl), fin ?_⟩
    rw [resD_two (fn := Tryz.f121) rfl]
    simp only [optThen_some,resultD_tmp,resultD_cell,G,Z,Y,Gx,un_neg,cutD,decide_true,decide_false,simprocAttr,fb3,fb9,fb24,fb47,fb71,fb196]
    exact ⟨_, [], by simp, .of_low (.tup' (.cons (.int _ _) (.cons (.bool _) .nil))), i, _, rfl, hj, hlo, hhi, by simp [hn]⟩
def look (l : List Att) (s : ByteArray) : Option Val := (l.find? fun a => decide (a.n = s)).map (·.v)
theorem rowFind (l : List Att) (s : ByteArray) (hr : RiseB Att.n l) (hl : l.length < 1000000) (S : Mem) :
    CallD Tryz.prog orc 74 [.sl none 5 l.length (attsC l), .str s] S
      fun d S' => S' = S ∧ ∃ i b, d = .tup [.int .i64 ((i : Nat) : Int), .bool b] ∧ i ≤ l.length ∧ (∀ k (h : k < l.length), k < i → ltB l[k].n s = true) ∧ (∀ k (h : k < l.length), i ≤ k → ltB l[k].n s = false) ∧ (b = true ↔ ∃ h : i < l.length, l[i].n = s) := by
  refine CallD.e Tryz.func74 rfl Tryz.ntmps74 (by rfl) ?_
  repeat' (first|refine Go.a rfl ?_|refine Go.rg ?_|refine GoR.nil ?_|refine Go.ret ?_|refine Go.b rfl ?_|(refine GoR.o (by rfl) (by rfl) ?_;(conv => arg 1;simp only [G,Z,Y,Gx,un_neg,cutD,decide_true,decide_false,simprocAttr]);show GoR ..)|(refine GoR.c c121 (by rfl) (by rfl) rfl ?_;(refine (search l s hr hl _).retE ?_; rintro _ ⟨i, b, rfl, h1, h2, h3, h4⟩))|refine Go.condB rfl (fun hc => ?_) (fun hc => ?_))
  refine ⟨(by first | exact .inl rfl | exact .inr rfl), fin ?_⟩
  rw [resD_two (fn := Tryz.f74) rfl]
  simp only [optThen_some,resultD_tmp,resultD_cell,G,Z,Y,Gx,un_neg,cutD,decide_true,decide_false,simprocAttr]
  exact ⟨_, [], by simp, .of_low (.tup' (.cons (.int _ _) (.cons (.bool _) .nil))), i, b, rfl, h1, h2, h3, h4⟩
theorem clone1 (l : List Int) (hl : l.length < 1000000) (S : Mem) : CallD Tryz.prog orc 124 [.sl none 1 l.length (intsD l)] S fun d S' => S' = S ∧ d = .sl none 1 l.length (intsD l) := by
  cases l with
  | nil =>
    refine CallD.nilOr (pre := []) (post := []) ?_ ?_
    · refine CallD.e Tryz.func124 rfl Tryz.ntmps124 (by rfl) ?_
      repeat' (first|refine Go.a rfl ?_|refine Go.rg ?_|refine GoR.nil ?_|refine Go.ret ?_|refine Go.b rfl ?_|(refine GoR.o (by rfl) (by rfl) ?_;(conv => arg 1;simp only [G,Z,Y,Gx,un_neg,cutD,decide_true,decide_false,simprocAttr,fb45]);show GoR ..)|refine Go.condB rfl (fun hc => ?_) (fun hc => ?_))
      refine ⟨(by first | exact .inl rfl | exact .inr rfl), fin ?_⟩
      rw [resD_tmp (fn := Tryz.f124) rfl]
      simp only [optThen_some,resultD_tmp,resultD_cell,G,Z,Y,Gx,un_neg,cutD,decide_true,decide_false,simprocAttr,fb45]
      exact ⟨_, [], by simp, .nilE, rfl⟩
    · refine CallD.e Tryz.func124 rfl Tryz.ntmps124 (by rfl) ?_
      repeat' (first|refine Go.a rfl ?_|refine Go.rg ?_|refine GoR.nil ?_|refine Go.ret ?_|refine Go.b rfl ?_|(refine GoR.o (by rfl) (by rfl) ?_;(conv => arg 1;simp only [G,Z,Y,Gx,un_neg,cutD,decide_true,decide_false,simprocAttr,fb45]);show GoR ..)|refine Go.condB rfl (fun hc => ?_) (fun hc => ?_))
      refine ⟨(by first | exact .inl rfl | exact .inr rfl), fin ?_⟩
      rw [resD_tmp (fn := Tryz.f124) rfl]
      simp only [optThen_some,resultD_tmp,resultD_cell,G,Z,Y,Gx,un_neg,cutD,decide_true,decide_false,simprocAttr,fb45]
      exact ⟨_, _, rfl, .disown (by simp), rfl⟩
  | cons x l =>
    refine CallD.e Tryz.func124 rfl Tryz.ntmps124 (by rfl) ?_
    have hf : fitsD 8 (l.length + 1) (intsD (x :: l)) := ⟨by simp at hl; omega, by simp at hl; omega, by omega, by simp [intsD, D.one]⟩
    repeat' (first|refine Go.a rfl ?_|refine Go.rg ?_|refine GoR.nil ?_|refine Go.ret ?_|refine Go.b rfl ?_|(refine GoR.o (by rfl) (by rfl) ?_;(conv => arg 1;simp only [G,Z,Y,Gx,un_neg,cutD,decide_true,decide_false,simprocAttr,fb45,builtin_append, Nat.zero_add, hf, show (l.length + 1 = 0) = False by simp]);show GoR ..)|refine Go.condB rfl (fun hc => ?_) (fun hc => ?_))
    refine ⟨(by first | exact .inl rfl | exact .inr rfl), fin ?_⟩
    rw [resD_tmp (fn := Tryz.f124) rfl]
    simp only [optThen_some,resultD_tmp,resultD_cell,G,Z,Y,Gx,un_neg,cutD,decide_true,decide_false,simprocAttr,fb45]
    exact ⟨_, _, rfl, .disown intsD_low.get, rfl⟩
theorem apart (v : Val) (hl : v.l.length < 1000000) (S : Mem) : CallD Tryz.prog orc 75 [.agg v.c] S fun d S' => S' = S ∧ d = .agg v.c := by
  obtain ⟨k, i, s, l⟩ := v
  simp only [Val.c]
  refine CallD.e Tryz.func75 rfl Tryz.ntmps75 (by rfl) ?_
  repeat' (first|refine Go.a rfl ?_|refine Go.rg ?_|refine GoR.nil ?_|refine Go.ret ?_|refine Go.b rfl ?_|(refine GoR.o (by rfl) (by rfl) ?_;(conv => arg 1;simp only [G,Z,Y,Gx,un_neg,cutD,decide_true,decide_false,simprocAttr,fb2,fb3,fb9,fb45,fb47]);show GoR ..)|(refine GoR.c c124 (by rfl) (by rfl) rfl ?_;(refine (clone1 l hl _).ret ?_))|(refine GoR.c c123 (by rfl) (by rfl) rfl ?_;(refine (clip1 _ _ _).ret ?_))|refine Go.condB rfl (fun hc => ?_) (fun hc => ?_))
  refine ⟨(by first | exact .inl rfl | exact .inr rfl), fin ?_⟩
  rw [resD_cell (fn := Tryz.f75) rfl]
  simp only [optThen_some,resultD_tmp,resultD_cell,G,Z,Y,Gx,un_neg,cutD,decide_true,decide_false,simprocAttr,fb2,fb3,fb9,fb45,fb47]
  exact ⟨_, _, rfl, .of_low (.agg' Val.low), rfl⟩
theorem look_at {l : List Att} {s : ByteArray} (hr : RiseB Att.n l) {i : Nat} (h : i < l.length) (e : l[i].n = s) : look l s = some l[i].v := by
  unfold look
  have hm : l.find? (fun a => decide (a.n = s)) = some l[i] := by
    rw [List.find?_eq_some_iff_getElem]
    refine ⟨by simp [e], i, h, rfl, fun j hj => ?_⟩
    simp only [Bool.not_eq_true', decide_eq_false_iff_not]
    intro hq
    have := hr.inj (show j < l.length by omega) h (hq.trans e.symm)
    omega
  rw [hm]; rfl
theorem look_none {l : List Att} {s : ByteArray} (h : ∀ i (h : i < l.length), l[i].n ≠ s) : look l s = none := by
  unfold look
  have : l.find? (fun a => decide (a.n = s)) = none := by
    rw [List.find?_eq_none]
    intro a ha
    obtain ⟨i, hi, rfl⟩ := List.mem_iff_getElem.1 ha
    simp [h i hi]
  rw [this]; rfl
def noVal : Val := ⟨0, 0, ⟨#[]⟩, []⟩
theorem valD_low {n : Nat} {v : Val} {b : Bool} : DLow n (.tup [.agg v.c, .bool b]) := .tup' (.cons (.agg' Val.low) (.cons (.bool _) .nil))
theorem rowGet (l : List Att) (s : ByteArray) (hr : RiseB Att.n l) (hl : l.length < 1000000) (hv : ∀ a ∈ l, a.v.l.length < 1000000) (S : Mem) :
    CallD Tryz.prog orc 30 [.sl none 5 l.length (attsC l), .str s] S fun d S' => S' = S ∧ d = .tup [.agg ((look l s).getD noVal).c, .bool (look l s).isSome] := by
  refine CallD.e Tryz.func30 rfl Tryz.ntmps30 (by rfl) ?_
  repeat' (first|refine Go.a rfl ?_|refine Go.rg ?_|refine GoR.nil ?_|refine Go.ret ?_|refine Go.b rfl ?_|(refine GoR.o (by rfl) (by rfl) ?_;(conv => arg 1;simp only [G,Z,Y,Gx,un_neg,cutD,decide_true,decide_false,simprocAttr,fb2,fb3,fb9,fb24,fb45,fb47,fb71]);show GoR ..)|(refine GoR.c c74 (by rfl) (by rfl) rfl ?_;(refine (rowFind l s hr hl _).retE ?_; rintro _ ⟨i, b, rfl, h1, h2, h3, h4⟩))|refine Go.condB rfl (fun hc => ?_) (fun hc => ?_))
  · have hb : b = false := by simpa using hc
    refine ⟨(by first | exact .inl rfl | exact .inr rfl), fin ?_⟩
    rw [resD_two (fn := Tryz.f30) rfl]
    simp only [optThen_some,resultD_tmp,resultD_cell,G,Z,Y,Gx,un_neg,cutD,decide_true,decide_false,simprocAttr,fb2,fb3,fb9,fb24,fb45,fb47,fb71]
    have hn : look l s = none := by
      refine look_none fun j hj e => ?_
      have hj2 : ¬ j < i := fun h => by have := h2 j hj h; rw [e, ltB_irrefl] at this; cases this
      have hi : i < l.length := by omega
      have hj3 : ¬ i < j := fun h => by have := h3 i hi (Nat.le_refl _); rw [← e, hr.lt hj h] at this; cases this
      obtain rfl : i = j := by omega
      rw [h4.2 ⟨hi, e⟩] at hb; cases hb
    rw [hn]
    have hw : Wf (.tup [.agg [.int .i64 0, .int .i64 0, .str ⟨#[]⟩, .nils], .bool b]) (.tup [.agg noVal.c, .bool b]) := .tup' (.cons (.agg' (.cons .refl (.cons .refl (.cons .refl (.cons .nilE .nil))))) (.cons .refl .nil))
    subst hb
    exact ⟨_, _, rfl, hw.to_Wk valD_low, rfl⟩
  · have hb : b = true := by simpa using hc
    obtain ⟨hi, e⟩ := h4.1 hb
    have hlk := look_at hr hi e
    repeat' (first|refine Go.a rfl ?_|refine Go.rg ?_|refine GoR.nil ?_|refine Go.ret ?_|refine Go.b rfl ?_|(refine GoR.o (by rfl) (by rfl) ?_;(conv => arg 1;simp only [G,Z,Y,Gx,un_neg,cutD,decide_true,decide_false,simprocAttr,fb2,fb3,fb9,fb24,fb45,fb47,fb71,attsAt hi, Val.c]);show GoR ..)|(refine GoR.c c75 (by rfl) (by rfl) rfl ?_;(refine (apart _ (hv _ (List.getElem_mem _)) _).ret ?_))|refine Go.condB rfl (fun hc => ?_) (fun hc => ?_))
    refine ⟨(by first | exact .inl rfl | exact .inr rfl), fin ?_⟩
    rw [resD_two (fn := Tryz.f30) rfl]
    simp only [optThen_some,resultD_tmp,resultD_cell,G,Z,Y,Gx,un_neg,cutD,decide_true,decide_false,simprocAttr,fb2,fb3,fb9,fb24,fb45,fb47,fb71]
    rw [hlk]
    exact ⟨_, _, rfl, .of_low valD_low, rfl⟩
theorem refGet (l : List Att) (s : ByteArray) (hr : RiseB Att.n l) (hl : l.length < 1000000) (S : Mem) :
    CallD Tryz.prog orc 31 [.sl none 5 l.length (attsC l), .str s] S fun d S' => S' = S ∧ d = .tup [.agg ((look l s).getD noVal).c, .bool (look l s).isSome] := by
  refine CallD.e Tryz.func31 rfl Tryz.ntmps31 (by rfl) ?_
  repeat' (first|refine Go.a rfl ?_|refine Go.rg ?_|refine GoR.nil ?_|refine Go.ret ?_|refine Go.b rfl ?_|(refine GoR.o (by rfl) (by rfl) ?_;(conv => arg 1;simp only [G,Z,Y,Gx,un_neg,cutD,decide_true,decide_false,simprocAttr,fb2,fb3,fb9,fb31,fb45,fb55,fb109]);show GoR ..)|refine Go.condB rfl (fun hc => ?_) (fun hc => ?_))
  refine Go.keep [(0, .sl none 5 l.length (attsC l)), (1, .str s), (4, .ptr S.length 0), (6, .int .i64 ((0 : Nat) : Int))] (.cons .refl (.cons .refl (.cons .refl (.cons .refl (.nil))))) ?_
  refine Go.while (α := Nat) (fun i => l.length - i) (fun i => [(0, .sl none 5 l.length (attsC l)), (1, .str s), (4, .ptr S.length 0), (6, .int .i64 (i : Int))]) (fun _ => S ++ [.obj [.int .i64 0, .int .i64 0, .str ⟨#[]⟩, .nils]])
    (fun i => i ≤ l.length ∧ ∀ j (h : j < l.length), j < i → l[j].n ≠ s) ?_ 0 ⟨Nat.zero_le _, by simp⟩
  rintro i ⟨hi, hk⟩ next
  repeat' (first|refine Go.a rfl ?_|refine Go.rg ?_|refine GoR.nil ?_|refine Go.ret ?_|refine Go.b rfl ?_|(refine GoR.o (by rfl) (by rfl) ?_;(conv => arg 1;simp only [G,Z,Y,Gx,un_neg,cutD,decide_true,decide_false,simprocAttr,fb2,fb3,fb9,fb31,fb45,fb55,fb109]);show GoR ..)|refine Go.condB rfl (fun hc => ?_) (fun hc => ?_))
  · have h1 : i < l.length := by simpa using hc
    by_cases he : l[i].n = s
    · repeat' (first|refine Go.a rfl ?_|refine Go.rg ?_|refine GoR.nil ?_|refine Go.ret ?_|refine Go.b rfl ?_|(refine GoR.o (by rfl) (by rfl) ?_;(conv => arg 1;simp only [G,Z,Y,Gx,un_neg,cutD,decide_true,decide_false,simprocAttr,fb2,fb3,fb9,fb31,fb45,fb55,fb109,attsAt h1, Val.c, he]);show GoR ..)|refine Go.condB rfl (fun hc => ?_) (fun hc => ?_))
      clear next
      refine ⟨(by first | exact .inl rfl | exact .inr rfl), fin ?_⟩
      rw [resD_two (fn := Tryz.f31) rfl]
      simp only [optThen_some,resultD_tmp,resultD_cell,G,Z,Y,Gx,un_neg,cutD,decide_true,decide_false,simprocAttr,fb2,fb3,fb9,fb31,fb45,fb55,fb109]
      rw [look_at hr h1 he]
      exact ⟨_, _, rfl, .of_low valD_low, rfl⟩
    · repeat' (first|refine Go.a rfl ?_|refine Go.rg ?_|refine GoR.nil ?_|refine Go.ret ?_|refine Go.b rfl ?_|(refine GoR.o (by rfl) (by rfl) ?_;(conv => arg 1;simp only [G,Z,Y,Gx,un_neg,cutD,decide_true,decide_false,simprocAttr,fb2,fb3,fb9,fb31,fb45,fb55,fb109,attsAt h1, show decide (l[i].n = s) = false by simp [he], wrap_succ (show i < 4611686018427387904 by omega)]);show GoR ..)|refine Go.condB rfl (fun hc => ?_) (fun hc => ?_))
      refine Go.lpN ?_
      refine Go.keep [(0, .sl none 5 l.length (attsC l)), (1, .str s), (4, .ptr S.length 0), (6, .int .i64 ((i + 1 : Nat) : Int))] (.cons .refl (.cons .refl (.cons .refl (.cons .refl (.nil))))) ?_
      refine next (i + 1) (by omega) ⟨h1, fun j hj hlt => ?_⟩
      rcases Nat.lt_or_ge j i with h | h
      · exact hk j hj h
      · obtain rfl : j = i := by omega
        exact he
  · clear next
    refine ⟨(by first | exact .inl rfl | exact .inr rfl), fin ?_⟩
    rw [resD_two (fn := Tryz.f31) rfl]
    simp only [optThen_some,resultD_tmp,resultD_cell,G,Z,Y,Gx,un_neg,cutD,decide_true,decide_false,simprocAttr,fb2,fb3,fb9,fb31,fb45,fb55,fb109]
    rw [look_none fun j hj => hk j hj (by simp at hc; omega)]
    have hw : Wf (.tup [.agg [.int .i64 0, .int .i64 0, .str ⟨#[]⟩, .nils], .bool false]) (.tup [.agg noVal.c, .bool false]) := .tup' (.cons (.agg' (.cons .refl (.cons .refl (.cons .refl (.cons .nilE .nil))))) (.cons .refl .nil))
    exact ⟨_, _, rfl, hw.to_Wk valD_low, rfl⟩
end Go.Proofs.DwT
