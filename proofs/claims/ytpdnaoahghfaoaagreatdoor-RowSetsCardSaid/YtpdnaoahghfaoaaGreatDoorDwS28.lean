/- Attributes are searched in a slice that may be written. -/
import Derived.Test.YtpdnaoahghfaoaaGreatDoorDwS27
set_option linter.unusedSimpArgs false
set_option linter.unusedVariables false
namespace Go.Proofs.DwT
open Go Go.DM Go.Proofs.DeT
set_option maxRecDepth 100000
variable {orc : DOracle}

theorem ix_msl {P : Program} {t e n : Nat} (hu : P.underlying t = some (.slice e)) (hs : AM.sizeA P e = some n) {o : Nat} {len : Nat} {k : IntKind} {i : Int} :
    indexAtD P t (.msl o n len) (.int k i) = if 0 ≤ i ∧ i < len then some (.ptr o (i.toNat * n)) else none := by
  simp only [indexAtD, hu, hs, and_true]
theorem searchM (o : Nat) (l : List Att) (s : ByteArray) (hr : RiseB Att.n l) (hl : l.length < 1000000) (S : Mem) (hob : objAt S o = some (attsC l)) :
    CallD Tryz.prog orc 121 [.msl o 5 l.length, .str s, .fn (.func 122) [] []] S
      fun d S' => S' = S ∧ ∃ i b, d = .tup [.int .i64 ((i : Nat) : Int), .bool b] ∧ i ≤ l.length ∧ (∀ k (h : k < l.length), k < i → ltB l[k].n s = true) ∧ (∀ k (h : k < l.length), i ≤ k → ltB l[k].n s = false) ∧ (b = true ↔ ∃ h : i < l.length, l[i].n = s) := by
  refine CallD.e Tryz.func121 rfl Tryz.ntmps121 (by rfl) ?_
  repeat' (first|refine Go.a rfl ?_|refine Go.rg ?_|refine GoR.nil ?_|refine Go.ret ?_|refine Go.b rfl ?_|(refine GoR.o (by rfl) (by rfl) ?_;(conv => arg 1;simp only [G,Z,Y,Gx,un_neg,cutD,decide_true,decide_false,simprocAttr,fb3,fb9,fb24,fb47,fb71,fb196,hob, len_msl (P := Tryz.prog) (at_ := #[24]) (t := 24) rfl Tryz.underlying24, ix_msl (P := Tryz.prog) (t := 24) (e := 71) (n := 5) Tryz.underlying24 dsz71]);show GoR ..)|refine GoR.s (by rfl) rfl rfl ?_|(refine GoR.splitG rfl (fun hc => ?_) (fun hc => ?_) <;> simp only [hc])|refine Go.condB rfl (fun hc => ?_) (fun hc => ?_))
  refine Go.keep [(0, .msl o 5 l.length), (1, .str s), (2, .fn (.func 122) [] []), (8, .int .i64 (l.length : Int)), (9, .int .i64 ((0 : Nat) : Int)), (10, .int .i64 (l.length : Int))] (.cons .refl (.cons .refl (.cons .refl (.cons .refl (.cons .refl (.cons .refl (.nil))))))) ?_
  refine Go.while (α := Nat × Nat) (fun a => a.2 - a.1) (fun a => [(0, .msl o 5 l.length), (1, .str s), (2, .fn (.func 122) [] []), (8, .int .i64 (l.length : Int)), (9, .int .i64 (a.1 : Int)), (10, .int .i64 (a.2 : Int))]) (fun _ => S)
    (fun a => a.1 ≤ a.2 ∧ a.2 ≤ l.length ∧ (∀ k (h : k < l.length), k < a.1 → ltB l[k].n s = true) ∧ (∀ k (h : k < l.length), a.2 ≤ k → ltB l[k].n s = false)) ?_ (0, l.length) ⟨Nat.zero_le _, Nat.le_refl _, by simp, fun k h h2 => absurd h (by dsimp only at h2; omega)⟩
  rintro ⟨i, j⟩ ⟨hij, hj, hlo, hhi⟩ next
  dsimp only at hij hj hlo hhi next
  repeat' (first|refine Go.a rfl ?_|refine Go.rg ?_|refine GoR.nil ?_|refine Go.ret ?_|refine Go.b rfl ?_|(refine GoR.o (by rfl) (by rfl) ?_;(conv => arg 1;simp only [G,Z,Y,Gx,un_neg,cutD,decide_true,decide_false,simprocAttr,fb3,fb9,fb24,fb47,fb71,fb196,hob, len_msl (P := Tryz.prog) (at_ := #[24]) (t := 24) rfl Tryz.underlying24, ix_msl (P := Tryz.prog) (t := 24) (e := 71) (n := 5) Tryz.underlying24 dsz71]);show GoR ..)|refine GoR.s (by rfl) rfl rfl ?_|(refine GoR.splitG rfl (fun hc => ?_) (fun hc => ?_) <;> simp only [hc])|refine Go.condB rfl (fun hc => ?_) (fun hc => ?_))
  · have h1 : i < j := by simpa using hc
    have hh : (i + j) / 2 < l.length := by omega
    repeat' (first|refine Go.a rfl ?_|refine Go.rg ?_|refine GoR.nil ?_|refine Go.ret ?_|refine Go.b rfl ?_|(refine GoR.o (by rfl) (by rfl) ?_;(conv => arg 1;simp only [G,Z,Y,Gx,un_neg,cutD,decide_true,decide_false,simprocAttr,fb3,fb9,fb24,fb47,fb71,fb196,hob, len_msl (P := Tryz.prog) (at_ := #[24]) (t := 24) rfl Tryz.underlying24, ix_msl (P := Tryz.prog) (t := 24) (e := 71) (n := 5) Tryz.underlying24 dsz71, add_cast (show i + j < 4611686018427387904 by omega), u64_cast (show i + j < 4611686018427387904 by omega), shr1, i64_cast (show (i + j) / 2 < 4611686018427387904 by omega), attsAt hh, wrap_succ (show (i + j) / 2 < 4611686018427387904 by omega)]);show GoR ..)|(refine GoR.c c122 (by rfl) (by rfl) rfl ?_;(refine (find1 _ _ _).ret ?_))|refine GoR.s (by rfl) rfl rfl ?_|(refine GoR.splitG rfl (fun hc => ?_) (fun hc => ?_) <;> simp only [hc])|refine Go.condB rfl (fun hc => ?_) (fun hc => ?_))
    · refine Go.lpN ?_
      refine Go.keep [(0, .msl o 5 l.length), (1, .str s), (2, .fn (.func 122) [] []), (8, .int .i64 (l.length : Int)), (9, .int .i64 (((i + j) / 2 + 1 : Nat) : Int)), (10, .int .i64 (j : Int))] (.cons .refl (.cons .refl (.cons .refl (.cons .refl (.cons .refl (.cons .refl (.nil))))))) ?_
      have hlt := cmpB_neg.1 (of_decide_eq_true hc)
      refine next ((i + j) / 2 + 1, j) (by dsimp only; omega) ⟨by dsimp only; omega, hj, fun k hk hk2 => ?_, hhi⟩
      dsimp only at hk2
      rcases Nat.lt_or_ge k ((i + j) / 2) with h | h
      · exact ltB_trans (hr.lt hh h) hlt
      · obtain rfl : k = (i + j) / 2 := by omega
        exact hlt
    · refine Go.lpN ?_
      refine Go.keep [(0, .msl o 5 l.length), (1, .str s), (2, .fn (.func 122) [] []), (8, .int .i64 (l.length : Int)), (9, .int .i64 (i : Int)), (10, .int .i64 (((i + j) / 2 : Nat) : Int))] (.cons .refl (.cons .refl (.cons .refl (.cons .refl (.cons .refl (.cons .refl (.nil))))))) ?_
      have hge : ltB l[(i + j) / 2].n s = false := by
        cases hq : ltB l[(i + j) / 2].n s with
        | false => rfl
        | true => exact absurd (cmpB_neg.2 hq) (of_decide_eq_false hc)
      refine next (i, (i + j) / 2) (by dsimp only; omega) ⟨by dsimp only; omega, by dsimp only; omega, hlo, fun k hk hk2 => ?_⟩
      dsimp only at hk2
      rcases Nat.lt_or_ge ((i + j) / 2) k with h | h
      · cases hq : ltB l[k].n s with
        | false => rfl
        | true => rw [ltB_trans (hr.lt hk h) hq] at hge; cases hge
      · obtain rfl : k = (i + j) / 2 := by omega
        exact hge
  · clear next
    rename_i h0
    have hi : i = j := by have : j ≤ i := by simpa using h0
                          omega
    subst hi
    have hn : i < l.length := by simpa using hc
    repeat' (first|refine Go.a rfl ?_|refine Go.rg ?_|refine GoR.nil ?_|refine Go.ret ?_|refine Go.b rfl ?_|(refine GoR.o (by rfl) (by rfl) ?_;(conv => arg 1;simp only [G,Z,Y,Gx,un_neg,cutD,decide_true,decide_false,simprocAttr,fb3,fb9,fb24,fb47,fb71,fb196,hob, len_msl (P := Tryz.prog) (at_ := #[24]) (t := 24) rfl Tryz.underlying24, ix_msl (P := Tryz.prog) (t := 24) (e := 71) (n := 5) Tryz.underlying24 dsz71, attsAt hn]);show GoR ..)|(refine GoR.c c122 (by rfl) (by rfl) rfl ?_;(refine (find1 _ _ _).ret ?_))|refine GoR.s (by rfl) rfl rfl ?_|(refine GoR.splitG rfl (fun hc => ?_) (fun hc => ?_) <;> simp only [hc])|refine Go.condB rfl (fun hc => ?_) (fun hc => ?_))
    refine ⟨(by first | exact .inl rfl | exact .inr rfl), fin ?_⟩
    rw [resD_two (fn := Tryz.f121) rfl]
    simp only [optThen_some,resultD_tmp,resultD_cell,G,Z,Y,Gx,un_neg,cutD,decide_true,decide_false,simprocAttr,fb3,fb9,fb24,fb47,fb71,fb196]
    exact ⟨_, [], by simp, .of_low (.tup' (.cons (.int _ _) (.cons (.bool _) .nil))), i, _, rfl, hj, hlo, hhi, by simp [cmpB_zero, hn]⟩
  · clear next
    rename_i h0
    have hi : i = j := by have : j ≤ i := by simpa using h0
                          omega
    subst hi
    have hn : ¬ i < l.length := by simpa using hc
    refine ⟨(by first | exact .inl rfl | exact .inr rfl), fin ?_⟩
    rw [resD_two (fn := Tryz.f121) rfl]
    simp only [optThen_some,resultD_tmp,resultD_cell,G,Z,Y,Gx,un_neg,cutD,decide_true,decide_false,simprocAttr,fb3,fb9,fb24,fb47,fb71,fb196]
    exact ⟨_, [], by simp, .of_low (.tup' (.cons (.int _ _) (.cons (.bool _) .nil))), i, _, rfl, hj, hlo, hhi, by simp [hn]⟩
theorem rowFindM (o : Nat) (l : List Att) (s : ByteArray) (hr : RiseB Att.n l) (hl : l.length < 1000000) (S : Mem) (hob : objAt S o = some (attsC l)) :
    CallD Tryz.prog orc 74 [.msl o 5 l.length, .str s] S
      fun d S' => S' = S ∧ ∃ i b, d = .tup [.int .i64 ((i : Nat) : Int), .bool b] ∧ i ≤ l.length ∧ (∀ k (h : k < l.length), k < i → ltB l[k].n s = true) ∧ (∀ k (h : k < l.length), i ≤ k → ltB l[k].n s = false) ∧ (b = true ↔ ∃ h : i < l.length, l[i].n = s) := by
  refine CallD.e Tryz.func74 rfl Tryz.ntmps74 (by rfl) ?_
  repeat' (first|refine Go.a rfl ?_|refine Go.rg ?_|refine GoR.nil ?_|refine Go.ret ?_|refine Go.b rfl ?_|(refine GoR.o (by rfl) (by rfl) ?_;(conv => arg 1;simp only [G,Z,Y,Gx,un_neg,cutD,decide_true,decide_false,simprocAttr]);show GoR ..)|(refine GoR.c c121 (by rfl) (by rfl) rfl ?_;(refine (searchM o l s hr hl _ hob).retE ?_; rintro _ ⟨i, b, rfl, h1, h2, h3, h4⟩))|refine Go.condB rfl (fun hc => ?_) (fun hc => ?_))
  refine ⟨(by first | exact .inl rfl | exact .inr rfl), fin ?_⟩
  rw [resD_two (fn := Tryz.f74) rfl]
  simp only [optThen_some,resultD_tmp,resultD_cell,G,Z,Y,Gx,un_neg,cutD,decide_true,decide_false,simprocAttr]
  exact ⟨_, [], by simp, .of_low (.tup' (.cons (.int _ _) (.cons (.bool _) .nil))), i, b, rfl, h1, h2, h3, h4⟩
end Go.Proofs.DwT
