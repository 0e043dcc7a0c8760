/- Whether a value may be: the program's word, the document's. -/
import Derived.Test.YtpdnaoahghfaoaaGreatDoorDwS21
set_option linter.unusedSimpArgs false
set_option linter.unusedVariables false
namespace Go.Proofs.DwT
open Go Go.DM Go.Proofs.DeT
set_option maxRecDepth 100000
variable {orc : DOracle}

def printB (b : UInt8) : Bool := decide (32 ≤ b.toNat) && (decide (b.toNat ≤ 126) && !decide (b.toNat = 34))
def txtE (s : ByteArray) : Int := if 64 < s.size then 4 else if s.data.toList.all printB then 0 else 2
def RiseI (l : List Int) : Prop := ∀ j, ∀ h : j < l.length - 1, l[j]'(by omega) < l[j + 1]'(by omega)
instance {l : List Int} : Decidable (RiseI l) := by unfold RiseI; infer_instance
def lstE (l : List Int) : Int := if 16 < l.length then 4 else if RiseI l then 0 else 2
def chkV (v : Val) : Int := if v.k = 1 then 0 else if v.k = 2 then txtE v.s else if v.k = 3 then lstE v.l else 7
theorem txt_long {s : ByteArray} (h : 64 < s.size) : txtE s = 4 := if_pos h
theorem txt_ok {s : ByteArray} (h : ¬ 64 < s.size) (hk : ∀ j (h : j < s.size), printB (s.data[j]'h) = true) : txtE s = 0 := by
  rw [txtE, if_neg h, if_pos (bytes_true hk)]
theorem txt_bad {s : ByteArray} (h : ¬ 64 < s.size) {j : Nat} (hj : j < s.size) (hk : printB (s.data[j]'hj) = false) : txtE s = 2 := by
  rw [txtE, if_neg h, if_neg (by rw [bytes_false hj hk]; decide)]
theorem lst_ok {l : List Int} (h : ¬ 16 < l.length) (hk : ∀ j, (h0 : 1 ≤ j) → (h : j < l.length) → l[j - 1]'(by omega) < l[j]) : lstE l = 0 := by
  rw [lstE, if_neg h, if_pos]
  intro j hj
  have := hk (j + 1) (by omega) (by omega)
  simpa using this
theorem lst_bad {l : List Int} (h : ¬ 16 < l.length) {j : Nat} (h0 : 1 ≤ j) (hj : j < l.length) (hk : ¬ l[j - 1]'(by omega) < l[j]) : lstE l = 2 := by
  rw [lstE, if_neg h, if_neg]
  intro hr
  have := hr (j - 1) (by omega)
  obtain ⟨k, rfl⟩ : ∃ k, j = k + 1 := ⟨j - 1, by omega⟩
  exact hk (by simpa using this)

theorem printable (b : UInt8) (S : Mem) : CallD Tryz.prog orc 150 [.int .u8 (b.toNat : Int)] S fun d S' => S' = S ∧ d = .bool (printB b) := by
  refine CallD.e Tryz.func150 rfl Tryz.ntmps150 (by rfl) ?_
  repeat' (first|refine Go.a rfl ?_|refine Go.rg ?_|refine GoR.nil ?_|refine Go.ret ?_|refine Go.b rfl ?_|(refine GoR.o (by rfl) (by rfl) ?_;(conv => arg 1;simp only [G,Z,Y,Gx,un_neg,cutD,decide_true,decide_false,simprocAttr,fb5]);show GoR ..)|refine GoR.s (by rfl) rfl rfl ?_|(refine GoR.splitG rfl (fun hc => ?_) (fun hc => ?_) <;> simp only [hc])|refine Go.condB rfl (fun hc => ?_) (fun hc => ?_))
  all_goals
    refine ⟨(by first | exact .inl rfl | exact .inr rfl), fin ?_⟩
    rw [resD_tmp (fn := Tryz.f150) rfl]
    simp only [optThen_some,resultD_tmp,resultD_cell,G,Z,Y,Gx,un_neg,cutD,decide_true,decide_false,simprocAttr,fb5]
    refine ⟨_, [], by simp, .bool, ?_⟩
    congr 1
    unfold printB
    rw [Bool.eq_iff_iff]
    simp at *
    omega
theorem valText (s : ByteArray) (hs : s.size < 4611686018427387904) (S : Mem) : CallD Tryz.prog orc 119 [.str s] S fun d S' => S' = S ∧ d = .int .i64 (txtE s) := by
  refine CallD.e Tryz.func119 rfl Tryz.ntmps119 (by rfl) ?_
  by_cases h64 : 64 < s.size
  · repeat' (first|refine Go.a rfl ?_|refine Go.rg ?_|refine GoR.nil ?_|refine Go.ret ?_|refine Go.b rfl ?_|(refine GoR.o (by rfl) (by rfl) ?_;(conv => arg 1;simp only [G,Z,Y,Gx,un_neg,cutD,decide_true,decide_false,simprocAttr,fb3,fb9,show (decide (64 < (s.size : Int))) = true by simp; omega]);show GoR ..)|refine Go.condB rfl (fun hc => ?_) (fun hc => ?_))
    refine ⟨(by first | exact .inl rfl | exact .inr rfl), fin ?_⟩
    rw [resD_tmp (fn := Tryz.f119) rfl]
    simp only [optThen_some,resultD_tmp,resultD_cell,G,Z,Y,Gx,un_neg,cutD,decide_true,decide_false,simprocAttr,fb3,fb9]
    exact ⟨_, [], by simp, .int, by rw [txt_long h64]⟩
  · repeat' (first|refine Go.a rfl ?_|refine Go.rg ?_|refine GoR.nil ?_|refine Go.ret ?_|refine Go.b rfl ?_|(refine GoR.o (by rfl) (by rfl) ?_;(conv => arg 1;simp only [G,Z,Y,Gx,un_neg,cutD,decide_true,decide_false,simprocAttr,fb3,fb9,show (decide (64 < (s.size : Int))) = false by simp; omega]);show GoR ..)|refine Go.condB rfl (fun hc => ?_) (fun hc => ?_))
    refine Go.keep [(0, .str s), (8, .int .i64 (s.size : Int)), (9, .int .i64 ((0 : Nat) : Int))] (.cons .refl (.cons .refl (.cons .refl (.nil)))) ?_
    refine Go.while (α := Nat) (fun i => s.size - i) (fun i => [(0, .str s), (8, .int .i64 (s.size : Int)), (9, .int .i64 (i : Int))]) (fun _ => S) (fun i => i ≤ s.size ∧ ∀ j (h : j < s.size), j < i → printB (s.data[j]'h) = true) ?_ 0 ⟨Nat.zero_le _, by simp⟩
    rintro i ⟨hi, hk⟩ next
    by_cases h1 : i < s.size
    · cases hp : printB (s.data[i]'h1) with
      | true =>
        repeat' (first|refine Go.a rfl ?_|refine Go.rg ?_|refine GoR.nil ?_|refine Go.ret ?_|refine Go.b rfl ?_|(refine GoR.o (by rfl) (by rfl) ?_;(conv => arg 1;simp only [G,Z,Y,Gx,un_neg,cutD,decide_true,decide_false,simprocAttr,fb3,fb9,show (decide ((i : Int) < (s.size : Int))) = true by simp; omega, indexStr_cast h1, wrap_succ (show i < 4611686018427387904 by omega), hp]);show GoR ..)|(refine GoR.c c150 (by rfl) (by rfl) rfl ?_;(refine (printable _ _).ret ?_))|refine Go.condB rfl (fun hc => ?_) (fun hc => ?_))
        refine Go.lpN ?_
        refine Go.keep [(0, .str s), (8, .int .i64 (s.size : Int)), (9, .int .i64 ((i + 1 : Nat) : Int))] (.cons .refl (.cons .refl (.cons .refl (.nil)))) ?_
        refine next (i + 1) (by omega) ⟨h1, fun j hj hlt => ?_⟩
        rcases Nat.lt_or_ge j i with h | h
        · exact hk j hj h
        · obtain rfl : j = i := by omega
          exact hp
      | false =>
        clear next
        repeat' (first|refine Go.a rfl ?_|refine Go.rg ?_|refine GoR.nil ?_|refine Go.ret ?_|refine Go.b rfl ?_|(refine GoR.o (by rfl) (by rfl) ?_;(conv => arg 1;simp only [G,Z,Y,Gx,un_neg,cutD,decide_true,decide_false,simprocAttr,fb3,fb9,show (decide ((i : Int) < (s.size : Int))) = true by simp; omega, indexStr_cast h1, hp]);show GoR ..)|(refine GoR.c c150 (by rfl) (by rfl) rfl ?_;(refine (printable _ _).ret ?_))|refine Go.condB rfl (fun hc => ?_) (fun hc => ?_))
        refine ⟨(by first | exact .inl rfl | exact .inr rfl), fin ?_⟩
        rw [resD_tmp (fn := Tryz.f119) rfl]
        simp only [optThen_some,resultD_tmp,resultD_cell,G,Z,Y,Gx,un_neg,cutD,decide_true,decide_false,simprocAttr,fb3,fb9]
        exact ⟨_, [], by simp, .int, by rw [txt_bad h64 h1 hp]⟩
    · clear next
      repeat' (first|refine Go.a rfl ?_|refine Go.rg ?_|refine GoR.nil ?_|refine Go.ret ?_|refine Go.b rfl ?_|(refine GoR.o (by rfl) (by rfl) ?_;(conv => arg 1;simp only [G,Z,Y,Gx,un_neg,cutD,decide_true,decide_false,simprocAttr,fb3,fb9,show (decide ((i : Int) < (s.size : Int))) = false by simp; omega]);show GoR ..)|refine Go.condB rfl (fun hc => ?_) (fun hc => ?_))
      refine ⟨(by first | exact .inl rfl | exact .inr rfl), fin ?_⟩
      rw [resD_tmp (fn := Tryz.f119) rfl]
      simp only [optThen_some,resultD_tmp,resultD_cell,G,Z,Y,Gx,un_neg,cutD,decide_true,decide_false,simprocAttr,fb3,fb9]
      exact ⟨_, [], by simp, .int, by rw [txt_ok h64 fun j hj => hk j hj (by omega)]⟩
theorem pred_cast {i : Nat} (h : 0 < i) (h2 : i < 4611686018427387904) : IntKind.i64.wrap ((i : Int) - 1) = ((i - 1 : Nat) : Int) := by rw [wrap64 (by omega) (by omega)]; omega
theorem valList (l : List Int) (S : Mem) : CallD Tryz.prog orc 120 [.sl none 1 l.length (intsD l)] S fun d S' => S' = S ∧ d = .int .i64 (lstE l) := by
  refine CallD.e Tryz.func120 rfl Tryz.ntmps120 (by rfl) ?_
  by_cases h16 : 16 < l.length
  · repeat' (first|refine Go.a rfl ?_|refine Go.rg ?_|refine GoR.nil ?_|refine Go.ret ?_|refine Go.b rfl ?_|refine Go.rgS dmx (by decide) ?_|(refine GoR.o (by rfl) (by rfl) ?_;(conv => arg 1;simp only [G,Z,Y,Gx,un_neg,cutD,decide_true,decide_false,simprocAttr,fb2,fb3,fb45,show (decide (16 < (l.length : Int))) = true by simp; omega]);show GoR ..)|refine Go.condB rfl (fun hc => ?_) (fun hc => ?_))
    refine ⟨(by first | exact .inl rfl | exact .inr rfl), fin ?_⟩
    rw [resD_tmp (fn := Tryz.f120) rfl]
    simp only [optThen_some,resultD_tmp,resultD_cell,G,Z,Y,Gx,un_neg,cutD,decide_true,decide_false,simprocAttr,fb2,fb3,fb45]
    exact ⟨_, [], by simp, .int, by rw [lstE, if_pos h16]⟩
  · repeat' (first|refine Go.a rfl ?_|refine Go.rg ?_|refine GoR.nil ?_|refine Go.ret ?_|refine Go.b rfl ?_|refine Go.rgS dmx (by decide) ?_|(refine GoR.o (by rfl) (by rfl) ?_;(conv => arg 1;simp only [G,Z,Y,Gx,un_neg,cutD,decide_true,decide_false,simprocAttr,fb2,fb3,fb45,show (decide (16 < (l.length : Int))) = false by simp; omega]);show GoR ..)|refine Go.condB rfl (fun hc => ?_) (fun hc => ?_))
    refine Go.keep [(0, .sl none 1 l.length (intsD l)), (3, .int .i64 ((1 : Nat) : Int))] (.cons .refl (.cons .refl (.nil))) ?_
    refine Go.while (α := Nat) (fun i => l.length - i) (fun i => [(0, .sl none 1 l.length (intsD l)), (3, .int .i64 (i : Int))]) (fun _ => S) (fun i => 1 ≤ i ∧ ∀ j, (h0 : 1 ≤ j) → (h : j < l.length) → j < i → l[j - 1]'(by omega) < l[j]) ?_ 1 ⟨Nat.le_refl _, fun j h0 _ h1 => absurd h1 (by omega)⟩
    rintro i ⟨hi, hk⟩ next
    by_cases h1 : i < l.length
    · by_cases hr : l[i - 1]'(by omega) < l[i]
      · repeat' (first|refine Go.a rfl ?_|refine Go.rg ?_|refine GoR.nil ?_|refine Go.ret ?_|refine Go.b rfl ?_|refine Go.rgS dmx (by decide) ?_|(refine GoR.o (by rfl) (by rfl) ?_;(conv => arg 1;simp only [G,Z,Y,Gx,un_neg,cutD,decide_true,decide_false,simprocAttr,fb2,fb3,fb45,show (decide ((i : Int) < (l.length : Int))) = true by simp; omega, intsAt h1, intsAt (show i - 1 < l.length by omega), pred_cast (show 0 < i by omega) (by omega), wrap_succ (show i < 4611686018427387904 by omega), show (decide (l[i] ≤ l[i - 1]'(by omega))) = false by simp; omega]);show GoR ..)|refine Go.condB rfl (fun hc => ?_) (fun hc => ?_))
        refine Go.lpN ?_
        refine Go.keep [(0, .sl none 1 l.length (intsD l)), (3, .int .i64 ((i + 1 : Nat) : Int))] (.cons .refl (.cons .refl (.nil))) ?_
        refine next (i + 1) (by omega) ⟨by omega, fun j h0 hj hlt => ?_⟩
        rcases Nat.lt_or_ge j i with h | h
        · exact hk j h0 hj h
        · obtain rfl : j = i := by omega
          exact hr
      · clear next
        repeat' (first|refine Go.a rfl ?_|refine Go.rg ?_|refine GoR.nil ?_|refine Go.ret ?_|refine Go.b rfl ?_|refine Go.rgS dmx (by decide) ?_|(refine GoR.o (by rfl) (by rfl) ?_;(conv => arg 1;simp only [G,Z,Y,Gx,un_neg,cutD,decide_true,decide_false,simprocAttr,fb2,fb3,fb45,show (decide ((i : Int) < (l.length : Int))) = true by simp; omega, intsAt h1, intsAt (show i - 1 < l.length by omega), pred_cast (show 0 < i by omega) (by omega), show (decide (l[i] ≤ l[i - 1]'(by omega))) = true by simp; omega]);show GoR ..)|refine Go.condB rfl (fun hc => ?_) (fun hc => ?_))
        refine ⟨(by first | exact .inl rfl | exact .inr rfl), fin ?_⟩
        rw [resD_tmp (fn := Tryz.f120) rfl]
        simp only [optThen_some,resultD_tmp,resultD_cell,G,Z,Y,Gx,un_neg,cutD,decide_true,decide_false,simprocAttr,fb2,fb3,fb45]
        exact ⟨_, [], by simp, .int, by rw [lst_bad h16 hi h1 hr]⟩
    · clear next
      repeat' (first|refine Go.a rfl ?_|refine Go.rg ?_|refine GoR.nil ?_|refine Go.ret ?_|refine Go.b rfl ?_|refine Go.rgS dmx (by decide) ?_|(refine GoR.o (by rfl) (by rfl) ?_;(conv => arg 1;simp only [G,Z,Y,Gx,un_neg,cutD,decide_true,decide_false,simprocAttr,fb2,fb3,fb45,show (decide ((i : Int) < (l.length : Int))) = false by simp; omega]);show GoR ..)|refine Go.condB rfl (fun hc => ?_) (fun hc => ?_))
      refine ⟨(by first | exact .inl rfl | exact .inr rfl), fin ?_⟩
      rw [resD_tmp (fn := Tryz.f120) rfl]
      simp only [optThen_some,resultD_tmp,resultD_cell,G,Z,Y,Gx,un_neg,cutD,decide_true,decide_false,simprocAttr,fb2,fb3,fb45]
      exact ⟨_, [], by simp, .int, by rw [lst_ok h16 fun j h0 hj => hk j h0 hj (by omega)]⟩
theorem valCheck (v : Val) (hs : v.s.size < 1000000) (S : Mem) : CallD Tryz.prog orc 72 [.agg v.c] S fun d S' => S' = S ∧ d = .int .i64 (chkV v) := by
  obtain ⟨k, i, s, l⟩ := v
  simp only [Val.c]
  refine CallD.e Tryz.func72 rfl Tryz.ntmps72 (by rfl) ?_
  repeat' (first|refine Go.a rfl ?_|refine Go.rg ?_|refine GoR.nil ?_|refine Go.ret ?_|refine Go.b rfl ?_|(refine GoR.o (by rfl) (by rfl) ?_;(conv => arg 1;simp only [G,Z,Y,Gx,un_neg,cutD,decide_true,decide_false,simprocAttr,fb2,fb3,fb9,fb45,fb47]);show GoR ..)|(refine GoR.c c119 (by rfl) (by rfl) rfl ?_;(refine (valText _ (by simp only at hs; omega) _).ret ?_))|(refine GoR.c c120 (by rfl) (by rfl) rfl ?_;(refine (valList _ _).ret ?_))|refine Go.condB rfl (fun hc => ?_) (fun hc => ?_))
  all_goals
    refine ⟨(by first | exact .inl rfl | exact .inr rfl), fin ?_⟩
    rw [resD_tmp (fn := Tryz.f72) rfl]
    simp only [optThen_some,resultD_tmp,resultD_cell,G,Z,Y,Gx,un_neg,cutD,decide_true,decide_false,simprocAttr,fb2,fb3,fb9,fb45,fb47]
    refine ⟨_, _, rfl, .int, ?_⟩
    simp_all [chkV]
theorem refCheckValue (v : Val) (hs : v.s.size < 1000000) (S : Mem) : CallD Tryz.prog orc 59 [.agg v.c] S fun d S' => S' = S ∧ d = .int .i64 (chkV v) := by
  obtain ⟨k, i, s, l⟩ := v
  simp only at hs
  simp only [Val.c]
  by_cases k1 : k = 1
  · refine CallD.e Tryz.func59 rfl Tryz.ntmps59 (by rfl) ?_
    repeat' (first|refine Go.a rfl ?_|refine Go.rg ?_|refine GoR.nil ?_|refine Go.ret ?_|refine Go.b rfl ?_|refine Go.rgS dmx (by decide) ?_|(refine GoR.o (by rfl) (by rfl) ?_;(conv => arg 1;simp only [G,Z,Y,Gx,un_neg,cutD,decide_true,decide_false,simprocAttr,fb2,fb3,fb5,fb9,fb45,fb55,k1, show ((1 : Int) == 1) = true from rfl]);show GoR ..)|refine GoR.s (by rfl) rfl rfl ?_|(refine GoR.splitG rfl (fun hc => ?_) (fun hc => ?_) <;> simp only [hc])|refine Go.condB rfl (fun hc => ?_) (fun hc => ?_))
    refine ⟨(by first | exact .inl rfl | exact .inr rfl), fin ?_⟩
    rw [resD_tmp (fn := Tryz.f59) rfl]
    simp only [optThen_some,resultD_tmp,resultD_cell,G,Z,Y,Gx,un_neg,cutD,decide_true,decide_false,simprocAttr,fb2,fb3,fb5,fb9,fb45,fb55]
    exact ⟨_, _, rfl, .int, by rw [chkV, if_pos k1]⟩
  have b1 : (k == 1) = false := by simpa using k1
  by_cases k2 : k = 2
  · subst k2
    have hchk : chkV ⟨2, i, s, l⟩ = txtE s := by simp [chkV]
    rw [hchk]
    refine CallD.e Tryz.func59 rfl Tryz.ntmps59 (by rfl) ?_
    by_cases h64 : 64 < s.size
    · repeat' (first|refine Go.a rfl ?_|refine Go.rg ?_|refine GoR.nil ?_|refine Go.ret ?_|refine Go.b rfl ?_|refine Go.rgS dmx (by decide) ?_|(refine GoR.o (by rfl) (by rfl) ?_;(conv => arg 1;simp only [G,Z,Y,Gx,un_neg,cutD,decide_true,decide_false,simprocAttr,fb2,fb3,fb5,fb9,fb45,fb55,b1, show ((2 : Int) == 2) = true from rfl, show (decide (64 < (s.size : Int))) = true by simp; omega]);show GoR ..)|refine GoR.s (by rfl) rfl rfl ?_|(refine GoR.splitG rfl (fun hc => ?_) (fun hc => ?_) <;> simp only [hc])|refine Go.condB rfl (fun hc => ?_) (fun hc => ?_))
      refine ⟨(by first | exact .inl rfl | exact .inr rfl), fin ?_⟩
      rw [resD_tmp (fn := Tryz.f59) rfl]
      simp only [optThen_some,resultD_tmp,resultD_cell,G,Z,Y,Gx,un_neg,cutD,decide_true,decide_false,simprocAttr,fb2,fb3,fb5,fb9,fb45,fb55]
      exact ⟨_, _, rfl, .int, by rw [txt_long h64]⟩
    · repeat' (first|refine Go.a rfl ?_|refine Go.rg ?_|refine GoR.nil ?_|refine Go.ret ?_|refine Go.b rfl ?_|refine Go.rgS dmx (by decide) ?_|(refine GoR.o (by rfl) (by rfl) ?_;(conv => arg 1;simp only [G,Z,Y,Gx,un_neg,cutD,decide_true,decide_false,simprocAttr,fb2,fb3,fb5,fb9,fb45,fb55,b1, show ((2 : Int) == 2) = true from rfl, show (decide (64 < (s.size : Int))) = false by simp; omega]);show GoR ..)|refine GoR.s (by rfl) rfl rfl ?_|(refine GoR.splitG rfl (fun hc => ?_) (fun hc => ?_) <;> simp only [hc])|refine Go.condB rfl (fun hc => ?_) (fun hc => ?_))
      refine Go.keep [(1, .ptr S.length 0), (3, .int .i64 ((0 : Nat) : Int))] (.cons .refl (.cons .refl (.nil))) ?_
      refine Go.while (α := Nat) (fun i => s.size - i) (fun j => [(1, .ptr S.length 0), (3, .int .i64 (j : Int))]) (fun _ => S ++ [.obj [.int .i64 2, .int .i64 i, .str s, .sl none 1 l.length (intsD l)]]) (fun i => i ≤ s.size ∧ ∀ j (h : j < s.size), j < i → printB (s.data[j]'h) = true) ?_ 0 ⟨Nat.zero_le _, by simp⟩
      rintro j ⟨hj, hk⟩ next
      by_cases h1 : j < s.size
      · repeat' (first|refine Go.a rfl ?_|refine Go.rg ?_|refine GoR.nil ?_|refine Go.ret ?_|refine Go.b rfl ?_|refine Go.rgS dmx (by decide) ?_|(refine GoR.o (by rfl) (by rfl) ?_;(conv => arg 1;simp only [G,Z,Y,Gx,un_neg,cutD,decide_true,decide_false,simprocAttr,fb2,fb3,fb5,fb9,fb45,fb55,show (decide ((j : Int) < (s.size : Int))) = true by simp; omega, indexStr_cast h1, wrap_succ (show j < 4611686018427387904 by omega)]);show GoR ..)|refine GoR.s (by rfl) rfl rfl ?_|(refine GoR.splitG rfl (fun hc => ?_) (fun hc => ?_) <;> simp only [hc])|refine Go.condB rfl (fun hc => ?_) (fun hc => ?_))
        all_goals first
          | (refine Go.lpN ?_
             refine Go.keep [(1, .ptr S.length 0), (3, .int .i64 ((j + 1 : Nat) : Int))] (.cons .refl (.cons .refl (.nil))) ?_
             refine next (j + 1) (by omega) ⟨h1, fun q hq hlt => ?_⟩
             clear next
             rcases Nat.lt_or_ge q j with h | h
             · exact hk q hq h
             · obtain rfl : q = j := by omega
               clear hk
               simp [printB] at *
               omega)
          | (clear next
             refine ⟨(by first | exact .inl rfl | exact .inr rfl), fin ?_⟩
             rw [resD_tmp (fn := Tryz.f59) rfl]
             simp only [optThen_some,resultD_tmp,resultD_cell,G,Z,Y,Gx,un_neg,cutD,decide_true,decide_false,simprocAttr,fb2,fb3,fb5,fb9,fb45,fb55]
             refine ⟨_, _, rfl, .int, ?_⟩
             rw [txt_bad h64 h1]
             clear hk
             simp [printB] at *
             omega)
      · clear next
        repeat' (first|refine Go.a rfl ?_|refine Go.rg ?_|refine GoR.nil ?_|refine Go.ret ?_|refine Go.b rfl ?_|refine Go.rgS dmx (by decide) ?_|(refine GoR.o (by rfl) (by rfl) ?_;(conv => arg 1;simp only [G,Z,Y,Gx,un_neg,cutD,decide_true,decide_false,simprocAttr,fb2,fb3,fb5,fb9,fb45,fb55,show (decide ((j : Int) < (s.size : Int))) = false by simp; omega]);show GoR ..)|refine GoR.s (by rfl) rfl rfl ?_|(refine GoR.splitG rfl (fun hc => ?_) (fun hc => ?_) <;> simp only [hc])|refine Go.condB rfl (fun hc => ?_) (fun hc => ?_))
        refine ⟨(by first | exact .inl rfl | exact .inr rfl), fin ?_⟩
        rw [resD_tmp (fn := Tryz.f59) rfl]
        simp only [optThen_some,resultD_tmp,resultD_cell,G,Z,Y,Gx,un_neg,cutD,decide_true,decide_false,simprocAttr,fb2,fb3,fb5,fb9,fb45,fb55]
        exact ⟨_, _, rfl, .int, by rw [txt_ok h64 fun q hq => hk q hq (by omega)]⟩
  have b2 : (k == 2) = false := by simpa using k2
  by_cases k3 : k = 3
  · subst k3
    have hchk : chkV ⟨3, i, s, l⟩ = lstE l := by simp [chkV]
    rw [hchk]
    refine CallD.e Tryz.func59 rfl Tryz.ntmps59 (by rfl) ?_
    by_cases h16 : 16 < l.length
    · repeat' (first|refine Go.a rfl ?_|refine Go.rg ?_|refine GoR.nil ?_|refine Go.ret ?_|refine Go.b rfl ?_|refine Go.rgS dmx (by decide) ?_|(refine GoR.o (by rfl) (by rfl) ?_;(conv => arg 1;simp only [G,Z,Y,Gx,un_neg,cutD,decide_true,decide_false,simprocAttr,fb2,fb3,fb5,fb9,fb45,fb55,b1, b2, show ((3 : Int) == 3) = true from rfl, show (decide (16 < (l.length : Int))) = true by simp; omega]);show GoR ..)|refine GoR.s (by rfl) rfl rfl ?_|(refine GoR.splitG rfl (fun hc => ?_) (fun hc => ?_) <;> simp only [hc])|refine Go.condB rfl (fun hc => ?_) (fun hc => ?_))
      refine ⟨(by first | exact .inl rfl | exact .inr rfl), fin ?_⟩
      rw [resD_tmp (fn := Tryz.f59) rfl]
      simp only [optThen_some,resultD_tmp,resultD_cell,G,Z,Y,Gx,un_neg,cutD,decide_true,decide_false,simprocAttr,fb2,fb3,fb5,fb9,fb45,fb55]
      exact ⟨_, _, rfl, .int, by rw [lstE, if_pos h16]⟩
    · repeat' (first|refine Go.a rfl ?_|refine Go.rg ?_|refine GoR.nil ?_|refine Go.ret ?_|refine Go.b rfl ?_|refine Go.rgS dmx (by decide) ?_|(refine GoR.o (by rfl) (by rfl) ?_;(conv => arg 1;simp only [G,Z,Y,Gx,un_neg,cutD,decide_true,decide_false,simprocAttr,fb2,fb3,fb5,fb9,fb45,fb55,b1, b2, show ((3 : Int) == 3) = true from rfl, show (decide (16 < (l.length : Int))) = false by simp; omega]);show GoR ..)|refine GoR.s (by rfl) rfl rfl ?_|(refine GoR.splitG rfl (fun hc => ?_) (fun hc => ?_) <;> simp only [hc])|refine Go.condB rfl (fun hc => ?_) (fun hc => ?_))
      refine Go.keep [(1, .ptr S.length 0), (4, .int .i64 ((1 : Nat) : Int))] (.cons .refl (.cons .refl (.nil))) ?_
      refine Go.while (α := Nat) (fun i => l.length - i) (fun j => [(1, .ptr S.length 0), (4, .int .i64 (j : Int))]) (fun _ => S ++ [.obj [.int .i64 3, .int .i64 i, .str s, .sl none 1 l.length (intsD l)]]) (fun i => 1 ≤ i ∧ ∀ j, (h0 : 1 ≤ j) → (h : j < l.length) → j < i → l[j - 1]'(by omega) < l[j]) ?_ 1 ⟨Nat.le_refl _, fun j h0 _ h1 => absurd h1 (by omega)⟩
      rintro j ⟨hj, hk⟩ next
      by_cases h1 : j < l.length
      · by_cases hr : l[j - 1]'(by omega) < l[j]
        · repeat' (first|refine Go.a rfl ?_|refine Go.rg ?_|refine GoR.nil ?_|refine Go.ret ?_|refine Go.b rfl ?_|refine Go.rgS dmx (by decide) ?_|(refine GoR.o (by rfl) (by rfl) ?_;(conv => arg 1;simp only [G,Z,Y,Gx,un_neg,cutD,decide_true,decide_false,simprocAttr,fb2,fb3,fb5,fb9,fb45,fb55,show (decide ((j : Int) < (l.length : Int))) = true by simp; omega, intsAt h1, intsAt (show j - 1 < l.length by omega), pred_cast (show 0 < j by omega) (by omega), wrap_succ (show j < 4611686018427387904 by omega), show (decide (l[j] ≤ l[j - 1]'(by omega))) = false by simp; omega]);show GoR ..)|refine GoR.s (by rfl) rfl rfl ?_|(refine GoR.splitG rfl (fun hc => ?_) (fun hc => ?_) <;> simp only [hc])|refine Go.condB rfl (fun hc => ?_) (fun hc => ?_))
          refine Go.lpN ?_
          refine Go.keep [(1, .ptr S.length 0), (4, .int .i64 ((j + 1 : Nat) : Int))] (.cons .refl (.cons .refl (.nil))) ?_
          refine next (j + 1) (by omega) ⟨by omega, fun q h0 hq hlt => ?_⟩
          rcases Nat.lt_or_ge q j with h | h
          · exact hk q h0 hq h
          · obtain rfl : q = j := by omega
            exact hr
        · clear next
          repeat' (first|refine Go.a rfl ?_|refine Go.rg ?_|refine GoR.nil ?_|refine Go.ret ?_|refine Go.b rfl ?_|refine Go.rgS dmx (by decide) ?_|(refine GoR.o (by rfl) (by rfl) ?_;(conv => arg 1;simp only [G,Z,Y,Gx,un_neg,cutD,decide_true,decide_false,simprocAttr,fb2,fb3,fb5,fb9,fb45,fb55,show (decide ((j : Int) < (l.length : Int))) = true by simp; omega, intsAt h1, intsAt (show j - 1 < l.length by omega), pred_cast (show 0 < j by omega) (by omega), show (decide (l[j] ≤ l[j - 1]'(by omega))) = true by simp; omega]);show GoR ..)|refine GoR.s (by rfl) rfl rfl ?_|(refine GoR.splitG rfl (fun hc => ?_) (fun hc => ?_) <;> simp only [hc])|refine Go.condB rfl (fun hc => ?_) (fun hc => ?_))
          refine ⟨(by first | exact .inl rfl | exact .inr rfl), fin ?_⟩
          rw [resD_tmp (fn := Tryz.f59) rfl]
          simp only [optThen_some,resultD_tmp,resultD_cell,G,Z,Y,Gx,un_neg,cutD,decide_true,decide_false,simprocAttr,fb2,fb3,fb5,fb9,fb45,fb55]
          exact ⟨_, _, rfl, .int, by rw [lst_bad h16 hj h1 hr]⟩
      · clear next
        repeat' (first|refine Go.a rfl ?_|refine Go.rg ?_|refine GoR.nil ?_|refine Go.ret ?_|refine Go.b rfl ?_|refine Go.rgS dmx (by decide) ?_|(refine GoR.o (by rfl) (by rfl) ?_;(conv => arg 1;simp only [G,Z,Y,Gx,un_neg,cutD,decide_true,decide_false,simprocAttr,fb2,fb3,fb5,fb9,fb45,fb55,show (decide ((j : Int) < (l.length : Int))) = false by simp; omega]);show GoR ..)|refine GoR.s (by rfl) rfl rfl ?_|(refine GoR.splitG rfl (fun hc => ?_) (fun hc => ?_) <;> simp only [hc])|refine Go.condB rfl (fun hc => ?_) (fun hc => ?_))
        refine ⟨(by first | exact .inl rfl | exact .inr rfl), fin ?_⟩
        rw [resD_tmp (fn := Tryz.f59) rfl]
        simp only [optThen_some,resultD_tmp,resultD_cell,G,Z,Y,Gx,un_neg,cutD,decide_true,decide_false,simprocAttr,fb2,fb3,fb5,fb9,fb45,fb55]
        exact ⟨_, _, rfl, .int, by rw [lst_ok h16 fun q h0 hq => hk q h0 hq (by omega)]⟩
  have b3 : (k == 3) = false := by simpa using k3
  refine CallD.e Tryz.func59 rfl Tryz.ntmps59 (by rfl) ?_
  repeat' (first|refine Go.a rfl ?_|refine Go.rg ?_|refine GoR.nil ?_|refine Go.ret ?_|refine Go.b rfl ?_|refine Go.rgS dmx (by decide) ?_|(refine GoR.o (by rfl) (by rfl) ?_;(conv => arg 1;simp only [G,Z,Y,Gx,un_neg,cutD,decide_true,decide_false,simprocAttr,fb2,fb3,fb5,fb9,fb45,fb55,b1, b2, b3]);show GoR ..)|refine GoR.s (by rfl) rfl rfl ?_|(refine GoR.splitG rfl (fun hc => ?_) (fun hc => ?_) <;> simp only [hc])|refine Go.condB rfl (fun hc => ?_) (fun hc => ?_))
  refine ⟨(by first | exact .inl rfl | exact .inr rfl), fin ?_⟩
  rw [resD_tmp (fn := Tryz.f59) rfl]
  simp only [optThen_some,resultD_tmp,resultD_cell,G,Z,Y,Gx,un_neg,cutD,decide_true,decide_false,simprocAttr,fb2,fb3,fb5,fb9,fb45,fb55]
  exact ⟨_, _, rfl, .int, by simp [chkV, k1, k2, k3]⟩
end Go.Proofs.DwT
