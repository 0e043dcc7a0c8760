/- The document's own stamps: which may be, which is newer, in words. -/
import Derived.Test.YtpdnaoahghfaoaaGreatDoorDwS4
import Derived.Test.YtpdnaoahghfaoaaGreatDoorDwP1
set_option linter.unusedSimpArgs false
set_option linter.unusedVariables false
namespace Go.Proofs.DwT
open Go Go.DM Go.Proofs.DeT
set_option maxRecDepth 100000
variable {orc : DOracle}

theorem ofSt (s : St) (S : Mem) : CallD Tryz.prog orc 60 [.agg s.c] S fun d S' => S' = S ∧ d = .agg s.c := by
  obtain ⟨a, b, c, o⟩ := s
  simp only [St.c]
  refine CallD.e Tryz.func60 rfl Tryz.ntmps60 (by rfl) ?_
  repeat' (first|refine Go.a rfl ?_|refine Go.rg ?_|refine GoR.nil ?_|refine Go.ret ?_|refine Go.b rfl ?_|(refine GoR.o (by rfl) (by rfl) ?_;(conv => arg 1;simp only [G,Z,Y,Gx,un_neg,cutD,decide_true,decide_false,simprocAttr,fb2,fb9,fb23,fb30]);show GoR ..)|refine Go.condB rfl (fun hc => ?_) (fun hc => ?_))
  refine ⟨(by first | exact .inl rfl | exact .inr rfl), fin ?_⟩
  rw [resD_cell (fn := Tryz.f60) rfl]
  simp only [optThen_some,resultD_tmp,resultD_cell,G,Z,Y,Gx,un_neg,cutD,decide_true,decide_false,simprocAttr,fb2,fb9,fb23,fb30]
  exact ⟨_, _, rfl, .of_low (.agg' St.low), rfl⟩
theorem refIn (n : Int) (S : Mem) : CallD Tryz.prog orc 108 [.int .i64 n] S fun d S' => S' = S ∧ d = .bool (inOk n) := by
  refine CallD.e Tryz.func108 rfl Tryz.ntmps108 (by rfl) ?_
  repeat' (first|refine Go.a rfl ?_|refine Go.rg ?_|refine GoR.nil ?_|refine Go.ret ?_|refine Go.b rfl ?_|(refine GoR.o (by rfl) (by rfl) ?_;(conv => arg 1;simp only [G,Z,Y,Gx,un_neg,cutD,decide_true,decide_false,simprocAttr,fb2]);show GoR ..)|refine GoR.s (by rfl) rfl rfl ?_|(refine GoR.splitG rfl (fun hc => ?_) (fun hc => ?_) <;> simp only [hc])|refine Go.condB rfl (fun hc => ?_) (fun hc => ?_))
  all_goals
    refine ⟨(by first | exact .inl rfl | exact .inr rfl), fin ?_⟩
    rw [resD_tmp (fn := Tryz.f108) rfl]
    simp only [optThen_some,resultD_tmp,resultD_cell,G,Z,Y,Gx,un_neg,cutD,decide_true,decide_false,simprocAttr,fb2]
    refine ⟨_, [], by simp, .bool, ?_⟩
    first
      | (simp_all [inOk]; done)
      | (simp_all [inOk]; omega)
theorem refOrder (a b : Int) (S : Mem) : CallD Tryz.prog orc 80 [.int .i64 a, .int .i64 b] S fun d S' => S' = S ∧ d = .int .i64 (cmpI a b) := by
  refine CallD.e Tryz.func80 rfl Tryz.ntmps80 (by rfl) ?_
  repeat' (first|refine Go.a rfl ?_|refine Go.rg ?_|refine GoR.nil ?_|refine Go.ret ?_|refine Go.b rfl ?_|(refine GoR.o (by rfl) (by rfl) ?_;(conv => arg 1;simp only [G,Z,Y,Gx,un_neg,cutD,decide_true,decide_false,simprocAttr,fb2]);show GoR ..)|refine Go.condB rfl (fun hc => ?_) (fun hc => ?_))
  all_goals
    refine ⟨(by first | exact .inl rfl | exact .inr rfl), fin ?_⟩
    rw [resD_tmp (fn := Tryz.f80) rfl]
    simp only [optThen_some,resultD_tmp,resultD_cell,G,Z,Y,Gx,un_neg,cutD,decide_true,decide_false,simprocAttr,fb2]
    refine ⟨_, [], by simp, .int, ?_⟩
    unfold cmpI
    first
      | (simp_all; done)
      | (simp at *
         rw [if_neg (by omega), if_neg (by omega)])
theorem refOrderText (a b : ByteArray) (S : Mem) : CallD Tryz.prog orc 81 [.str a, .str b] S fun d S' => S' = S ∧ d = .int .i64 (cmpB a b) := by
  refine CallD.e Tryz.func81 rfl Tryz.ntmps81 (by rfl) ?_
  repeat' (first|refine Go.a rfl ?_|refine Go.rg ?_|refine GoR.nil ?_|refine Go.ret ?_|refine Go.b rfl ?_|(refine GoR.o (by rfl) (by rfl) ?_;(conv => arg 1;simp only [G,Z,Y,Gx,un_neg,cutD,decide_true,decide_false,simprocAttr,fb9]);show GoR ..)|refine Go.condB rfl (fun hc => ?_) (fun hc => ?_))
  all_goals
    refine ⟨(by first | exact .inl rfl | exact .inr rfl), fin ?_⟩
    rw [resD_tmp (fn := Tryz.f81) rfl]
    simp only [optThen_some,resultD_tmp,resultD_cell,G,Z,Y,Gx,un_neg,cutD,decide_true,decide_false,simprocAttr,fb9]
    refine ⟨_, [], by simp, .int, ?_⟩
    unfold cmpB ltB
    simp_all
theorem refName (s : ByteArray) (hs : s.size < 4611686018427387904) (S : Mem) : CallD Tryz.prog orc 34 [.str s] S fun d S' => S' = S ∧ d = .bool (nameOk s) := by
  refine CallD.e Tryz.func34 rfl Tryz.ntmps34 (by rfl) ?_
  by_cases h0 : s.size = 0
  · repeat' (first|refine Go.a rfl ?_|refine Go.rg ?_|refine GoR.nil ?_|refine Go.ret ?_|refine Go.b rfl ?_|(refine GoR.o (by rfl) (by rfl) ?_;(conv => arg 1;simp only [G,Z,Y,Gx,un_neg,cutD,decide_true,decide_false,simprocAttr,fb3,fb5,fb9,h0, show (decide (((0 : Nat) : Int) < 1)) = true by decide]);show GoR ..)|refine GoR.s (by rfl) rfl rfl ?_|(refine GoR.splitG rfl (fun hc => ?_) (fun hc => ?_) <;> simp only [hc])|refine Go.condB rfl (fun hc => ?_) (fun hc => ?_))
    refine ⟨(by first | exact .inl rfl | exact .inr rfl), fin ?_⟩
    rw [resD_tmp (fn := Tryz.f34) rfl]
    simp only [optThen_some,resultD_tmp,resultD_cell,G,Z,Y,Gx,un_neg,cutD,decide_true,decide_false,simprocAttr,fb3,fb5,fb9]
    exact ⟨_, [], by simp, .bool, by simp [nameOk, h0]⟩
  · have h1 : 0 < s.size := by omega
    repeat' (first|refine Go.a rfl ?_|refine Go.rg ?_|refine GoR.nil ?_|refine Go.ret ?_|refine Go.b rfl ?_|(refine GoR.o (by rfl) (by rfl) ?_;(conv => arg 1;simp only [G,Z,Y,Gx,un_neg,cutD,decide_true,decide_false,simprocAttr,fb3,fb5,fb9,indexStr_zero h1, show (decide ((s.size : Int) < 1)) = false by simp; omega]);show GoR ..)|refine GoR.s (by rfl) rfl rfl ?_|(refine GoR.splitG rfl (fun hc => ?_) (fun hc => ?_) <;> simp only [hc])|refine Go.condB rfl (fun hc => ?_) (fun hc => ?_))
    rotate_right
    · refine Go.keep [(0, .str s), (3, .int .i64 ((0 : Nat) : Int))] (.cons .refl (.cons .refl (.nil))) ?_
      refine Go.while (α := Nat) (fun i => s.size - i) (fun i => [(0, .str s), (3, .int .i64 (i : Int))]) (fun _ => S) (fun i => i ≤ s.size ∧ ∀ j (h : j < s.size), j < i → (lowB (s.data[j]'h) || digB (s.data[j]'h)) = true) ?_ 0 ⟨Nat.zero_le _, by simp⟩
      rintro i ⟨hi, hk⟩ next
      repeat' (first|refine Go.a rfl ?_|refine Go.rg ?_|refine GoR.nil ?_|refine Go.ret ?_|refine Go.b rfl ?_|(refine GoR.o (by rfl) (by rfl) ?_;(conv => arg 1;simp only [G,Z,Y,Gx,un_neg,cutD,decide_true,decide_false,simprocAttr,fb3,fb5,fb9]);show GoR ..)|refine GoR.s (by rfl) rfl rfl ?_|(refine GoR.splitG rfl (fun hc => ?_) (fun hc => ?_) <;> simp only [hc])|refine Go.condB rfl (fun hc => ?_) (fun hc => ?_))
      · have h2 : i < s.size := by simpa using hc
        repeat' (first|refine Go.a rfl ?_|refine Go.rg ?_|refine GoR.nil ?_|refine Go.ret ?_|refine Go.b rfl ?_|(refine GoR.o (by rfl) (by rfl) ?_;(conv => arg 1;simp only [G,Z,Y,Gx,un_neg,cutD,decide_true,decide_false,simprocAttr,fb3,fb5,fb9,indexStr_cast h2, wrap_succ (show i < 4611686018427387904 by omega)]);show GoR ..)|refine GoR.s (by rfl) rfl rfl ?_|(refine GoR.splitG rfl (fun hc => ?_) (fun hc => ?_) <;> simp only [hc])|refine Go.condB rfl (fun hc => ?_) (fun hc => ?_))
        all_goals first
          | (refine Go.lpN ?_
             refine Go.keep [(0, .str s), (3, .int .i64 ((i + 1 : Nat) : Int))] (.cons .refl (.cons .refl (.nil))) ?_
             refine next (i + 1) (by omega) ⟨h2, fun j hj hlt => ?_⟩
             clear next
             rcases Nat.lt_or_ge j i with h | h
             · exact hk j hj h
             · obtain rfl : j = i := by omega
               clear hk
               simp [lowB, digB] at *
               omega)
          | (clear next
             refine ⟨(by first | exact .inl rfl | exact .inr rfl), fin ?_⟩
             rw [resD_tmp (fn := Tryz.f34) rfl]
             simp only [optThen_some,resultD_tmp,resultD_cell,G,Z,Y,Gx,un_neg,cutD,decide_true,decide_false,simprocAttr,fb3,fb5,fb9]
             refine ⟨_, [], by simp, .bool, ?_⟩
             have hp : (fun b => lowB b || digB b) (s.data[i]'h2) = false := by
               clear hk
               simp [lowB, digB] at *
               omega
             simp only [nameOk, bytes_false (p := fun b => lowB b || digB b) h2 hp, Bool.and_false])
      · clear next
        refine ⟨(by first | exact .inl rfl | exact .inr rfl), fin ?_⟩
        rw [resD_tmp (fn := Tryz.f34) rfl]
        simp only [optThen_some,resultD_tmp,resultD_cell,G,Z,Y,Gx,un_neg,cutD,decide_true,decide_false,simprocAttr,fb3,fb5,fb9]
        refine ⟨_, [], by simp, .bool, ?_⟩
        rw [nameOk, bytes_true fun j hj => hk j hj (by simp at hc; omega)]
        have h00 : s.data[0]? = some (s.data[0]'h1) := Array.getElem?_eq_getElem h1
        rw [h00]
        clear hk
        simp [lowB] at *
        omega
    all_goals
      refine ⟨(by first | exact .inl rfl | exact .inr rfl), fin ?_⟩
      rw [resD_tmp (fn := Tryz.f34) rfl]
      simp only [optThen_some,resultD_tmp,resultD_cell,G,Z,Y,Gx,un_neg,cutD,decide_true,decide_false,simprocAttr,fb3,fb5,fb9]
      refine ⟨_, [], by simp, .bool, ?_⟩
      have h00 : s.data[0]? = some (s.data[0]'h1) := Array.getElem?_eq_getElem h1
      rw [nameOk, h00]
      simp [lowB] at *
      omega
/-- What the cutting of a text is. -/
def cutD (s : ByteArray) : D :=
  if s.data[0]? = some 47 then (if s.size = 1 then .tup [.nils, .bool true] else .tup [.sl none 1 (AwT.cutP (s.data.toList.drop 1)).length ((AwT.cutP (s.data.toList.drop 1)).map .str), .bool true]) else .tup [.nils, .bool false]
theorem one_slash {s : ByteArray} (h : s.data[0]? = some 47) (h1 : s.size = 1) : s = ⟨#[47]⟩ := by
  obtain ⟨⟨l⟩⟩ := s
  have hl : l.length = 1 := h1
  match l, hl with
  | [x], _ =>
    have : x = 47 := by simpa using h
    rw [this]
theorem refCut (s : ByteArray) (hs : s.size < 1000000) (S : Mem) : CallD Tryz.prog O 200 [.str s] S fun d S' => S' = S ∧ d = cutD s := by
  by_cases h0 : s.size = 0
  · have e : s = ⟨#[]⟩ := by
      obtain ⟨d⟩ := s
      simp only [ByteArray.size, Array.size_eq_zero_iff] at h0
      rw [h0]
    subst e
    refine CallD.e Tryz.func200 rfl Tryz.ntmps200 (by rfl) ?_
    repeat' (first|refine Go.a rfl ?_|refine Go.rg ?_|refine GoR.nil ?_|refine Go.ret ?_|refine Go.b rfl ?_|refine Go.rgS dmx (by decide) ?_|(refine GoR.o (by rfl) (by rfl) ?_;(conv => arg 1;simp only [G,Z,Y,Gx,un_neg,cutD,decide_true,decide_false,simprocAttr,fb3,fb5,fb9,fb100]);show GoR ..)|refine GoR.s (by rfl) rfl rfl ?_|(refine GoR.splitG rfl (fun hc => ?_) (fun hc => ?_) <;> simp only [hc])|refine Go.condB rfl (fun hc => ?_) (fun hc => ?_))
    refine ⟨(by first | exact .inl rfl | exact .inr rfl), fin ?_⟩
    rw [resD_two (fn := Tryz.f200) rfl]
    simp only [optThen_some,resultD_tmp,resultD_cell,G,Z,Y,Gx,un_neg,cutD,decide_true,decide_false,simprocAttr,fb3,fb5,fb9,fb100]
    exact ⟨_, [], by simp, .of_low (.tup' (.cons .nils (.cons (.bool _) .nil))), rfl⟩
  have hp : 0 < s.size := by omega
  have hg : s.data[0]? = some (s.data[0]'hp) := Array.getElem?_eq_getElem hp
  have hne : decide (s = (⟨#[]⟩ : ByteArray)) = false := by
    rw [decide_eq_false_iff_not]
    rintro rfl
    exact h0 rfl
  by_cases h47 : s.data[0]'hp = 47
  · have h47' : s.data[0]? = some 47 := by rw [hg, h47]
    by_cases h1 : s.size = 1
    · have e := one_slash h47' h1
      subst e
      refine CallD.e Tryz.func200 rfl Tryz.ntmps200 (by rfl) ?_
      repeat' (first|refine Go.a rfl ?_|refine Go.rg ?_|refine GoR.nil ?_|refine Go.ret ?_|refine Go.b rfl ?_|refine Go.rgS dmx (by decide) ?_|(refine GoR.o (by rfl) (by rfl) ?_;(conv => arg 1;simp only [G,Z,Y,Gx,un_neg,cutD,decide_true,decide_false,simprocAttr,fb3,fb5,fb9,fb100,hne, indexStr_zero hp, h47, show (((47 : UInt8).toNat : Int) != 47) = false from rfl, show decide ((⟨#[47]⟩ : ByteArray) = ⟨#[47]⟩) = true from rfl]);show GoR ..)|refine GoR.s (by rfl) rfl rfl ?_|(refine GoR.splitG rfl (fun hc => ?_) (fun hc => ?_) <;> simp only [hc])|refine Go.condB rfl (fun hc => ?_) (fun hc => ?_))
      refine ⟨(by first | exact .inl rfl | exact .inr rfl), fin ?_⟩
      rw [resD_two (fn := Tryz.f200) rfl]
      simp only [optThen_some,resultD_tmp,resultD_cell,G,Z,Y,Gx,un_neg,cutD,decide_true,decide_false,simprocAttr,fb3,fb5,fb9,fb100]
      exact ⟨_, [], by simp, .of_low (.tup' (.cons .nils (.cons (.bool _) .nil))), rfl⟩
    · rw [cutD, if_pos h47', if_neg h1]
      exact cutO s hs h47' (by omega) S
  · have b47 : (((s.data[0]'hp).toNat : Int) != 47) = true := by
      rw [bne_iff_ne]
      intro h
      refine h47 (UInt8.toNat_inj.1 ?_)
      show _ = 47
      omega
    refine CallD.e Tryz.func200 rfl Tryz.ntmps200 (by rfl) ?_
    repeat' (first|refine Go.a rfl ?_|refine Go.rg ?_|refine GoR.nil ?_|refine Go.ret ?_|refine Go.b rfl ?_|refine Go.rgS dmx (by decide) ?_|(refine GoR.o (by rfl) (by rfl) ?_;(conv => arg 1;simp only [G,Z,Y,Gx,un_neg,cutD,decide_true,decide_false,simprocAttr,fb3,fb5,fb9,fb100,hne, indexStr_zero hp, b47]);show GoR ..)|refine GoR.s (by rfl) rfl rfl ?_|(refine GoR.splitG rfl (fun hc => ?_) (fun hc => ?_) <;> simp only [hc])|refine Go.condB rfl (fun hc => ?_) (fun hc => ?_))
    refine ⟨(by first | exact .inl rfl | exact .inr rfl), fin ?_⟩
    rw [resD_two (fn := Tryz.f200) rfl]
    simp only [optThen_some,resultD_tmp,resultD_cell,G,Z,Y,Gx,un_neg,cutD,decide_true,decide_false,simprocAttr,fb3,fb5,fb9,fb100]
    refine ⟨_, [], by simp, .of_low (.tup' (.cons .nils (.cons (.bool _) .nil))), ?_⟩
    have hn : ¬ s.data[0]? = some 47 := by
      rw [hg]
      intro h
      exact h47 (Option.some.inj h)
    exact ((congrArg _ rfl).trans (if_neg hn).symm)
end Go.Proofs.DwT
