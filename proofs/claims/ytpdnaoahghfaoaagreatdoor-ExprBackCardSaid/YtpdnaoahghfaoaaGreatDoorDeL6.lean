/- Words as a text, by both; a number, by the document. -/
import Derived.Test.YtpdnaoahghfaoaaGreatDoorDeL5
set_option linter.unusedSimpArgs false
set_option linter.unusedVariables false
namespace Go.Proofs.DeT
open Go Go.DM
set_option maxRecDepth 100000
variable {orc : DOracle}

theorem add_str {P : Program} {t : TypeId} {x y : Operand} {a b : ByteArray} (h : a.size + b.size < 4611686018427387904) : binD P .add t x y (.str a) (.str b) = some (.str (a ++ b)) :=
  bin_str (v := .string (a ++ b)) (by simp only [AM.strBin]; rw [if_neg]; show ¬ ((a.size + b.size : Nat) : Int) > 9223372036854775807; omega)
theorem wrap8 {b : Nat} (h1 : 48 ≤ b) (h2 : b ≤ 57) : IntKind.u8.wrap ((b : Int) - 48) = ((b - 48 : Nat) : Int) := by
  rw [IntKind.wrap_u8]
  omega
theorem u64N {n : Nat} (h : n < 18446744073709551616) : IntKind.u64.wrap (n : Int) = (n : Int) := wrapu64 (by omega) (by omega)
theorem numF_take {l : List UInt8} {i : Nat} (h : i < l.length) : numF 0 (l.take (i + 1)) = numF 0 (l.take i) * 10 + (l[i].toNat - 48) := by
  rw [List.take_succ_eq_append_getElem h]
  unfold numF
  rw [List.foldl_append]
  rfl
theorem refNumber (t : ByteArray) (hd : ∀ b ∈ t.data.toList, dgtB b = true) (h0 : 0 < t.size) (hz : 1 < t.size → t.data[0]? ≠ some 48) (hs : t.size < 1000000) (S : Mem) :
    CallD Tryz.prog orc 90 [.str t] S fun d S' => S' = S ∧ d = .tup [.int .i64 (if numV t.data.toList < 9223372036854775808 then (numV t.data.toList : Int) else 0), .bool (decide (numV t.data.toList < 9223372036854775808))] := by
  have hsz : t.data.toList.length = t.size := by simp
  have hdig : ∀ i (h : i < t.size), 48 ≤ (t.data[i]'h).toNat ∧ (t.data[i]'h).toNat ≤ 57 := fun i h => by
    have := hd (t.data[i]'h) (by simp)
    simpa only [dgtB, Bool.and_eq_true, decide_eq_true_eq] using this
  have hd0 := hdig 0 h0
  have hix := fun {k : IntKind} {S : Mem} => indexStr_zero (s := t) (k := k) (S := S) h0
  have hzz : t.data[0]? = some (t.data[0]'h0) := Array.getElem?_eq_getElem h0
  have d0 : decide (0 < (t.size : Int)) = true := by rw [decide_eq_true_iff]; omega
  have d1 : (((t.data[0]'h0).toNat : Int) == 45) = false := by rw [beq_eq_false_iff_ne]; omega
  have d2 : ((t.size : Int) == 0) = false := by rw [beq_eq_false_iff_ne]; omega
  refine CallD.e Tryz.func90 rfl Tryz.ntmps90 (by rfl) ?_
  by_cases h19 : 19 < t.size
  · have d3 : decide (19 < (t.size : Int)) = true := by rw [decide_eq_true_iff]; omega
    have hv : 9223372036854775808 ≤ numV t.data.toList := by
      have e : t.data.toList = t.data[0]'h0 :: t.data.toList.drop 1 := by have := drop_at (s := t) (i := 0) h0; simpa using this
      rw [e] at hd ⊢
      refine numV_long hd (fun e => hz (by omega) (by rw [hzz, e])) ?_
      rw [List.length_drop]
      omega
    rw [if_neg (by omega), decide_eq_false (by omega)]
    repeat' (first|refine Go.a rfl ?_|refine Go.rg ?_|refine GoR.nil ?_|refine Go.ret ?_|refine Go.b rfl ?_|(refine GoR.o (by rfl) (by rfl) ?_;(conv => arg 1;simp only [G,Z,Y,Gx,un_neg,cutD,decide_true,decide_false,simprocAttr,fb2,fb3,fb5,fb9,fb191,d0, d1, d2, d3, hix]);show GoR ..)|refine GoR.s (by rfl) rfl rfl ?_|(refine GoR.splitG rfl (fun hc => ?_) (fun hc => ?_) <;> simp only [hc])|refine Go.condB rfl (fun hc => ?_) (fun hc => ?_))
    refine ⟨(by first | exact .inl rfl | exact .inr rfl), fin ?_⟩
    rw [resD_two (fn := Tryz.f90) rfl]
    simp only [optThen_some,resultD_tmp,resultD_cell,G,Z,Y,Gx,un_neg,cutD,decide_true,decide_false,simprocAttr,fb2,fb3,fb5,fb9,fb191]
    exact ⟨_, [], by simp, .of_low (.tup' (.cons (.int _ _) (.cons (.bool _) .nil))), rfl⟩
  have d3 : decide (19 < (t.size : Int)) = false := by rw [decide_eq_false_iff_not]; omega
  have d4 : (((t.data[0]'h0).toNat : Int) == 48) = true → decide (1 < (t.size : Int)) = false := by
    intro h
    rw [beq_iff_eq] at h
    rw [decide_eq_false_iff_not]
    intro h1
    exact hz (by omega) (by rw [hzz, Option.some.injEq]; exact UInt8.toNat_inj.1 (show _ = (48 : UInt8).toNat by simp; omega))
  cases h48 : (((t.data[0]'h0).toNat : Int) == 48)
  all_goals
    first | have d5 := d4 h48 | have d5 := d3
    repeat' (first|refine Go.a rfl ?_|refine Go.rg ?_|refine GoR.nil ?_|refine Go.ret ?_|refine Go.b rfl ?_|(refine GoR.o (by rfl) (by rfl) ?_;(conv => arg 1;simp only [G,Z,Y,Gx,un_neg,cutD,decide_true,decide_false,simprocAttr,fb2,fb3,fb5,fb9,fb191,d0, d1, d2, d3, h48, d5, hix]);show GoR ..)|refine GoR.s (by rfl) rfl rfl ?_|(refine GoR.splitG rfl (fun hc => ?_) (fun hc => ?_) <;> simp only [hc])|refine Go.condB rfl (fun hc => ?_) (fun hc => ?_))
    refine Go.keep [(4, .bool false), (5, .str t), (6, .int .u64 ((0 : Nat) : Int)), (7, .int .i64 ((0 : Nat) : Int))] (.cons .refl (.cons .refl (.cons .refl (.cons .refl (.nil))))) ?_
    refine Go.while (α := Nat) (fun i => t.size - i) (fun i => [(4, .bool false), (5, .str t), (6, .int .u64 ((numF 0 (t.data.toList.take i) : Nat) : Int)), (7, .int .i64 (i : Int))]) (fun _ => S) (fun i => i ≤ t.size) ?_ 0 (Nat.zero_le _)
    intro i hi next
    have hlt := numF_lt (t.data.toList.take i) 0 fun b hb => hd b (List.mem_of_mem_take hb)
    have hp : (10 : Nat) ^ (t.data.toList.take i).length ≤ 10 ^ 19 := Nat.pow_le_pow_right (by decide) (by rw [List.length_take]; omega)
    have hp2 : (10 : Nat) ^ 19 = 10000000000000000000 := by decide
    by_cases h1 : i < t.size
    · have e1 : decide ((i : Int) < (t.size : Int)) = true := by rw [decide_eq_true_iff]; omega
      have hb := hdig i h1
      have hstep := numF_take (l := t.data.toList) (i := i) (by omega)
      have hgi : t.data.toList[i]'(by omega) = t.data[i]'h1 := by simp
      rw [hgi] at hstep
      have hp3 : (10 : Nat) ^ (t.data.toList.take i).length ≤ 10 ^ 18 := Nat.pow_le_pow_right (by decide) (by rw [List.length_take]; omega)
      have hp4 : (10 : Nat) ^ 18 = 1000000000000000000 := by decide
      have e2 : decide (((t.data[i]'h1).toNat : Int) < 48) = false := by rw [decide_eq_false_iff_not]; omega
      have e3 : decide (57 < ((t.data[i]'h1).toNat : Int)) = false := by rw [decide_eq_false_iff_not]; omega
      generalize numF 0 (t.data.toList.take i) = u at *
      have e4 : IntKind.u64.wrap (10 * (u : Int)) = ((10 * u : Nat) : Int) := by rw [wrapu64 (by omega) (by omega)]; omega
      have e5 := wrap8 hb.1 hb.2
      have e6 : IntKind.u64.wrap (((t.data[i]'h1).toNat - 48 : Nat) : Int) = (((t.data[i]'h1).toNat - 48 : Nat) : Int) := u64N (by omega)
      have e7 : IntKind.u64.wrap (((10 * u : Nat) : Int) + (((t.data[i]'h1).toNat - 48 : Nat) : Int)) = ((u * 10 + ((t.data[i]'h1).toNat - 48) : Nat) : Int) := by rw [wrapu64 (by omega) (by omega)]; omega
      repeat' (first|refine Go.a rfl ?_|refine Go.rg ?_|refine GoR.nil ?_|refine Go.ret ?_|refine Go.b rfl ?_|(refine GoR.o (by rfl) (by rfl) ?_;(conv => arg 1;simp only [G,Z,Y,Gx,un_neg,cutD,decide_true,decide_false,simprocAttr,fb2,fb3,fb5,fb9,fb191,e1, e2, e3, e4, e5, e6, e7, indexStr_cast h1, wrap_succ (show i < 4611686018427387904 by omega)]);show GoR ..)|refine GoR.s (by rfl) rfl rfl ?_|(refine GoR.splitG rfl (fun hc => ?_) (fun hc => ?_) <;> simp only [hc])|refine Go.condB rfl (fun hc => ?_) (fun hc => ?_))
      refine Go.lpN ?_
      refine Go.keep [(4, .bool false), (5, .str t), (6, .int .u64 ((u * 10 + ((t.data[i]'h1).toNat - 48) : Nat) : Int)), (7, .int .i64 ((i + 1 : Nat) : Int))] (.cons .refl (.cons .refl (.cons .refl (.cons .refl (.nil))))) ?_
      rw [← hstep]
      exact next (i + 1) (by omega) h1
    · have e1 : decide ((i : Int) < (t.size : Int)) = false := by rw [decide_eq_false_iff_not]; omega
      clear next
      have hi' : i = t.size := by omega
      have htake : t.data.toList.take i = t.data.toList := List.take_of_length_le (by omega)
      rw [htake] at hlt ⊢
      have hv : numV t.data.toList = numF 0 t.data.toList := rfl
      rw [hv]
      generalize numF 0 t.data.toList = u at *
      by_cases hu : u < 9223372036854775808
      · have e2 : decide (9223372036854775808 ≤ (u : Int)) = false := by rw [decide_eq_false_iff_not]; omega
        have e3 : IntKind.i64.wrap (u : Int) = (u : Int) := wrap64 (by omega) (by omega)
        rw [if_pos hu, decide_eq_true hu]
        repeat' (first|refine Go.a rfl ?_|refine Go.rg ?_|refine GoR.nil ?_|refine Go.ret ?_|refine Go.b rfl ?_|(refine GoR.o (by rfl) (by rfl) ?_;(conv => arg 1;simp only [G,Z,Y,Gx,un_neg,cutD,decide_true,decide_false,simprocAttr,fb2,fb3,fb5,fb9,fb191,e1, e2, e3, ge_iff_le]);show GoR ..)|refine GoR.s (by rfl) rfl rfl ?_|(refine GoR.splitG rfl (fun hc => ?_) (fun hc => ?_) <;> simp only [hc])|refine Go.condB rfl (fun hc => ?_) (fun hc => ?_))
        refine ⟨(by first | exact .inl rfl | exact .inr rfl), fin ?_⟩
        rw [resD_two (fn := Tryz.f90) rfl]
        simp only [optThen_some,resultD_tmp,resultD_cell,G,Z,Y,Gx,un_neg,cutD,decide_true,decide_false,simprocAttr,fb2,fb3,fb5,fb9,fb191]
        exact ⟨_, [], by simp, .of_low (.tup' (.cons (.int _ _) (.cons (.bool _) .nil))), rfl⟩
      · have e2 : decide (9223372036854775808 ≤ (u : Int)) = true := by rw [decide_eq_true_iff]; omega
        rw [if_neg hu, decide_eq_false hu]
        repeat' (first|refine Go.a rfl ?_|refine Go.rg ?_|refine GoR.nil ?_|refine Go.ret ?_|refine Go.b rfl ?_|(refine GoR.o (by rfl) (by rfl) ?_;(conv => arg 1;simp only [G,Z,Y,Gx,un_neg,cutD,decide_true,decide_false,simprocAttr,fb2,fb3,fb5,fb9,fb191,e1, e2, ge_iff_le]);show GoR ..)|refine GoR.s (by rfl) rfl rfl ?_|(refine GoR.splitG rfl (fun hc => ?_) (fun hc => ?_) <;> simp only [hc])|refine Go.condB rfl (fun hc => ?_) (fun hc => ?_))
        refine ⟨(by first | exact .inl rfl | exact .inr rfl), fin ?_⟩
        rw [resD_two (fn := Tryz.f90) rfl]
        simp only [optThen_some,resultD_tmp,resultD_cell,G,Z,Y,Gx,un_neg,cutD,decide_true,decide_false,simprocAttr,fb2,fb3,fb5,fb9,fb191]
        exact ⟨_, [], by simp, .of_low (.tup' (.cons (.int _ _) (.cons (.bool _) .nil))), rfl⟩
end Go.Proofs.DeT
