/- A stamp in the document's words. -/
import Derived.Test.YtpdnaoahghfaoaaGreatDoorDwS11
set_option linter.unusedSimpArgs false
set_option linter.unusedVariables false
namespace Go.Proofs.DwT
open Go Go.DM Go.Proofs.DeT
set_option maxRecDepth 100000
variable {orc : DOracle}

theorem tmod10 {m : Nat} : ((m : Int)).tmod 10 = ((m % 10 : Nat) : Int) := (Int.ofNat_tmod m 10).symm
theorem tdiv10 {m : Nat} : ((m : Int)).tdiv 10 = ((m / 10 : Nat) : Int) := rfl
theorem add48 {m : Nat} : IntKind.i64.wrap (48 + ((m % 10 : Nat) : Int)) = ((48 + m % 10 : Nat) : Int) := by rw [wrap64 (by omega) (by omega)]; omega
theorem u8wrap {k : Nat} (h : k < 256) : IntKind.u8.wrap (k : Int) = (k : Int) := by
  simp only [IntKind.wrap, IntKind.bits, IntKind.signed]
  simp
  omega
theorem str_byte {k : Nat} (h : k < 256) : strOfNums [(k : Int)] = ⟨#[UInt8.ofNat k]⟩ := by
  simp [strOfNums]
theorem dig {m : Nat} : IntKind.u8.wrap (((48 + m % 10 : Nat)) : Int) = ((48 + m % 10 : Nat) : Int) := u8wrap (by omega)
theorem digB1 {m : Nat} : strOfNums [((48 + m % 10 : Nat) : Int)] = ⟨#[UInt8.ofNat (48 + m % 10)]⟩ := str_byte (by omega)
theorem decimalN (n : Nat) (hn : n < 9223372036854775808) (S : Mem) : CallD Tryz.prog orc 100 [.int .i64 (n : Int)] S fun d S' => S' = S ∧ d = .str (decB (n : Int)) := by
  have hd : decB (n : Int) = ⟨(Lib.decDigits n).toArray⟩ := by
    unfold decB Lib.itoa
    rw [if_neg (by omega), Int.toNat_natCast]
  rw [hd]
  refine CallD.e Tryz.func100 rfl Tryz.ntmps100 (by rfl) ?_
  have hl : (((n : Int)) == -9223372036854775808) = false := by rw [beq_eq_false_iff_ne]; omega
  have h0 : decide ((n : Int) < 0) = false := by rw [decide_eq_false_iff_not]; omega
  repeat' (first|refine Go.a rfl ?_|refine Go.rg ?_|refine GoR.nil ?_|refine Go.ret ?_|refine Go.b rfl ?_|(refine GoR.o (by rfl) (by rfl) ?_;(conv => arg 1;simp only [G,Z,Y,Gx,un_neg,cutD,decide_true,decide_false,simprocAttr,fb2,fb5,fb9,fb168,hl, h0, tmod10, add48, dig, digB1]);show GoR ..)|refine Go.condB rfl (fun hc => ?_) (fun hc => ?_))
  refine Go.keep [(0, .int .i64 (n : Int)), (3, .str ⟨#[UInt8.ofNat (48 + n % 10)]⟩)] (.cons .refl (.cons .refl (.nil))) ?_
  refine Go.while (α := Nat × List UInt8 × Mem) (fun x => x.1) (fun x => [(0, .int .i64 (x.1 : Int)), (3, .str ⟨(UInt8.ofNat (48 + x.1 % 10) :: x.2.1).toArray⟩)]) (fun x => S ++ (.own :: x.2.2))
    (fun x => x.1 < 9223372036854775808 ∧ x.2.1.length < 1000 ∧ Lib.nDigits x.1 + x.2.1.length ≤ 20 ∧ Lib.decDigits n = Lib.decDigits x.1 ++ x.2.1) ?_ (n, [], []) ⟨hn, by simp, ?_, by simp⟩
  rotate_left
  · have := nd_le 19 n (by omega)
    simpa using this
  rintro ⟨m, tl, E⟩ ⟨hm, htl, h20, hdd⟩ next
  dsimp only at hm htl h20 hdd next
  by_cases h10 : m < 10
  · clear next
    have d10 : decide (10 ≤ (m : Int)) = false := by rw [decide_eq_false_iff_not]; omega
    repeat' (first|refine Go.a rfl ?_|refine Go.rg ?_|refine GoR.nil ?_|refine Go.ret ?_|refine Go.b rfl ?_|(refine GoR.o (by rfl) (by rfl) ?_;(conv => arg 1;simp only [G,Z,Y,Gx,un_neg,cutD,decide_true,decide_false,simprocAttr,fb2,fb5,fb9,fb168,d10, ge_iff_le]);show GoR ..)|refine Go.condB rfl (fun hc => ?_) (fun hc => ?_))
    refine ⟨(by first | exact .inl rfl | exact .inr rfl), fin ?_⟩
    rw [resD_tmp (fn := Tryz.f100) rfl]
    simp only [optThen_some,resultD_tmp,resultD_cell,G,Z,Y,Gx,un_neg,cutD,decide_true,decide_false,simprocAttr,fb2,fb5,fb9,fb168]
    refine ⟨_, _, rfl, .str, ?_⟩
    rw [hdd, Lib.decDigits_one h10, Nat.mod_eq_of_lt h10]
    rfl
  · have d10 : decide (10 ≤ (m : Int)) = true := by rw [decide_eq_true_iff]; omega
    have wq : IntKind.i64.wrap ((m / 10 : Nat) : Int) = ((m / 10 : Nat) : Int) := wrap64 (by omega) (by omega)
    have hap : ∀ {t : TypeId} {x y : Operand}, binD Tryz.prog .add t x y (.str ⟨#[UInt8.ofNat (48 + m / 10 % 10)]⟩) (.str ⟨(UInt8.ofNat (48 + m % 10) :: tl).toArray⟩) = some (.str ⟨(UInt8.ofNat (48 + m / 10 % 10) :: UInt8.ofNat (48 + m % 10) :: tl).toArray⟩) := by
      intro t x y
      rw [add_str]
      · congr 2
      · show 1 + (UInt8.ofNat (48 + m % 10) :: tl).toArray.size < _
        rw [List.size_toArray, List.length_cons]
        omega
    repeat' (first|refine Go.a rfl ?_|refine Go.rg ?_|refine GoR.nil ?_|refine Go.ret ?_|refine Go.b rfl ?_|(refine GoR.o (by rfl) (by rfl) ?_;(conv => arg 1;simp only [G,Z,Y,Gx,un_neg,cutD,decide_true,decide_false,simprocAttr,fb2,fb5,fb9,fb168,d10, ge_iff_le, tdiv10, wq, tmod10, add48, dig, digB1, hap]);show GoR ..)|refine Go.condB rfl (fun hc => ?_) (fun hc => ?_))
    refine Go.lpN ?_
    refine Go.keep [(0, .int .i64 ((m / 10 : Nat) : Int)), (3, .str ⟨(UInt8.ofNat (48 + m / 10 % 10) :: UInt8.ofNat (48 + m % 10) :: tl).toArray⟩)] (.cons .refl (.cons .refl .nil)) ?_
    have hnb := Lib.nDigits_big h10
    have := next (m / 10, UInt8.ofNat (48 + m % 10) :: tl, E ++ [.own]) (by dsimp only; omega) ⟨by dsimp only; omega, ?_, ?_, ?_⟩
    · simpa using this
    · have := Lib.nDigits_pos (m / 10)
      simp only [List.length_cons]
      omega
    · simp only [List.length_cons]
      omega
    · rw [hdd]
      dsimp only
      rw [show Lib.decDigits m = Lib.decDigits (m / 10) ++ [UInt8.ofNat (48 + m % 10)] by rw [Lib.decDigits, dif_neg h10]]
      simp
theorem least_dec : decB (-9223372036854775808) = (⟨#[45, 57, 50, 50, 51, 51, 55, 50, 48, 51, 54, 56, 53, 52, 55, 55, 53, 56, 48, 56]⟩ : ByteArray) := by
  unfold decB Lib.itoa
  rw [if_pos (by decide)]
  show (⟨(45 :: Lib.decDigits 9223372036854775808).toArray⟩ : ByteArray) = _
  simp [Lib.decDigits]
theorem decimal (n : Int) (h : in64 n) (S : Mem) : CallD Tryz.prog orc 100 [.int .i64 n] S fun d S' => S' = S ∧ d = .str (decB n) := by
  obtain ⟨h1, h2⟩ := h
  by_cases h0 : 0 ≤ n
  · have := decimalN (orc := orc) n.toNat (by omega) S
    rwa [show ((n.toNat : Nat) : Int) = n by omega] at this
  by_cases hl : n = -9223372036854775808
  · subst hl
    refine CallD.e Tryz.func100 rfl Tryz.ntmps100 (by rfl) ?_
    repeat' (first|refine Go.a rfl ?_|refine Go.rg ?_|refine GoR.nil ?_|refine Go.ret ?_|refine Go.b rfl ?_|(refine GoR.o (by rfl) (by rfl) ?_;(conv => arg 1;simp only [G,Z,Y,Gx,un_neg,cutD,decide_true,decide_false,simprocAttr,fb2,fb5,fb9,fb168,show ((-9223372036854775808 : Int) == -9223372036854775808) = true from rfl]);show GoR ..)|refine Go.condB rfl (fun hc => ?_) (fun hc => ?_))
    refine ⟨(by first | exact .inl rfl | exact .inr rfl), fin ?_⟩
    rw [resD_tmp (fn := Tryz.f100) rfl]
    simp only [optThen_some,resultD_tmp,resultD_cell,G,Z,Y,Gx,un_neg,cutD,decide_true,decide_false,simprocAttr,fb2,fb5,fb9,fb168]
    exact ⟨_, [], by simp, .str, by rw [least_dec]⟩
  · have hN := fun S => decimalN (orc := orc) n.natAbs (by omega) S
    have e : IntKind.i64.wrap (0 - n) = ((n.natAbs : Nat) : Int) := by rw [wrap64 (by omega) (by omega)]; omega
    have b1 : (n == -9223372036854775808) = false := by rw [beq_eq_false_iff_ne]; exact hl
    have b2 : decide (n < 0) = true := by rw [decide_eq_true_iff]; omega
    have hd : decB n = ⟨#[45]⟩ ++ decB ((n.natAbs : Nat) : Int) := by
      refine AM.bytes_ext ?_
      unfold decB Lib.itoa
      rw [if_pos (by omega), if_neg (by omega), Int.toNat_natCast]
      simp
    have hsz := decB_size (n := ((n.natAbs : Nat) : Int)) ⟨by omega, by omega⟩
    have hap := fun {t : TypeId} {x y : Operand} => add_str (P := Tryz.prog) (t := t) (x := x) (y := y) (a := ⟨#[45]⟩) (b := decB ((n.natAbs : Nat) : Int)) (by show 1 + _ < _; omega)
    rw [hd]
    refine CallD.e Tryz.func100 rfl Tryz.ntmps100 (by rfl) ?_
    repeat' (first|refine Go.a rfl ?_|refine Go.rg ?_|refine GoR.nil ?_|refine Go.ret ?_|refine Go.b rfl ?_|(refine GoR.o (by rfl) (by rfl) ?_;(conv => arg 1;simp only [G,Z,Y,Gx,un_neg,cutD,decide_true,decide_false,simprocAttr,fb2,fb5,fb9,fb168,b1, b2, e, hap]);show GoR ..)|(refine GoR.c c100 (by rfl) (by rfl) rfl ?_;(refine (hN _).ret ?_))|refine Go.condB rfl (fun hc => ?_) (fun hc => ?_))
    refine ⟨(by first | exact .inl rfl | exact .inr rfl), fin ?_⟩
    rw [resD_tmp (fn := Tryz.f100) rfl]
    simp only [optThen_some,resultD_tmp,resultD_cell,G,Z,Y,Gx,un_neg,cutD,decide_true,decide_false,simprocAttr,fb2,fb5,fb9,fb168]
    exact ⟨_, [], by simp, .str, rfl⟩
theorem stampText (s : St) (hn : In64 s) (hs : s.org.size < 1000000) (S : Mem) : CallD Tryz.prog orc 66 [.agg s.c] S fun d S' => S' = S ∧ d = .str (textB s) := by
  obtain ⟨a, b, c, org⟩ := s
  obtain ⟨ha, hb, hc'⟩ := hn
  simp only at ha hb hc' hs
  have sa := decB_size ha
  have sb := decB_size hb
  have sc := decB_size hc'
  have ht : textB ⟨a, b, c, org⟩ = ((((decB a ++ ⟨#[46]⟩) ++ decB b) ++ ⟨#[46]⟩) ++ decB c) ++ ⟨#[64]⟩ ++ org := by
    unfold textB
    congr 2
    refine AM.bytes_ext ?_
    simp [joinB, Lib.join, List.intercalate]
  simp only [St.c]
  rw [ht]
  have hda := fun S => decimal (orc := orc) a ha S
  have hdb := fun S => decimal (orc := orc) b hb S
  have hdc := fun S => decimal (orc := orc) c hc' S
  generalize decB a = x at *
  generalize decB b = y at *
  generalize decB c = z at *
  have p1 : ∀ {t : TypeId} {u v : Operand}, binD Tryz.prog .add t u v (.str x) (.str ⟨#[46]⟩) = some (.str (x ++ ⟨#[46]⟩)) := add_str (by show _ + 1 < _; omega)
  have p2 : ∀ {t : TypeId} {u v : Operand}, binD Tryz.prog .add t u v (.str (x ++ ⟨#[46]⟩)) (.str y) = some (.str (x ++ ⟨#[46]⟩ ++ y)) := add_str (by rw [ByteArray.size_append]; show _ + 1 + _ < _; omega)
  have p3 : ∀ {t : TypeId} {u v : Operand}, binD Tryz.prog .add t u v (.str (x ++ ⟨#[46]⟩ ++ y)) (.str ⟨#[46]⟩) = some (.str (x ++ ⟨#[46]⟩ ++ y ++ ⟨#[46]⟩)) := add_str (by rw [ByteArray.size_append, ByteArray.size_append]; show _ + 1 + _ + 1 < _; omega)
  have p4 : ∀ {t : TypeId} {u v : Operand}, binD Tryz.prog .add t u v (.str (x ++ ⟨#[46]⟩ ++ y ++ ⟨#[46]⟩)) (.str z) = some (.str (x ++ ⟨#[46]⟩ ++ y ++ ⟨#[46]⟩ ++ z)) := add_str (by rw [ByteArray.size_append, ByteArray.size_append, ByteArray.size_append]; show _ + 1 + _ + 1 + _ < _; omega)
  have p5 : ∀ {t : TypeId} {u v : Operand}, binD Tryz.prog .add t u v (.str (x ++ ⟨#[46]⟩ ++ y ++ ⟨#[46]⟩ ++ z)) (.str ⟨#[64]⟩) = some (.str (x ++ ⟨#[46]⟩ ++ y ++ ⟨#[46]⟩ ++ z ++ ⟨#[64]⟩)) := add_str (by rw [ByteArray.size_append, ByteArray.size_append, ByteArray.size_append, ByteArray.size_append]; show _ + 1 + _ + 1 + _ + 1 < _; omega)
  have p6 : ∀ {t : TypeId} {u v : Operand}, binD Tryz.prog .add t u v (.str (x ++ ⟨#[46]⟩ ++ y ++ ⟨#[46]⟩ ++ z ++ ⟨#[64]⟩)) (.str org) = some (.str (x ++ ⟨#[46]⟩ ++ y ++ ⟨#[46]⟩ ++ z ++ ⟨#[64]⟩ ++ org)) := add_str (by rw [ByteArray.size_append, ByteArray.size_append, ByteArray.size_append, ByteArray.size_append, ByteArray.size_append]; show _ + 1 + _ + 1 + _ + 1 + _ < _; omega)
  refine CallD.e Tryz.func66 rfl Tryz.ntmps66 (by rfl) ?_
  repeat' (first|refine Go.a rfl ?_|refine Go.rg ?_|refine GoR.nil ?_|refine Go.ret ?_|refine Go.b rfl ?_|refine Go.rgS dmx (by decide) ?_|refine Go.rgD [5, 10, 15] (fun H => objAt H S.length = some [.int .i64 a, .int .i64 b, .int .i64 c, .str org]) dmx (by decide) 18 (by decide) (by (simp only [List.append_assoc, List.cons_append, List.nil_append, objAt_app, objAt_app0, objAt_succ, objAt_zero])) ?_|refine GoW.nil rfl ?_|((first|refine GoR.o (by rfl) (by rfl) ?_|refine GoW.o (by rfl) (by rfl) ?_|refine GoW.rd (by rfl) (by rfl) ?_);(conv => arg 1;simp only [G,Z,Y,Gx,un_neg,cutD,decide_true,decide_false,simprocAttr,fb2,fb9,fb30,p1, p2, p3, p4, p5, p6]);first|show GoR ..|(show _ ∧ GoW ..;refine ⟨by (first|exact fun h => absurd h (by decide)|(intro _;(simp only [List.append_assoc, List.cons_append, List.nil_append, objAt_app, objAt_app0, objAt_succ, objAt_zero]))),?_⟩)|(show _ ∧ _ ∧ _ ∧ GoW ..;refine ⟨rfl,by (simp only [List.append_assoc, List.cons_append, List.nil_append, objAt_app, objAt_app0, objAt_succ, objAt_zero]),(fun H hI=>by (try dsimp only at hI);simp only [G,Z,Y,Gx,un_neg,cutD,decide_true,decide_false,simprocAttr,fb2,fb9,fb30,p1, p2, p3, p4, p5, p6,hI]),?_⟩))|(refine GoW.c c100 (by rfl) (by rfl) rfl ?_;(first | (refine (hda _).ret ?_) | (refine (hdb _).ret ?_) | (refine (hdc _).ret ?_));refine ⟨by (first|exact fun h => absurd h (by decide)|(intro _;(simp only [List.append_assoc, List.cons_append, List.nil_append, objAt_app, objAt_app0, objAt_succ, objAt_zero]))),?_⟩)|(refine GoR.c c100 (by rfl) (by rfl) rfl ?_;(first | (refine (hda _).ret ?_) | (refine (hdb _).ret ?_) | (refine (hdc _).ret ?_)))|refine Go.condB rfl (fun hc => ?_) (fun hc => ?_))
  refine ⟨(by first | exact .inl rfl | exact .inr rfl), fin ?_⟩
  rw [resD_tmp (fn := Tryz.f66) rfl]
  simp only [optThen_some,resultD_tmp,resultD_cell,G,Z,Y,Gx,un_neg,cutD,decide_true,decide_false,simprocAttr,fb2,fb9,fb30]
  exact ⟨_, _, rfl, .str, rfl⟩
end Go.Proofs.DwT
