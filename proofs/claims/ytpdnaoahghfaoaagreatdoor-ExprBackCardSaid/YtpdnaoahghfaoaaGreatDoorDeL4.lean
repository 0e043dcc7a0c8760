/- All words of a text, by the program. -/
import Derived.Test.YtpdnaoahghfaoaaGreatDoorDeL3
set_option linter.unusedSimpArgs false
set_option linter.unusedVariables false
namespace Go.Proofs.DeT
open Go Go.DM
set_option maxRecDepth 100000

def sgnS (s : ByteArray) (i : Nat) (b : UInt8) : Except Int (Int × Nat × Nat) :=
  if (b = 33 ∨ b = 60 ∨ b = 62) ∧ s.data[i + 1]? = some 61 then .ok (3, 2, 0) else if b ∈ sgnL then .ok (3, 1, 0) else .error 2
theorem sub_one {s : ByteArray} {i : Nat} (h : i < s.size) : sub s i 1 = ⟨#[s.data[i]'h]⟩ := by rw [sub, drop_at h]; rfl
theorem sub_two {s : ByteArray} {i : Nat} (h : i + 1 < s.size) : sub s i 2 = ⟨#[s.data[i]'(Nat.lt_of_succ_lt h), s.data[i + 1]'h]⟩ := by rw [sub, drop_at (Nat.lt_of_succ_lt h), drop_at h]; rfl
theorem two_mem (b c : UInt8) : Lib.containsS twoL ⟨#[b, c]⟩ = decide ((b = 33 ∨ b = 60 ∨ b = 62) ∧ c = 61) := by
  rw [Bool.eq_iff_iff, Lib.containsS_iff, decide_eq_true_iff]
  simp only [twoL, List.mem_cons, List.not_mem_nil, or_false, ByteArray.mk.injEq, Array.mk.injEq, List.cons.injEq, and_true]
  constructor
  · rintro (⟨h1, h2⟩ | ⟨h1, h2⟩ | ⟨h1, h2⟩) <;> simp [h1, h2]
  · rintro ⟨h1 | h1 | h1, h2⟩ <;> simp [h1, h2]
set_option maxHeartbeats 1000000 in
theorem lexSign (s : ByteArray) (hs : s.size < 1000000) (i : Nat) (hi : i < s.size) (S : Mem) : CallD Tryz.prog O 157 [.str s, .int .i64 (i : Int)] S fun d S' => S' = S ∧ d = resT s i (sgnS s i (s.data[i]'hi)) := by
  have w1 := wrap_succ (show i < 4611686018427387904 by omega)
  have w2 : IntKind.i64.wrap ((i : Int) + 2) = ((i + 2 : Nat) : Int) := by rw [wrap64 (by omega) (by omega)]; omega
  have e1 : s.extract i (i + 1) = sub s i 1 := by rw [extract_eq (by omega)]; congr 1; omega
  have c1 : (i ≤ i + 1 ∧ i + 1 ≤ s.size) = True := by simp; omega
  have z1 : ((sub s i 1).size : Int) = 1 := by rw [sub_size (by omega)]; rfl
  have hc1 := contains1 (s.data[i]'hi)
  rw [← sub_one hi] at hc1
  have snd : ∀ (S' : Mem), resT s i (if s.data[i]'hi ∈ sgnL then .ok (3, 1, 0) else .error 2) = if decide (s.data[i]'hi ∈ sgnL) = true then .tup [.agg (Tok.c ⟨3, sub s i 1, 0, i⟩), .int .i64 0] else .tup [.agg zeroT, .int .i64 2] := fun _ => by
    by_cases h : s.data[i]'hi ∈ sgnL <;> simp [h, resT]
  refine CallD.e Tryz.func157 rfl Tryz.ntmps157 (by rfl) ?_
  by_cases h2 : i + 1 < s.size
  · have e2 : s.extract i (i + 2) = sub s i 2 := by rw [extract_eq (by omega)]; congr 1; omega
    have c2 : (i ≤ i + 2 ∧ i + 2 ≤ s.size) = True := by simp; omega
    have z2 : ((sub s i 2).size : Int) = 2 := by rw [sub_size (by omega)]; rfl
    have m2 : ((s.size : Int) < ((i + 2 : Nat) : Int)) = False := by simp; omega
    have hct := containsTwo none (sub s i 2)
    rw [sub_two h2, two_mem, ← sub_two h2] at hct
    have hq : sgnS s i (s.data[i]'hi) = if decide ((s.data[i]'hi = 33 ∨ s.data[i]'hi = 60 ∨ s.data[i]'hi = 62) ∧ s.data[i + 1]'h2 = 61) = true then .ok (3, 2, 0) else if s.data[i]'hi ∈ sgnL then .ok (3, 1, 0) else .error 2 := by
      have : s.data[i + 1]? = some (s.data[i + 1]'h2) := Array.getElem?_eq_getElem h2
      simp only [sgnS, this, Option.some.injEq, decide_eq_true_eq]
    rw [hq]
    cases hk : decide ((s.data[i]'hi = 33 ∨ s.data[i]'hi = 60 ∨ s.data[i]'hi = 62) ∧ s.data[i + 1]'h2 = 61) with
    | true =>
      rw [hk] at hct
      generalize ht : sub s i 2 = t at *
      have hr : resT s i (if true = true then .ok (3, 2, 0) else if s.data[i]'hi ∈ sgnL then .ok (3, 1, 0) else .error 2) = .tup [.agg (Tok.c ⟨3, t, 0, i⟩), .int .i64 0] := by rw [if_pos rfl, resT, ht]; rfl
      rw [hr]
      repeat' (first|refine Go.a rfl ?_|refine Go.rg ?_|refine GoR.nil ?_|refine Go.ret ?_|refine Go.b rfl ?_|(refine GoR.o (by rfl) (by rfl) ?_;(conv => arg 1;simp only [G,Z,Y,Gx,un_neg,cutD,decide_true,decide_false,simprocAttr,fb2,fb3,fb9,fb148,natD_cast, Option.map_some, optNatD_some, Option.getD_some, w1, w2, m2, c2, e2, z2]);show GoR ..)|(refine GoR.c c188 (by rfl) (by rfl) rfl ?_;(refine (fieldsTwo _).ret ?_))|(refine GoR.c c187 (by rfl) (by rfl) rfl ?_;(refine (hct _).ret ?_))|refine GoR.s (by rfl) rfl rfl ?_|(refine GoR.splitG rfl (fun hc => ?_) (fun hc => ?_) <;> simp only [hc])|refine Go.condB rfl (fun hc => ?_) (fun hc => ?_))
      refine ⟨(by first | exact .inl rfl | exact .inr rfl), fin ?_⟩
      rw [resD_two (fn := Tryz.f157) rfl]
      simp only [optThen_some,resultD_tmp,resultD_cell,G,Z,Y,Gx,un_neg,cutD,decide_true,decide_false,simprocAttr,fb2,fb3,fb9,fb148]
      exact ⟨_, _, rfl, .of_low (.tup' (.cons (.agg' (tok_low ⟨3, t, 0, i⟩)) (.cons (.int _ _) .nil))), rfl⟩
    | false =>
      rw [hk] at hct
      rw [if_neg (by decide), snd []]
      generalize ht : sub s i 2 = t at *
      generalize ht1 : sub s i 1 = u at *
      cases hm : decide (s.data[i]'hi ∈ sgnL) with
      | true =>
        rw [hm] at hc1
        rw [if_pos rfl]
        repeat' (first|refine Go.a rfl ?_|refine Go.rg ?_|refine GoR.nil ?_|refine Go.ret ?_|refine Go.b rfl ?_|(refine GoR.o (by rfl) (by rfl) ?_;(conv => arg 1;simp only [G,Z,Y,Gx,un_neg,cutD,decide_true,decide_false,simprocAttr,fb2,fb3,fb9,fb148,natD_cast, Option.map_some, optNatD_some, Option.getD_some, w1, w2, m2, c2, e2, z2, c1, e1, z1]);show GoR ..)|(refine GoR.c c188 (by rfl) (by rfl) rfl ?_;(refine (fieldsTwo _).ret ?_))|(refine GoR.c c187 (by rfl) (by rfl) rfl ?_;(refine (hct _).ret ?_))|(refine GoR.c c189 (by rfl) (by rfl) rfl ?_;(refine (hc1 _).ret ?_))|refine GoR.s (by rfl) rfl rfl ?_|(refine GoR.splitG rfl (fun hc => ?_) (fun hc => ?_) <;> simp only [hc])|refine Go.condB rfl (fun hc => ?_) (fun hc => ?_))
        refine ⟨(by first | exact .inl rfl | exact .inr rfl), fin ?_⟩
        rw [resD_two (fn := Tryz.f157) rfl]
        simp only [optThen_some,resultD_tmp,resultD_cell,G,Z,Y,Gx,un_neg,cutD,decide_true,decide_false,simprocAttr,fb2,fb3,fb9,fb148]
        exact ⟨_, _, rfl, .of_low (.tup' (.cons (.agg' (tok_low ⟨3, u, 0, i⟩)) (.cons (.int _ _) .nil))), rfl⟩
      | false =>
        rw [hm] at hc1
        rw [if_neg (by decide)]
        repeat' (first|refine Go.a rfl ?_|refine Go.rg ?_|refine GoR.nil ?_|refine Go.ret ?_|refine Go.b rfl ?_|(refine GoR.o (by rfl) (by rfl) ?_;(conv => arg 1;simp only [G,Z,Y,Gx,un_neg,cutD,decide_true,decide_false,simprocAttr,fb2,fb3,fb9,fb148,natD_cast, Option.map_some, optNatD_some, Option.getD_some, w1, w2, m2, c2, e2, z2, c1, e1, z1]);show GoR ..)|(refine GoR.c c188 (by rfl) (by rfl) rfl ?_;(refine (fieldsTwo _).ret ?_))|(refine GoR.c c187 (by rfl) (by rfl) rfl ?_;(refine (hct _).ret ?_))|(refine GoR.c c189 (by rfl) (by rfl) rfl ?_;(refine (hc1 _).ret ?_))|refine GoR.s (by rfl) rfl rfl ?_|(refine GoR.splitG rfl (fun hc => ?_) (fun hc => ?_) <;> simp only [hc])|refine Go.condB rfl (fun hc => ?_) (fun hc => ?_))
        refine ⟨(by first | exact .inl rfl | exact .inr rfl), fin ?_⟩
        rw [resD_two (fn := Tryz.f157) rfl]
        simp only [optThen_some,resultD_tmp,resultD_cell,G,Z,Y,Gx,un_neg,cutD,decide_true,decide_false,simprocAttr,fb2,fb3,fb9,fb148]
        exact ⟨_, _, rfl, .of_low (.tup' (.cons (.agg' (tok_low ⟨0, ⟨#[]⟩, 0, 0⟩)) (.cons (.int _ _) .nil))), rfl⟩
  · have hsz : s.size = i + 1 := by omega
    have m2 : ((s.size : Int) < ((i + 2 : Nat) : Int)) = True := by simp; omega
    have hnone : s.data[i + 1]? = none := Array.getElem?_eq_none (by show s.data.size ≤ _; have : s.data.size = s.size := rfl; omega)
    have hq : sgnS s i (s.data[i]'hi) = if s.data[i]'hi ∈ sgnL then .ok (3, 1, 0) else .error 2 := by
      simp only [sgnS, hnone]
      rw [if_neg]
      rintro ⟨_, h⟩
      cases h
    rw [hq, snd []]
    have e3 : s.extract i s.size = sub s i 1 := by rw [extract_eq (by omega)]; congr 1; omega
    have c3 : (i ≤ s.size) = True := by simp; omega
    generalize ht1 : sub s i 1 = u at *
    cases hm : decide (s.data[i]'hi ∈ sgnL) with
    | true =>
      rw [hm] at hc1
      rw [if_pos rfl]
      repeat' (first|refine Go.a rfl ?_|refine Go.rg ?_|refine GoR.nil ?_|refine Go.ret ?_|refine Go.b rfl ?_|(refine GoR.o (by rfl) (by rfl) ?_;(conv => arg 1;simp only [G,Z,Y,Gx,un_neg,cutD,decide_true,decide_false,simprocAttr,fb2,fb3,fb9,fb148,natD_cast, Option.map_some, optNatD_some, Option.getD_some, w1, w2, m2, c3, Nat.le_refl, and_self, e3, c1, e1, z1, show ((1 : Int) == 2) = false by decide]);show GoR ..)|(refine GoR.c c189 (by rfl) (by rfl) rfl ?_;(refine (hc1 _).ret ?_))|refine GoR.s (by rfl) rfl rfl ?_|(refine GoR.splitG rfl (fun hc => ?_) (fun hc => ?_) <;> simp only [hc])|refine Go.condB rfl (fun hc => ?_) (fun hc => ?_))
      refine ⟨(by first | exact .inl rfl | exact .inr rfl), fin ?_⟩
      rw [resD_two (fn := Tryz.f157) rfl]
      simp only [optThen_some,resultD_tmp,resultD_cell,G,Z,Y,Gx,un_neg,cutD,decide_true,decide_false,simprocAttr,fb2,fb3,fb9,fb148]
      exact ⟨_, _, rfl, .of_low (.tup' (.cons (.agg' (tok_low ⟨3, u, 0, i⟩)) (.cons (.int _ _) .nil))), rfl⟩
    | false =>
      rw [hm] at hc1
      rw [if_neg (by decide)]
      repeat' (first|refine Go.a rfl ?_|refine Go.rg ?_|refine GoR.nil ?_|refine Go.ret ?_|refine Go.b rfl ?_|(refine GoR.o (by rfl) (by rfl) ?_;(conv => arg 1;simp only [G,Z,Y,Gx,un_neg,cutD,decide_true,decide_false,simprocAttr,fb2,fb3,fb9,fb148,natD_cast, Option.map_some, optNatD_some, Option.getD_some, w1, w2, m2, c3, Nat.le_refl, and_self, e3, c1, e1, z1, show ((1 : Int) == 2) = false by decide]);show GoR ..)|(refine GoR.c c189 (by rfl) (by rfl) rfl ?_;(refine (hc1 _).ret ?_))|refine GoR.s (by rfl) rfl rfl ?_|(refine GoR.splitG rfl (fun hc => ?_) (fun hc => ?_) <;> simp only [hc])|refine Go.condB rfl (fun hc => ?_) (fun hc => ?_))
      refine ⟨(by first | exact .inl rfl | exact .inr rfl), fin ?_⟩
      rw [resD_two (fn := Tryz.f157) rfl]
      simp only [optThen_some,resultD_tmp,resultD_cell,G,Z,Y,Gx,un_neg,cutD,decide_true,decide_false,simprocAttr,fb2,fb3,fb9,fb148]
      exact ⟨_, _, rfl, .of_low (.tup' (.cons (.agg' (tok_low ⟨0, ⟨#[]⟩, 0, 0⟩)) (.cons (.int _ _) .nil))), rfl⟩

/-- The first word from a place on. -/
theorem lexOne_at {s : ByteArray} {i : Nat} (hi : i < s.size) : lexOne (s.data.toList.drop i) =
    if letB (s.data[i]'hi) = true then (if 8 < tw lodB s i then .error 5 else .ok (1, tw lodB s i, 0)) else if dgtB (s.data[i]'hi) = true then numS s i else sgnS s i (s.data[i]'hi) := by
  have hx : (s.data.toList.drop i)[tw dgtB s i]? = s.data[i + tw dgtB s i]? := by simp
  have hy : (s.data.toList.drop (i + 1)).head? = s.data[i + 1]? := by rw [List.head?_drop]; simp
  have h48 : (s.data[i]? = some 48) = (s.data[i]'hi = 48) := by rw [Array.getElem?_eq_getElem hi, Option.some.injEq]
  unfold numS sgnS
  simp only [h48]
  rw [← hx, ← hy]
  unfold tw
  rw [drop_at hi, lexOne]
theorem lexNext (s : ByteArray) (hs : s.size < 1000000) (i : Nat) (hi : i < s.size) (S : Mem) : CallD Tryz.prog O 129 [.str s, .int .i64 (i : Int)] S fun d S' => S' = S ∧ d = resT s i (lexOne (s.data.toList.drop i)) := by
  rw [lexOne_at hi]
  have hix := fun {k : IntKind} {S : Mem} => indexStr_cast (s := s) (n := i) (k := k) (S := S) hi
  have hnm := lexName (orc := O) s hs i (Nat.le_of_lt hi)
  have hnb := lexNumber s hs i hi
  have hsg := lexSign s hs i hi
  have hl := lexLetter (orc := O) (s.data[i]'hi)
  have hd := lexDigit (orc := O) (s.data[i]'hi)
  generalize s.data[i]'hi = b at *
  refine CallD.e Tryz.func129 rfl Tryz.ntmps129 (by rfl) ?_
  cases h1 : letB b with
  | true =>
    rw [h1] at hl
    have hr : resT s i (if true = true then (if 8 < tw lodB s i then .error 5 else .ok (1, tw lodB s i, 0)) else if dgtB b = true then numS s i else sgnS s i b) = if 8 < tw lodB s i then .tup [.agg zeroT, .int .i64 5] else .tup [.agg (Tok.c ⟨1, sub s i (tw lodB s i), 0, i⟩), .int .i64 0] := by rw [if_pos rfl]; split <;> rfl
    rw [hr]
    clear hr
    by_cases h8 : 8 < tw lodB s i
    · simp only [if_pos h8] at hnm ⊢
      repeat' (first|refine Go.a rfl ?_|refine Go.rg ?_|refine GoR.nil ?_|refine Go.ret ?_|refine Go.b rfl ?_|(refine GoR.o (by rfl) (by rfl) ?_;(conv => arg 1;simp only [G,Z,Y,Gx,un_neg,cutD,decide_true,decide_false,simprocAttr,fb2,fb3,fb9,fb148,hix, zeroT, Tok.c]);show GoR ..)|(refine GoR.c c153 (by rfl) (by rfl) rfl ?_;(refine (hl _).ret ?_))|(refine GoR.c c154 (by rfl) (by rfl) rfl ?_;(refine (hnm _).ret ?_))|refine Go.condB rfl (fun hc => ?_) (fun hc => ?_))
      refine ⟨(by first | exact .inl rfl | exact .inr rfl), fin ?_⟩
      rw [resD_two (fn := Tryz.f129) rfl]
      simp only [optThen_some,resultD_tmp,resultD_cell,G,Z,Y,Gx,un_neg,cutD,decide_true,decide_false,simprocAttr,fb2,fb3,fb9,fb148]
      exact ⟨_, _, rfl, .of_low (.tup' (.cons (.agg' (tok_low ⟨0, ⟨#[]⟩, 0, 0⟩)) (.cons (.int _ _) .nil))), rfl⟩
    · simp only [if_neg h8] at hnm ⊢
      generalize sub s i (tw lodB s i) = t at *
      repeat' (first|refine Go.a rfl ?_|refine Go.rg ?_|refine GoR.nil ?_|refine Go.ret ?_|refine Go.b rfl ?_|(refine GoR.o (by rfl) (by rfl) ?_;(conv => arg 1;simp only [G,Z,Y,Gx,un_neg,cutD,decide_true,decide_false,simprocAttr,fb2,fb3,fb9,fb148,hix, zeroT, Tok.c]);show GoR ..)|(refine GoR.c c153 (by rfl) (by rfl) rfl ?_;(refine (hl _).ret ?_))|(refine GoR.c c154 (by rfl) (by rfl) rfl ?_;(refine (hnm _).ret ?_))|refine Go.condB rfl (fun hc => ?_) (fun hc => ?_))
      refine ⟨(by first | exact .inl rfl | exact .inr rfl), fin ?_⟩
      rw [resD_two (fn := Tryz.f129) rfl]
      simp only [optThen_some,resultD_tmp,resultD_cell,G,Z,Y,Gx,un_neg,cutD,decide_true,decide_false,simprocAttr,fb2,fb3,fb9,fb148]
      exact ⟨_, _, rfl, .of_low (.tup' (.cons (.agg' (tok_low ⟨1, t, 0, i⟩)) (.cons (.int _ _) .nil))), rfl⟩
  | false =>
    rw [h1] at hl
    rw [if_neg (by decide)]
    have key : ∀ x, ∃ (c1 : List D) (e : Int), resT s i x = .tup [.agg c1, .int .i64 e] ∧ c1.length = 4 ∧ (∀ n, LowL n c1) ∧ c1.all D.one = true := by
      intro x
      match x with
      | .error e => exact ⟨zeroT, e, rfl, rfl, fun n => tok_low ⟨0, ⟨#[]⟩, 0, 0⟩, rfl⟩
      | .ok (k, n, v) => exact ⟨_, 0, rfl, rfl, fun _ => tok_low _, rfl⟩
    cases h2 : dgtB b with
    | true =>
      rw [h2] at hd
      have hnb := hnb h2
      rw [if_pos rfl]
      obtain ⟨c1, e, hc, hl4, hlow, hone⟩ := key (numS s i)
      rw [hc] at hnb ⊢
      match c1, hl4 with
      | [x1, x2, x3, x4], _ =>
        repeat' (first|refine Go.a rfl ?_|refine Go.rg ?_|refine GoR.nil ?_|refine Go.ret ?_|refine Go.b rfl ?_|(refine GoR.o (by rfl) (by rfl) ?_;(conv => arg 1;simp only [G,Z,Y,Gx,un_neg,cutD,decide_true,decide_false,simprocAttr,fb2,fb3,fb9,fb148,hix, hone]);show GoR ..)|(refine GoR.c c153 (by rfl) (by rfl) rfl ?_;(refine (hl _).ret ?_))|(refine GoR.c c155 (by rfl) (by rfl) rfl ?_;(refine (hd _).ret ?_))|(refine GoR.c c156 (by rfl) (by rfl) rfl ?_;(refine (hnb _).ret ?_))|refine Go.condB rfl (fun hc => ?_) (fun hc => ?_))
        refine ⟨(by first | exact .inl rfl | exact .inr rfl), fin ?_⟩
        rw [resD_two (fn := Tryz.f129) rfl]
        simp only [optThen_some,resultD_tmp,resultD_cell,G,Z,Y,Gx,un_neg,cutD,decide_true,decide_false,simprocAttr,fb2,fb3,fb9,fb148]
        exact ⟨_, _, rfl, .of_low (.tup' (.cons (.agg' (hlow _)) (.cons (.int _ _) .nil))), rfl⟩
    | false =>
      rw [h2] at hd
      rw [if_neg (by decide)]
      obtain ⟨c1, e, hc, hl4, hlow, hone⟩ := key (sgnS s i b)
      rw [hc] at hsg ⊢
      match c1, hl4 with
      | [x1, x2, x3, x4], _ =>
        repeat' (first|refine Go.a rfl ?_|refine Go.rg ?_|refine GoR.nil ?_|refine Go.ret ?_|refine Go.b rfl ?_|(refine GoR.o (by rfl) (by rfl) ?_;(conv => arg 1;simp only [G,Z,Y,Gx,un_neg,cutD,decide_true,decide_false,simprocAttr,fb2,fb3,fb9,fb148,hix, hone]);show GoR ..)|(refine GoR.c c153 (by rfl) (by rfl) rfl ?_;(refine (hl _).ret ?_))|(refine GoR.c c155 (by rfl) (by rfl) rfl ?_;(refine (hd _).ret ?_))|(refine GoR.c c157 (by rfl) (by rfl) rfl ?_;(refine (hsg _).ret ?_))|refine Go.condB rfl (fun hc => ?_) (fun hc => ?_))
        refine ⟨(by first | exact .inl rfl | exact .inr rfl), fin ?_⟩
        rw [resD_two (fn := Tryz.f129) rfl]
        simp only [optThen_some,resultD_tmp,resultD_cell,G,Z,Y,Gx,un_neg,cutD,decide_true,decide_false,simprocAttr,fb2,fb3,fb9,fb148]
        exact ⟨_, _, rfl, .of_low (.tup' (.cons (.agg' (hlow _)) (.cons (.int _ _) .nil))), rfl⟩
end Go.Proofs.DeT
