/- One word of a text, by the program. -/
import Derived.Test.YtpdnaoahghfaoaaGreatDoorDeL2
set_option linter.unusedSimpArgs false
set_option linter.unusedVariables false
namespace Go.Proofs.DeT
open Go Go.DM
set_option maxRecDepth 100000

theorem errNil : binD Tryz.prog .neq 173 (.tmp 48) (.const .nilIface) .nili .nili = some (.bool false) := by kernel_rfl
theorem errSome : binD Tryz.prog .neq 173 (.tmp 48) (.const .nilIface) (.iface 258 .bot) .nili = some (.bool true) := neq_nili Tryz.underlying173
theorem bin_add {P : Program} {t : TypeId} {x y : Operand} {i j : Nat} (h : i + j < 4611686018427387904) : IntKind.i64.wrap ((i : Int) + (j : Int)) = ((i + j : Nat) : Int) := by rw [wrap64 (by omega) (by omega)]; omega
theorem sub_first {s : ByteArray} {i n : Nat} (h : i < s.size) (hn : 0 < n) {k : IntKind} {S : Mem} : indexStr (.str (sub s i n)) (.int k 0) S = some (.int .u8 (s.data[i]'h).toNat, S) := by
  obtain ⟨m, rfl⟩ : ∃ m, n = m + 1 := ⟨n - 1, by omega⟩
  have e : sub s i (m + 1) = ⟨(s.data[i]'h :: (s.data.toList.drop (i + 1)).take m).toArray⟩ := by rw [sub, drop_at h]; rfl
  rw [e, indexStr_zero (show 0 < (s.data[i]'h :: (s.data.toList.drop (i + 1)).take m).toArray.size by rw [List.size_toArray, List.length_cons]; exact Nat.succ_pos _)]
  rfl
theorem sub_list (s : ByteArray) (i n : Nat) : (sub s i n).data.toList = (s.data.toList.drop i).take n := by simp [sub]
theorem sub_tw (p : UInt8 → Bool) (s : ByteArray) (i : Nat) : (sub s i (tw p s i)).data.toList = (s.data.toList.drop i).takeWhile p := by rw [sub_list, tw, takeWhile_take]
/-- What a word is, or what is wrong, as the program tells it. -/
def resT (s : ByteArray) (i : Nat) : Except Int (Int × Nat × Nat) → D
  | .error e => .tup [.agg zeroT, .int .i64 e]
  | .ok (k, n, v) => .tup [.agg (Tok.c ⟨k, sub s i n, v, i⟩), .int .i64 0]
/-- A number at a place, or what is wrong. -/
def numS (s : ByteArray) (i : Nat) : Except Int (Int × Nat × Nat) :=
  if (s.data[i + tw dgtB s i]?).any letB = true ∨ (1 < tw dgtB s i ∧ s.data[i]? = some 48) then .error 2
  else if numV ((s.data.toList.drop i).takeWhile dgtB) < 9223372036854775808 then .ok (2, tw dgtB s i, numV ((s.data.toList.drop i).takeWhile dgtB)) else .error 1
set_option maxHeartbeats 1000000 in
theorem lexNumber (s : ByteArray) (hs : s.size < 1000000) (i : Nat) (hi : i < s.size) (hd : dgtB (s.data[i]'hi) = true) (S : Mem) : CallD Tryz.prog O 156 [.str s, .int .i64 (i : Int)] S fun d S' => S' = S ∧ d = resT s i (numS s i) := by
  have hle := tw_le (p := dgtB) (Nat.le_of_lt hi)
  have hpos : 0 < tw dgtB s i := by rw [tw_hit hi hd]; omega
  have hsz := sub_size hle
  have htw := sub_tw dgtB s i
  have hfirst := fun S => sub_first (n := tw dgtB s i) (k := .i64) (S := S) hi hpos
  have hall : ∀ b ∈ (sub s i (tw dgtB s i)).data.toList, dgtB b = true := by rw [htw]; exact takeWhile_all _
  have hne : (sub s i (tw dgtB s i)).data.toList ≠ [] := by
    intro e
    have := congrArg List.length e
    rw [Array.length_toList, List.length_nil] at this
    have e2 : (sub s i (tw dgtB s i)).data.size = (sub s i (tw dgtB s i)).size := rfl
    omega
  have hpar := parseI hne hall
  have hrun := runDigit (orc := O) s hs i (Nat.le_of_lt hi)
  have h48 : (s.data[i]? = some 48) ↔ (s.data[i]'hi).toNat = 48 := by
    rw [Array.getElem?_eq_getElem hi, Option.some.injEq, ← UInt8.toNat_inj]
    rfl
  unfold numS
  simp only [h48, ← htw]
  generalize hw : tw dgtB s i = w at *
  have e1 : s.extract i (i + w) = sub s i w := by rw [extract_eq (by omega)]; congr 1; omega
  have e0 : resT s i (.ok (2, w, numV (sub s i w).data.toList)) = .tup [.agg (Tok.c ⟨2, sub s i w, numV (sub s i w).data.toList, i⟩), .int .i64 0] := rfl
  generalize hv : numV (sub s i w).data.toList = v at *
  generalize ht : sub s i w = t at *
  have c1 : (i ≤ i + w ∧ i + w ≤ s.size) = True := by simp; omega
  generalize hb : (s.data[i]'hi).toNat = b at *
  have cases3 : ((s.data[i + w]?).any letB = true) ∨ ((s.data[i + w]?).any letB = false ∧ 1 < w ∧ b = 48) ∨ ((s.data[i + w]?).any letB = false ∧ ¬ (1 < w ∧ b = 48)) := by
    cases (s.data[i + w]?).any letB
    · by_cases h : 1 < w ∧ b = 48
      · exact .inr (.inl ⟨rfl, h⟩)
      · exact .inr (.inr ⟨rfl, h⟩)
    · exact .inl rfl
  have dl : ∀ (hlt : i + w < s.size), letB (s.data[i + w]'hlt) = (s.data[i + w]?).any letB := fun hlt => by rw [Array.getElem?_eq_getElem hlt]; rfl
  have dn : ¬ (i + w < s.size) → (s.data[i + w]?).any letB = false := fun h => by rw [Array.getElem?_eq_none (by show s.data.size ≤ _; have : s.data.size = s.size := rfl; omega)]; rfl
  refine CallD.e Tryz.func156 rfl Tryz.ntmps156 (by rfl) ?_
  have bad : ∀ {S' : Mem} {d : D}, d = D.tup [.agg zeroT, .int .i64 2] → ((s.data[i + w]?).any letB = true ∨ 1 < w ∧ b = 48) → d = resT s i (if (s.data[i + w]?).any letB = true ∨ 1 < w ∧ b = 48 then .error 2 else if v < 9223372036854775808 then .ok (2, w, v) else .error 1) := fun {_ _} h1 h2 => by rw [if_pos h2]; exact h1
  rcases cases3 with h | ⟨h, h1, h2⟩ | ⟨h, h12⟩
  · have hlt : i + w < s.size := by
      by_cases hlt : i + w < s.size
      · exact hlt
      · rw [dn hlt] at h; cases h
    have d1 : decide (((i + w : Nat) : Int) < (s.size : Int)) = true := by rw [decide_eq_true_iff]; omega
    have d2 := (dl hlt).trans h
    repeat' (first|refine Go.a rfl ?_|refine Go.rg ?_|refine GoR.nil ?_|refine Go.ret ?_|refine Go.b rfl ?_|(refine GoR.o (by rfl) (by rfl) ?_;(conv => arg 1;simp only [G,Z,Y,Gx,un_neg,cutD,decide_true,decide_false,simprocAttr,fb2,fb3,fb5,fb9,fb148,fb173,natD_cast, Option.map_some, optNatD_some, Option.getD_some, c1, e1, d1, d2, indexStr_cast hlt]);show GoR ..)|(refine GoR.c c184 (by rfl) (by rfl) rfl ?_;(refine (hrun _).ret ?_))|(refine GoR.c c153 (by rfl) (by rfl) rfl ?_;(refine (lexLetter _ _).ret ?_))|refine GoR.s (by rfl) rfl rfl ?_|(refine GoR.splitG rfl (fun hc => ?_) (fun hc => ?_) <;> simp only [hc])|refine Go.condB rfl (fun hc => ?_) (fun hc => ?_))
    refine ⟨(by first | exact .inl rfl | exact .inr rfl), fin ?_⟩
    rw [resD_two (fn := Tryz.f156) rfl]
    simp only [optThen_some,resultD_tmp,resultD_cell,G,Z,Y,Gx,un_neg,cutD,decide_true,decide_false,simprocAttr,fb2,fb3,fb5,fb9,fb148,fb173]
    exact ⟨_, _, rfl, .of_low (.tup' (.cons (.agg' (tok_low ⟨0, ⟨#[]⟩, 0, 0⟩)) (.cons (.int _ _) .nil))), bad (S' := []) rfl (.inl h)⟩
  · have d3 : decide (1 < (t.size : Int)) = true := by rw [decide_eq_true_iff]; omega
    subst h2
    by_cases hlt : i + w < s.size
    · have d1 : decide (((i + w : Nat) : Int) < (s.size : Int)) = true := by rw [decide_eq_true_iff]; omega
      have d2 := (dl hlt).trans h
      repeat' (first|refine Go.a rfl ?_|refine Go.rg ?_|refine GoR.nil ?_|refine Go.ret ?_|refine Go.b rfl ?_|(refine GoR.o (by rfl) (by rfl) ?_;(conv => arg 1;simp only [G,Z,Y,Gx,un_neg,cutD,decide_true,decide_false,simprocAttr,fb2,fb3,fb5,fb9,fb148,fb173,natD_cast, Option.map_some, optNatD_some, Option.getD_some, c1, e1, d1, d2, d3, indexStr_cast hlt, hfirst]);show GoR ..)|(refine GoR.c c184 (by rfl) (by rfl) rfl ?_;(refine (hrun _).ret ?_))|(refine GoR.c c153 (by rfl) (by rfl) rfl ?_;(refine (lexLetter _ _).ret ?_))|refine GoR.s (by rfl) rfl rfl ?_|(refine GoR.splitG rfl (fun hc => ?_) (fun hc => ?_) <;> simp only [hc])|refine Go.condB rfl (fun hc => ?_) (fun hc => ?_))
      refine ⟨(by first | exact .inl rfl | exact .inr rfl), fin ?_⟩
      rw [resD_two (fn := Tryz.f156) rfl]
      simp only [optThen_some,resultD_tmp,resultD_cell,G,Z,Y,Gx,un_neg,cutD,decide_true,decide_false,simprocAttr,fb2,fb3,fb5,fb9,fb148,fb173]
      exact ⟨_, _, rfl, .of_low (.tup' (.cons (.agg' (tok_low ⟨0, ⟨#[]⟩, 0, 0⟩)) (.cons (.int _ _) .nil))), by rw [if_pos (.inr h1)]; rfl⟩
    · have d1 : decide (((i + w : Nat) : Int) < (s.size : Int)) = false := by rw [decide_eq_false_iff_not]; omega
      repeat' (first|refine Go.a rfl ?_|refine Go.rg ?_|refine GoR.nil ?_|refine Go.ret ?_|refine Go.b rfl ?_|(refine GoR.o (by rfl) (by rfl) ?_;(conv => arg 1;simp only [G,Z,Y,Gx,un_neg,cutD,decide_true,decide_false,simprocAttr,fb2,fb3,fb5,fb9,fb148,fb173,natD_cast, Option.map_some, optNatD_some, Option.getD_some, c1, e1, d1, d3, hfirst]);show GoR ..)|(refine GoR.c c184 (by rfl) (by rfl) rfl ?_;(refine (hrun _).ret ?_))|refine GoR.s (by rfl) rfl rfl ?_|(refine GoR.splitG rfl (fun hc => ?_) (fun hc => ?_) <;> simp only [hc])|refine Go.condB rfl (fun hc => ?_) (fun hc => ?_))
      refine ⟨(by first | exact .inl rfl | exact .inr rfl), fin ?_⟩
      rw [resD_two (fn := Tryz.f156) rfl]
      simp only [optThen_some,resultD_tmp,resultD_cell,G,Z,Y,Gx,un_neg,cutD,decide_true,decide_false,simprocAttr,fb2,fb3,fb5,fb9,fb148,fb173]
      exact ⟨_, _, rfl, .of_low (.tup' (.cons (.agg' (tok_low ⟨0, ⟨#[]⟩, 0, 0⟩)) (.cons (.int _ _) .nil))), by rw [if_pos (.inr h1)]; rfl⟩
  · rw [if_neg (by rw [h]; simpa using h12)]
    have d4 : (((b : Int) == 48) = true ∧ decide (1 < (t.size : Int)) = true) → False := by
      rintro ⟨h1, h2⟩
      rw [beq_iff_eq] at h1
      rw [decide_eq_true_iff] at h2
      exact h12 ⟨by omega, by omega⟩
    by_cases hvv : v < 9223372036854775808
    · rw [if_pos hvv] at hpar ⊢
      rw [e0]
      by_cases hlt : i + w < s.size
      · have d1 : decide (((i + w : Nat) : Int) < (s.size : Int)) = true := by rw [decide_eq_true_iff]; omega
        have d2 := (dl hlt).trans h
        cases d3 : decide (1 < (t.size : Int)) with
        | true =>
          have d5 : ((b : Int) == 48) = false := by cases h : ((b : Int) == 48) with | true => exact (d4 ⟨h, d3⟩).elim | false => rfl
          repeat' (first|refine Go.a rfl ?_|refine Go.rg ?_|refine GoR.nil ?_|refine Go.ret ?_|refine Go.b rfl ?_|(refine GoR.o (by rfl) (by rfl) ?_;(conv => arg 1;simp only [G,Z,Y,Gx,un_neg,cutD,decide_true,decide_false,simprocAttr,fb2,fb3,fb5,fb9,fb148,fb173,natD_cast, Option.map_some, optNatD_some, Option.getD_some, c1, e1, d1, d2, d3, d5, indexStr_cast hlt, hfirst, errNil, wr]);show GoR ..)|(refine GoR.c c184 (by rfl) (by rfl) rfl ?_;(refine (hrun _).ret ?_))|(refine GoR.c c153 (by rfl) (by rfl) rfl ?_;(refine (lexLetter _ _).ret ?_))|(refine GoR.c c186 (by rfl) (by rfl) rfl ?_;(refine (parseOk t _ (by omega) hpar _).ret ?_))|refine GoR.s (by rfl) rfl rfl ?_|(refine GoR.splitG rfl (fun hc => ?_) (fun hc => ?_) <;> simp only [hc])|refine Go.condB rfl (fun hc => ?_) (fun hc => ?_))
          refine ⟨(by first | exact .inl rfl | exact .inr rfl), fin ?_⟩
          rw [resD_two (fn := Tryz.f156) rfl]
          simp only [optThen_some,resultD_tmp,resultD_cell,G,Z,Y,Gx,un_neg,cutD,decide_true,decide_false,simprocAttr,fb2,fb3,fb5,fb9,fb148,fb173,wr]
          exact ⟨_, _, rfl, .of_low (.tup' (.cons (.agg' (tok_low ⟨2, t, v, i⟩)) (.cons (.int _ _) .nil))), rfl⟩
        | false =>
          repeat' (first|refine Go.a rfl ?_|refine Go.rg ?_|refine GoR.nil ?_|refine Go.ret ?_|refine Go.b rfl ?_|(refine GoR.o (by rfl) (by rfl) ?_;(conv => arg 1;simp only [G,Z,Y,Gx,un_neg,cutD,decide_true,decide_false,simprocAttr,fb2,fb3,fb5,fb9,fb148,fb173,natD_cast, Option.map_some, optNatD_some, Option.getD_some, c1, e1, d1, d2, d3, indexStr_cast hlt, hfirst, errNil, wr]);show GoR ..)|(refine GoR.c c184 (by rfl) (by rfl) rfl ?_;(refine (hrun _).ret ?_))|(refine GoR.c c153 (by rfl) (by rfl) rfl ?_;(refine (lexLetter _ _).ret ?_))|(refine GoR.c c186 (by rfl) (by rfl) rfl ?_;(refine (parseOk t _ (by omega) hpar _).ret ?_))|refine GoR.s (by rfl) rfl rfl ?_|(refine GoR.splitG rfl (fun hc => ?_) (fun hc => ?_) <;> simp only [hc])|refine Go.condB rfl (fun hc => ?_) (fun hc => ?_))
          refine ⟨(by first | exact .inl rfl | exact .inr rfl), fin ?_⟩
          rw [resD_two (fn := Tryz.f156) rfl]
          simp only [optThen_some,resultD_tmp,resultD_cell,G,Z,Y,Gx,un_neg,cutD,decide_true,decide_false,simprocAttr,fb2,fb3,fb5,fb9,fb148,fb173,wr]
          exact ⟨_, _, rfl, .of_low (.tup' (.cons (.agg' (tok_low ⟨2, t, v, i⟩)) (.cons (.int _ _) .nil))), rfl⟩
      · have d1 : decide (((i + w : Nat) : Int) < (s.size : Int)) = false := by rw [decide_eq_false_iff_not]; omega
        cases d3 : decide (1 < (t.size : Int)) with
        | true =>
          have d5 : ((b : Int) == 48) = false := by cases h : ((b : Int) == 48) with | true => exact (d4 ⟨h, d3⟩).elim | false => rfl
          repeat' (first|refine Go.a rfl ?_|refine Go.rg ?_|refine GoR.nil ?_|refine Go.ret ?_|refine Go.b rfl ?_|(refine GoR.o (by rfl) (by rfl) ?_;(conv => arg 1;simp only [G,Z,Y,Gx,un_neg,cutD,decide_true,decide_false,simprocAttr,fb2,fb3,fb5,fb9,fb148,fb173,natD_cast, Option.map_some, optNatD_some, Option.getD_some, c1, e1, d1, d3, d5, hfirst, errNil, wr]);show GoR ..)|(refine GoR.c c184 (by rfl) (by rfl) rfl ?_;(refine (hrun _).ret ?_))|(refine GoR.c c186 (by rfl) (by rfl) rfl ?_;(refine (parseOk t _ (by omega) hpar _).ret ?_))|refine GoR.s (by rfl) rfl rfl ?_|(refine GoR.splitG rfl (fun hc => ?_) (fun hc => ?_) <;> simp only [hc])|refine Go.condB rfl (fun hc => ?_) (fun hc => ?_))
          refine ⟨(by first | exact .inl rfl | exact .inr rfl), fin ?_⟩
          rw [resD_two (fn := Tryz.f156) rfl]
          simp only [optThen_some,resultD_tmp,resultD_cell,G,Z,Y,Gx,un_neg,cutD,decide_true,decide_false,simprocAttr,fb2,fb3,fb5,fb9,fb148,fb173,wr]
          exact ⟨_, _, rfl, .of_low (.tup' (.cons (.agg' (tok_low ⟨2, t, v, i⟩)) (.cons (.int _ _) .nil))), rfl⟩
        | false =>
          repeat' (first|refine Go.a rfl ?_|refine Go.rg ?_|refine GoR.nil ?_|refine Go.ret ?_|refine Go.b rfl ?_|(refine GoR.o (by rfl) (by rfl) ?_;(conv => arg 1;simp only [G,Z,Y,Gx,un_neg,cutD,decide_true,decide_false,simprocAttr,fb2,fb3,fb5,fb9,fb148,fb173,natD_cast, Option.map_some, optNatD_some, Option.getD_some, c1, e1, d1, d3, hfirst, errNil, wr]);show GoR ..)|(refine GoR.c c184 (by rfl) (by rfl) rfl ?_;(refine (hrun _).ret ?_))|(refine GoR.c c186 (by rfl) (by rfl) rfl ?_;(refine (parseOk t _ (by omega) hpar _).ret ?_))|refine GoR.s (by rfl) rfl rfl ?_|(refine GoR.splitG rfl (fun hc => ?_) (fun hc => ?_) <;> simp only [hc])|refine Go.condB rfl (fun hc => ?_) (fun hc => ?_))
          refine ⟨(by first | exact .inl rfl | exact .inr rfl), fin ?_⟩
          rw [resD_two (fn := Tryz.f156) rfl]
          simp only [optThen_some,resultD_tmp,resultD_cell,G,Z,Y,Gx,un_neg,cutD,decide_true,decide_false,simprocAttr,fb2,fb3,fb5,fb9,fb148,fb173,wr]
          exact ⟨_, _, rfl, .of_low (.tup' (.cons (.agg' (tok_low ⟨2, t, v, i⟩)) (.cons (.int _ _) .nil))), rfl⟩
    · rw [if_neg hvv] at hpar ⊢
      by_cases hlt : i + w < s.size
      · have d1 : decide (((i + w : Nat) : Int) < (s.size : Int)) = true := by rw [decide_eq_true_iff]; omega
        have d2 := (dl hlt).trans h
        cases d3 : decide (1 < (t.size : Int)) with
        | true =>
          have d5 : ((b : Int) == 48) = false := by cases h : ((b : Int) == 48) with | true => exact (d4 ⟨h, d3⟩).elim | false => rfl
          repeat' (first|refine Go.a rfl ?_|refine Go.rg ?_|refine GoR.nil ?_|refine Go.ret ?_|refine Go.b rfl ?_|(refine GoR.o (by rfl) (by rfl) ?_;(conv => arg 1;simp only [G,Z,Y,Gx,un_neg,cutD,decide_true,decide_false,simprocAttr,fb2,fb3,fb5,fb9,fb148,fb173,natD_cast, Option.map_some, optNatD_some, Option.getD_some, c1, e1, d1, d2, d3, d5, indexStr_cast hlt, hfirst, errSome]);show GoR ..)|(refine GoR.c c184 (by rfl) (by rfl) rfl ?_;(refine (hrun _).ret ?_))|(refine GoR.c c153 (by rfl) (by rfl) rfl ?_;(refine (lexLetter _ _).ret ?_))|(refine GoR.c c186 (by rfl) (by rfl) rfl ?_;(refine (parseBad t (by omega) hpar _).ret ?_))|refine GoR.s (by rfl) rfl rfl ?_|(refine GoR.splitG rfl (fun hc => ?_) (fun hc => ?_) <;> simp only [hc])|refine Go.condB rfl (fun hc => ?_) (fun hc => ?_))
          refine ⟨(by first | exact .inl rfl | exact .inr rfl), fin ?_⟩
          rw [resD_two (fn := Tryz.f156) rfl]
          simp only [optThen_some,resultD_tmp,resultD_cell,G,Z,Y,Gx,un_neg,cutD,decide_true,decide_false,simprocAttr,fb2,fb3,fb5,fb9,fb148,fb173]
          exact ⟨_, _, rfl, .of_low (.tup' (.cons (.agg' (tok_low ⟨0, ⟨#[]⟩, 0, 0⟩)) (.cons (.int _ _) .nil))), rfl⟩
        | false =>
          repeat' (first|refine Go.a rfl ?_|refine Go.rg ?_|refine GoR.nil ?_|refine Go.ret ?_|refine Go.b rfl ?_|(refine GoR.o (by rfl) (by rfl) ?_;(conv => arg 1;simp only [G,Z,Y,Gx,un_neg,cutD,decide_true,decide_false,simprocAttr,fb2,fb3,fb5,fb9,fb148,fb173,natD_cast, Option.map_some, optNatD_some, Option.getD_some, c1, e1, d1, d2, d3, indexStr_cast hlt, hfirst, errSome]);show GoR ..)|(refine GoR.c c184 (by rfl) (by rfl) rfl ?_;(refine (hrun _).ret ?_))|(refine GoR.c c153 (by rfl) (by rfl) rfl ?_;(refine (lexLetter _ _).ret ?_))|(refine GoR.c c186 (by rfl) (by rfl) rfl ?_;(refine (parseBad t (by omega) hpar _).ret ?_))|refine GoR.s (by rfl) rfl rfl ?_|(refine GoR.splitG rfl (fun hc => ?_) (fun hc => ?_) <;> simp only [hc])|refine Go.condB rfl (fun hc => ?_) (fun hc => ?_))
          refine ⟨(by first | exact .inl rfl | exact .inr rfl), fin ?_⟩
          rw [resD_two (fn := Tryz.f156) rfl]
          simp only [optThen_some,resultD_tmp,resultD_cell,G,Z,Y,Gx,un_neg,cutD,decide_true,decide_false,simprocAttr,fb2,fb3,fb5,fb9,fb148,fb173]
          exact ⟨_, _, rfl, .of_low (.tup' (.cons (.agg' (tok_low ⟨0, ⟨#[]⟩, 0, 0⟩)) (.cons (.int _ _) .nil))), rfl⟩
      · have d1 : decide (((i + w : Nat) : Int) < (s.size : Int)) = false := by rw [decide_eq_false_iff_not]; omega
        cases d3 : decide (1 < (t.size : Int)) with
        | true =>
          have d5 : ((b : Int) == 48) = false := by cases h : ((b : Int) == 48) with | true => exact (d4 ⟨h, d3⟩).elim | false => rfl
          repeat' (first|refine Go.a rfl ?_|refine Go.rg ?_|refine GoR.nil ?_|refine Go.ret ?_|refine Go.b rfl ?_|(refine GoR.o (by rfl) (by rfl) ?_;(conv => arg 1;simp only [G,Z,Y,Gx,un_neg,cutD,decide_true,decide_false,simprocAttr,fb2,fb3,fb5,fb9,fb148,fb173,natD_cast, Option.map_some, optNatD_some, Option.getD_some, c1, e1, d1, d3, d5, hfirst, errSome]);show GoR ..)|(refine GoR.c c184 (by rfl) (by rfl) rfl ?_;(refine (hrun _).ret ?_))|(refine GoR.c c186 (by rfl) (by rfl) rfl ?_;(refine (parseBad t (by omega) hpar _).ret ?_))|refine GoR.s (by rfl) rfl rfl ?_|(refine GoR.splitG rfl (fun hc => ?_) (fun hc => ?_) <;> simp only [hc])|refine Go.condB rfl (fun hc => ?_) (fun hc => ?_))
          refine ⟨(by first | exact .inl rfl | exact .inr rfl), fin ?_⟩
          rw [resD_two (fn := Tryz.f156) rfl]
          simp only [optThen_some,resultD_tmp,resultD_cell,G,Z,Y,Gx,un_neg,cutD,decide_true,decide_false,simprocAttr,fb2,fb3,fb5,fb9,fb148,fb173]
          exact ⟨_, _, rfl, .of_low (.tup' (.cons (.agg' (tok_low ⟨0, ⟨#[]⟩, 0, 0⟩)) (.cons (.int _ _) .nil))), rfl⟩
        | false =>
          repeat' (first|refine Go.a rfl ?_|refine Go.rg ?_|refine GoR.nil ?_|refine Go.ret ?_|refine Go.b rfl ?_|(refine GoR.o (by rfl) (by rfl) ?_;(conv => arg 1;simp only [G,Z,Y,Gx,un_neg,cutD,decide_true,decide_false,simprocAttr,fb2,fb3,fb5,fb9,fb148,fb173,natD_cast, Option.map_some, optNatD_some, Option.getD_some, c1, e1, d1, d3, hfirst, errSome]);show GoR ..)|(refine GoR.c c184 (by rfl) (by rfl) rfl ?_;(refine (hrun _).ret ?_))|(refine GoR.c c186 (by rfl) (by rfl) rfl ?_;(refine (parseBad t (by omega) hpar _).ret ?_))|refine GoR.s (by rfl) rfl rfl ?_|(refine GoR.splitG rfl (fun hc => ?_) (fun hc => ?_) <;> simp only [hc])|refine Go.condB rfl (fun hc => ?_) (fun hc => ?_))
          refine ⟨(by first | exact .inl rfl | exact .inr rfl), fin ?_⟩
          rw [resD_two (fn := Tryz.f156) rfl]
          simp only [optThen_some,resultD_tmp,resultD_cell,G,Z,Y,Gx,un_neg,cutD,decide_true,decide_false,simprocAttr,fb2,fb3,fb5,fb9,fb148,fb173]
          exact ⟨_, _, rfl, .of_low (.tup' (.cons (.agg' (tok_low ⟨0, ⟨#[]⟩, 0, 0⟩)) (.cons (.int _ _) .nil))), rfl⟩
end Go.Proofs.DeT
