/- All words of a text, by the document. -/
import Derived.Test.YtpdnaoahghfaoaaGreatDoorDeL7
set_option linter.unusedSimpArgs false
set_option linter.unusedVariables false
namespace Go.Proofs.DeT
open Go Go.DM
set_option maxRecDepth 100000
variable {orc : DOracle}

theorem rest_list {s : ByteArray} {i : Nat} (h : i ≤ s.size) : (s.extract i s.size).data.toList = s.data.toList.drop i := by
  rw [extract_eq h, sub_list, List.take_of_length_le]
  rw [List.length_drop]
  simp
theorem rest_at {s : ByteArray} {i : Nat} (h : i ≤ s.size) (j : Nat) : (s.extract i s.size).data[j]? = s.data[i + j]? := by
  rw [← Array.getElem?_toList, rest_list h, List.getElem?_drop, Array.getElem?_toList]
theorem rest_size {s : ByteArray} {i : Nat} (h : i ≤ s.size) : (s.extract i s.size).size = s.size - i := by
  rw [extract_eq h, sub_size (by omega)]
theorem rest_sub {s : ByteArray} {i : Nat} (h : i ≤ s.size) (n : Nat) : (s.extract i s.size).extract 0 n = sub s i n := by
  rw [extract_eq (Nat.zero_le _)]
  unfold sub
  rw [rest_list h]
  rfl
theorem signU_at {s : ByteArray} {i : Nat} (h : i < s.size) (b : UInt8) : signU (s.extract i s.size) b = match sgnS s i b with | .ok (_, n, _) => sub s i n | .error _ => ⟨#[]⟩ := by
  unfold signU sgnS
  rw [rest_at (Nat.le_of_lt h), rest_sub (Nat.le_of_lt h), rest_sub (Nat.le_of_lt h)]
  split
  · rfl
  · split <;> rfl
theorem refSignAt (s : ByteArray) (hs : s.size < 1000000) (i : Nat) (h : i < s.size) (S : Mem) :
    CallD Tryz.prog orc 91 [.str (s.extract i s.size)] S fun d S' => S' = S ∧ d = .str (match sgnS s i (s.data[i]'h) with | .ok (_, n, _) => sub s i n | .error _ => ⟨#[]⟩) := by
  have h0 : 0 < (s.extract i s.size).size := by rw [rest_size (Nat.le_of_lt h)]; omega
  have e : (s.extract i s.size).data[0]'h0 = s.data[i]'h := by
    have h1 := rest_at (Nat.le_of_lt h) 0
    have h2 : (s.extract i s.size).data[0]? = some ((s.extract i s.size).data[0]'h0) := Array.getElem?_eq_getElem h0
    have h3 : s.data[i + 0]? = some (s.data[i]'h) := Array.getElem?_eq_getElem h
    exact Option.some.inj (h2.symm.trans (h1.trans h3))
  have := refSign (orc := orc) (s.extract i s.size) h0 (by rw [rest_size (Nat.le_of_lt h)]; omega) S
  rw [e, signU_at h] at this
  exact this
theorem toks_ok {m n : Nat} {o : D} {cells : List D} (h : Wf o (.sl none 4 n cells)) (hl : LowL m cells) : Wk m (.tup [o, .int .i64 0, .int .i64 0]) (.tup [.sl none 4 n cells, .int .i64 0, .int .i64 0]) :=
  .tup rfl fun i h1 h2 => by
    match i, h1, h2 with
    | 0, _, _ => exact h.to_Wk (.sl' hl)
    | 1, _, _ => exact .of_low (.int _ _)
    | 2, _, _ => exact .of_low (.int _ _)
set_option maxHeartbeats 4000000 in
theorem refTokens (s : ByteArray) (hs : s.size < 1000000) (S : Mem) : CallD Tryz.prog orc 43 [.str s] S fun d S' => S' = S ∧ d = toksD (lexF s) := by
  refine CallD.e Tryz.func43 rfl Tryz.ntmps43 (by rfl) ?_
  by_cases h24 : 1024 < s.size
  · have d0 : decide (1024 < (s.size : Int)) = true := by rw [decide_eq_true_iff]; omega
    rw [lexF, if_pos h24]
    repeat' (first|refine Go.a rfl ?_|refine Go.rg ?_|refine GoR.nil ?_|refine Go.ret ?_|refine Go.b rfl ?_|(refine GoR.o (by rfl) (by rfl) ?_;(conv => arg 1;simp only [G,Z,Y,Gx,un_neg,cutD,decide_true,decide_false,simprocAttr,fb2,fb3,fb5,fb9,fb86,fb138,d0]);show GoR ..)|refine GoR.s (by rfl) rfl rfl ?_|(refine GoR.splitG rfl (fun hc => ?_) (fun hc => ?_) <;> simp only [hc])|refine Go.condB rfl (fun hc => ?_) (fun hc => ?_))
    refine ⟨(by first | exact .inl rfl | exact .inr rfl), fin ?_⟩
    rw [resD_three (fn := Tryz.f43) rfl]
    simp only [optThen_some,resultD_tmp,resultD_cell,G,Z,Y,Gx,un_neg,cutD,decide_true,decide_false,simprocAttr,fb2,fb3,fb5,fb9,fb86,fb138]
    exact ⟨_, [], by simp, toks_err, rfl⟩
  have d0 : decide (1024 < (s.size : Int)) = false := by rw [decide_eq_false_iff_not]; omega
  rw [lexF, if_neg h24]
  repeat' (first|refine Go.a rfl ?_|refine Go.rg ?_|refine GoR.nil ?_|refine Go.ret ?_|refine Go.b rfl ?_|(refine GoR.o (by rfl) (by rfl) ?_;(conv => arg 1;simp only [G,Z,Y,Gx,un_neg,cutD,decide_true,decide_false,simprocAttr,fb2,fb3,fb5,fb9,fb86,fb138,d0]);show GoR ..)|refine GoR.s (by rfl) rfl rfl ?_|(refine GoR.splitG rfl (fun hc => ?_) (fun hc => ?_) <;> simp only [hc])|refine Go.condB rfl (fun hc => ?_) (fun hc => ?_))
  refine Go.keep [(0, .str s), (5, .nils), (6, .int .i64 ((0 : Nat) : Int))] (.cons .refl (.cons .refl (.cons .refl (.nil)))) ?_
  refine Go.while (α := Nat × List Tok × D × Mem) (fun x => s.size - x.1) (fun x => [(0, .str s), (5, x.2.2.1), (6, .int .i64 (x.1 : Int))]) (fun x => x.2.2.2)
    (fun x => x.1 ≤ s.size ∧ lexS s.data.toList 0 = (lexS (s.data.toList.drop x.1) x.1).map (x.2.1 ++ ·) ∧ x.2.1.length ≤ x.1 ∧ AccD S.length x.2.2.1 4 x.2.1.length (toksC x.2.1) x.2.2.2 ∧ Grown S.length S x.2.2.2) ?_
    (0, [], .nils, S) ⟨Nat.zero_le _, by simp only [List.drop_zero, List.nil_append]; cases lexS s.data.toList 0 <;> rfl, Nat.zero_le _, .inl ⟨rfl, rfl, rfl⟩, .refl⟩
  rintro ⟨i, acc, o, S1⟩ ⟨hi, hlex, hlen, hacc, hg⟩ next
  dsimp only at hi hlex hlen hacc hg next
  by_cases h1 : i < s.size
  · have d1 : decide ((i : Int) < (s.size : Int)) = true := by rw [decide_eq_true_iff]; omega
    have hix := fun {k : IntKind} {S : Mem} => indexStr_cast (s := s) (n := i) (k := k) (S := S) h1
    by_cases hb : s.data[i]'h1 = 32
    · have d2 : (((s.data[i]'h1).toNat : Int) == 32) = true := by rw [hb]; rfl
      repeat' (first|refine Go.a rfl ?_|refine Go.rg ?_|refine GoR.nil ?_|refine Go.ret ?_|refine Go.b rfl ?_|(refine GoR.o (by rfl) (by rfl) ?_;(conv => arg 1;simp only [G,Z,Y,Gx,un_neg,cutD,decide_true,decide_false,simprocAttr,fb2,fb3,fb5,fb9,fb86,fb138,d1, d2, hix, wrap_succ (show i < 4611686018427387904 by omega)]);show GoR ..)|refine GoR.s (by rfl) rfl rfl ?_|(refine GoR.splitG rfl (fun hc => ?_) (fun hc => ?_) <;> simp only [hc])|refine Go.condB rfl (fun hc => ?_) (fun hc => ?_))
      refine Go.lpN ?_
      refine Go.keep [(0, .str s), (5, o), (6, .int .i64 ((i + 1 : Nat) : Int))] (.cons .refl (.cons .refl (.cons .refl (.nil)))) ?_
      refine next (i + 1, acc, o, S1) (by dsimp only; omega) ⟨h1, ?_, by dsimp only; omega, hacc, hg⟩
      dsimp only
      rw [hlex, lexBlank_step h1 hb]
    have d2 : (((s.data[i]'h1).toNat : Int) == 32) = false := by
      rw [beq_eq_false_iff_ne]
      intro e
      exact hb (UInt8.toNat_inj.1 (show _ = (32 : UInt8).toNat by simp; omega))
    have herr := fun {e : Int} => lexErr_step (e := e) h1 hb
    have hok := fun {k : Int} {n v : Nat} => lexOk_step (k := k) (n := n) (v := v) h1 hb
    have happ := fun (T : Tok) => (hacc.app [.own]).append (P := Tryz.prog) del86 (own := some S1.length) (m := 1) (new := Tok.c T) (by simp; have := hg.len; omega) (by omega) ⟨by omega, by omega, by omega, rfl⟩
    have hnext : ∀ (k : Int) (n v : Nat) (o' : D) (S2 : Mem), lexOne (s.data.toList.drop i) = .ok (k, n, v) → AccD S.length o' 4 (acc.length + 1) (toksC acc ++ Tok.c ⟨k, sub s i n, v, i⟩) S2 → Grown S.length (S1 ++ [.own]) S2 →
        Go Tryz.prog orc S.length 142 (.lp _ :: _) .normal (envL [(0, .str s), (5, o'), (6, .int .i64 ((i + n : Nat) : Int))]) S2 _ := fun k n v o' S2 h hacc2 hg2 => by
      obtain ⟨e1, e2, e3⟩ := hok h
      refine next (i + n, acc ++ [⟨k, sub s i n, v, i⟩], o', S2) (by dsimp only; omega) ⟨e3, ?_, by dsimp only; rw [List.length_append]; simp; omega, ?_, hg.trans (Grown.app.trans hg2)⟩
      · dsimp only
        rw [hlex, e1, map_map]
        simp
      · dsimp only
        rw [List.length_append, toksC, List.flatMap_append]
        simpa [toksC] using hacc2
    clear next
    obtain ⟨E, hE⟩ := hg.pre [] S rfl (by simp)
    have hone := lexOne_at h1
    have hl := refLetter (orc := orc) (s.data[i]'h1)
    have hd := refDigit (orc := orc) (s.data[i]'h1)
    have ho1 := hacc.one
    have hdl : dgtB (s.data[i]'h1) = true → letB (s.data[i]'h1) = false := fun h => by
      simp only [dgtB, letB, Bool.and_eq_true, decide_eq_true_eq, Bool.and_eq_false_iff, decide_eq_false_iff_not] at h ⊢
      omega
    cases hL : letB (s.data[i]'h1) with
    | true =>
      rw [hL, if_pos rfl] at hone
      rw [hL] at hl
      have hle := tw_le (p := lodB) (Nat.le_of_lt h1)
      repeat' (first|refine Go.a rfl ?_|refine Go.rg ?_|refine GoR.nil ?_|refine Go.ret ?_|refine Go.b rfl ?_|(refine GoR.o (by rfl) (by rfl) ?_;(conv => arg 1;simp only [G,Z,Y,Gx,un_neg,cutD,decide_true,decide_false,simprocAttr,fb2,fb3,fb5,fb9,fb86,fb138,d1, d2, hix]);show GoR ..)|(refine GoR.c c88 (by rfl) (by rfl) rfl ?_;(refine (hl _).ret ?_))|refine GoR.s (by rfl) rfl rfl ?_|(refine GoR.splitG rfl (fun hc => ?_) (fun hc => ?_) <;> simp only [hc])|refine Go.condB rfl (fun hc => ?_) (fun hc => ?_))
      refine Go.keep [(0, .str s), (5, o), (6, .int .i64 (i : Int)), (7, .int .i64 (i : Int))] (.cons .refl (.cons .refl (.cons .refl (.cons .refl (.nil))))) ?_
      refine Go.while (α := Nat) (fun k => s.size - k) (fun k => [(0, .str s), (5, o), (6, .int .i64 (i : Int)), (7, .int .i64 (k : Int))]) (fun _ => S1) (fun k => k ≤ s.size ∧ i + tw lodB s i = k + tw lodB s k) ?_ i ⟨hi, rfl⟩
      rintro k ⟨hk, hkt⟩ next2
      by_cases hgo : ∃ h : k < s.size, lodB (s.data[k]'h) = true
      · obtain ⟨hk1, hp⟩ := hgo
        have e1 : decide ((k : Int) < (s.size : Int)) = true := by rw [decide_eq_true_iff]; omega
        have hlk := refLetter (orc := orc) (s.data[k]'hk1)
        have hdk := refDigit (orc := orc) (s.data[k]'hk1)
        have hixk := fun {k' : IntKind} {S : Mem} => indexStr_cast (s := s) (n := k) (k := k') (S := S) hk1
        have hhit := tw_hit hk1 hp
        simp only [lodB, Bool.or_eq_true] at hp
        cases hlet : letB (s.data[k]'hk1) with
        | true =>
          rw [hlet] at hlk
          repeat' (first|refine Go.a rfl ?_|refine Go.rg ?_|refine GoR.nil ?_|refine Go.ret ?_|refine Go.b rfl ?_|(refine GoR.o (by rfl) (by rfl) ?_;(conv => arg 1;simp only [G,Z,Y,Gx,un_neg,cutD,decide_true,decide_false,simprocAttr,fb2,fb3,fb5,fb9,fb86,fb138,e1, hixk, wrap_succ (show k < 4611686018427387904 by omega)]);show GoR ..)|(refine GoR.c c88 (by rfl) (by rfl) rfl ?_;(refine (hlk _).ret ?_))|refine GoR.s (by rfl) rfl rfl ?_|(refine GoR.splitG rfl (fun hc => ?_) (fun hc => ?_) <;> simp only [hc])|refine Go.condB rfl (fun hc => ?_) (fun hc => ?_))
          refine Go.lpN ?_
          refine Go.keep [(0, .str s), (5, o), (6, .int .i64 (i : Int)), (7, .int .i64 ((k + 1 : Nat) : Int))] (.cons .refl (.cons .refl (.cons .refl (.cons .refl (.nil))))) ?_
          exact next2 (k + 1) (by omega) ⟨hk1, by omega⟩
        | false =>
          rw [hlet] at hlk hp
          rw [show dgtB (s.data[k]'hk1) = true by simpa using hp] at hdk
          repeat' (first|refine Go.a rfl ?_|refine Go.rg ?_|refine GoR.nil ?_|refine Go.ret ?_|refine Go.b rfl ?_|(refine GoR.o (by rfl) (by rfl) ?_;(conv => arg 1;simp only [G,Z,Y,Gx,un_neg,cutD,decide_true,decide_false,simprocAttr,fb2,fb3,fb5,fb9,fb86,fb138,e1, hixk, wrap_succ (show k < 4611686018427387904 by omega)]);show GoR ..)|(refine GoR.c c88 (by rfl) (by rfl) rfl ?_;(refine (hlk _).ret ?_))|(refine GoR.c c89 (by rfl) (by rfl) rfl ?_;(refine (hdk _).ret ?_))|refine GoR.s (by rfl) rfl rfl ?_|(refine GoR.splitG rfl (fun hc => ?_) (fun hc => ?_) <;> simp only [hc])|refine Go.condB rfl (fun hc => ?_) (fun hc => ?_))
          refine Go.lpN ?_
          refine Go.keep [(0, .str s), (5, o), (6, .int .i64 (i : Int)), (7, .int .i64 ((k + 1 : Nat) : Int))] (.cons .refl (.cons .refl (.cons .refl (.cons .refl (.nil))))) ?_
          exact next2 (k + 1) (by omega) ⟨hk1, by omega⟩
      · clear next2
        have hstop : decide ((k : Int) < (s.size : Int)) = false ∨ ∃ h : k < s.size, decide ((k : Int) < (s.size : Int)) = true ∧ letB (s.data[k]'h) = false ∧ dgtB (s.data[k]'h) = false := by
          by_cases h : k < s.size
          · refine .inr ⟨h, by rw [decide_eq_true_iff]; omega, ?_⟩
            have hn : ¬ lodB (s.data[k]'h) = true := fun hp => hgo ⟨h, hp⟩
            simpa [lodB] using hn
          · exact .inl (by rw [decide_eq_false_iff_not]; omega)
        have hz : tw lodB s k = 0 := by
          by_cases h : k < s.size
          · exact tw_miss h (by cases hp : lodB (s.data[k]'h) with | true => exact (hgo ⟨h, hp⟩).elim | false => rfl)
          · exact tw_end (by omega)
        clear hgo
        generalize hw : tw lodB s i = w at *
        obtain rfl : k = i + w := by omega
        have e2 : IntKind.i64.wrap (((i + w : Nat) : Int) - (i : Int)) = (w : Int) := by rw [wrap64 (by omega) (by omega)]; omega
        have e3 : s.extract i (i + w) = sub s i w := by rw [extract_eq (by omega)]; congr 1; omega
        have c1 : (i ≤ i + w ∧ i + w ≤ s.size) = True := by simp; omega
        rcases hstop with f1 | ⟨hk1, f1, f2, f3⟩
        all_goals first | have hixk := fun {k' : IntKind} {S : Mem} => indexStr_cast (s := s) (n := i + w) (k := k') (S := S) hk1 | have hixk := f1
        all_goals first | have hlk := refLetter (orc := orc) (s.data[i + w]'hk1) | have hlk := f1
        all_goals first | rw [f2] at hlk | skip
        all_goals first | have hdk := refDigit (orc := orc) (s.data[i + w]'hk1) | have hdk := f1
        all_goals first | rw [f3] at hdk | skip
        all_goals
          by_cases h8 : 8 < w
          · have d8 : decide (8 < (w : Int)) = true := by rw [decide_eq_true_iff]; omega
            rw [if_pos h8] at hone
            rw [hlex, herr hone]
            repeat' (first|refine Go.a rfl ?_|refine Go.rg ?_|refine GoR.nil ?_|refine Go.ret ?_|refine Go.b rfl ?_|(refine GoR.o (by rfl) (by rfl) ?_;(conv => arg 1;simp only [G,Z,Y,Gx,un_neg,cutD,decide_true,decide_false,simprocAttr,fb2,fb3,fb5,fb9,fb86,fb138,f1, hixk, e2, d8]);show GoR ..)|(refine GoR.c c88 (by rfl) (by rfl) rfl ?_;(refine (hlk _).ret ?_))|(refine GoR.c c89 (by rfl) (by rfl) rfl ?_;(refine (hdk _).ret ?_))|refine GoR.s (by rfl) rfl rfl ?_|(refine GoR.splitG rfl (fun hc => ?_) (fun hc => ?_) <;> simp only [hc])|refine Go.condB rfl (fun hc => ?_) (fun hc => ?_))
            refine ⟨(by first | exact .inl rfl | exact .inr rfl), fin ?_⟩
            rw [resD_three (fn := Tryz.f43) rfl]
            simp only [optThen_some,resultD_tmp,resultD_cell,G,Z,Y,Gx,un_neg,cutD,decide_true,decide_false,simprocAttr,fb2,fb3,fb5,fb9,fb86,fb138]
            exact ⟨_, E, hE, toks_err, rfl⟩
          · have d8 : decide (8 < (w : Int)) = false := by rw [decide_eq_false_iff_not]; omega
            rw [if_neg h8] at hone
            obtain ⟨o', S2, hap, hacc2, hg2⟩ := happ ⟨1, sub s i w, 0, i⟩
            have hfin := hnext 1 w 0 o' S2 hone hacc2 hg2
            clear hnext happ
            generalize sub s i w = t at *
            simp only [Tok.c] at hap
            repeat' (first|refine Go.a rfl ?_|refine Go.rg ?_|refine GoR.nil ?_|refine Go.ret ?_|refine Go.b rfl ?_|(refine GoR.o (by rfl) (by rfl) ?_;(conv => arg 1;simp only [G,Z,Y,Gx,un_neg,cutD,decide_true,decide_false,simprocAttr,fb2,fb3,fb5,fb9,fb86,fb138,f1, hixk, e2, e3, c1, d8, natD_cast, Option.map_some, optNatD_some, Option.getD_some, ho1, hap, builtin_append]);show GoR ..)|(refine GoR.c c88 (by rfl) (by rfl) rfl ?_;(refine (hlk _).ret ?_))|(refine GoR.c c89 (by rfl) (by rfl) rfl ?_;(refine (hdk _).ret ?_))|refine GoR.s (by rfl) rfl rfl ?_|(refine GoR.splitG rfl (fun hc => ?_) (fun hc => ?_) <;> simp only [hc])|refine Go.condB rfl (fun hc => ?_) (fun hc => ?_))
            refine Go.lpN ?_
            refine Go.keep [(0, .str s), (5, o'), (6, .int .i64 ((i + w : Nat) : Int))] (.cons .refl (.cons .refl (.cons .refl (.nil)))) ?_
            exact hfin
    | false =>
      rw [hL, if_neg (by decide)] at hone
      rw [hL] at hl
      cases hD : dgtB (s.data[i]'h1) with
      | true =>
        rw [hD, if_pos rfl] at hone
        rw [hD] at hd
        have hle := tw_le (p := dgtB) (Nat.le_of_lt h1)
        have hpos : 0 < tw dgtB s i := by rw [tw_hit h1 hD]; omega
        have hsz := sub_size hle
        have htw := sub_tw dgtB s i
        have hall : ∀ b ∈ (sub s i (tw dgtB s i)).data.toList, dgtB b = true := by rw [htw]; exact takeWhile_all _
        have hfst : (sub s i (tw dgtB s i)).data[0]? = some (s.data[i]'h1) := by
          obtain ⟨m, hm⟩ : ∃ m, tw dgtB s i = m + 1 := ⟨tw dgtB s i - 1, by omega⟩
          rw [hm, sub, drop_at h1]
          rfl
        have h48 : (s.data[i]? = some 48) ↔ (((s.data[i]'h1).toNat : Int) == 48) = true := by
          rw [Array.getElem?_eq_getElem h1, Option.some.injEq, beq_iff_eq, ← UInt8.toNat_inj]
          show _ = 48 ↔ _
          omega
        unfold numS at hone
        rw [← htw] at hone
        repeat' (first|refine Go.a rfl ?_|refine Go.rg ?_|refine GoR.nil ?_|refine Go.ret ?_|refine Go.b rfl ?_|(refine GoR.o (by rfl) (by rfl) ?_;(conv => arg 1;simp only [G,Z,Y,Gx,un_neg,cutD,decide_true,decide_false,simprocAttr,fb2,fb3,fb5,fb9,fb86,fb138,d1, d2, hix]);show GoR ..)|(refine GoR.c c88 (by rfl) (by rfl) rfl ?_;(refine (hl _).ret ?_))|(refine GoR.c c89 (by rfl) (by rfl) rfl ?_;(refine (hd _).ret ?_))|refine GoR.s (by rfl) rfl rfl ?_|(refine GoR.splitG rfl (fun hc => ?_) (fun hc => ?_) <;> simp only [hc])|refine Go.condB rfl (fun hc => ?_) (fun hc => ?_))
        refine Go.keep [(0, .str s), (5, o), (6, .int .i64 (i : Int)), (7, .int .i64 (i : Int))] (.cons .refl (.cons .refl (.cons .refl (.cons .refl (.nil))))) ?_
        refine Go.while (α := Nat) (fun k => s.size - k) (fun k => [(0, .str s), (5, o), (6, .int .i64 (i : Int)), (7, .int .i64 (k : Int))]) (fun _ => S1) (fun k => k ≤ s.size ∧ i + tw dgtB s i = k + tw dgtB s k) ?_ i ⟨hi, rfl⟩
        rintro k ⟨hk, hkt⟩ next2
        by_cases hgo : ∃ h : k < s.size, dgtB (s.data[k]'h) = true
        · obtain ⟨hk1, hp⟩ := hgo
          have e1 : decide ((k : Int) < (s.size : Int)) = true := by rw [decide_eq_true_iff]; omega
          have hdk := refDigit (orc := orc) (s.data[k]'hk1)
          have hixk := fun {k' : IntKind} {S : Mem} => indexStr_cast (s := s) (n := k) (k := k') (S := S) hk1
          have hhit := tw_hit hk1 hp
          rw [hp] at hdk
          repeat' (first|refine Go.a rfl ?_|refine Go.rg ?_|refine GoR.nil ?_|refine Go.ret ?_|refine Go.b rfl ?_|(refine GoR.o (by rfl) (by rfl) ?_;(conv => arg 1;simp only [G,Z,Y,Gx,un_neg,cutD,decide_true,decide_false,simprocAttr,fb2,fb3,fb5,fb9,fb86,fb138,e1, hixk, wrap_succ (show k < 4611686018427387904 by omega)]);show GoR ..)|(refine GoR.c c89 (by rfl) (by rfl) rfl ?_;(refine (hdk _).ret ?_))|refine GoR.s (by rfl) rfl rfl ?_|(refine GoR.splitG rfl (fun hc => ?_) (fun hc => ?_) <;> simp only [hc])|refine Go.condB rfl (fun hc => ?_) (fun hc => ?_))
          refine Go.lpN ?_
          refine Go.keep [(0, .str s), (5, o), (6, .int .i64 (i : Int)), (7, .int .i64 ((k + 1 : Nat) : Int))] (.cons .refl (.cons .refl (.cons .refl (.cons .refl (.nil))))) ?_
          exact next2 (k + 1) (by omega) ⟨hk1, by omega⟩
        · clear next2
          have hstop : decide ((k : Int) < (s.size : Int)) = false ∧ s.data[k]? = none ∨ ∃ h : k < s.size, decide ((k : Int) < (s.size : Int)) = true ∧ dgtB (s.data[k]'h) = false ∧ s.data[k]? = some (s.data[k]'h) := by
            by_cases h : k < s.size
            · exact .inr ⟨h, by rw [decide_eq_true_iff]; omega, by cases hp : dgtB (s.data[k]'h) with | true => exact (hgo ⟨h, hp⟩).elim | false => rfl, Array.getElem?_eq_getElem h⟩
            · exact .inl ⟨by rw [decide_eq_false_iff_not]; omega, Array.getElem?_eq_none (by show s.data.size ≤ _; have : s.data.size = s.size := rfl; omega)⟩
          have hz : tw dgtB s k = 0 := by
            by_cases h : k < s.size
            · exact tw_miss h (by cases hp : dgtB (s.data[k]'h) with | true => exact (hgo ⟨h, hp⟩).elim | false => rfl)
            · exact tw_end (by omega)
          clear hgo
          generalize hw : tw dgtB s i = w at *
          obtain rfl : k = i + w := by omega
          have e2 : IntKind.i64.wrap (((i + w : Nat) : Int) - (i : Int)) = (w : Int) := by rw [wrap64 (by omega) (by omega)]; omega
          have e3 : s.extract i (i + w) = sub s i w := by rw [extract_eq (by omega)]; congr 1; omega
          have c1 : (i ≤ i + w ∧ i + w ≤ s.size) = True := by simp; omega
          have hnum : (1 < w → ¬ s.data[i]? = some 48) → ∀ S, CallD Tryz.prog orc 90 [.str (sub s i w)] S fun d S' => S' = S ∧ d = .tup [.int .i64 (if numV (sub s i w).data.toList < 9223372036854775808 then (numV (sub s i w).data.toList : Int) else 0), .bool (decide (numV (sub s i w).data.toList < 9223372036854775808))] := fun hz S =>
            refNumber (sub s i w) hall (by omega) (fun h => by rw [hfst, ← Array.getElem?_eq_getElem h1]; exact hz (by omega)) (by omega) S
          have happ := happ ⟨2, sub s i w, (numV (sub s i w).data.toList : Int), i⟩
          have hnext := hnext 2 w (numV (sub s i w).data.toList)
          generalize hv : numV (sub s i w).data.toList = v at *
          clear hfst hall htw hv
          generalize sub s i w = t at *
          simp only [Tok.c] at happ
          have hq : decide (1 < (w : Int)) = true ↔ 1 < w := by rw [decide_eq_true_iff]; omega
          by_cases hzz : decide (1 < (w : Int)) = true ∧ (((s.data[i]'h1).toNat : Int) == 48) = true
          · obtain ⟨q1, q2⟩ := hzz
            rw [if_pos (.inr ⟨hq.1 q1, h48.2 q2⟩)] at hone
            rw [hlex, herr hone]
            clear hnext happ hnum
            rcases hstop with ⟨f1, f2⟩ | ⟨hk1, f1, f2, f3⟩
            all_goals first | have hixk := fun {k' : IntKind} {S : Mem} => indexStr_cast (s := s) (n := i + w) (k := k') (S := S) hk1 | have hixk := f1
            all_goals first | have hdk := refDigit (orc := orc) (s.data[i + w]'hk1) | have hdk := f1
            all_goals first | rw [f2] at hdk | skip
            all_goals
              repeat' (first|refine Go.a rfl ?_|refine Go.rg ?_|refine GoR.nil ?_|refine Go.ret ?_|refine Go.b rfl ?_|(refine GoR.o (by rfl) (by rfl) ?_;(conv => arg 1;simp only [G,Z,Y,Gx,un_neg,cutD,decide_true,decide_false,simprocAttr,fb2,fb3,fb5,fb9,fb86,fb138,f1, hix, hixk, e2, q1, q2]);show GoR ..)|(refine GoR.c c89 (by rfl) (by rfl) rfl ?_;(refine (hdk _).ret ?_))|refine GoR.s (by rfl) rfl rfl ?_|(refine GoR.splitG rfl (fun hc => ?_) (fun hc => ?_) <;> simp only [hc])|refine Go.condB rfl (fun hc => ?_) (fun hc => ?_))
              refine ⟨(by first | exact .inl rfl | exact .inr rfl), fin ?_⟩
              rw [resD_three (fn := Tryz.f43) rfl]
              simp only [optThen_some,resultD_tmp,resultD_cell,G,Z,Y,Gx,un_neg,cutD,decide_true,decide_false,simprocAttr,fb2,fb3,fb5,fb9,fb86,fb138]
              exact ⟨_, E, hE, toks_err, rfl⟩
          · have hqz : (decide (1 < (w : Int)) = false ∨ (decide (1 < (w : Int)) = true ∧ (((s.data[i]'h1).toNat : Int) == 48) = false)) := by
              cases q1 : decide (1 < (w : Int)) with
              | false => exact .inl rfl
              | true => exact .inr ⟨rfl, by cases q2 : (((s.data[i]'h1).toNat : Int) == 48) with | true => exact (hzz ⟨q1, q2⟩).elim | false => rfl⟩
            have hn48 : ¬ (1 < w ∧ s.data[i]? = some 48) := fun h => hzz ⟨hq.2 h.1, h48.1 h.2⟩
            have hnum := hnum fun h h' => hn48 ⟨h, h'⟩
            by_cases hlet : (s.data[i + w]?).any letB = true
            · rw [if_pos (.inl hlet)] at hone
              rw [hlex, herr hone]
              clear hnext happ hnum
              rcases hstop with ⟨f1, f2⟩ | ⟨hk1, f1, f2, f3⟩
              · rw [f2] at hlet; cases hlet
              · have hixk := fun {k' : IntKind} {S : Mem} => indexStr_cast (s := s) (n := i + w) (k := k') (S := S) hk1
                have hdk := refDigit (orc := orc) (s.data[i + w]'hk1)
                rw [f2] at hdk
                have hlk := refLetter (orc := orc) (s.data[i + w]'hk1)
                rw [f3] at hlet
                rw [show letB (s.data[i + w]'hk1) = true from hlet] at hlk
                rcases hqz with q1 | ⟨q1, q2⟩
                · repeat' (first|refine Go.a rfl ?_|refine Go.rg ?_|refine GoR.nil ?_|refine Go.ret ?_|refine Go.b rfl ?_|(refine GoR.o (by rfl) (by rfl) ?_;(conv => arg 1;simp only [G,Z,Y,Gx,un_neg,cutD,decide_true,decide_false,simprocAttr,fb2,fb3,fb5,fb9,fb86,fb138,f1, hix, hixk, e2, q1]);show GoR ..)|(refine GoR.c c89 (by rfl) (by rfl) rfl ?_;(refine (hdk _).ret ?_))|(refine GoR.c c88 (by rfl) (by rfl) rfl ?_;(refine (hlk _).ret ?_))|refine GoR.s (by rfl) rfl rfl ?_|(refine GoR.splitG rfl (fun hc => ?_) (fun hc => ?_) <;> simp only [hc])|refine Go.condB rfl (fun hc => ?_) (fun hc => ?_))
                  refine ⟨(by first | exact .inl rfl | exact .inr rfl), fin ?_⟩
                  rw [resD_three (fn := Tryz.f43) rfl]
                  simp only [optThen_some,resultD_tmp,resultD_cell,G,Z,Y,Gx,un_neg,cutD,decide_true,decide_false,simprocAttr,fb2,fb3,fb5,fb9,fb86,fb138]
                  exact ⟨_, E, hE, toks_err, rfl⟩
                · repeat' (first|refine Go.a rfl ?_|refine Go.rg ?_|refine GoR.nil ?_|refine Go.ret ?_|refine Go.b rfl ?_|(refine GoR.o (by rfl) (by rfl) ?_;(conv => arg 1;simp only [G,Z,Y,Gx,un_neg,cutD,decide_true,decide_false,simprocAttr,fb2,fb3,fb5,fb9,fb86,fb138,f1, hix, hixk, e2, q1, q2]);show GoR ..)|(refine GoR.c c89 (by rfl) (by rfl) rfl ?_;(refine (hdk _).ret ?_))|(refine GoR.c c88 (by rfl) (by rfl) rfl ?_;(refine (hlk _).ret ?_))|refine GoR.s (by rfl) rfl rfl ?_|(refine GoR.splitG rfl (fun hc => ?_) (fun hc => ?_) <;> simp only [hc])|refine Go.condB rfl (fun hc => ?_) (fun hc => ?_))
                  refine ⟨(by first | exact .inl rfl | exact .inr rfl), fin ?_⟩
                  rw [resD_three (fn := Tryz.f43) rfl]
                  simp only [optThen_some,resultD_tmp,resultD_cell,G,Z,Y,Gx,un_neg,cutD,decide_true,decide_false,simprocAttr,fb2,fb3,fb5,fb9,fb86,fb138]
                  exact ⟨_, E, hE, toks_err, rfl⟩
            · rw [if_neg (fun h => h.elim hlet hn48)] at hone
              have hstop2 : decide (((i + w : Nat) : Int) < (s.size : Int)) = false ∨ ∃ h : i + w < s.size, decide (((i + w : Nat) : Int) < (s.size : Int)) = true ∧ dgtB (s.data[i + w]'h) = false ∧ letB (s.data[i + w]'h) = false := by
                rcases hstop with ⟨f1, f2⟩ | ⟨hk1, f1, f2, f3⟩
                · exact .inl f1
                · refine .inr ⟨hk1, f1, f2, ?_⟩
                  rw [f3] at hlet
                  cases h : letB (s.data[i + w]'hk1) with
                  | true => exact (hlet h).elim
                  | false => rfl
              clear hstop hlet hn48 hzz h48
              by_cases hv : v < 9223372036854775808
              · rw [if_pos hv] at hone hnum
                rw [decide_eq_true hv] at hnum
                obtain ⟨o', S2, hap, hacc2, hg2⟩ := happ
                have hfin := hnext o' S2 hone hacc2 hg2
                clear hnext
                rcases hstop2 with f1 | ⟨hk1, f1, f2, f3⟩
                all_goals first | have hixk := fun {k' : IntKind} {S : Mem} => indexStr_cast (s := s) (n := i + w) (k := k') (S := S) hk1 | have hixk := f1
                all_goals first | have hdk := refDigit (orc := orc) (s.data[i + w]'hk1) | have hdk := f1
                all_goals first | rw [f2] at hdk | skip
                all_goals first | have hlk := refLetter (orc := orc) (s.data[i + w]'hk1) | have hlk := f1
                all_goals first | rw [f3] at hlk | skip
                all_goals
                  rcases hqz with q1 | ⟨q1, q2⟩
                  all_goals first | have q3 := q2 | have q3 := q1
                  all_goals
                    repeat' (first|refine Go.a rfl ?_|refine Go.rg ?_|refine GoR.nil ?_|refine Go.ret ?_|refine Go.b rfl ?_|(refine GoR.o (by rfl) (by rfl) ?_;(conv => arg 1;simp only [G,Z,Y,Gx,un_neg,cutD,decide_true,decide_false,simprocAttr,fb2,fb3,fb5,fb9,fb86,fb138,f1, hix, hixk, e2, e3, c1, q1, q3, natD_cast, Option.map_some, optNatD_some, Option.getD_some, ho1, hap, builtin_append]);show GoR ..)|(refine GoR.c c89 (by rfl) (by rfl) rfl ?_;(refine (hdk _).ret ?_))|(refine GoR.c c88 (by rfl) (by rfl) rfl ?_;(refine (hlk _).ret ?_))|(refine GoR.c c90 (by rfl) (by rfl) rfl ?_;(refine (hnum _).ret ?_))|refine GoR.s (by rfl) rfl rfl ?_|(refine GoR.splitG rfl (fun hc => ?_) (fun hc => ?_) <;> simp only [hc])|refine Go.condB rfl (fun hc => ?_) (fun hc => ?_))
                    refine Go.lpN ?_
                    refine Go.keep [(0, .str s), (5, o'), (6, .int .i64 ((i + w : Nat) : Int))] (.cons .refl (.cons .refl (.cons .refl (.nil)))) ?_
                    exact hfin
              · rw [if_neg hv] at hone hnum
                rw [decide_eq_false hv] at hnum
                rw [hlex, herr hone]
                clear hnext happ
                rcases hstop2 with f1 | ⟨hk1, f1, f2, f3⟩
                all_goals first | have hixk := fun {k' : IntKind} {S : Mem} => indexStr_cast (s := s) (n := i + w) (k := k') (S := S) hk1 | have hixk := f1
                all_goals first | have hdk := refDigit (orc := orc) (s.data[i + w]'hk1) | have hdk := f1
                all_goals first | rw [f2] at hdk | skip
                all_goals first | have hlk := refLetter (orc := orc) (s.data[i + w]'hk1) | have hlk := f1
                all_goals first | rw [f3] at hlk | skip
                all_goals
                  rcases hqz with q1 | ⟨q1, q2⟩
                  all_goals first | have q3 := q2 | have q3 := q1
                  all_goals
                    repeat' (first|refine Go.a rfl ?_|refine Go.rg ?_|refine GoR.nil ?_|refine Go.ret ?_|refine Go.b rfl ?_|(refine GoR.o (by rfl) (by rfl) ?_;(conv => arg 1;simp only [G,Z,Y,Gx,un_neg,cutD,decide_true,decide_false,simprocAttr,fb2,fb3,fb5,fb9,fb86,fb138,f1, hix, hixk, e2, e3, c1, q1, q3, natD_cast, Option.map_some, optNatD_some, Option.getD_some]);show GoR ..)|(refine GoR.c c89 (by rfl) (by rfl) rfl ?_;(refine (hdk _).ret ?_))|(refine GoR.c c88 (by rfl) (by rfl) rfl ?_;(refine (hlk _).ret ?_))|(refine GoR.c c90 (by rfl) (by rfl) rfl ?_;(refine (hnum _).ret ?_))|refine GoR.s (by rfl) rfl rfl ?_|(refine GoR.splitG rfl (fun hc => ?_) (fun hc => ?_) <;> simp only [hc])|refine Go.condB rfl (fun hc => ?_) (fun hc => ?_))
                    refine ⟨(by first | exact .inl rfl | exact .inr rfl), fin ?_⟩
                    rw [resD_three (fn := Tryz.f43) rfl]
                    simp only [optThen_some,resultD_tmp,resultD_cell,G,Z,Y,Gx,un_neg,cutD,decide_true,decide_false,simprocAttr,fb2,fb3,fb5,fb9,fb86,fb138]
                    exact ⟨_, E, hE, toks_err, rfl⟩
      | false =>
        rw [hD, if_neg (by decide)] at hone
        rw [hD] at hd
        have hsgn := refSignAt (orc := orc) s hs i h1
        have e3 : (i ≤ s.size ∧ s.size ≤ s.size) = True := by simp; omega
        have c3 : (i ≤ s.size) = True := by simp; omega
        have hempty : decide ((⟨#[]⟩ : ByteArray) = ⟨#[]⟩) = true := by simp
        cases hx : sgnS s i (s.data[i]'h1) with
        | error e =>
          rw [hx] at hsgn hone
          have he : e = 2 := by
            unfold sgnS at hx
            repeat' split at hx
            all_goals cases hx
            rfl
          subst he
          rw [hlex, herr hone]
          clear hnext happ
          simp only at hsgn
          repeat' (first|refine Go.a rfl ?_|refine Go.rg ?_|refine GoR.nil ?_|refine Go.ret ?_|refine Go.b rfl ?_|(refine GoR.o (by rfl) (by rfl) ?_;(conv => arg 1;simp only [G,Z,Y,Gx,un_neg,cutD,decide_true,decide_false,simprocAttr,fb2,fb3,fb5,fb9,fb86,fb138,d1, d2, hix, c3, Nat.le_refl, and_self, natD_cast, Option.map_some, optNatD_some, Option.getD_some, hempty]);show GoR ..)|(refine GoR.c c88 (by rfl) (by rfl) rfl ?_;(refine (hl _).ret ?_))|(refine GoR.c c89 (by rfl) (by rfl) rfl ?_;(refine (hd _).ret ?_))|(refine GoR.c c91 (by rfl) (by rfl) rfl ?_;(refine (hsgn _).ret ?_))|refine GoR.s (by rfl) rfl rfl ?_|(refine GoR.splitG rfl (fun hc => ?_) (fun hc => ?_) <;> simp only [hc])|refine Go.condB rfl (fun hc => ?_) (fun hc => ?_))
          refine ⟨(by first | exact .inl rfl | exact .inr rfl), fin ?_⟩
          rw [resD_three (fn := Tryz.f43) rfl]
          simp only [optThen_some,resultD_tmp,resultD_cell,G,Z,Y,Gx,un_neg,cutD,decide_true,decide_false,simprocAttr,fb2,fb3,fb5,fb9,fb86,fb138]
          exact ⟨_, E, hE, toks_err, rfl⟩
        | ok x =>
          obtain ⟨kk, n, v⟩ := x
          rw [hx] at hsgn hone
          obtain ⟨_, n1, n2⟩ := hok hone
          obtain ⟨rfl, rfl⟩ : kk = 3 ∧ v = 0 := by
            unfold sgnS at hx
            repeat' split at hx
            all_goals cases hx
            all_goals exact ⟨rfl, rfl⟩
          have hsz := sub_size n2
          obtain ⟨o', S2, hap, hacc2, hg2⟩ := happ ⟨3, sub s i n, 0, i⟩
          have hfin := hnext 3 n 0 o' S2 hone hacc2 hg2
          clear hnext happ
          have hne : decide (sub s i n = (⟨#[]⟩ : ByteArray)) = false := by
            rw [decide_eq_false_iff_not]
            intro h
            rw [h] at hsz
            have : (⟨#[]⟩ : ByteArray).size = 0 := rfl
            omega
          have hszI : ((sub s i n).size : Int) = (n : Int) := by rw [hsz]
          have wn := bin_add (i := i) (j := n) (P := Tryz.prog) (t := 0) (x := .tmp 0) (y := .tmp 0) (by omega)
          simp only at hsgn
          generalize sub s i n = t at *
          simp only [Tok.c] at hap
          repeat' (first|refine Go.a rfl ?_|refine Go.rg ?_|refine GoR.nil ?_|refine Go.ret ?_|refine Go.b rfl ?_|(refine GoR.o (by rfl) (by rfl) ?_;(conv => arg 1;simp only [G,Z,Y,Gx,un_neg,cutD,decide_true,decide_false,simprocAttr,fb2,fb3,fb5,fb9,fb86,fb138,d1, d2, hix, c3, Nat.le_refl, and_self, natD_cast, Option.map_some, optNatD_some, Option.getD_some, hne, hszI, wn, ho1, hap, builtin_append]);show GoR ..)|(refine GoR.c c88 (by rfl) (by rfl) rfl ?_;(refine (hl _).ret ?_))|(refine GoR.c c89 (by rfl) (by rfl) rfl ?_;(refine (hd _).ret ?_))|(refine GoR.c c91 (by rfl) (by rfl) rfl ?_;(refine (hsgn _).ret ?_))|refine GoR.s (by rfl) rfl rfl ?_|(refine GoR.splitG rfl (fun hc => ?_) (fun hc => ?_) <;> simp only [hc])|refine Go.condB rfl (fun hc => ?_) (fun hc => ?_))
          refine Go.lpN ?_
          refine Go.keep [(0, .str s), (5, o'), (6, .int .i64 ((i + n : Nat) : Int))] (.cons .refl (.cons .refl (.cons .refl (.nil)))) ?_
          exact hfin
  · have d1 : decide ((i : Int) < (s.size : Int)) = false := by rw [decide_eq_false_iff_not]; omega
    clear next
    have hend : lexS (s.data.toList.drop i) i = .ok [] := by rw [List.drop_of_length_le (by simp; omega)]; rfl
    rw [hlex, hend]
    obtain ⟨E, hE⟩ := hg.pre [] S rfl (by simp)
    repeat' (first|refine Go.a rfl ?_|refine Go.rg ?_|refine GoR.nil ?_|refine Go.ret ?_|refine Go.b rfl ?_|(refine GoR.o (by rfl) (by rfl) ?_;(conv => arg 1;simp only [G,Z,Y,Gx,un_neg,cutD,decide_true,decide_false,simprocAttr,fb2,fb3,fb5,fb9,fb86,fb138,d1]);show GoR ..)|refine GoR.s (by rfl) rfl rfl ?_|(refine GoR.splitG rfl (fun hc => ?_) (fun hc => ?_) <;> simp only [hc])|refine Go.condB rfl (fun hc => ?_) (fun hc => ?_))
    refine ⟨(by first | exact .inl rfl | exact .inr rfl), fin ?_⟩
    rw [resD_three (fn := Tryz.f43) rfl]
    simp only [optThen_some,resultD_tmp,resultD_cell,G,Z,Y,Gx,un_neg,cutD,decide_true,decide_false,simprocAttr,fb2,fb3,fb5,fb9,fb86,fb138]
    exact ⟨_, E, hE, toks_ok hacc.wf (toks_low _), by simp [toksD, Except.map]⟩
end Go.Proofs.DeT
