/- All words of a text, by the program; words as a text. -/
import Derived.Test.YtpdnaoahghfaoaaGreatDoorDeL4
set_option linter.unusedSimpArgs false
set_option linter.unusedVariables false
namespace Go.Proofs.DeT
open Go Go.DM
set_option maxRecDepth 100000

def toksC (l : List Tok) : List D := l.flatMap Tok.c
theorem tokc_len (t : Tok) : (Tok.c t).length = 4 := rfl
theorem toksC_length (l : List Tok) : (toksC l).length = l.length * 4 := flat_length tokc_len l
theorem toks_low {n : Nat} (l : List Tok) : LowL n (toksC l) := .of_mem (by
  intro x hx
  simp only [toksC, List.mem_flatMap] at hx
  obtain ⟨a, _, hx⟩ := hx
  obtain ⟨i, hi, rfl⟩ := List.mem_iff_getElem.1 hx
  exact (tok_low a).get i hi)
theorem toksAt {l : List Tok} {i : Nat} (h : i < l.length) :
    ((0 ≤ (i : Int) ∧ (i : Int) < (l.length : Int)) = True) ∧ ((i * 4 + 4 ≤ (toksC l).length) = True) ∧ ((toksC l).drop (i * 4)).take 4 = Tok.c l[i] ∧ (toksC l)[i * 4]? = some (.int .i64 l[i].k) ∧ (toksC l)[i * 4 + 1]? = some (.str l[i].t) ∧ (toksC l)[i * 4 + 2]? = some (.int .i64 l[i].n) ∧ (toksC l)[i * 4 + 3]? = some (.int .i64 (l[i].a : Int)) :=
  ⟨ix_ok h, flat_fits0 tokc_len l i h, flat_all tokc_len l i h, flat_cell0 tokc_len l i h (by omega), flat_cell tokc_len l i h (by omega), flat_cell tokc_len l i h (by omega), flat_cell tokc_len l i h (by omega)⟩
theorem toksC_succ {l : List Tok} {i : Nat} (h : i < l.length) : toksC (l.take (i + 1)) = toksC (l.take i) ++ Tok.c l[i] := flat_take_succ h

theorem clipNil (S : Mem) {orc : DOracle} : CallD Tryz.prog orc 130 [.nils] S fun d S' => S' = S ∧ d = .nils := by
  refine CallD.e Tryz.func130 rfl Tryz.ntmps130 (by rfl) ?_
  have c : sliceD Tryz.prog 90 .nils none (some (.int .i64 0)) (some (.int .i64 0)) = some .nils := by
    simp [sliceD, optNatD, natD, Tryz.underlying90, dsz148]
  repeat' (first|refine Go.a rfl ?_|refine Go.rg ?_|refine GoR.nil ?_|refine Go.ret ?_|refine Go.b rfl ?_|(refine GoR.o (by rfl) (by rfl) ?_;(conv => arg 1;simp only [G,Z,Y,Gx,un_neg,cutD,decide_true,decide_false,simprocAttr,fb90,c, Option.map_some, Option.map_none]);show GoR ..)|refine Go.condB rfl (fun hc => ?_) (fun hc => ?_))
  refine ⟨(by first | exact .inl rfl | exact .inr rfl), fin ?_⟩
  rw [resD_tmp (fn := Tryz.f130) rfl]
  simp only [optThen_some,resultD_tmp,resultD_cell,G,Z,Y,Gx,un_neg,cutD,decide_true,decide_false,simprocAttr,fb90]
  exact ⟨_, [], by simp, .of_low .nils, rfl⟩
theorem clip0 (S : Mem) {orc : DOracle} : CallD Tryz.prog orc 130 [.sl0] S fun d S' => S' = S ∧ d = .sl0 := by
  refine CallD.e Tryz.func130 rfl Tryz.ntmps130 (by rfl) ?_
  have c : sliceD Tryz.prog 90 .sl0 none (some (.int .i64 0)) (some (.int .i64 0)) = some .sl0 := by
    simp [sliceD, optNatD, natD, Tryz.underlying90, dsz148]
  repeat' (first|refine Go.a rfl ?_|refine Go.rg ?_|refine GoR.nil ?_|refine Go.ret ?_|refine Go.b rfl ?_|(refine GoR.o (by rfl) (by rfl) ?_;(conv => arg 1;simp only [G,Z,Y,Gx,un_neg,cutD,decide_true,decide_false,simprocAttr,fb90,c, Option.map_some, Option.map_none]);show GoR ..)|refine Go.condB rfl (fun hc => ?_) (fun hc => ?_))
  refine ⟨(by first | exact .inl rfl | exact .inr rfl), fin ?_⟩
  rw [resD_tmp (fn := Tryz.f130) rfl]
  simp only [optThen_some,resultD_tmp,resultD_cell,G,Z,Y,Gx,un_neg,cutD,decide_true,decide_false,simprocAttr,fb90]
  exact ⟨_, [], by simp, .of_low .sl0, rfl⟩
theorem clipZ (own : Option Nat) (cells : List D) (S : Mem) {orc : DOracle} : CallD Tryz.prog orc 130 [.sl own 4 0 cells] S fun d S' => S' = S ∧ d = .sl0 := by
  refine CallD.e Tryz.func130 rfl Tryz.ntmps130 (by rfl) ?_
  have c : sliceD Tryz.prog 90 (.sl own 4 0 cells) none (some (.int .i64 ((0 : Nat) : Int))) (some (.int .i64 ((0 : Nat) : Int))) = some .sl0 := by
    simp [sliceD, optNatD, natD, Tryz.underlying90, dsz148]
  repeat' (first|refine Go.a rfl ?_|refine Go.rg ?_|refine GoR.nil ?_|refine Go.ret ?_|refine Go.b rfl ?_|(refine GoR.o (by rfl) (by rfl) ?_;(conv => arg 1;simp only [G,Z,Y,Gx,un_neg,cutD,decide_true,decide_false,simprocAttr,fb90,c, Option.map_some, Option.map_none]);show GoR ..)|refine Go.condB rfl (fun hc => ?_) (fun hc => ?_))
  refine ⟨(by first | exact .inl rfl | exact .inr rfl), fin ?_⟩
  rw [resD_tmp (fn := Tryz.f130) rfl]
  simp only [optThen_some,resultD_tmp,resultD_cell,G,Z,Y,Gx,un_neg,cutD,decide_true,decide_false,simprocAttr,fb90]
  exact ⟨_, [], by simp, .of_low .sl0, rfl⟩
theorem clipToks (own : Option Nat) (n : Nat) (cells : List D) (hn : 0 < n) (hl : cells.length = n * 4) (S : Mem) (hlow : LowL S.length cells) {orc : DOracle} : CallD Tryz.prog orc 130 [.sl own 4 n cells] S fun d S' => S' = S ∧ d = .sl none 4 n cells := by
  refine CallD.e Tryz.func130 rfl Tryz.ntmps130 (by rfl) ?_
  have c : ∃ o', sliceD Tryz.prog 90 (.sl own 4 n cells) none (some (.int .i64 (n : Int))) (some (.int .i64 (n : Int))) = some (.sl o' 4 n cells) := by
    refine ⟨own, ?_⟩
    have hn0 : ¬ n = 0 := by omega
    simp [sliceD, optNatD, natD, Tryz.underlying90, dsz148, hn0]
    rw [List.take_of_length_le (by omega)]
  obtain ⟨o', c⟩ := c
  repeat' (first|refine Go.a rfl ?_|refine Go.rg ?_|refine GoR.nil ?_|refine Go.ret ?_|refine Go.b rfl ?_|(refine GoR.o (by rfl) (by rfl) ?_;(conv => arg 1;simp only [G,Z,Y,Gx,un_neg,cutD,decide_true,decide_false,simprocAttr,fb90,c, Option.map_some, Option.map_none]);show GoR ..)|refine Go.condB rfl (fun hc => ?_) (fun hc => ?_))
  refine ⟨(by first | exact .inl rfl | exact .inr rfl), fin ?_⟩
  rw [resD_tmp (fn := Tryz.f130) rfl]
  simp only [optThen_some,resultD_tmp,resultD_cell,G,Z,Y,Gx,un_neg,cutD,decide_true,decide_false,simprocAttr,fb90]
  exact ⟨_, [], by simp, .disown hlow.get, rfl⟩

/-- Words, as both tell them. -/
def toksD : Except (Nat × Int) (List Tok) → D
  | .error (a, e) => .tup [.sl none 4 0 [], .int .i64 (a : Int), .int .i64 e]
  | .ok ts => .tup [.sl none 4 ts.length (toksC ts), .int .i64 0, .int .i64 0]
def lexF (s : ByteArray) : Except (Nat × Int) (List Tok) := if 1024 < s.size then .error (0, 4) else lexS s.data.toList 0
theorem map_map {α : Type} (x : Except (Nat × Int) (List α)) (f g : List α → List α) : (x.map f).map g = x.map (fun l => g (f l)) := by cases x <;> rfl
theorem toks_err {n : Nat} {a e : Int} : Wk n (.tup [.nils, .int .i64 a, .int .i64 e]) (.tup [.sl none 4 0 [], .int .i64 a, .int .i64 e]) :=
  .tup rfl fun i h h' => by
    match i, h, h' with
    | 0, _, _ => exact .nilE
    | 1, _, _ => exact .of_low (.int _ _)
    | 2, _, _ => exact .of_low (.int _ _)
theorem toks_err0 {n : Nat} {a e : Int} : Wk n (.tup [.sl0, .int .i64 a, .int .i64 e]) (.tup [.sl none 4 0 [], .int .i64 a, .int .i64 e]) :=
  .tup rfl fun i h h' => by
    match i, h, h' with
    | 0, _, _ => exact .sl0E
    | 1, _, _ => exact .of_low (.int _ _)
    | 2, _, _ => exact .of_low (.int _ _)
theorem lexOk_step {s : ByteArray} {i : Nat} (hi : i < s.size) (hb : s.data[i]'hi ≠ 32) {k : Int} {n v : Nat} (h : lexOne (s.data.toList.drop i) = .ok (k, n, v)) :
    lexS (s.data.toList.drop i) i = (lexS (s.data.toList.drop (i + n)) (i + n)).map (⟨k, sub s i n, v, i⟩ :: ·) ∧ 1 ≤ n ∧ i + n ≤ s.size := by
  have h1 := lexOne_ok h
  have e : s.data.toList.drop (i + n) = (s.data.toList.drop i).drop n := by rw [List.drop_drop]
  have hsub : sub s i n = ⟨((s.data.toList.drop i).take n).toArray⟩ := rfl
  refine ⟨?_, h1.1, ?_⟩
  · rw [e, hsub]
    rw [drop_at hi] at h ⊢
    exact lexS_tok hb h
  · have := h1.2.1
    rw [List.length_drop] at this
    have e : s.data.toList.length = s.size := by simp
    omega
theorem lexErr_step {s : ByteArray} {i : Nat} (hi : i < s.size) (hb : s.data[i]'hi ≠ 32) {e : Int} (h : lexOne (s.data.toList.drop i) = .error e) : lexS (s.data.toList.drop i) i = .error (i, e) := by
  rw [drop_at hi] at h ⊢
  exact lexS_err hb h
theorem lexBlank_step {s : ByteArray} {i : Nat} (hi : i < s.size) (hb : s.data[i]'hi = 32) : lexS (s.data.toList.drop i) i = lexS (s.data.toList.drop (i + 1)) (i + 1) := by
  rw [drop_at hi, hb, lexS_blank]

set_option maxHeartbeats 1000000 in
theorem lexTokens (s : ByteArray) (hs : s.size < 1000000) (S : Mem) : CallD Tryz.prog O 83 [.str s] S fun d S' => S' = S ∧ d = toksD (lexF s) := by
  refine CallD.e Tryz.func83 rfl Tryz.ntmps83 (by rfl) ?_
  by_cases h24 : 1024 < s.size
  · have d0 : decide (1024 < (s.size : Int)) = true := by rw [decide_eq_true_iff]; omega
    rw [lexF, if_pos h24]
    repeat' (first|refine Go.a rfl ?_|refine Go.rg ?_|refine GoR.nil ?_|refine Go.ret ?_|refine Go.b rfl ?_|(refine GoR.o (by rfl) (by rfl) ?_;(conv => arg 1;simp only [G,Z,Y,Gx,un_neg,cutD,decide_true,decide_false,simprocAttr,fb2,fb3,fb5,fb9,fb35,fb90,fb148,d0]);show GoR ..)|refine Go.condB rfl (fun hc => ?_) (fun hc => ?_))
    refine ⟨(by first | exact .inl rfl | exact .inr rfl), fin ?_⟩
    rw [resD_three (fn := Tryz.f83) rfl]
    simp only [optThen_some,resultD_tmp,resultD_cell,G,Z,Y,Gx,un_neg,cutD,decide_true,decide_false,simprocAttr,fb2,fb3,fb5,fb9,fb35,fb90,fb148]
    exact ⟨_, [], by simp, toks_err, rfl⟩
  have d0 : decide (1024 < (s.size : Int)) = false := by rw [decide_eq_false_iff_not]; omega
  rw [lexF, if_neg h24]
  repeat' (first|refine Go.a rfl ?_|refine Go.rg ?_|refine GoR.nil ?_|refine Go.ret ?_|refine Go.b rfl ?_|(refine GoR.o (by rfl) (by rfl) ?_;(conv => arg 1;simp only [G,Z,Y,Gx,un_neg,cutD,decide_true,decide_false,simprocAttr,fb2,fb3,fb5,fb9,fb35,fb90,fb148,d0]);show GoR ..)|refine Go.condB rfl (fun hc => ?_) (fun hc => ?_))
  refine Go.keep [(0, .str s), (5, .nils), (6, .int .i64 ((0 : Nat) : Int))] (.cons .refl (.cons .refl (.cons .refl (.nil)))) ?_
  refine Go.while (α := Nat × List Tok × D × Mem) (fun x => s.size - x.1) (fun x => [(0, .str s), (5, x.2.2.1), (6, .int .i64 (x.1 : Int))]) (fun x => x.2.2.2)
    (fun x => x.1 ≤ s.size ∧ lexS s.data.toList 0 = (lexS (s.data.toList.drop x.1) x.1).map (x.2.1 ++ ·) ∧ x.2.1.length ≤ x.1 ∧ AccD S.length x.2.2.1 4 x.2.1.length (toksC x.2.1) x.2.2.2 ∧ Grown S.length S x.2.2.2) ?_
    (0, [], .nils, S) ⟨Nat.zero_le _, by simp only [List.drop_zero, List.nil_append]; cases lexS s.data.toList 0 <;> rfl, Nat.zero_le _, .inl ⟨rfl, rfl, rfl⟩, .refl⟩
  rintro ⟨i, acc, o, S1⟩ ⟨hi, hlex, hlen, hacc, hg⟩ next
  dsimp only at hi hlex hlen hacc hg next
  by_cases h1 : i < s.size
  · have d1 : decide ((i : Int) < (s.size : Int)) = true := by rw [decide_eq_true_iff]; omega
    by_cases hb : s.data[i]'h1 = 32
    · have d2 : (((s.data[i]'h1).toNat : Int) == 32) = true := by rw [hb]; rfl
      repeat' (first|refine Go.a rfl ?_|refine Go.rg ?_|refine GoR.nil ?_|refine Go.ret ?_|refine Go.b rfl ?_|(refine GoR.o (by rfl) (by rfl) ?_;(conv => arg 1;simp only [G,Z,Y,Gx,un_neg,cutD,decide_true,decide_false,simprocAttr,fb2,fb3,fb5,fb9,fb35,fb90,fb148,d1, d2, indexStr_cast h1, wrap_succ (show i < 4611686018427387904 by omega)]);show GoR ..)|refine Go.condB rfl (fun hc => ?_) (fun hc => ?_))
      refine Go.lpN ?_
      refine Go.keep [(0, .str s), (5, o), (6, .int .i64 ((i + 1 : Nat) : Int))] (.cons .refl (.cons .refl (.cons .refl (.nil)))) ?_
      refine next (i + 1, acc, o, S1) (by dsimp only; omega) ⟨h1, ?_, by dsimp only; omega, hacc, hg⟩
      dsimp only
      rw [hlex, lexBlank_step h1 hb]
    · have d2 : (((s.data[i]'h1).toNat : Int) == 32) = false := by
        rw [beq_eq_false_iff_ne]
        intro e
        exact hb (UInt8.toNat_inj.1 (show _ = (32 : UInt8).toNat by simp; omega))
      have hn := lexNext s hs i h1
      cases ho : lexOne (s.data.toList.drop i) with
      | error e =>
        rw [ho] at hn
        have he : ((e != 0) = true) := by
          rw [bne_iff_ne]
          intro h0
          rw [lexOne_at h1, h0] at ho
          unfold numS sgnS at ho
          repeat' split at ho
          all_goals first
            | (cases ho; done)
            | (injection ho with ho; cases ho)
        rw [hlex, lexErr_step h1 hb ho]
        simp only [resT, zeroT] at hn
        repeat' (first|refine Go.a rfl ?_|refine Go.rg ?_|refine GoR.nil ?_|refine Go.ret ?_|refine Go.b rfl ?_|(refine GoR.o (by rfl) (by rfl) ?_;(conv => arg 1;simp only [G,Z,Y,Gx,un_neg,cutD,decide_true,decide_false,simprocAttr,fb2,fb3,fb5,fb9,fb35,fb90,fb148,d1, d2, indexStr_cast h1, he]);show GoR ..)|(refine GoR.c c129 (by rfl) (by rfl) rfl ?_;(refine (hn _).ret ?_))|refine Go.condB rfl (fun hc => ?_) (fun hc => ?_))
        clear next
        refine ⟨(by first | exact .inl rfl | exact .inr rfl), fin ?_⟩
        rw [resD_three (fn := Tryz.f83) rfl]
        simp only [optThen_some,resultD_tmp,resultD_cell,G,Z,Y,Gx,un_neg,cutD,decide_true,decide_false,simprocAttr,fb2,fb3,fb5,fb9,fb35,fb90,fb148]
        obtain ⟨E, hE⟩ := hg.pre [] S rfl (by simp)
        exact ⟨_, E ++ [.obj [.int .i64 0, .str ⟨#[]⟩, .int .i64 0, .int .i64 0]], by rw [hE]; simp, toks_err, rfl⟩
      | ok x =>
        obtain ⟨k, n, v⟩ := x
        obtain ⟨e1, e2, e3⟩ := lexOk_step h1 hb ho
        have hsz : ((sub s i n).size : Int) = (n : Int) := by rw [sub_size e3]
        rw [ho] at hn
        simp only [resT, Tok.c] at hn
        obtain ⟨o', S2, hap, hacc2, hg2⟩ := (hacc.app [.obj (Tok.c ⟨k, sub s i n, v, i⟩), .own]).append (P := Tryz.prog) del90 (own := some (S1.length + 1)) (m := 1) (new := Tok.c ⟨k, sub s i n, v, i⟩) (by simp; have := hg.len; omega) (by omega) ⟨by omega, by omega, by omega, rfl⟩
        have hS2 : objAt S2 S1.length = some [.int .i64 k, .str (sub s i n), .int .i64 (v : Int), .int .i64 (i : Int)] := hg2.obj _ _ (by simp [objAt, Tok.c])
        simp only [Tok.c] at hap
        have wn := bin_add (i := i) (j := n) (P := Tryz.prog) (t := 0) (x := .tmp 0) (y := .tmp 0) (by omega)
        have ho1 := hacc.one
        have ho2 := hacc2.one
        repeat' (first|refine Go.a rfl ?_|refine Go.rg ?_|refine GoR.nil ?_|refine Go.ret ?_|refine Go.b rfl ?_|(refine GoR.o (by rfl) (by rfl) ?_;(conv => arg 1;simp only [G,Z,Y,Gx,un_neg,cutD,decide_true,decide_false,simprocAttr,fb2,fb3,fb5,fb9,fb35,fb90,fb148,d1, d2, indexStr_cast h1, ho1, ho2, hap, hS2, hsz, wn, builtin_append, List.append_assoc, List.cons_append, List.nil_append, List.length_append, List.length_cons, List.length_nil]);show GoR ..)|(refine GoR.c c129 (by rfl) (by rfl) rfl ?_;(refine (hn _).ret ?_))|refine Go.condB rfl (fun hc => ?_) (fun hc => ?_))
        refine Go.lpN ?_
        refine Go.keep [(0, .str s), (5, o'), (6, .int .i64 ((i + n : Nat) : Int))] (.cons .refl (.cons .refl (.cons .refl (.nil)))) ?_
        refine next (i + n, acc ++ [⟨k, sub s i n, v, i⟩], o', S2) (by dsimp only; omega) ⟨e3, ?_, by dsimp only; rw [List.length_append]; simp; omega, ?_, hg.trans (Grown.app.trans hg2)⟩
        · dsimp only
          rw [hlex, e1, map_map]
          simp
        · dsimp only
          rw [List.length_append, toksC, List.flatMap_append]
          simpa [toksC] using hacc2
  · have d1 : decide ((i : Int) < (s.size : Int)) = false := by rw [decide_eq_false_iff_not]; omega
    clear next
    have hend : lexS (s.data.toList.drop i) i = .ok [] := by rw [List.drop_of_length_le (by simp; omega)]; rfl
    rw [hlex, hend]
    obtain ⟨E, hE⟩ := hg.pre [] S rfl (by simp)
    rcases hacc with ⟨rfl, hl, hc⟩ | ⟨rfl, hl, hc⟩ | ⟨id, hid, rfl, hown⟩
    · have : acc = [] := List.eq_nil_of_length_eq_zero hl
      subst this
      repeat' (first|refine Go.a rfl ?_|refine Go.rg ?_|refine GoR.nil ?_|refine Go.ret ?_|refine Go.b rfl ?_|(refine GoR.o (by rfl) (by rfl) ?_;(conv => arg 1;simp only [G,Z,Y,Gx,un_neg,cutD,decide_true,decide_false,simprocAttr,fb2,fb3,fb5,fb9,fb35,fb90,fb148,d1]);show GoR ..)|(refine GoR.c c130 (by rfl) (by rfl) rfl ?_;(refine (clipNil _).ret ?_))|refine Go.condB rfl (fun hc => ?_) (fun hc => ?_))
      refine ⟨(by first | exact .inl rfl | exact .inr rfl), fin ?_⟩
      rw [resD_three (fn := Tryz.f83) rfl]
      simp only [optThen_some,resultD_tmp,resultD_cell,G,Z,Y,Gx,un_neg,cutD,decide_true,decide_false,simprocAttr,fb2,fb3,fb5,fb9,fb35,fb90,fb148]
      exact ⟨_, E, hE, toks_err, rfl⟩
    · have : acc = [] := List.eq_nil_of_length_eq_zero hl
      subst this
      repeat' (first|refine Go.a rfl ?_|refine Go.rg ?_|refine GoR.nil ?_|refine Go.ret ?_|refine Go.b rfl ?_|(refine GoR.o (by rfl) (by rfl) ?_;(conv => arg 1;simp only [G,Z,Y,Gx,un_neg,cutD,decide_true,decide_false,simprocAttr,fb2,fb3,fb5,fb9,fb35,fb90,fb148,d1]);show GoR ..)|(refine GoR.c c130 (by rfl) (by rfl) rfl ?_;(refine (clip0 _).ret ?_))|refine Go.condB rfl (fun hc => ?_) (fun hc => ?_))
      refine ⟨(by first | exact .inl rfl | exact .inr rfl), fin ?_⟩
      rw [resD_three (fn := Tryz.f83) rfl]
      simp only [optThen_some,resultD_tmp,resultD_cell,G,Z,Y,Gx,un_neg,cutD,decide_true,decide_false,simprocAttr,fb2,fb3,fb5,fb9,fb35,fb90,fb148]
      exact ⟨_, E, hE, toks_err0, rfl⟩
    · by_cases h0 : acc.length = 0
      · have : acc = [] := List.eq_nil_of_length_eq_zero h0
        subst this
        repeat' (first|refine Go.a rfl ?_|refine Go.rg ?_|refine GoR.nil ?_|refine Go.ret ?_|refine Go.b rfl ?_|(refine GoR.o (by rfl) (by rfl) ?_;(conv => arg 1;simp only [G,Z,Y,Gx,un_neg,cutD,decide_true,decide_false,simprocAttr,fb2,fb3,fb5,fb9,fb35,fb90,fb148,d1]);show GoR ..)|(refine GoR.c c130 (by rfl) (by rfl) rfl ?_;(refine (clipZ _ _ _).ret ?_))|refine Go.condB rfl (fun hc => ?_) (fun hc => ?_))
        refine ⟨(by first | exact .inl rfl | exact .inr rfl), fin ?_⟩
        rw [resD_three (fn := Tryz.f83) rfl]
        simp only [optThen_some,resultD_tmp,resultD_cell,G,Z,Y,Gx,un_neg,cutD,decide_true,decide_false,simprocAttr,fb2,fb3,fb5,fb9,fb35,fb90,fb148]
        exact ⟨_, E, hE, toks_err0, rfl⟩
      · repeat' (first|refine Go.a rfl ?_|refine Go.rg ?_|refine GoR.nil ?_|refine Go.ret ?_|refine Go.b rfl ?_|(refine GoR.o (by rfl) (by rfl) ?_;(conv => arg 1;simp only [G,Z,Y,Gx,un_neg,cutD,decide_true,decide_false,simprocAttr,fb2,fb3,fb5,fb9,fb35,fb90,fb148,d1]);show GoR ..)|(refine GoR.c c130 (by rfl) (by rfl) rfl ?_;(refine (clipToks _ _ _ (by omega) (toksC_length _) _ (toks_low _)).ret ?_))|refine Go.condB rfl (fun hc => ?_) (fun hc => ?_))
        refine ⟨(by first | exact .inl rfl | exact .inr rfl), fin ?_⟩
        rw [resD_three (fn := Tryz.f83) rfl]
        simp only [optThen_some,resultD_tmp,resultD_cell,G,Z,Y,Gx,un_neg,cutD,decide_true,decide_false,simprocAttr,fb2,fb3,fb5,fb9,fb35,fb90,fb148]
        exact ⟨_, E, hE, .of_low (.tup' (.cons (.sl' (toks_low _)) (.cons (.int _ _) (.cons (.int _ _) .nil)))), by simp [toksD, Except.map]⟩
end Go.Proofs.DeT
