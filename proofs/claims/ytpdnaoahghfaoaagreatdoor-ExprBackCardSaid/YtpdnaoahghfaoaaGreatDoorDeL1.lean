/- Letters, digits; how far a run of them goes. -/
import Derived.Test.YtpdnaoahghfaoaaGreatDoorDeFacts
import Derived.Test.YtpdnaoahghfaoaaGreatDoorDpL
import Derived.Test.YtpdnaoahghfaoaaGreatDoorDmWx
set_option linter.unusedSimpArgs false
set_option linter.unusedVariables false
namespace Go.Proofs.DeT
open Go Go.DM
set_option maxRecDepth 100000
variable {orc : DOracle}

def Tok.c (t : Tok) : List D := [.int .i64 t.k, .str t.t, .int .i64 t.n, .int .i64 (t.a : Int)]
theorem tok_low {n : Nat} (t : Tok) : LowL n (Tok.c t) := .cons (.int _ _) (.cons (.str _) (.cons (.int _ _) (.cons (.int _ _) .nil)))
def zeroT : List D := [.int .i64 0, .str ⟨#[]⟩, .int .i64 0, .int .i64 0]
/-- A part of a text. -/
def sub (s : ByteArray) (i n : Nat) : ByteArray := ⟨((s.data.toList.drop i).take n).toArray⟩
theorem extract_eq {s : ByteArray} {i j : Nat} (h : i ≤ j) : s.extract i j = sub s i (j - i) := by
  refine AM.bytes_ext ?_
  rw [show (s.extract i j).data = s.data.extract i j by simp]
  simp [sub, List.extract_eq_take_drop]
theorem sub_size {s : ByteArray} {i n : Nat} (h : i + n ≤ s.size) : (sub s i n).size = n := by
  show ((s.data.toList.drop i).take n).toArray.size = n
  rw [List.size_toArray, List.length_take, List.length_drop, Array.length_toList]
  have : s.data.size = s.size := rfl
  omega
/-- How many from a place on are such. -/
def tw (p : UInt8 → Bool) (s : ByteArray) (i : Nat) : Nat := ((s.data.toList.drop i).takeWhile p).length
theorem drop_at {s : ByteArray} {i : Nat} (h : i < s.size) : s.data.toList.drop i = s.data[i]'h :: s.data.toList.drop (i + 1) := by
  rw [List.drop_eq_getElem_cons (by simpa using h)]
  simp
theorem tw_hit {p : UInt8 → Bool} {s : ByteArray} {i : Nat} (h : i < s.size) (hp : p (s.data[i]'h) = true) : tw p s i = tw p s (i + 1) + 1 := by
  rw [tw, drop_at h, List.takeWhile_cons, if_pos hp]
  rfl
theorem tw_miss {p : UInt8 → Bool} {s : ByteArray} {i : Nat} (h : i < s.size) (hp : p (s.data[i]'h) = false) : tw p s i = 0 := by
  rw [tw, drop_at h, List.takeWhile_cons, if_neg (by simp [hp])]
  rfl
theorem tw_end {p : UInt8 → Bool} {s : ByteArray} {i : Nat} (h : s.size ≤ i) : tw p s i = 0 := by
  rw [tw, List.drop_of_length_le (by simpa using h)]
  rfl
theorem tw_le {p : UInt8 → Bool} {s : ByteArray} {i : Nat} (h : i ≤ s.size) : i + tw p s i ≤ s.size := by
  have := takeWhile_le (p := p) (s.data.toList.drop i)
  rw [List.length_drop] at this
  unfold tw
  have e : s.data.toList.length = s.size := by simp
  omega

theorem lexLetter (b : UInt8) (S : Mem) : CallD Tryz.prog orc 153 [.int .u8 (b.toNat : Int)] S fun d S' => S' = S ∧ d = .bool (letB b) := by
  refine CallD.e Tryz.func153 rfl Tryz.ntmps153 (by rfl) ?_
  repeat' (first|refine Go.a rfl ?_|refine Go.rg ?_|refine GoR.nil ?_|refine Go.ret ?_|refine Go.b rfl ?_|(refine GoR.o (by rfl) (by rfl) ?_;(conv => arg 1;simp only [G,Z,Y,Gx,un_neg,cutD,decide_true,decide_false,simprocAttr,fb5]);show GoR ..)|refine GoR.s (by rfl) rfl rfl ?_|(refine GoR.splitG rfl (fun hc => ?_) (fun hc => ?_) <;> simp only [hc])|refine Go.condB rfl (fun hc => ?_) (fun hc => ?_))
  all_goals
    refine ⟨(by first | exact .inl rfl | exact .inr rfl), fin ?_⟩
    rw [resD_tmp (fn := Tryz.f153) rfl]
    simp only [optThen_some,resultD_tmp,resultD_cell,G,Z,Y,Gx,un_neg,cutD,decide_true,decide_false,simprocAttr,fb5]
    refine ⟨_, [], by simp, .bool, ?_⟩
    simp only [letB, D.bool.injEq]
    rw [Bool.eq_iff_iff]
    simp at *
    omega
theorem lexDigit (b : UInt8) (S : Mem) : CallD Tryz.prog orc 155 [.int .u8 (b.toNat : Int)] S fun d S' => S' = S ∧ d = .bool (dgtB b) := by
  refine CallD.e Tryz.func155 rfl Tryz.ntmps155 (by rfl) ?_
  repeat' (first|refine Go.a rfl ?_|refine Go.rg ?_|refine GoR.nil ?_|refine Go.ret ?_|refine Go.b rfl ?_|(refine GoR.o (by rfl) (by rfl) ?_;(conv => arg 1;simp only [G,Z,Y,Gx,un_neg,cutD,decide_true,decide_false,simprocAttr,fb5]);show GoR ..)|refine GoR.s (by rfl) rfl rfl ?_|(refine GoR.splitG rfl (fun hc => ?_) (fun hc => ?_) <;> simp only [hc])|refine Go.condB rfl (fun hc => ?_) (fun hc => ?_))
  all_goals
    refine ⟨(by first | exact .inl rfl | exact .inr rfl), fin ?_⟩
    rw [resD_tmp (fn := Tryz.f155) rfl]
    simp only [optThen_some,resultD_tmp,resultD_cell,G,Z,Y,Gx,un_neg,cutD,decide_true,decide_false,simprocAttr,fb5]
    refine ⟨_, [], by simp, .bool, ?_⟩
    simp only [dgtB, D.bool.injEq]
    rw [Bool.eq_iff_iff]
    simp at *
    omega
theorem refLetter (b : UInt8) (S : Mem) : CallD Tryz.prog orc 88 [.int .u8 (b.toNat : Int)] S fun d S' => S' = S ∧ d = .bool (letB b) := by
  refine CallD.e Tryz.func88 rfl Tryz.ntmps88 (by rfl) ?_
  repeat' (first|refine Go.a rfl ?_|refine Go.rg ?_|refine GoR.nil ?_|refine Go.ret ?_|refine Go.b rfl ?_|(refine GoR.o (by rfl) (by rfl) ?_;(conv => arg 1;simp only [G,Z,Y,Gx,un_neg,cutD,decide_true,decide_false,simprocAttr,fb5]);show GoR ..)|refine GoR.s (by rfl) rfl rfl ?_|(refine GoR.splitG rfl (fun hc => ?_) (fun hc => ?_) <;> simp only [hc])|refine Go.condB rfl (fun hc => ?_) (fun hc => ?_))
  all_goals
    refine ⟨(by first | exact .inl rfl | exact .inr rfl), fin ?_⟩
    rw [resD_tmp (fn := Tryz.f88) rfl]
    simp only [optThen_some,resultD_tmp,resultD_cell,G,Z,Y,Gx,un_neg,cutD,decide_true,decide_false,simprocAttr,fb5]
    refine ⟨_, [], by simp, .bool, ?_⟩
    simp only [letB, D.bool.injEq]
    rw [Bool.eq_iff_iff]
    simp at *
    omega
theorem refDigit (b : UInt8) (S : Mem) : CallD Tryz.prog orc 89 [.int .u8 (b.toNat : Int)] S fun d S' => S' = S ∧ d = .bool (dgtB b) := by
  refine CallD.e Tryz.func89 rfl Tryz.ntmps89 (by rfl) ?_
  repeat' (first|refine Go.a rfl ?_|refine Go.rg ?_|refine GoR.nil ?_|refine Go.ret ?_|refine Go.b rfl ?_|(refine GoR.o (by rfl) (by rfl) ?_;(conv => arg 1;simp only [G,Z,Y,Gx,un_neg,cutD,decide_true,decide_false,simprocAttr,fb5]);show GoR ..)|refine GoR.s (by rfl) rfl rfl ?_|(refine GoR.splitG rfl (fun hc => ?_) (fun hc => ?_) <;> simp only [hc])|refine Go.condB rfl (fun hc => ?_) (fun hc => ?_))
  all_goals
    refine ⟨(by first | exact .inl rfl | exact .inr rfl), fin ?_⟩
    rw [resD_tmp (fn := Tryz.f89) rfl]
    simp only [optThen_some,resultD_tmp,resultD_cell,G,Z,Y,Gx,un_neg,cutD,decide_true,decide_false,simprocAttr,fb5]
    refine ⟨_, [], by simp, .bool, ?_⟩
    simp only [dgtB, D.bool.injEq]
    rw [Bool.eq_iff_iff]
    simp at *
    omega
theorem lexLod (b : UInt8) (S : Mem) : CallD Tryz.prog orc 185 [.int .u8 (b.toNat : Int)] S fun d S' => S' = S ∧ d = .bool (lodB b) := by
  refine CallD.e Tryz.func185 rfl Tryz.ntmps185 (by rfl) ?_
  cases h1 : letB b
  all_goals
    repeat' (first|refine Go.a rfl ?_|refine Go.rg ?_|refine GoR.nil ?_|refine Go.ret ?_|refine Go.b rfl ?_|(refine GoR.o (by rfl) (by rfl) ?_;(conv => arg 1;simp only [G,Z,Y,Gx,un_neg,cutD,decide_true,decide_false,simprocAttr,h1]);show GoR ..)|(refine GoR.c c153 (by rfl) (by rfl) rfl ?_;(refine (lexLetter _ _).ret ?_))|(refine GoR.c c155 (by rfl) (by rfl) rfl ?_;(refine (lexDigit _ _).ret ?_))|refine GoR.s (by rfl) rfl rfl ?_|(refine GoR.splitG rfl (fun hc => ?_) (fun hc => ?_) <;> simp only [hc])|refine Go.condB rfl (fun hc => ?_) (fun hc => ?_))
    refine ⟨(by first | exact .inl rfl | exact .inr rfl), fin ?_⟩
    rw [resD_tmp (fn := Tryz.f185) rfl]
    simp only [optThen_some,resultD_tmp,resultD_cell,G,Z,Y,Gx,un_neg,cutD,decide_true,decide_false,simprocAttr]
    refine ⟨_, [], by simp, .bool, ?_⟩
    simp [lodB, h1]

theorem lexRun {g : FuncId} {fn : Func} {p : UInt8 → Bool} (hf : Tryz.prog.funcs[g]? = some fn) (hn : (fn.name == "runtime.NumGoroutine") = false) (hb : fn.body.isNone = false)
    (hp : ∀ b S, CallD Tryz.prog orc g [.int .u8 (b.toNat : Int)] S fun d S' => S' = S ∧ d = .bool (p b)) (s : ByteArray) (hs : s.size < 1000000) (at_ : Nat) (hat : at_ ≤ s.size) (S : Mem) :
    CallD Tryz.prog orc 184 [.str s, .int .i64 (at_ : Int), .fn (.func g) [] []] S fun d S' => S' = S ∧ d = .int .i64 ((at_ + tw p s at_ : Nat) : Int) := by
  refine CallD.e Tryz.func184 rfl Tryz.ntmps184 (by rfl) ?_
  repeat' (first|refine Go.a rfl ?_|refine Go.rg ?_|refine GoR.nil ?_|refine Go.ret ?_|refine Go.b rfl ?_|(refine GoR.o (by rfl) (by rfl) ?_;(conv => arg 1;simp only [G,Z,Y,Gx,un_neg,cutD,decide_true,decide_false,simprocAttr,fb3,fb9]);show GoR ..)|refine GoR.s (by rfl) rfl rfl ?_|(refine GoR.splitG rfl (fun hc => ?_) (fun hc => ?_) <;> simp only [hc])|refine Go.condB rfl (fun hc => ?_) (fun hc => ?_))
  refine Go.keep [(0, .str s), (2, .fn (.func g) [] []), (7, .int .i64 (at_ : Int))] (.cons .refl (.cons .refl (.cons .refl (.nil)))) ?_
  refine Go.while (α := Nat) (fun i => s.size - i) (fun i => [(0, .str s), (2, .fn (.func g) [] []), (7, .int .i64 (i : Int))]) (fun _ => S) (fun i => i ≤ s.size ∧ at_ + tw p s at_ = i + tw p s i) ?_ at_ ⟨hat, rfl⟩
  rintro i ⟨hi, hk⟩ next
  by_cases h1 : i < s.size
  · have d1 : decide ((i : Int) < (s.size : Int)) = true := by rw [decide_eq_true_iff]; omega
    cases hpb : p (s.data[i]'h1) with
    | true =>
      repeat' (first|refine Go.a rfl ?_|refine Go.rg ?_|refine GoR.nil ?_|refine Go.ret ?_|refine Go.b rfl ?_|(refine GoR.o (by rfl) (by rfl) ?_;(conv => arg 1;simp only [G,Z,Y,Gx,un_neg,cutD,decide_true,decide_false,simprocAttr,fb3,fb9,d1, indexStr_cast h1, hpb, wrap_succ (show i < 4611686018427387904 by omega)]);show GoR ..)|(refine GoR.callG (f := g) (by decide) (by rfl) (by rfl) rfl hf hn hb ?_; refine (hp _ _).ret ?_)|refine GoR.s (by rfl) rfl rfl ?_|(refine GoR.splitG rfl (fun hc => ?_) (fun hc => ?_) <;> simp only [hc])|refine Go.condB rfl (fun hc => ?_) (fun hc => ?_))
      refine Go.lpN ?_
      refine Go.keep [(0, .str s), (2, .fn (.func g) [] []), (7, .int .i64 ((i + 1 : Nat) : Int))] (.cons .refl (.cons .refl (.cons .refl (.nil)))) ?_
      refine next (i + 1) (by omega) ⟨h1, ?_⟩
      rw [hk, tw_hit h1 hpb]
      omega
    | false =>
      repeat' (first|refine Go.a rfl ?_|refine Go.rg ?_|refine GoR.nil ?_|refine Go.ret ?_|refine Go.b rfl ?_|(refine GoR.o (by rfl) (by rfl) ?_;(conv => arg 1;simp only [G,Z,Y,Gx,un_neg,cutD,decide_true,decide_false,simprocAttr,fb3,fb9,d1, indexStr_cast h1, hpb]);show GoR ..)|(refine GoR.callG (f := g) (by decide) (by rfl) (by rfl) rfl hf hn hb ?_; refine (hp _ _).ret ?_)|refine GoR.s (by rfl) rfl rfl ?_|(refine GoR.splitG rfl (fun hc => ?_) (fun hc => ?_) <;> simp only [hc])|refine Go.condB rfl (fun hc => ?_) (fun hc => ?_))
      clear next
      refine ⟨(by first | exact .inl rfl | exact .inr rfl), fin ?_⟩
      rw [resD_tmp (fn := Tryz.f184) rfl]
      simp only [optThen_some,resultD_tmp,resultD_cell,G,Z,Y,Gx,un_neg,cutD,decide_true,decide_false,simprocAttr,fb3,fb9]
      rw [tw_miss h1 hpb] at hk
      exact ⟨_, [], by simp, .int, by rw [hk]; rfl⟩
  · have d1 : decide ((i : Int) < (s.size : Int)) = false := by rw [decide_eq_false_iff_not]; omega
    repeat' (first|refine Go.a rfl ?_|refine Go.rg ?_|refine GoR.nil ?_|refine Go.ret ?_|refine Go.b rfl ?_|(refine GoR.o (by rfl) (by rfl) ?_;(conv => arg 1;simp only [G,Z,Y,Gx,un_neg,cutD,decide_true,decide_false,simprocAttr,fb3,fb9,d1]);show GoR ..)|refine GoR.s (by rfl) rfl rfl ?_|(refine GoR.splitG rfl (fun hc => ?_) (fun hc => ?_) <;> simp only [hc])|refine Go.condB rfl (fun hc => ?_) (fun hc => ?_))
    clear next
    refine ⟨(by first | exact .inl rfl | exact .inr rfl), fin ?_⟩
    rw [resD_tmp (fn := Tryz.f184) rfl]
    simp only [optThen_some,resultD_tmp,resultD_cell,G,Z,Y,Gx,un_neg,cutD,decide_true,decide_false,simprocAttr,fb3,fb9]
    rw [tw_end (i := i) (by omega)] at hk
    exact ⟨_, [], by simp, .int, by rw [hk]; rfl⟩
theorem runLod (s : ByteArray) (hs : s.size < 1000000) (at_ : Nat) (hat : at_ ≤ s.size) (S : Mem) : CallD Tryz.prog orc 184 [.str s, .int .i64 (at_ : Int), .fn (.func 185) [] []] S fun d S' => S' = S ∧ d = .int .i64 ((at_ + tw lodB s at_ : Nat) : Int) :=
  lexRun Tryz.func185 (by decide) rfl lexLod s hs at_ hat S
theorem runDigit (s : ByteArray) (hs : s.size < 1000000) (at_ : Nat) (hat : at_ ≤ s.size) (S : Mem) : CallD Tryz.prog orc 184 [.str s, .int .i64 (at_ : Int), .fn (.func 155) [] []] S fun d S' => S' = S ∧ d = .int .i64 ((at_ + tw dgtB s at_ : Nat) : Int) :=
  lexRun Tryz.func155 (by decide) rfl lexDigit s hs at_ hat S

theorem lexName (s : ByteArray) (hs : s.size < 1000000) (at_ : Nat) (hat : at_ ≤ s.size) (S : Mem) : CallD Tryz.prog orc 154 [.str s, .int .i64 (at_ : Int)] S fun d S' => S' = S ∧
    d = if 8 < tw lodB s at_ then .tup [.agg zeroT, .int .i64 5] else .tup [.agg (Tok.c ⟨1, sub s at_ (tw lodB s at_), 0, at_⟩), .int .i64 0] := by
  have hle := tw_le (p := lodB) hat
  generalize hw : tw lodB s at_ = w at *
  have hrun := runLod (orc := orc) s hs at_ hat
  rw [hw] at hrun
  have e1 : s.extract at_ (at_ + w) = sub s at_ w := by rw [extract_eq (by omega)]; congr 1; omega
  have hsz := sub_size hle
  generalize sub s at_ w = t at *
  have c1 : (at_ ≤ at_ + w ∧ at_ + w ≤ s.size) = True := by simp; omega
  refine CallD.e Tryz.func154 rfl Tryz.ntmps154 (by rfl) ?_
  by_cases h8 : 8 < w
  · have d8 : decide (8 < (t.size : Int)) = true := by rw [decide_eq_true_iff]; omega
    rw [if_pos h8]
    repeat' (first|refine Go.a rfl ?_|refine Go.rg ?_|refine GoR.nil ?_|refine Go.ret ?_|refine Go.b rfl ?_|(refine GoR.o (by rfl) (by rfl) ?_;(conv => arg 1;simp only [G,Z,Y,Gx,un_neg,cutD,decide_true,decide_false,simprocAttr,fb2,fb3,fb9,fb148,natD_cast, Option.map_some, optNatD_some, Option.getD_some, c1, e1, d8]);show GoR ..)|(refine GoR.c c184 (by rfl) (by rfl) rfl ?_;(refine (hrun _).ret ?_))|refine Go.condB rfl (fun hc => ?_) (fun hc => ?_))
    refine ⟨(by first | exact .inl rfl | exact .inr rfl), fin ?_⟩
    rw [resD_two (fn := Tryz.f154) rfl]
    simp only [optThen_some,resultD_tmp,resultD_cell,G,Z,Y,Gx,un_neg,cutD,decide_true,decide_false,simprocAttr,fb2,fb3,fb9,fb148]
    exact ⟨_, _, rfl, .of_low (.tup' (.cons (.agg' (tok_low ⟨0, ⟨#[]⟩, 0, 0⟩)) (.cons (.int _ _) .nil))), rfl⟩
  · have d8 : decide (8 < (t.size : Int)) = false := by rw [decide_eq_false_iff_not]; omega
    rw [if_neg h8]
    repeat' (first|refine Go.a rfl ?_|refine Go.rg ?_|refine GoR.nil ?_|refine Go.ret ?_|refine Go.b rfl ?_|(refine GoR.o (by rfl) (by rfl) ?_;(conv => arg 1;simp only [G,Z,Y,Gx,un_neg,cutD,decide_true,decide_false,simprocAttr,fb2,fb3,fb9,fb148,natD_cast, Option.map_some, optNatD_some, Option.getD_some, c1, e1, d8]);show GoR ..)|(refine GoR.c c184 (by rfl) (by rfl) rfl ?_;(refine (hrun _).ret ?_))|refine Go.condB rfl (fun hc => ?_) (fun hc => ?_))
    refine ⟨(by first | exact .inl rfl | exact .inr rfl), fin ?_⟩
    rw [resD_two (fn := Tryz.f154) rfl]
    simp only [optThen_some,resultD_tmp,resultD_cell,G,Z,Y,Gx,un_neg,cutD,decide_true,decide_false,simprocAttr,fb2,fb3,fb9,fb148]
    exact ⟨_, _, rfl, .of_low (.tup' (.cons (.agg' (tok_low ⟨1, t, 0, at_⟩)) (.cons (.int _ _) .nil))), rfl⟩
end Go.Proofs.DeT
