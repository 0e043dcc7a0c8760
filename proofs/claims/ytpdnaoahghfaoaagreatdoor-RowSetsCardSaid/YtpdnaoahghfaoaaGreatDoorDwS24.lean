/- A value in words: the program's, the document's. -/
import Derived.Test.YtpdnaoahghfaoaaGreatDoorDwS23
set_option linter.unusedSimpArgs false
set_option linter.unusedVariables false
namespace Go.Proofs.DwT
open Go Go.DM Go.Proofs.DeT
set_option maxRecDepth 100000
variable {orc : DOracle}

def numsB (l : List Int) : ByteArray := joinB (decsB l) ⟨#[32]⟩
def textV (v : Val) : ByteArray := if v.k = 1 then decB v.i else if v.k = 2 then ⟨#[34]⟩ ++ v.s ++ ⟨#[34]⟩ else if v.k = 3 then ⟨#[91]⟩ ++ numsB v.l ++ ⟨#[93]⟩ else ⟨#[]⟩
theorem join_snoc (sep : List UInt8) (x : List UInt8) : ∀ (xs : List (List UInt8)), xs ≠ [] → Lib.join (xs ++ [x]) sep = Lib.join xs sep ++ sep ++ x
  | [], h => absurd rfl h
  | [a], _ => by simp [Lib.join, List.intercalate]
  | a :: b :: xs, _ => by
    have ih := join_snoc sep x (b :: xs) (by simp)
    simp only [Lib.join, List.intercalate, List.cons_append, List.intersperse_cons_cons, List.flatten_cons, List.append_assoc] at ih ⊢
    rw [ih]
theorem joinB_snoc {xs : List ByteArray} {x sep : ByteArray} (h : xs ≠ []) : joinB (xs ++ [x]) sep = joinB xs sep ++ sep ++ x := by
  refine AM.bytes_ext ?_
  simp only [joinB, List.map_append, List.map_cons, List.map_nil]
  rw [join_snoc _ _ _ (by simpa using h)]
  simp
theorem joinB_one {x sep : ByteArray} : joinB [x] sep = x := by
  refine AM.bytes_ext ?_
  simp [joinB, Lib.join, List.intercalate]
theorem take_decsB {l : List Int} {i : Nat} (h : i < l.length) : decsB (l.take (i + 1)) = decsB (l.take i) ++ [decB l[i]] := by
  rw [List.take_succ_eq_append_getElem h]
  simp only [decsB, List.map_append, List.map_cons, List.map_nil]
theorem nums_succ {l : List Int} {i : Nat} (h0 : 0 < i) (h : i < l.length) : numsB (l.take (i + 1)) = numsB (l.take i) ++ ⟨#[32]⟩ ++ decB l[i] := by
  unfold numsB
  rw [take_decsB h, joinB_snoc]
  intro hz
  have := congrArg List.length hz
  simp [decsB] at this
  rcases this with rfl | rfl
  · omega
  · simp at h
theorem nums_one {l : List Int} (h : 0 < l.length) : numsB (l.take 1) = decB l[0] := by
  unfold numsB
  rw [take_decsB (i := 0) h]
  simp only [List.take_zero, decsB, List.map_nil, List.nil_append]
  rw [joinB_one]
theorem nums_size {l : List Int} (hin : ∀ x ∈ l, in64 x) : ∀ i, i ≤ l.length → (numsB (l.take i)).size ≤ 22 * i := by
  intro i
  induction i with
  | zero => intro _; exact Nat.le_refl _
  | succ i ih =>
    intro h
    have hd := decB_size (hin l[i] (List.getElem_mem _))
    by_cases h0 : 0 < i
    · rw [nums_succ h0 (by omega), ByteArray.size_append, ByteArray.size_append]
      have := ih (by omega)
      have e : (⟨#[32]⟩ : ByteArray).size = 1 := rfl
      omega
    · obtain rfl : i = 0 := by omega
      rw [nums_one (by omega)]
      omega
theorem numbers (l : List Int) (hl : l.length ≤ 1000) (hin : ∀ x ∈ l, in64 x) (S : Mem) : CallD Tryz.prog O 112 [.sl none 1 l.length (intsD l)] S fun d S' => S' = S ∧ d = .str (numsB l) := by
  have hsz := nums_size hin l.length (Nat.le_refl _)
  rw [List.take_length] at hsz
  refine CallD.e Tryz.func112 rfl Tryz.ntmps112 (by rfl) ?_
  repeat' (first|refine Go.a rfl ?_|refine Go.rg ?_|refine GoR.nil ?_|refine Go.ret ?_|refine Go.b rfl ?_|(refine GoR.o (by rfl) (by rfl) ?_;(conv => arg 1;simp only [G,Z,Y,Gx,un_neg,cutD,decide_true,decide_false,simprocAttr,fb2,fb3,fb45,fb100]);show GoR ..)|refine Go.condB rfl (fun hc => ?_) (fun hc => ?_))
  refine Go.keep [(3, .nils), (6, .sl none 1 l.length (intsD l)), (7, .int .i64 (l.length : Int)), (8, .int .i64 ((0 : Nat) : Int))] (.cons .refl (.cons .refl (.cons .refl (.cons .refl (.nil))))) ?_
  refine Go.while (α := Nat × D × Mem) (fun x => l.length - x.1) (fun x => [(3, x.2.1), (6, .sl none 1 l.length (intsD l)), (7, .int .i64 (l.length : Int)), (8, .int .i64 (x.1 : Int))])
    (fun x => x.2.2)
    (fun x => x.1 ≤ l.length ∧ AccD S.length x.2.1 1 x.1 ((decsB (l.take x.1)).map .str) x.2.2 ∧ Grown S.length S x.2.2)
    ?_ (0, .nils, S) ⟨Nat.zero_le _, .inl ⟨rfl, rfl, rfl⟩, .refl⟩
  rintro ⟨i, o, S1⟩ ⟨hi, hacc, hg⟩ next
  dsimp only at hi hacc hg next
  by_cases h1 : i < l.length
  · have hx := hin l[i] (List.getElem_mem _)
    obtain ⟨o', S2, hap, hacc2, hg2⟩ := (hacc.app [.own]).append (P := Tryz.prog) del100 (own := some S1.length) (m := 1) (new := [.str (decB l[i])]) (by simp; have := hg.len; omega) (by simp) (fits_str (by omega))
    repeat' (first|refine Go.a rfl ?_|refine Go.rg ?_|refine GoR.nil ?_|refine Go.ret ?_|refine Go.b rfl ?_|(refine GoR.o (by rfl) (by rfl) ?_;(conv => arg 1;simp only [G,Z,Y,Gx,un_neg,cutD,decide_true,decide_false,simprocAttr,fb2,fb3,fb45,fb100,show (decide ((i : Int) < (l.length : Int))) = true by simp; omega, intsAt h1, wrap_succ (show i < 4611686018427387904 by omega), hap, builtin_append]);show GoR ..)|(refine GoR.c c99 (by rfl) (by rfl) rfl ?_;(refine (formatInt _ hx.1 hx.2 _).ret ?_))|refine Go.condB rfl (fun hc => ?_) (fun hc => ?_))
    refine Go.lpN ?_
    refine Go.keep [(3, o'), (6, .sl none 1 l.length (intsD l)), (7, .int .i64 (l.length : Int)), (8, .int .i64 ((i + 1 : Nat) : Int))] (.cons .refl (.cons .refl (.cons .refl (.cons .refl (.nil))))) ?_
    refine next (i + 1, o', S2) (by dsimp only; omega) ⟨h1, ?_, hg.trans (Grown.app.trans hg2)⟩
    dsimp only
    rw [take_decs h1]
    exact hacc2
  · clear next
    have e : i = l.length := by omega
    subst e
    rw [List.take_length] at hacc
    have hdl : (decsB l).length = l.length := by simp [decsB]
    obtain ⟨E, hE⟩ := hg.pre [] S rfl (by simp)
    have hj := fun own => join own (decsB l) ⟨#[32]⟩ (by rw [hdl]; omega) (by show (numsB l).size ≤ _; omega) S1
    simp only [hdl] at hj
    rcases hacc with ⟨ho, h0, h00⟩ | ⟨ho, h0, h00⟩ | ⟨id, h0, ho, h00⟩
    · subst ho
      have hl0 : l = [] := List.eq_nil_of_length_eq_zero h0
      subst hl0
      repeat' (first|refine Go.a rfl ?_|refine Go.rg ?_|refine GoR.nil ?_|refine Go.ret ?_|refine Go.b rfl ?_|(refine GoR.o (by rfl) (by rfl) ?_;(conv => arg 1;simp only [G,Z,Y,Gx,un_neg,cutD,decide_true,decide_false,simprocAttr,fb2,fb3,fb45,fb100,show (decide ((([] : List Int).length : Int) < (([] : List Int).length : Int))) = false by simp]);show GoR ..)|(refine GoR.c c65 (by rfl) (by rfl) rfl ?_;(refine (CallD.weak (.cons .nilE (.cons .refl .nil)) (hj none)).ret ?_))|refine Go.condB rfl (fun hc => ?_) (fun hc => ?_))
      refine ⟨(by first | exact .inl rfl | exact .inr rfl), fin ?_⟩
      rw [resD_tmp (fn := Tryz.f112) rfl]
      simp only [optThen_some,resultD_tmp,resultD_cell,G,Z,Y,Gx,un_neg,cutD,decide_true,decide_false,simprocAttr,fb2,fb3,fb45,fb100]
      exact ⟨_, E, hE, .str, rfl⟩
    · subst ho
      have hl0 : l = [] := List.eq_nil_of_length_eq_zero h0
      subst hl0
      repeat' (first|refine Go.a rfl ?_|refine Go.rg ?_|refine GoR.nil ?_|refine Go.ret ?_|refine Go.b rfl ?_|(refine GoR.o (by rfl) (by rfl) ?_;(conv => arg 1;simp only [G,Z,Y,Gx,un_neg,cutD,decide_true,decide_false,simprocAttr,fb2,fb3,fb45,fb100,show (decide ((([] : List Int).length : Int) < (([] : List Int).length : Int))) = false by simp]);show GoR ..)|(refine GoR.c c65 (by rfl) (by rfl) rfl ?_;(refine (CallD.weak (.cons .sl0E (.cons .refl .nil)) (hj none)).ret ?_))|refine Go.condB rfl (fun hc => ?_) (fun hc => ?_))
      refine ⟨(by first | exact .inl rfl | exact .inr rfl), fin ?_⟩
      rw [resD_tmp (fn := Tryz.f112) rfl]
      simp only [optThen_some,resultD_tmp,resultD_cell,G,Z,Y,Gx,un_neg,cutD,decide_true,decide_false,simprocAttr,fb2,fb3,fb45,fb100]
      exact ⟨_, E, hE, .str, rfl⟩
    · subst ho
      repeat' (first|refine Go.a rfl ?_|refine Go.rg ?_|refine GoR.nil ?_|refine Go.ret ?_|refine Go.b rfl ?_|(refine GoR.o (by rfl) (by rfl) ?_;(conv => arg 1;simp only [G,Z,Y,Gx,un_neg,cutD,decide_true,decide_false,simprocAttr,fb2,fb3,fb45,fb100,show (decide ((l.length : Int) < (l.length : Int))) = false by simp]);show GoR ..)|(refine GoR.c c65 (by rfl) (by rfl) rfl ?_;(refine (hj _).ret ?_))|refine Go.condB rfl (fun hc => ?_) (fun hc => ?_))
      refine ⟨(by first | exact .inl rfl | exact .inr rfl), fin ?_⟩
      rw [resD_tmp (fn := Tryz.f112) rfl]
      simp only [optThen_some,resultD_tmp,resultD_cell,G,Z,Y,Gx,un_neg,cutD,decide_true,decide_false,simprocAttr,fb2,fb3,fb45,fb100]
      exact ⟨_, E, hE, .str, rfl⟩
theorem valTextW (v : Val) (hl : v.l.length ≤ 1000) (hs : v.s.size < 1000000) (hi : in64 v.i) (hin : ∀ x ∈ v.l, in64 x) (S : Mem) : CallD Tryz.prog O 64 [.agg v.c] S fun d S' => S' = S ∧ d = .str (textV v) := by
  obtain ⟨k, i, s, l⟩ := v
  simp only at hl hs hi hin
  have hsz := nums_size hin l.length (Nat.le_refl _)
  rw [List.take_length] at hsz
  have p1 : ∀ {t : TypeId} {u v : Operand}, binD Tryz.prog .add t u v (.str ⟨#[34]⟩) (.str s) = some (.str (⟨#[34]⟩ ++ s)) := add_str (by show 1 + _ < _; omega)
  have p2 : ∀ {t : TypeId} {u v : Operand}, binD Tryz.prog .add t u v (.str (⟨#[34]⟩ ++ s)) (.str ⟨#[34]⟩) = some (.str (⟨#[34]⟩ ++ s ++ ⟨#[34]⟩)) := add_str (by rw [ByteArray.size_append]; show 1 + _ + 1 < _; omega)
  have p3 : ∀ {t : TypeId} {u v : Operand}, binD Tryz.prog .add t u v (.str ⟨#[91]⟩) (.str (numsB l)) = some (.str (⟨#[91]⟩ ++ numsB l)) := add_str (by show 1 + _ < _; omega)
  have p4 : ∀ {t : TypeId} {u v : Operand}, binD Tryz.prog .add t u v (.str (⟨#[91]⟩ ++ numsB l)) (.str ⟨#[93]⟩) = some (.str (⟨#[91]⟩ ++ numsB l ++ ⟨#[93]⟩)) := add_str (by rw [ByteArray.size_append]; show 1 + _ + 1 < _; omega)
  simp only [Val.c]
  refine CallD.e Tryz.func64 rfl Tryz.ntmps64 (by rfl) ?_
  repeat' (first|refine Go.a rfl ?_|refine Go.rg ?_|refine GoR.nil ?_|refine Go.ret ?_|refine Go.b rfl ?_|(refine GoR.o (by rfl) (by rfl) ?_;(conv => arg 1;simp only [G,Z,Y,Gx,un_neg,cutD,decide_true,decide_false,simprocAttr,fb2,fb3,fb9,fb45,fb47,p1, p2, p3, p4]);show GoR ..)|(refine GoR.c c99 (by rfl) (by rfl) rfl ?_;(refine (formatInt _ hi.1 hi.2 _).ret ?_))|(refine GoR.c c112 (by rfl) (by rfl) rfl ?_;(refine (numbers _ hl hin _).ret ?_))|refine Go.condB rfl (fun hc => ?_) (fun hc => ?_))
  all_goals
    refine ⟨(by first | exact .inl rfl | exact .inr rfl), fin ?_⟩
    rw [resD_tmp (fn := Tryz.f64) rfl]
    simp only [optThen_some,resultD_tmp,resultD_cell,G,Z,Y,Gx,un_neg,cutD,decide_true,decide_false,simprocAttr,fb2,fb3,fb9,fb45,fb47]
    refine ⟨_, _, rfl, .str, ?_⟩
    simp_all [textV]
theorem refValueText (v : Val) (hl : v.l.length ≤ 1000) (hs : v.s.size < 1000000) (hi : in64 v.i) (hin : ∀ x ∈ v.l, in64 x) (S : Mem) : CallD Tryz.prog O 67 [.agg v.c] S fun d S' => S' = S ∧ d = .str (textV v) := by
  obtain ⟨k, i, s, l⟩ := v
  simp only at hl hs hi hin
  by_cases k3 : k = 3
  · subst k3
    have ht : textV ⟨3, i, s, l⟩ = ⟨#[91]⟩ ++ numsB l ++ ⟨#[93]⟩ := by simp [textV]
    rw [ht]
    have hz := nums_size hin
    have sz := hz l.length (Nat.le_refl _)
    rw [List.take_length] at sz
    simp only [Val.c]
    refine CallD.e Tryz.func67 rfl Tryz.ntmps67 (by rfl) ?_
    repeat' (first|refine Go.a rfl ?_|refine Go.rg ?_|refine GoR.nil ?_|refine Go.ret ?_|refine Go.b rfl ?_|(refine GoR.o (by rfl) (by rfl) ?_;(conv => arg 1;simp only [G,Z,Y,Gx,un_neg,cutD,decide_true,decide_false,simprocAttr,fb2,fb3,fb9,fb45,fb55,show ((3 : Int) == 1) = false from rfl, show ((3 : Int) == 2) = false from rfl, show ((3 : Int) == 3) = true from rfl]);show GoR ..)|refine Go.condB rfl (fun hc => ?_) (fun hc => ?_))
    refine Go.keep [(1, .ptr S.length 0), (3, .str ⟨#[91]⟩), (4, .int .i64 ((0 : Nat) : Int))] (.cons .refl (.cons .refl (.cons .refl (.nil)))) ?_
    refine Go.while (α := Nat) (fun i => l.length - i) (fun j => [(1, .ptr S.length 0), (3, .str (⟨#[91]⟩ ++ numsB (l.take j))), (4, .int .i64 (j : Int))]) (fun _ => S ++ [.obj [.int .i64 3, .int .i64 i, .str s, .sl none 1 l.length (intsD l)]]) (fun j => j ≤ l.length) ?_ 0 (Nat.zero_le _)
    rintro j hj next
    by_cases h1 : j < l.length
    · have hx := hin l[j] (List.getElem_mem _)
      have hdz := decB_size hx
      have hzj := hz j hj
      have hd := fun S => decimal (orc := O) l[j] hx S
      by_cases h0 : j = 0
      · subst h0
        have e : numsB (l.take 1) = decB l[0] := nums_one h1
        have e0 : (⟨#[91]⟩ : ByteArray) ++ numsB (l.take 0) = ⟨#[91]⟩ := by rw [List.take_zero]; rfl
        have q1 : ∀ {t : TypeId} {u v : Operand}, binD Tryz.prog .add t u v (.str ⟨#[91]⟩) (.str (decB l[0])) = some (.str (⟨#[91]⟩ ++ decB l[0])) := add_str (by show 1 + _ < _; omega)
        rw [e0]
        repeat' (first|refine Go.a rfl ?_|refine Go.rg ?_|refine GoR.nil ?_|refine Go.ret ?_|refine Go.b rfl ?_|(refine GoR.o (by rfl) (by rfl) ?_;(conv => arg 1;simp only [G,Z,Y,Gx,un_neg,cutD,decide_true,decide_false,simprocAttr,fb2,fb3,fb9,fb45,fb55,show (decide (((0 : Nat) : Int) < (l.length : Int))) = true by simp; omega, show (decide ((0 : Int) < (l.length : Int))) = true by simp; omega, (intsAt h1).2, show ((0 : Int) < (l.length : Int)) = True by simp; omega, Int.le_refl, true_and, if_true, Int.toNat_zero, Nat.zero_mul, Nat.mul_one, q1]);show GoR ..)|(refine GoR.c c100 (by rfl) (by rfl) rfl ?_;(refine (hd _).ret ?_))|refine Go.condB rfl (fun hc => ?_) (fun hc => ?_))
        refine Go.lpN ?_
        refine Go.keep [(1, .ptr S.length 0), (3, .str (⟨#[91]⟩ ++ decB l[0])), (4, .int .i64 ((1 : Nat) : Int))] (.cons .refl (.cons .refl (.cons .refl (.nil)))) ?_
        have nx := next 1 (by omega) h1
        rw [e] at nx
        exact nx
      · have hp : 0 < j := by omega
        have e := nums_succ hp h1
        have q1 : ∀ {t : TypeId} {u v : Operand}, binD Tryz.prog .add t u v (.str (⟨#[91]⟩ ++ numsB (l.take j))) (.str ⟨#[32]⟩) = some (.str (⟨#[91]⟩ ++ numsB (l.take j) ++ ⟨#[32]⟩)) := add_str (by rw [ByteArray.size_append]; show 1 + _ + 1 < _; omega)
        have q2 : ∀ {t : TypeId} {u v : Operand}, binD Tryz.prog .add t u v (.str (⟨#[91]⟩ ++ numsB (l.take j) ++ ⟨#[32]⟩)) (.str (decB l[j])) = some (.str (⟨#[91]⟩ ++ numsB (l.take (j + 1)))) := by
          intro t u v
          rw [add_str (by rw [ByteArray.size_append, ByteArray.size_append]; show 1 + _ + 1 + _ < _; omega), e]
          congr 2
        repeat' (first|refine Go.a rfl ?_|refine Go.rg ?_|refine GoR.nil ?_|refine Go.ret ?_|refine Go.b rfl ?_|(refine GoR.o (by rfl) (by rfl) ?_;(conv => arg 1;simp only [G,Z,Y,Gx,un_neg,cutD,decide_true,decide_false,simprocAttr,fb2,fb3,fb9,fb45,fb55,show (decide ((j : Int) < (l.length : Int))) = true by simp; omega, show (decide (0 < (j : Int))) = true by simp; omega, intsAt h1, wrap_succ (show j < 4611686018427387904 by omega), q1, q2]);show GoR ..)|(refine GoR.c c100 (by rfl) (by rfl) rfl ?_;(refine (hd _).ret ?_))|refine Go.condB rfl (fun hc => ?_) (fun hc => ?_))
        refine Go.lpN ?_
        refine Go.keep [(1, .ptr S.length 0), (3, .str (⟨#[91]⟩ ++ numsB (l.take (j + 1)))), (4, .int .i64 ((j + 1 : Nat) : Int))] (.cons .refl (.cons .refl (.cons .refl (.nil)))) ?_
        exact next (j + 1) (by omega) h1
    · clear next
      have e : j = l.length := by omega
      subst e
      rw [List.take_length]
      have q1 : ∀ {t : TypeId} {u v : Operand}, binD Tryz.prog .add t u v (.str (⟨#[91]⟩ ++ numsB l)) (.str ⟨#[93]⟩) = some (.str (⟨#[91]⟩ ++ numsB l ++ ⟨#[93]⟩)) := add_str (by rw [ByteArray.size_append]; show 1 + _ + 1 < _; omega)
      repeat' (first|refine Go.a rfl ?_|refine Go.rg ?_|refine GoR.nil ?_|refine Go.ret ?_|refine Go.b rfl ?_|(refine GoR.o (by rfl) (by rfl) ?_;(conv => arg 1;simp only [G,Z,Y,Gx,un_neg,cutD,decide_true,decide_false,simprocAttr,fb2,fb3,fb9,fb45,fb55,show (decide ((l.length : Int) < (l.length : Int))) = false by simp, q1]);show GoR ..)|refine Go.condB rfl (fun hc => ?_) (fun hc => ?_))
      refine ⟨(by first | exact .inl rfl | exact .inr rfl), fin ?_⟩
      rw [resD_tmp (fn := Tryz.f67) rfl]
      simp only [optThen_some,resultD_tmp,resultD_cell,G,Z,Y,Gx,un_neg,cutD,decide_true,decide_false,simprocAttr,fb2,fb3,fb9,fb45,fb55]
      exact ⟨_, _, rfl, .str, rfl⟩
  · have p1 : ∀ {t : TypeId} {u v : Operand}, binD Tryz.prog .add t u v (.str ⟨#[34]⟩) (.str s) = some (.str (⟨#[34]⟩ ++ s)) := add_str (by show 1 + _ < _; omega)
    have p2 : ∀ {t : TypeId} {u v : Operand}, binD Tryz.prog .add t u v (.str (⟨#[34]⟩ ++ s)) (.str ⟨#[34]⟩) = some (.str (⟨#[34]⟩ ++ s ++ ⟨#[34]⟩)) := add_str (by rw [ByteArray.size_append]; show 1 + _ + 1 < _; omega)
    simp only [Val.c]
    refine CallD.e Tryz.func67 rfl Tryz.ntmps67 (by rfl) ?_
    repeat' (first|refine Go.a rfl ?_|refine Go.rg ?_|refine GoR.nil ?_|refine Go.ret ?_|refine Go.b rfl ?_|(refine GoR.o (by rfl) (by rfl) ?_;(conv => arg 1;simp only [G,Z,Y,Gx,un_neg,cutD,decide_true,decide_false,simprocAttr,fb2,fb3,fb9,fb45,fb55,p1, p2, show (k == 3) = false by simpa using k3]);show GoR ..)|(refine GoR.c c100 (by rfl) (by rfl) rfl ?_;(refine (decimal _ hi _).ret ?_))|refine Go.condB rfl (fun hc => ?_) (fun hc => ?_))
    all_goals
      refine ⟨(by first | exact .inl rfl | exact .inr rfl), fin ?_⟩
      rw [resD_tmp (fn := Tryz.f67) rfl]
      simp only [optThen_some,resultD_tmp,resultD_cell,G,Z,Y,Gx,un_neg,cutD,decide_true,decide_false,simprocAttr,fb2,fb3,fb9,fb45,fb55]
      refine ⟨_, _, rfl, .str, ?_⟩
      simp_all [textV]
end Go.Proofs.DwT
