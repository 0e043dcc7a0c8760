/- Lists of texts that are joined: slices.Concat, what it makes. -/
import Derived.Test.YtpdnaoahghfaoaaGreatDoorDeC8
import Derived.Test.YtpdnaoahghfaoaaGreatDoorDeN1
set_option linter.unusedSimpArgs false
set_option linter.unusedVariables false
namespace Go.Proofs.DeT
open Go Go.DM
set_option maxRecDepth 100000

theorem ap_msl {P : Program} {S : Mem} {t e n bytes : Nat} (h : ElemT P t e n bytes) {own : Option Nat} {o len m : Nat} {new : List D} :
    appendD P #[t, t] (.msl o n len) (.sl own n m new) S = if m = 0 then some (.msl o n len, S) else if fitsD bytes (len + m) new then (match objAt S o with | some cells => if cells.length = len * n then some (.msl S.length n (len + m), S.set o .dead ++ [.obj (cells ++ new)]) else none | none => none) else none := by
  obtain ⟨hu, i, z, hi, rfl, rfl, hz, hs⟩ := h
  simp [appendD, hu, hi, hz, hs, elemsD, fitsD]
  rfl
theorem cut_msl {P : Program} {t e n : Nat} (hu : P.underlying t = some (.slice e)) (hs : AM.sizeA P e = some n) {o len : Nat} {hi mx : D} (h1 : natD hi = some len) (h2 : natD mx = some len) (h0 : len ≠ 0) : sliceD P t (.msl o n len) none (some hi) (some mx) = some (.msl o n len) := by
  simp [sliceD, optNatD, h1, h2, hu, hs, h0]
theorem len_msl {P : Program} {S : Mem} {at_ : Array TypeId} {t e : Nat} (h : at_[0]? = some t) (hu : P.underlying t = some (.slice e)) {o n len : Nat} : builtinD P .len at_ [.msl o n len] S = some (.int .i64 len, S) := by simp [builtinD, h, hu]

theorem strC_length {l : List ByteArray} : (strC l).length = l.length := by simp [strC]
theorem strC_one {l : List ByteArray} : (strC l).all D.one = true := by
  rw [List.all_eq_true]
  intro x hx
  obtain ⟨y, _, rfl⟩ := List.mem_map.1 hx
  rfl
theorem strC_app {l k : List ByteArray} : strC (l ++ k) = strC l ++ strC k := by simp [strC]
/-- Texts in a slice that may be written, which is new. -/
def Strs (b : Nat) (l : List ByteArray) (d : D) (S : Mem) : Prop := (l = [] ∧ d = .nils) ∨ ∃ o, b ≤ o ∧ d = .msl o 1 l.length ∧ objAt S o = some (strC l)
def NewStrs (l : List ByteArray) (S : Mem) (d : D) (S' : Mem) : Prop := (l = [] ∧ d = .nils ∧ S' = S) ∨ (l ≠ [] ∧ d = .msl S.length 1 l.length ∧ S' = S ++ [.obj (strC l)])
theorem WzL_str {S1 : Mem} {F : List Nat} {ι : Nat → Nat} {n : Nat} {l : List ByteArray} : WzL S1 F ι n (strC l) (strC l) := by
  refine ⟨rfl, fun j h h' => ?_⟩
  refine Wz.of_low (m := 0) (fun i hi => by omega) (Nat.zero_le _) ?_
  simp only [strC, List.getElem_map]
  exact .str _
theorem NewStrs.of {P : Program} {orc : DOracle} {f : FuncId} {args : List D} {S : Mem} {l : List ByteArray}
    (h : CallD P orc f args S fun d S1 => ∃ E, S1 = S ++ E ∧ Strs S.length l d S1 ∧ (l = [] → d = .nils)) : CallD P orc f args S (NewStrs l S) := by
  obtain ⟨d, S1, hb, E, rfl, hs, h0⟩ := h
  rcases hs with ⟨rfl, rfl⟩ | ⟨o, ho, rfl, hob⟩
  · have : CallD P orc f args S fun d S' => S' = S ∧ d = .nils := CallD.drop ⟨.nils, _, hb, .nils, E, rfl, .of_low .nils, rfl⟩
    exact this.mono fun d S' ⟨h1, h2⟩ => .inl ⟨rfl, h2, h1⟩
  · refine CallD.keep1 ⟨_, _, hb, o, E, strC l, strC l, .msl S.length 1 l.length, rfl, ho, hob, fun ι h1 h2 => ⟨WzL_str, ?_⟩, .inr ⟨fun h => D.noConfusion (h0 h), rfl, rfl⟩⟩
    rw [← h2]
    exact Wz.msl (by omega)
/-- Such a slice, read only from then on. -/
theorem NewStrs.frozen {P : Program} {orc : DOracle} {f : FuncId} {args : List D} {S : Mem} {l : List ByteArray} (h : CallD P orc f args S (NewStrs l S)) :
    CallD P orc f args S fun d S' => S' = S ∧ d = .sl none 1 l.length (strC l) := by
  refine CallD.freeze (h.mono fun d S1 hn => ?_)
  rcases hn with ⟨rfl, rfl, rfl⟩ | ⟨_, rfl, rfl⟩
  · exact ⟨.sl none 1 0 [], [], [], by simp, by simp, .nilE, rfl⟩
  · exact ⟨.sl none 1 l.length (strC l), _, [S.length], rfl, fun o ho => by
      simp only [List.mem_singleton] at ho
      subst ho
      exact ⟨Nat.le_refl _, strC l, by simp [objAt]⟩, .freeze (cells := strC l) (by simp) (by simp [objAt]) (by simp [strC]) WzL_str, rfl⟩

theorem Strs.append {P : Program} {t e bytes : Nat} (h : ElemT P t e 1 bytes) {S0 E : Mem} {l k : List ByteArray} {d : D} {own : Option Nat} (ha : Strs S0.length l d (S0 ++ E)) (hn : d ≠ .nils) (hb : 0 < bytes) (hl : (l.length + k.length) * bytes ≤ 2 ^ 47) (hl2 : l.length + k.length < 2 ^ 62) :
    ∃ d' E', appendD P #[t, t] d (.sl own 1 k.length (strC k)) (S0 ++ E) = some (d', S0 ++ E') ∧ Strs S0.length (l ++ k) d' (S0 ++ E') ∧ d' ≠ .nils := by
  rcases ha with ⟨_, rfl⟩ | ⟨o, ho, rfl, hob⟩
  · exact absurd rfl hn
  · rw [ap_msl h]
    by_cases hk : k.length = 0
    · have : k = [] := List.eq_nil_of_length_eq_zero hk
      subst this
      exact ⟨.msl o 1 l.length, E, by simp, .inr ⟨o, ho, by simp, by simpa using hob⟩, by simp⟩
    · rw [if_neg hk, if_pos ⟨hl, hl2, hb, strC_one⟩, hob]
      simp only [strC_length, Nat.mul_one, if_true]
      refine ⟨.msl (S0 ++ E).length 1 (l.length + k.length), E.set (o - S0.length) .dead ++ [.obj (strC l ++ strC k)], ?_, .inr ⟨(S0 ++ E).length, by simp, by simp, ?_⟩, by simp⟩
      · rw [List.set_append_right _ _ ho, List.append_assoc]
      · rw [strC_app, ← List.append_assoc]
        simp [objAt, List.getElem?_append_right]

/-- Lists of texts, in cells. -/
def kidsC (ks : List (List ByteArray)) : List D := ks.map fun k => .sl none 1 k.length (strC k)
theorem kidsAt {ks : List (List ByteArray)} {i : Nat} (h : i < ks.length) :
    ((0 ≤ (i : Int) ∧ (i : Int) < (ks.length : Int)) = True) ∧ (kidsC ks)[i]? = some (.sl none 1 ks[i].length (strC ks[i])) ∧ (kidsC ks)[i * 1]? = some (.sl none 1 ks[i].length (strC ks[i])) := by
  have : (kidsC ks)[i]? = some (.sl none 1 ks[i].length (strC ks[i])) := by simp [kidsC, h]
  exact ⟨ix_ok h, this, by rw [Nat.mul_one]; exact this⟩
theorem flatten_succ {ks : List (List ByteArray)} {i : Nat} (h : i < ks.length) : (ks.take (i + 1)).flatten = (ks.take i).flatten ++ ks[i] := by
  rw [← List.take_append_getElem h, List.flatten_append]
  simp
theorem flatten_le {ks : List (List ByteArray)} {i : Nat} : ((ks.take i).flatten).length ≤ ks.flatten.length := by
  have : ks.flatten = (ks.take i).flatten ++ (ks.drop i).flatten := by rw [← List.flatten_append, List.take_append_drop]
  rw [this, List.length_append]
  omega

theorem concat (ks : List (List ByteArray)) (own : Option Nat) (hl : ks.flatten.length < 1000000) (hk : ks.length ≤ 1000) (S : Mem) :
    CallD Tryz.prog O 104 [.sl own 1 ks.length (kidsC ks)] S (NewStrs ks.flatten S) := by
  refine NewStrs.of ?_
  refine CallD.eb Tryz.func104 rfl Tryz.ntmps104 (by rfl) ?_
  repeat' (first|refine Go.a rfl ?_|refine Go.rg ?_|refine GoR.nil ?_|refine Go.ret ?_|refine Go.b rfl ?_|(refine GoR.o (by rfl) (by rfl) ?_;(conv => arg 1;simp only [G,Z,Y,Gx,un_neg,cutD,decide_true,decide_false,simprocAttr,fb3,fb100,fb160]);show GoR ..)|refine Go.condB rfl (fun hc => ?_) (fun hc => ?_))
  refine Go.keep [(0, .sl own 1 ks.length (kidsC ks)), (3, .int .i64 ((0 : Nat) : Int)), (9, .sl own 1 ks.length (kidsC ks)), (10, .int .i64 (ks.length : Int)), (11, .int .i64 ((0 : Nat) : Int))] (.cons .refl (.cons .refl (.cons .refl (.cons .refl (.cons .refl (.nil)))))) ?_
  refine Go.while (α := Nat) (fun a => ks.length - a) (fun a => [(0, .sl own 1 ks.length (kidsC ks)), (3, .int .i64 (((ks.take a).flatten.length : Nat) : Int)), (9, .sl own 1 ks.length (kidsC ks)), (10, .int .i64 (ks.length : Int)), (11, .int .i64 (a : Int))]) (fun _ => S)
    (fun a => a ≤ ks.length) ?_ 0 (Nat.zero_le _)
  intro i hi next
  by_cases h1 : i < ks.length
  · have e1 : IntKind.i64.wrap ((((ks.take i).flatten.length : Nat) : Int) + ((ks[i].length : Nat) : Int)) = (((ks.take (i + 1)).flatten.length : Nat) : Int) := by
      rw [flatten_succ h1, List.length_append]
      have h2 := flatten_le (ks := ks) (i := i + 1)
      rw [flatten_succ h1, List.length_append] at h2
      exact add_cast (by omega)
    repeat' (first|refine Go.a rfl ?_|refine Go.rg ?_|refine GoR.nil ?_|refine Go.ret ?_|refine Go.b rfl ?_|(refine GoR.o (by rfl) (by rfl) ?_;(conv => arg 1;simp only [G,Z,Y,Gx,un_neg,cutD,decide_true,decide_false,simprocAttr,fb3,fb100,fb160,show decide ((i : Int) < (ks.length : Int)) = true by simp; omega, kidsAt h1, e1, wrap_succ (show i < 4611686018427387904 by omega), decide_eq_false (show ¬ ((((ks.take (i + 1)).flatten.length : Nat) : Int) < 0) by omega)]);show GoR ..)|refine Go.condB rfl (fun hc => ?_) (fun hc => ?_))
    refine Go.lpN ?_
    refine Go.keep [(0, .sl own 1 ks.length (kidsC ks)), (3, .int .i64 (((ks.take (i + 1)).flatten.length : Nat) : Int)), (9, .sl own 1 ks.length (kidsC ks)), (10, .int .i64 (ks.length : Int)), (11, .int .i64 ((i + 1 : Nat) : Int))] (.cons .refl (.cons .refl (.cons .refl (.cons .refl (.cons .refl (.nil)))))) ?_
    exact next (i + 1) (by omega) h1
  · clear next
    have hi' : i = ks.length := by omega
    subst hi'
    rw [List.take_length]
    by_cases h0 : ks.flatten.length = 0
    · have hnil : ks.flatten = [] := List.eq_nil_of_length_eq_zero h0
      rw [hnil]
      repeat' (first|refine Go.a rfl ?_|refine Go.rg ?_|refine GoR.nil ?_|refine Go.ret ?_|refine Go.b rfl ?_|(refine GoR.o (by rfl) (by rfl) ?_;(conv => arg 1;simp only [G,Z,Y,Gx,un_neg,cutD,decide_true,decide_false,simprocAttr,fb3,fb100,fb160,show decide ((ks.length : Int) < (ks.length : Int)) = false by simp, List.length_nil]);show GoR ..)|(refine GoR.c c139 (by rfl) (by rfl) rfl ?_;(refine (growNil _).ret ?_))|refine Go.condB rfl (fun hc => ?_) (fun hc => ?_))
      refine Go.keep [(6, .nils), (25, .sl own 1 ks.length (kidsC ks)), (26, .int .i64 (ks.length : Int)), (27, .int .i64 ((0 : Nat) : Int))] (.cons .refl (.cons .refl (.cons .refl (.cons .refl (.nil))))) ?_
      refine Go.while (α := Nat) (fun a => ks.length - a) (fun a => [(6, .nils), (25, .sl own 1 ks.length (kidsC ks)), (26, .int .i64 (ks.length : Int)), (27, .int .i64 (a : Int))]) (fun _ => S)
        (fun a => a ≤ ks.length) ?_ 0 (Nat.zero_le _)
      intro i hi next
      by_cases h1 : i < ks.length
      · have hz : ks[i] = [] := by
          have := List.flatten_eq_nil_iff.1 hnil
          exact this _ (List.getElem_mem _)
        have hap : ∀ S : Mem, appendD Tryz.prog #[100, 100] .nils (.sl none 1 0 []) S = some (.nils, S) := fun S => by rw [ap_nils del100]; rfl
        repeat' (first|refine Go.a rfl ?_|refine Go.rg ?_|refine GoR.nil ?_|refine Go.ret ?_|refine Go.b rfl ?_|(refine GoR.o (by rfl) (by rfl) ?_;(conv => arg 1;simp only [G,Z,Y,Gx,un_neg,cutD,decide_true,decide_false,simprocAttr,fb3,fb100,fb160,show decide ((i : Int) < (ks.length : Int)) = true by simp; omega, kidsAt h1, hz, strC, List.map_nil, List.length_nil, hap, builtin_append, wrap_succ (show i < 4611686018427387904 by omega)]);show GoR ..)|refine Go.condB rfl (fun hc => ?_) (fun hc => ?_))
        refine Go.lpN ?_
        refine Go.keep [(6, .nils), (25, .sl own 1 ks.length (kidsC ks)), (26, .int .i64 (ks.length : Int)), (27, .int .i64 ((i + 1 : Nat) : Int))] (.cons .refl (.cons .refl (.cons .refl (.cons .refl (.nil))))) ?_
        exact next (i + 1) (by omega) h1
      · clear next
        repeat' (first|refine Go.a rfl ?_|refine Go.rg ?_|refine GoR.nil ?_|refine Go.ret ?_|refine Go.b rfl ?_|(refine GoR.o (by rfl) (by rfl) ?_;(conv => arg 1;simp only [G,Z,Y,Gx,un_neg,cutD,decide_true,decide_false,simprocAttr,fb3,fb100,fb160,show decide ((i : Int) < (ks.length : Int)) = false by simp; omega]);show GoR ..)|refine Go.condB rfl (fun hc => ?_) (fun hc => ?_))
        refine ⟨(by first | exact .inl rfl | exact .inr rfl), fin ?_⟩
        rw [resD_tmp (fn := Tryz.f104) rfl]
        simp only [optThen_some,resultD_tmp,resultD_cell,G,Z,Y,Gx,un_neg,cutD,decide_true,decide_false,simprocAttr,fb3,fb100,fb160]
        exact ⟨[], by simp, .inl ⟨rfl, rfl⟩, by simp⟩
    · repeat' (first|refine Go.a rfl ?_|refine Go.rg ?_|refine GoR.nil ?_|refine Go.ret ?_|refine Go.b rfl ?_|(refine GoR.o (by rfl) (by rfl) ?_;(conv => arg 1;simp only [G,Z,Y,Gx,un_neg,cutD,decide_true,decide_false,simprocAttr,fb3,fb100,fb160,show decide ((ks.length : Int) < (ks.length : Int)) = false by simp]);show GoR ..)|(refine GoR.c c139 (by rfl) (by rfl) rfl ?_;(refine (growNew (by omega) hl _).mono ?_; rintro d S' ⟨rfl, rfl⟩))|refine Go.condB rfl (fun hc => ?_) (fun hc => ?_))
      refine Go.keep [(6, .msl S.length 1 0), (25, .sl own 1 ks.length (kidsC ks)), (26, .int .i64 (ks.length : Int)), (27, .int .i64 ((0 : Nat) : Int))] (.cons .refl (.cons .refl (.cons .refl (.cons .refl (.nil))))) ?_
      refine Go.while (α := Nat × D × Mem) (fun a => ks.length - a.1) (fun a => [(6, a.2.1), (25, .sl own 1 ks.length (kidsC ks)), (26, .int .i64 (ks.length : Int)), (27, .int .i64 (a.1 : Int))]) (fun a => S ++ a.2.2)
        (fun a => a.1 ≤ ks.length ∧ Strs S.length (ks.take a.1).flatten a.2.1 (S ++ a.2.2) ∧ a.2.1 ≠ .nils) ?_ (0, .msl S.length 1 0, [.obj []]) ⟨Nat.zero_le _, .inr ⟨S.length, Nat.le_refl _, rfl, by simp [objAt, strC]⟩, by simp⟩
      rintro ⟨i, d, E⟩ ⟨hi, hs, hn⟩ next
      dsimp only at hi hs hn next
      by_cases h1 : i < ks.length
      · have h2 := flatten_le (ks := ks) (i := i + 1)
        rw [flatten_succ h1, List.length_append] at h2
        obtain ⟨d', E', hap, hs', hn'⟩ := hs.append (P := Tryz.prog) (k := ks[i]) (own := none) del100 hn (by omega) (by omega) (by omega)
        repeat' (first|refine Go.a rfl ?_|refine Go.rg ?_|refine GoR.nil ?_|refine Go.ret ?_|refine Go.b rfl ?_|(refine GoR.o (by rfl) (by rfl) ?_;(conv => arg 1;simp only [G,Z,Y,Gx,un_neg,cutD,decide_true,decide_false,simprocAttr,fb3,fb100,fb160,show decide ((i : Int) < (ks.length : Int)) = true by simp; omega, kidsAt h1, hap, builtin_append, wrap_succ (show i < 4611686018427387904 by omega)]);show GoR ..)|refine Go.condB rfl (fun hc => ?_) (fun hc => ?_))
        refine Go.lpN ?_
        refine Go.keep [(6, d'), (25, .sl own 1 ks.length (kidsC ks)), (26, .int .i64 (ks.length : Int)), (27, .int .i64 ((i + 1 : Nat) : Int))] (.cons .refl (.cons .refl (.cons .refl (.cons .refl (.nil))))) ?_
        refine next (i + 1, d', E') (by dsimp only; omega) ⟨h1, ?_, hn'⟩
        dsimp only
        rw [flatten_succ h1]
        exact hs'
      · clear next
        have hi' : i = ks.length := by omega
        subst hi'
        rw [List.take_length] at hs
        repeat' (first|refine Go.a rfl ?_|refine Go.rg ?_|refine GoR.nil ?_|refine Go.ret ?_|refine Go.b rfl ?_|(refine GoR.o (by rfl) (by rfl) ?_;(conv => arg 1;simp only [G,Z,Y,Gx,un_neg,cutD,decide_true,decide_false,simprocAttr,fb3,fb100,fb160,show decide ((ks.length : Int) < (ks.length : Int)) = false by simp]);show GoR ..)|refine Go.condB rfl (fun hc => ?_) (fun hc => ?_))
        refine ⟨(by first | exact .inl rfl | exact .inr rfl), fin ?_⟩
        rw [resD_tmp (fn := Tryz.f104) rfl]
        simp only [optThen_some,resultD_tmp,resultD_cell,G,Z,Y,Gx,un_neg,cutD,decide_true,decide_false,simprocAttr,fb3,fb100,fb160]
        exact ⟨E, rfl, hs, fun h => absurd (show ks.flatten.length = 0 by rw [h]; rfl) h0⟩
end Go.Proofs.DeT
