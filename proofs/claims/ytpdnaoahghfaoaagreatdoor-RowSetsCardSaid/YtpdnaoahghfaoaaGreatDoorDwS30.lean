/- An attribute set, an attribute dropped: the program's own. -/
import Derived.Test.YtpdnaoahghfaoaaGreatDoorDwS29
set_option linter.unusedSimpArgs false
set_option linter.unusedVariables false
namespace Go.Proofs.DwT
open Go Go.DM Go.Proofs.DeT
set_option maxRecDepth 100000
variable {orc : DOracle}

theorem v_len {v : Val} : v.c.length = 4 := rfl
theorem objAt2 {S : Mem} {x : Ob} {c : List D} {E : Mem} : objAt (S ++ x :: .obj c :: E) (S.length + 1) = some c := by
  unfold objAt
  rw [List.getElem?_append_right (by omega), show S.length + 1 - S.length = 1 by omega]
  rfl
theorem set2 {S : Mem} {x y z : Ob} {E : Mem} : (S ++ x :: y :: E).set (S.length + 1) z = S ++ x :: z :: E := by
  rw [List.set_append_right _ _ (by omega), show S.length + 1 - S.length = 1 by omega]
  rfl
theorem frozen2 {S1 : Mem} {o len : Nat} {l : List Att} {e : D} {m : Nat} (hob : objAt S1 o = some (attsC l)) (hl : len = l.length) (he : DLow 0 e) : Wz S1 [o] id m (.tup [.msl o 5 len, e]) (.tup [attsD l, e]) := by
  subst hl
  refine .tup (.cons (.freeze (cells := attsC l) (by simp) hob attsC_len (WzL_low (atts_low l))) (.cons (Wz.of_low (m := 0) (fun i hi => by omega) (Nat.zero_le _) he) .nil))
theorem nil2 {S1 : Mem} {F : List Nat} {e : D} {m : Nat} (he : DLow 0 e) : Wz S1 F id m (.tup [.nils, e]) (.tup [attsD [], e]) :=
  .tup (.cons .nilE (.cons (Wz.of_low (m := 0) (fun i hi => by omega) (Nat.zero_le _) he) .nil))
theorem setD_name {l : List Att} {s : ByteArray} {v : Val} (h : nameOk s = false) : setD l s v = .tup [attsD [], .int .i64 5] := by rw [setD, if_pos h]
theorem setD_val {l : List Att} {s : ByteArray} {v : Val} (h : nameOk s = true) (hc : chkV v ≠ 0) : setD l s v = .tup [attsD [], .int .i64 (chkV v)] := by rw [setD, if_neg (by simp [h]), if_pos hc]
theorem setD_full {l : List Att} {s : ByteArray} {v : Val} (h : nameOk s = true) (hc : chkV v = 0) (hf : (look l s).isSome = false ∧ 32 ≤ l.length) : setD l s v = .tup [attsD [], .int .i64 4] := by rw [setD, if_neg (by simp [h]), if_neg (by simp [hc]), if_pos hf]
theorem setD_ok {l : List Att} {s : ByteArray} {v : Val} (h : nameOk s = true) (hc : chkV v = 0) (hf : ¬ ((look l s).isSome = false ∧ 32 ≤ l.length)) : setD l s v = .tup [attsD (setL l s v), .int .i64 0] := by rw [setD, if_neg (by simp [h]), if_neg (by simp [hc]), if_neg hf]
theorem rowSet (l : List Att) (s : ByteArray) (v : Val) (hr : RiseB Att.n l) (hl : l.length < 100000) (hv : ∀ a ∈ l, a.v.l.length < 1000000) (hvs : v.s.size < 1000000) (hvl : v.l.length < 1000000) (S : Mem) :
    CallD Tryz.prog O 25 [.sl none 5 l.length (attsC l), .str s, .agg v.c] S fun d S' => S' = S ∧ d = setD l s v := by
  have hck := fun S => valCheck (orc := O) v hvs S
  have hap := fun S => apart (orc := O) v hvl S
  refine CallD.freeze ?_
  simp only [Val.c] at hck hap ⊢
  cases hn : nameOk s with
  | false =>
    rw [setD_name hn]
    refine CallD.eb Tryz.func25 rfl Tryz.ntmps25 (by rfl) ?_
    repeat' (first|refine Go.a rfl ?_|refine Go.rg ?_|refine GoR.nil ?_|refine Go.ret ?_|refine Go.b rfl ?_|(refine GoR.o (by rfl) (by rfl) ?_;(conv => arg 1;simp only [G,Z,Y,Gx,un_neg,cutD,decide_true,decide_false,simprocAttr,fb2,fb3,fb9,fb24,fb35,fb45,fb47,fb71,hn]);show GoR ..)|(refine GoR.c c33 (by rfl) (by rfl) rfl ?_;(refine (rowName _ _).ret ?_))|refine Go.condB rfl (fun hc => ?_) (fun hc => ?_))
    refine ⟨(by first | exact .inl rfl | exact .inr rfl), fin ?_⟩
    rw [resD_two (fn := Tryz.f25) rfl]
    simp only [optThen_some,resultD_tmp,resultD_cell,G,Z,Y,Gx,un_neg,cutD,decide_true,decide_false,simprocAttr,fb2,fb3,fb9,fb24,fb35,fb45,fb47,fb71]
    exact ⟨_, _, [], rfl, by simp, nil2 (.int _ _), rfl⟩
  | true =>
  by_cases hc : chkV v = 0
  rotate_left
  · rw [setD_val hn hc]
    refine CallD.eb Tryz.func25 rfl Tryz.ntmps25 (by rfl) ?_
    repeat' (first|refine Go.a rfl ?_|refine Go.rg ?_|refine GoR.nil ?_|refine Go.ret ?_|refine Go.b rfl ?_|(refine GoR.o (by rfl) (by rfl) ?_;(conv => arg 1;simp only [G,Z,Y,Gx,un_neg,cutD,decide_true,decide_false,simprocAttr,fb2,fb3,fb9,fb24,fb35,fb45,fb47,fb71,hn, show (chkV v != 0) = true by simpa using hc]);show GoR ..)|(refine GoR.c c33 (by rfl) (by rfl) rfl ?_;(refine (rowName _ _).ret ?_))|(refine GoR.c c72 (by rfl) (by rfl) rfl ?_;(refine (hck _).ret ?_))|refine Go.condB rfl (fun hc => ?_) (fun hc => ?_))
    refine ⟨(by first | exact .inl rfl | exact .inr rfl), fin ?_⟩
    rw [resD_two (fn := Tryz.f25) rfl]
    simp only [optThen_some,resultD_tmp,resultD_cell,G,Z,Y,Gx,un_neg,cutD,decide_true,decide_false,simprocAttr,fb2,fb3,fb9,fb24,fb35,fb45,fb47,fb71]
    exact ⟨_, _, [], rfl, by simp, nil2 (.int _ _), rfl⟩
  by_cases h0 : l = []
  · subst h0
    have hset : setL [] s v = [⟨s, v⟩] := rfl
    rw [setD_ok hn hc (by simp), hset]
    have hins := fun S => insert0 (own := some (S.length + 1)) (new := [D.str s, .int .i64 v.k, .int .i64 v.i, .str v.s, .sl none 1 v.l.length (intsD v.l)]) (S := S ++ [.obj [.int .i64 v.k, .int .i64 v.i, .str v.s, .sl none 1 v.l.length (intsD v.l)], .own]) rfl rfl
    refine CallD.eb Tryz.func25 rfl Tryz.ntmps25 (by rfl) ?_
    repeat' (first|refine Go.a rfl ?_|refine Go.rg ?_|refine GoR.nil ?_|refine Go.ret ?_|refine Go.b rfl ?_|(refine GoR.o (by rfl) (by rfl) ?_;(conv => arg 1;simp only [G,Z,Y,Gx,un_neg,cutD,decide_true,decide_false,simprocAttr,fb2,fb3,fb9,fb24,fb35,fb45,fb47,fb71,hn, hc, List.length_nil, show attsC [] = [] from rfl, show decide (32 ≤ ((0 : Nat) : Int)) = false by decide]);show GoR ..)|(refine GoR.c c33 (by rfl) (by rfl) rfl ?_;(refine (rowName _ _).ret ?_))|(refine GoR.c c72 (by rfl) (by rfl) rfl ?_;(refine (hck _).ret ?_))|(refine GoR.c c73 (by rfl) (by rfl) rfl ?_;(refine (cloneN _).ret ?_))|(refine GoR.c c74 (by rfl) (by rfl) rfl ?_;(refine (findN _ _).ret ?_))|(refine GoR.c c75 (by rfl) (by rfl) rfl ?_;(refine (hap _).ret ?_))|(refine GoR.c c76 (by rfl) (by rfl) rfl ?_;(refine (hins _).mono ?_; rintro _ _ ⟨rfl, rfl⟩))|(refine GoR.c c77 (by rfl) (by rfl) rfl ?_;(refine (clipA (by decide) (by simp)).ret ?_))|refine Go.condB rfl (fun hc => ?_) (fun hc => ?_))
    refine ⟨(by first | exact .inl rfl | exact .inr rfl), fin ?_⟩
    rw [resD_two (fn := Tryz.f25) rfl]
    simp only [optThen_some,resultD_tmp,resultD_cell,G,Z,Y,Gx,un_neg,cutD,decide_true,decide_false,simprocAttr,fb2,fb3,fb9,fb24,fb35,fb45,fb47,fb71]
    refine ⟨_, _, [S.length + 2], by first | rfl | (simp only [List.append_assoc]; rfl), fun o ho => ?_, frozen2 (l := [⟨s, v⟩]) ?_ rfl (.int _ _), rfl⟩
    · simp only [List.mem_singleton] at ho
      subst ho
      exact ⟨by omega, _, by simp [objAt, List.getElem?_append_right]; rfl⟩
    · simp [objAt, List.getElem?_append_right, attsC, Att.c]
  · have hck2 := hn
    have hsz : (attsC l).length = l.length * 5 := attsC_len
    have hfind := fun x => rowFindM (orc := O) (S.length + 1) l s hr (by omega) (S ++ [.obj x, .obj (attsC l)]) objAt2
    have hpos : 0 < l.length := List.length_pos_iff.2 h0
    refine CallD.eb Tryz.func25 rfl Tryz.ntmps25 (by rfl) ?_
    repeat' (first|refine Go.a rfl ?_|refine Go.rg ?_|refine GoR.nil ?_|refine Go.ret ?_|refine Go.b rfl ?_|(refine GoR.o (by rfl) (by rfl) ?_;(conv => arg 1;simp only [G,Z,Y,Gx,un_neg,cutD,decide_true,decide_false,simprocAttr,fb2,fb3,fb9,fb24,fb35,fb45,fb47,fb71,hn, hc]);show GoR ..)|(refine GoR.c c33 (by rfl) (by rfl) rfl ?_;(refine (rowName _ _).ret ?_))|(refine GoR.c c72 (by rfl) (by rfl) rfl ?_;(refine (hck _).ret ?_))|(refine GoR.c c73 (by rfl) (by rfl) rfl ?_;(refine (cloneM h0 hl hv _).mono ?_; rintro _ _ ⟨rfl, rfl⟩))|(refine GoR.c c74 (by rfl) (by rfl) rfl ?_;(refine (hfind _).retE ?_; rintro _ ⟨i, b, rfl, h1, h2, h3, h4⟩))|(refine GoR.c c75 (by rfl) (by rfl) rfl ?_;(refine (hap _).ret ?_)))
    have hi' := posN_of h1 h2 h3
    have hlk := look_iff hr h2 h3
    cases b with
    | true =>
      obtain ⟨hi, e⟩ := h4.1 rfl
      have hlt : (look l s).isSome = true := hlk.2 ⟨hi, e⟩
      have hset : setL l s v = l.set i ⟨s, v⟩ := by rw [setL, if_pos hlt, ← hi']
      rw [setD_ok hn hc (by simp [hlt]), hset]
      have hst : storeD Tryz.prog 47 (.ptr (S.length + 1) (i * 5 + 1)) (.agg v.c) (S ++ [Ob.obj v.c, Ob.obj (attsC l)]) = some (S ++ [Ob.obj v.c, Ob.obj (attsC (l.set i ⟨s, v⟩))]) := by
        simp only [storeD, cellsD, dsz47, objAt2, v_len]
        rw [if_pos ⟨trivial, by omega, rfl⟩, set2, atts_put hi, e]
      simp only [Val.c] at hst
      have hix := ix_ok hi
      repeat' (first|refine Go.a rfl ?_|refine Go.rg ?_|refine GoR.nil ?_|refine Go.ret ?_|refine Go.b rfl ?_|(refine GoR.o (by rfl) (by rfl) ?_;(conv => arg 1;simp only [G,Z,Y,Gx,un_neg,cutD,decide_true,decide_false,simprocAttr,fb2,fb3,fb9,fb24,fb35,fb45,fb47,fb71,hix, hst, ix_msl (P := Tryz.prog) (t := 24) (e := 71) (n := 5) Tryz.underlying24 dsz71]);show GoR ..)|(refine GoR.c c75 (by rfl) (by rfl) rfl ?_;(refine (hap _).ret ?_))|(refine GoR.c c77 (by rfl) (by rfl) rfl ?_;(refine (clipA (by omega) (by simp)).ret ?_))|refine Go.condB rfl (fun hc => ?_) (fun hc => ?_))
      refine ⟨(by first | exact .inl rfl | exact .inr rfl), fin ?_⟩
      rw [resD_two (fn := Tryz.f25) rfl]
      simp only [optThen_some,resultD_tmp,resultD_cell,G,Z,Y,Gx,un_neg,cutD,decide_true,decide_false,simprocAttr,fb2,fb3,fb9,fb24,fb35,fb45,fb47,fb71]
      refine ⟨_, _, [S.length + 1], rfl, fun o ho => ?_, frozen2 (l := l.set i ⟨s, v⟩) objAt2 (by simp) (.int _ _), rfl⟩
      simp only [List.mem_singleton] at ho
      subst ho
      exact ⟨by omega, _, objAt2⟩
    | false =>
      have hlf : (look l s).isSome = false := by
        cases hq : (look l s).isSome with
        | false => rfl
        | true => exact absurd (h4.2 (hlk.1 hq)) (by decide)
      by_cases h32 : 32 ≤ l.length
      · rw [setD_full hn hc ⟨hlf, h32⟩]
        repeat' (first|refine Go.a rfl ?_|refine Go.rg ?_|refine GoR.nil ?_|refine Go.ret ?_|refine Go.b rfl ?_|(refine GoR.o (by rfl) (by rfl) ?_;(conv => arg 1;simp only [G,Z,Y,Gx,un_neg,cutD,decide_true,decide_false,simprocAttr,fb2,fb3,fb9,fb24,fb35,fb45,fb47,fb71,show decide (32 ≤ (l.length : Int)) = true by simp; omega]);show GoR ..)|refine Go.condB rfl (fun hc => ?_) (fun hc => ?_))
        refine ⟨(by first | exact .inl rfl | exact .inr rfl), fin ?_⟩
        rw [resD_two (fn := Tryz.f25) rfl]
        simp only [optThen_some,resultD_tmp,resultD_cell,G,Z,Y,Gx,un_neg,cutD,decide_true,decide_false,simprocAttr,fb2,fb3,fb9,fb24,fb35,fb45,fb47,fb71]
        exact ⟨_, _, [], rfl, by simp, nil2 (.int _ _), rfl⟩
      · have hset : setL l s v = l.take i ++ ⟨s, v⟩ :: l.drop i := by rw [setL, if_neg (by simp [hlf]), ← hi']
        rw [setD_ok hn hc (by simp [h32]), hset]
        have hins := fun own x => insert (own := own) (o := S.length + 1) (n := l.length) (i := i) (cells := attsC l) (new := [D.str s, .int .i64 v.k, .int .i64 v.i, .str v.s, .sl none 1 v.l.length (intsD v.l)]) (S := S ++ [.obj x, .obj (attsC l), .own]) rfl h1 (by omega) (atts_one l) rfl objAt2 hsz
        have hpl : putL (attsC l) (i * 5) [D.str s, .int .i64 v.k, .int .i64 v.i, .str v.s, .sl none 1 v.l.length (intsD v.l)] = attsC (l.take i ++ ⟨s, v⟩ :: l.drop i) := atts_ins h1 ⟨s, v⟩
        rw [hpl] at hins
        simp only [set2] at hins
        repeat' (first|refine Go.a rfl ?_|refine Go.rg ?_|refine GoR.nil ?_|refine Go.ret ?_|refine Go.b rfl ?_|(refine GoR.o (by rfl) (by rfl) ?_;(conv => arg 1;simp only [G,Z,Y,Gx,un_neg,cutD,decide_true,decide_false,simprocAttr,fb2,fb3,fb9,fb24,fb35,fb45,fb47,fb71,show decide (32 ≤ (l.length : Int)) = false by simp; omega]);show GoR ..)|(refine GoR.c c75 (by rfl) (by rfl) rfl ?_;(refine (hap _).ret ?_))|(refine GoR.c c76 (by rfl) (by rfl) rfl ?_;(refine (hins _ _).mono ?_; rintro _ _ ⟨rfl, rfl⟩))|(refine GoR.c c77 (by rfl) (by rfl) rfl ?_;(refine (clipA (by omega) (by simp)).ret ?_))|refine Go.condB rfl (fun hc => ?_) (fun hc => ?_))
        refine ⟨(by first | exact .inl rfl | exact .inr rfl), fin ?_⟩
        rw [resD_two (fn := Tryz.f25) rfl]
        simp only [optThen_some,resultD_tmp,resultD_cell,G,Z,Y,Gx,un_neg,cutD,decide_true,decide_false,simprocAttr,fb2,fb3,fb9,fb24,fb35,fb45,fb47,fb71]
        refine ⟨_, _, [S.length + 3], by first | rfl | (simp only [List.append_assoc]; rfl), fun o ho => ?_, frozen2 (l := l.take i ++ ⟨s, v⟩ :: l.drop i) ?_ (by simp; omega) (.int _ _), rfl⟩
        · simp only [List.mem_singleton] at ho
          subst ho
          exact ⟨by omega, _, by simp [objAt, List.getElem?_append_right]; rfl⟩
        · simp [objAt, List.getElem?_append_right]
end Go.Proofs.DwT
