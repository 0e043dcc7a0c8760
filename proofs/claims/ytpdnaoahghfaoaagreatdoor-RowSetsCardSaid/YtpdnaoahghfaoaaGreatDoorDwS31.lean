/- An attribute dropped: the program's own. -/
import Derived.Test.YtpdnaoahghfaoaaGreatDoorDwS30
set_option linter.unusedSimpArgs false
set_option linter.unusedVariables false
namespace Go.Proofs.DwT
open Go Go.DM Go.Proofs.DeT
set_option maxRecDepth 100000
variable {orc : DOracle}

def dropD (l : List Att) (s : ByteArray) : D := .tup [attsD (dropL l s), .bool (look l s).isSome]
theorem clip0A {o : Nat} {S : Mem} : CallD Tryz.prog orc 77 [.msl o 5 0] S fun d S' => S' = S ∧ d = .sl0 := by
  have e : ∀ k, DM.sliceD Tryz.prog 24 (.msl o 5 0) none (some (.int k 0)) (some (.int k 0)) = some .sl0 := fun k => by
    simp [sliceD, optNatD, natD, Tryz.underlying24, dsz71]
  refine CallD.e Tryz.func77 rfl Tryz.ntmps77 (by rfl) ?_
  repeat' (first|refine Go.a rfl ?_|refine Go.rg ?_|refine GoR.nil ?_|refine Go.ret ?_|refine Go.b rfl ?_|(refine GoR.o (by rfl) (by rfl) ?_;(conv => arg 1;simp only [G,Z,Y,Gx,un_neg,cutD,decide_true,decide_false,simprocAttr,fb24,e, Option.map_some, Option.map_none, len_msl (P := Tryz.prog) (at_ := #[24]) (t := 24) rfl Tryz.underlying24]);show GoR ..)|refine Go.condB rfl (fun hc => ?_) (fun hc => ?_))
  refine ⟨(by first | exact .inl rfl | exact .inr rfl), fin ?_⟩
  rw [resD_tmp (fn := Tryz.f77) rfl]
  simp only [optThen_some,resultD_tmp,resultD_cell,G,Z,Y,Gx,un_neg,cutD,decide_true,decide_false,simprocAttr,fb24]
  exact ⟨_, [], by simp, .of_low .sl0, rfl⟩
theorem sl02 {S1 : Mem} {F : List Nat} {e : D} {m : Nat} (he : DLow 0 e) : Wz S1 F id m (.tup [.sl0, e]) (.tup [attsD [], e]) :=
  .tup (.cons .sl0E (.cons (Wz.of_low (m := 0) (fun i hi => by omega) (Nat.zero_le _) he) .nil))
theorem objAt1 {S : Mem} {c : List D} {E : Mem} : objAt (S ++ .obj c :: E) S.length = some c := by
  unfold objAt
  rw [List.getElem?_append_right (by omega), Nat.sub_self]
  rfl
theorem set1 {S : Mem} {x z : Ob} {E : Mem} : (S ++ x :: E).set S.length z = S ++ z :: E := by
  rw [List.set_append_right _ _ (by omega), Nat.sub_self]
  rfl
theorem rowDrop (l : List Att) (s : ByteArray) (hr : RiseB Att.n l) (hl : l.length < 100000) (hv : ∀ a ∈ l, a.v.l.length < 1000000) (S : Mem) :
    CallD Tryz.prog O 28 [.sl none 5 l.length (attsC l), .str s] S fun d S' => S' = S ∧ d = dropD l s := by
  refine CallD.freeze ?_
  by_cases h0 : l = []
  · subst h0
    have hd : dropD [] s = .tup [attsD [], .bool false] := rfl
    rw [hd]
    refine CallD.eb Tryz.func28 rfl Tryz.ntmps28 (by rfl) ?_
    repeat' (first|refine Go.a rfl ?_|refine Go.rg ?_|refine GoR.nil ?_|refine Go.ret ?_|refine Go.b rfl ?_|(refine GoR.o (by rfl) (by rfl) ?_;(conv => arg 1;simp only [G,Z,Y,Gx,un_neg,cutD,decide_true,decide_false,simprocAttr,fb3,List.length_nil, show attsC [] = [] from rfl]);show GoR ..)|(refine GoR.c c73 (by rfl) (by rfl) rfl ?_;(refine (cloneN _).ret ?_))|(refine GoR.c c74 (by rfl) (by rfl) rfl ?_;(refine (findN _ _).ret ?_))|(refine GoR.c c77 (by rfl) (by rfl) rfl ?_;(refine (clipNilA _).ret ?_))|refine Go.condB rfl (fun hc => ?_) (fun hc => ?_))
    refine ⟨(by first | exact .inl rfl | exact .inr rfl), fin ?_⟩
    rw [resD_two (fn := Tryz.f28) rfl]
    simp only [optThen_some,resultD_tmp,resultD_cell,G,Z,Y,Gx,un_neg,cutD,decide_true,decide_false,simprocAttr,fb3]
    exact ⟨_, [], [], by simp, by simp, nil2 (.bool _), rfl⟩
  · have hsz : (attsC l).length = l.length * 5 := attsC_len
    have hfind := rowFindM (orc := O) S.length l s hr (by omega) (S ++ [.obj (attsC l)]) objAt1
    have hpos : 0 < l.length := List.length_pos_iff.2 h0
    refine CallD.eb Tryz.func28 rfl Tryz.ntmps28 (by rfl) ?_
    repeat' (first|refine Go.a rfl ?_|refine Go.rg ?_|refine GoR.nil ?_|refine Go.ret ?_|refine Go.b rfl ?_|(refine GoR.o (by rfl) (by rfl) ?_;(conv => arg 1;simp only [G,Z,Y,Gx,un_neg,cutD,decide_true,decide_false,simprocAttr,fb3]);show GoR ..)|(refine GoR.c c73 (by rfl) (by rfl) rfl ?_;(refine (cloneM h0 hl hv _).mono ?_; rintro _ _ ⟨rfl, rfl⟩))|(refine GoR.c c74 (by rfl) (by rfl) rfl ?_;(refine hfind.retE ?_; rintro _ ⟨i, b, rfl, h1, h2, h3, h4⟩)))
    have hi' := posN_of h1 h2 h3
    have hlk := look_iff hr h2 h3
    cases b with
    | false =>
      have hlf : (look l s).isSome = false := by
        cases hq : (look l s).isSome with
        | false => rfl
        | true => exact absurd (h4.2 (hlk.1 hq)) (by decide)
      have hd : dropD l s = .tup [attsD l, .bool false] := by rw [dropD, dropL, hlf, if_neg (by decide)]
      rw [hd]
      repeat' (first|refine Go.a rfl ?_|refine Go.rg ?_|refine GoR.nil ?_|refine Go.ret ?_|refine Go.b rfl ?_|(refine GoR.o (by rfl) (by rfl) ?_;(conv => arg 1;simp only [G,Z,Y,Gx,un_neg,cutD,decide_true,decide_false,simprocAttr,fb3]);show GoR ..)|(refine GoR.c c77 (by rfl) (by rfl) rfl ?_;(refine (clipA (by omega) (by simp)).ret ?_))|refine Go.condB rfl (fun hc => ?_) (fun hc => ?_))
      refine ⟨(by first | exact .inl rfl | exact .inr rfl), fin ?_⟩
      rw [resD_two (fn := Tryz.f28) rfl]
      simp only [optThen_some,resultD_tmp,resultD_cell,G,Z,Y,Gx,un_neg,cutD,decide_true,decide_false,simprocAttr,fb3]
      refine ⟨_, _, [S.length], rfl, fun o ho => ?_, frozen2 (l := l) objAt1 rfl (.bool _), rfl⟩
      simp only [List.mem_singleton] at ho
      subst ho
      exact ⟨Nat.le_refl _, _, objAt1⟩
    | true =>
      obtain ⟨hi, e⟩ := h4.1 rfl
      have hlt : (look l s).isSome = true := hlk.2 ⟨hi, e⟩
      have hd : dropD l s = .tup [attsD (l.take i ++ l.drop (i + 1)), .bool true] := by rw [dropD, dropL, hlt, if_pos rfl, ← hi']
      rw [hd]
      have hdel := delete (o := S.length) (n := l.length) (i := i) (cells := attsC l) (S := S ++ [.obj (attsC l)]) hi (atts_one l) objAt1 hsz
      simp only [atts_cut hi, set1] at hdel
      by_cases hone : l.length = 1
      · have hnil : l.take i ++ l.drop (i + 1) = [] := List.eq_nil_of_length_eq_zero (by simp; omega)
        have hl1 : l.length - 1 = 0 := by omega
        rw [hnil] at hdel ⊢
        rw [hl1] at hdel
        repeat' (first|refine Go.a rfl ?_|refine Go.rg ?_|refine GoR.nil ?_|refine Go.ret ?_|refine Go.b rfl ?_|(refine GoR.o (by rfl) (by rfl) ?_;(conv => arg 1;simp only [G,Z,Y,Gx,un_neg,cutD,decide_true,decide_false,simprocAttr,fb3,wrap_succ (show i < 4611686018427387904 by omega)]);show GoR ..)|(refine GoR.c c79 (by rfl) (by rfl) rfl ?_;(refine hdel.mono ?_; rintro _ _ ⟨rfl, rfl⟩))|(refine GoR.c c77 (by rfl) (by rfl) rfl ?_;(refine clip0A.ret ?_))|refine Go.condB rfl (fun hc => ?_) (fun hc => ?_))
        refine ⟨(by first | exact .inl rfl | exact .inr rfl), fin ?_⟩
        rw [resD_two (fn := Tryz.f28) rfl]
        simp only [optThen_some,resultD_tmp,resultD_cell,G,Z,Y,Gx,un_neg,cutD,decide_true,decide_false,simprocAttr,fb3]
        exact ⟨_, _, [], rfl, by simp, sl02 (.bool _), rfl⟩
      · repeat' (first|refine Go.a rfl ?_|refine Go.rg ?_|refine GoR.nil ?_|refine Go.ret ?_|refine Go.b rfl ?_|(refine GoR.o (by rfl) (by rfl) ?_;(conv => arg 1;simp only [G,Z,Y,Gx,un_neg,cutD,decide_true,decide_false,simprocAttr,fb3,wrap_succ (show i < 4611686018427387904 by omega)]);show GoR ..)|(refine GoR.c c79 (by rfl) (by rfl) rfl ?_;(refine hdel.mono ?_; rintro _ _ ⟨rfl, rfl⟩))|(refine GoR.c c77 (by rfl) (by rfl) rfl ?_;(refine (clipA (by omega) (by simp)).ret ?_))|refine Go.condB rfl (fun hc => ?_) (fun hc => ?_))
        refine ⟨(by first | exact .inl rfl | exact .inr rfl), fin ?_⟩
        rw [resD_two (fn := Tryz.f28) rfl]
        simp only [optThen_some,resultD_tmp,resultD_cell,G,Z,Y,Gx,un_neg,cutD,decide_true,decide_false,simprocAttr,fb3]
        refine ⟨_, _, [S.length], rfl, fun o ho => ?_, frozen2 (l := l.take i ++ l.drop (i + 1)) objAt1 (by simp; omega) (.bool _), rfl⟩
        simp only [List.mem_singleton] at ho
        subst ho
        exact ⟨Nat.le_refl _, _, objAt1⟩
end Go.Proofs.DwT
