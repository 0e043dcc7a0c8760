/- All names of a tree: what expr.Names tells. -/
import Derived.Test.YtpdnaoahghfaoaaGreatDoorDeN3
set_option linter.unusedSimpArgs false
set_option linter.unusedVariables false
namespace Go.Proofs.DeT
open Go Go.DM
set_option maxRecDepth 100000

theorem kidsC_app {a b : List (List ByteArray)} : kidsC (a ++ b) = kidsC a ++ kidsC b := by simp [kidsC]
theorem flat_le_cnt {ks : List Nd} : ((ks.map namesL).flatten).length ≤ cnts ks := flat_cnts fun k _ => names_le k

theorem foldN (n : Nd) (hs : Slim 100 n) (hf : Fits n) (hc : cnt n ≤ 1000) : ∀ (S : Mem),
    CallD Tryz.prog O 102 [.agg n.c, .fn (.func 103) [] []] S (NewStrs (namesL n) S) := by
  induction n using Nd.ind with
  | h op nm n ks ih =>
    intro S
    obtain ⟨hnm, hks, hk⟩ := hs
    obtain ⟨har, hfk⟩ := hf
    rw [cnt_mk] at hc
    have hop : op = nameP → ks.map namesL = [] := by
      rintro rfl
      have : ks = [] := List.eq_nil_of_length_eq_zero (by have : (0 : Int) = ks.length := har; omega)
      rw [this]
      rfl
    rw [Nd.c_mk, namesL_mk]
    refine NewStrs.of ?_
    refine CallD.eb Tryz.func102 rfl Tryz.ntmps102 (by rfl) ?_
    repeat' (first|refine Go.a rfl ?_|refine Go.rg ?_|refine GoR.nil ?_|refine Go.ret ?_|refine Go.b rfl ?_|(refine GoR.o (by rfl) (by rfl) ?_;(conv => arg 1;simp only [G,Z,Y,Gx,un_neg,cutD,decide_true,decide_false,simprocAttr,fb2,fb3,fb9,fb73,fb75,fb160]);show GoR ..)|refine Go.condB rfl (fun hc => ?_) (fun hc => ?_))
    refine Go.keep [(1, .fn (.func 103) [] []), (2, .ptr S.length 0), (4, .nils), (5, .nils), (9, .sl none 4 ks.length (ndsC ks)), (10, .int .i64 (ks.length : Int)), (11, .int .i64 ((0 : Nat) : Int))] (.cons .refl (.cons .refl (.cons .refl (.cons .refl (.cons .refl (.cons .refl (.cons .refl (.nil)))))))) ?_
    refine Go.while (α := Nat × D × Mem) (fun a => ks.length - a.1) (fun a => [(1, .fn (.func 103) [] []), (2, .ptr S.length 0), (4, .nils), (5, a.2.1), (9, .sl none 4 ks.length (ndsC ks)), (10, .int .i64 (ks.length : Int)), (11, .int .i64 (a.1 : Int))])
      (fun a => S ++ (.obj [.str op, .str nm, .int .i64 n, .sl none 4 ks.length (ndsC ks)] :: a.2.2))
      (fun a => a.1 ≤ ks.length ∧ AccD (S.length + 1) a.2.1 1 a.1 (kidsC ((ks.take a.1).map namesL)) (S ++ (.obj [.str op, .str nm, .int .i64 n, .sl none 4 ks.length (ndsC ks)] :: a.2.2)))
      ?_ (0, .nils, []) ⟨Nat.zero_le _, .inl ⟨rfl, rfl, rfl⟩⟩
    rintro ⟨i, o, E⟩ ⟨hii, hacc⟩ next
    dsimp only at hii hacc next
    by_cases h1 : i < ks.length
    · have ihk := fun S' => NewStrs.frozen (ih _ (List.getElem_mem h1) (hk _ (List.getElem_mem h1)) (hfk _ (List.getElem_mem h1)) (by have := cnts_mem (List.getElem_mem h1); omega) S')
      have hmap : kidsC ((ks.take (i + 1)).map namesL) = kidsC ((ks.take i).map namesL) ++ [.sl none 1 (namesL ks[i]).length (strC (namesL ks[i]))] := by
        rw [← List.take_append_getElem h1, List.map_append, kidsC_app]
        simp [kidsC]
      cases hq : ks[i] with
      | mk kop knm kn kks =>
      rw [hq] at ihk hmap
      rw [Nd.c_mk] at ihk
      obtain ⟨o', S2, hap, hacc2, hg2⟩ := (hacc.app [.obj [.str kop, .str knm, .int .i64 kn, .sl none 4 kks.length (ndsC kks)], .own]).append (P := Tryz.prog) del160 (own := some (S.length + (E.length + 1 + 1))) (m := 1) (new := [.sl none 1 (namesL (.mk kop knm kn kks)).length (strC (namesL (.mk kop knm kn kks)))]) (by simp) (by omega) ⟨by omega, by omega, by omega, rfl⟩
      obtain ⟨E2, rfl⟩ := hg2.pre (E ++ [.obj [.str kop, .str knm, .int .i64 kn, .sl none 4 kks.length (ndsC kks)], .own]) (S ++ [.obj [.str op, .str nm, .int .i64 n, .sl none 4 ks.length (ndsC ks)]]) (by simp) (by simp)
      rw [← hmap] at hacc2
      simp only [List.append_assoc, List.cons_append, List.nil_append] at hap hacc2
      have ho := hacc.one
      have ho2 := hacc2.one
      repeat' (first|refine Go.a rfl ?_|refine Go.rg ?_|refine GoR.nil ?_|refine Go.ret ?_|refine Go.b rfl ?_|(refine GoR.o (by rfl) (by rfl) ?_;(conv => arg 1;simp only [G,Z,Y,Gx,un_neg,cutD,decide_true,decide_false,simprocAttr,fb2,fb3,fb9,fb73,fb75,fb160,ho, ho2, ndsAt h1, hq, Nd.c_mk, wrap_succ (show i < 4611686018427387904 by omega), hap, builtin_append, show decide ((i : Int) < (ks.length : Int)) = true by simp; omega]);show GoR ..)|(refine GoR.c c102 (by rfl) (by rfl) rfl ?_;(refine (ihk _).ret ?_))|refine Go.condB rfl (fun hc => ?_) (fun hc => ?_))
      refine Go.lpN ?_
      refine Go.keep [(1, .fn (.func 103) [] []), (2, .ptr S.length 0), (4, .nils), (5, o'), (9, .sl none 4 ks.length (ndsC ks)), (10, .int .i64 (ks.length : Int)), (11, .int .i64 ((i + 1 : Nat) : Int))] (.cons .refl (.cons .refl (.cons .refl (.cons .refl (.cons .refl (.cons .refl (.cons .refl (.nil)))))))) ?_
      exact next (i + 1, o', E2) (by dsimp only; omega) ⟨h1, hacc2⟩
    · clear next
      have hi' : i = ks.length := by omega
      subst hi'
      rw [List.take_length] at hacc
      have ho := hacc.one
      have hcall := fun S' => names1 op nm n (ndsC ks) ks.length (ks.map namesL) none (by have := flat_le_cnt (ks := ks); omega) (by simp; omega) hop S'
      rw [List.length_map] at hcall
      repeat' (first|refine Go.a rfl ?_|refine Go.rg ?_|refine GoR.nil ?_|refine Go.ret ?_|refine Go.b rfl ?_|(refine GoR.o (by rfl) (by rfl) ?_;(conv => arg 1;simp only [G,Z,Y,Gx,un_neg,cutD,decide_true,decide_false,simprocAttr,fb2,fb3,fb9,fb73,fb75,fb160,ho, show decide ((ks.length : Int) < (ks.length : Int)) = false by simp]);show GoR ..)|(refine GoR.c c103 (by rfl) (by rfl) rfl ?_;(refine CallD.weak (args' := [.agg [.str op, .str nm, .int .i64 n, .sl none 4 ks.length (ndsC ks)], .sl none 1 ks.length (kidsC (ks.map namesL))]) (.cons .refl (.cons hacc.wf .nil)) ((hcall _).mono ?_); rintro _ _ (⟨h1, rfl, rfl⟩ | ⟨h1, rfl, rfl⟩)))|refine Go.condB rfl (fun hc => ?_) (fun hc => ?_))
      · refine ⟨(by first | exact .inl rfl | exact .inr rfl), fin ?_⟩
        rw [resD_tmp (fn := Tryz.f102) rfl]
        simp only [optThen_some,resultD_tmp,resultD_cell,G,Z,Y,Gx,un_neg,cutD,decide_true,decide_false,simprocAttr,fb2,fb3,fb9,fb73,fb75,fb160]
        exact ⟨_, rfl, .inl ⟨h1, rfl⟩, by simp⟩
      · refine ⟨(by first | exact .inl rfl | exact .inr rfl), fin ?_⟩
        rw [resD_tmp (fn := Tryz.f102) rfl]
        simp only [optThen_some,resultD_tmp,resultD_cell,G,Z,Y,Gx,un_neg,cutD,decide_true,decide_false,simprocAttr,fb2,fb3,fb9,fb73,fb75,fb160]
        refine ⟨_, by simp; rfl, .inr ⟨S.length + (E.length + 1), by omega, by simp, ?_⟩, fun h => absurd h h1⟩
        simp [objAt, List.getElem?_append_right]

theorem clipNilS (S : Mem) : CallD Tryz.prog O 106 [.nils] S fun d S' => S' = S ∧ d = .nils := by
  refine CallD.e Tryz.func106 rfl Tryz.ntmps106 (by rfl) ?_
  repeat' (first|refine Go.a rfl ?_|refine Go.rg ?_|refine GoR.nil ?_|refine Go.ret ?_|refine Go.b rfl ?_|(refine GoR.o (by rfl) (by rfl) ?_;(conv => arg 1;simp only [G,Z,Y,Gx,un_neg,cutD,decide_true,decide_false,simprocAttr,fb100]);show GoR ..)|refine Go.condB rfl (fun hc => ?_) (fun hc => ?_))
  refine ⟨(by first | exact .inl rfl | exact .inr rfl), fin ?_⟩
  rw [resD_tmp (fn := Tryz.f106) rfl]
  simp only [optThen_some,resultD_tmp,resultD_cell,G,Z,Y,Gx,un_neg,cutD,decide_true,decide_false,simprocAttr,fb100]
  exact ⟨.nils, [], by simp, .of_low .nils, rfl⟩
theorem clipM {o n : Nat} {S : Mem} (h0 : n ≠ 0) (ho : o < S.length) : CallD Tryz.prog O 106 [.msl o 1 n] S fun d S' => S' = S ∧ d = .msl o 1 n := by
  have e : ∀ k, DM.sliceD Tryz.prog 100 (.msl o 1 n) none (some (.int k (n : Int))) (some (.int k (n : Int))) = some (.msl o 1 n) := fun k => cut_msl Tryz.underlying100 dsz9 natD_cast natD_cast h0
  refine CallD.e Tryz.func106 rfl Tryz.ntmps106 (by rfl) ?_
  repeat' (first|refine Go.a rfl ?_|refine Go.rg ?_|refine GoR.nil ?_|refine Go.ret ?_|refine Go.b rfl ?_|(refine GoR.o (by rfl) (by rfl) ?_;(conv => arg 1;simp only [G,Z,Y,Gx,un_neg,cutD,decide_true,decide_false,simprocAttr,fb100,e, len_msl (P := Tryz.prog) (at_ := #[100]) (t := 100) rfl Tryz.underlying100]);show GoR ..)|refine Go.condB rfl (fun hc => ?_) (fun hc => ?_))
  refine ⟨(by first | exact .inl rfl | exact .inr rfl), fin ?_⟩
  rw [resD_tmp (fn := Tryz.f106) rfl]
  simp only [optThen_some,resultD_tmp,resultD_cell,G,Z,Y,Gx,un_neg,cutD,decide_true,decide_false,simprocAttr,fb100]
  exact ⟨_, [], by simp, .of_low (.msl _ _ _ ho), rfl⟩

/-- The names of a tree, in their order, each once. -/
def namesR (n : Nd) : List ByteArray := compactL (sortL (namesL n))
theorem sortL_length {l : List ByteArray} : (sortL l).length = l.length := by simp [sortL, sb, bs]
theorem compactL_nil : compactL (sortL []) = [] := by
  have h := Lib.compact_length_le (bs (sortL []))
  refine List.eq_nil_of_length_eq_zero ?_
  have : (bs (sortL [])).length = 0 := by simp [bs, sortL, sb]
  have e : (compactL (sortL [])).length = (Lib.compact (bs (sortL []))).length := by simp [compactL, sb]
  omega

theorem names (n : Nd) (hs : Slim 100 n) (hf : Fits n) (hc : cnt n ≤ 1000) (hpos : namesL n ≠ [] → namesR n ≠ []) (S : Mem) :
    CallD Tryz.prog O 53 [.agg n.c] S fun d S' => S' = S ∧ d = .sl none 1 (namesR n).length (strC (namesR n)) := by
  have hfold := foldN n hs hf hc
  have hlen : (namesL n).length < 1000000 := by have := names_le n; omega
  generalize hx : n.c = x at hfold
  have hx2 : ∃ op nm k ks, n = .mk op nm k ks := by cases n; exact ⟨_, _, _, _, rfl⟩
  obtain ⟨op, nm, k, ks, hn⟩ := hx2
  have hxe : x = [.str op, .str nm, .int .i64 k, .sl none 4 ks.length (ndsC ks)] := by rw [← hx, hn, Nd.c_mk]
  subst hxe
  clear hx
  refine CallD.freeze ?_
  refine CallD.eb Tryz.func53 rfl Tryz.ntmps53 (by rfl) ?_
  have sortX : ∀ l : List ByteArray, l.length < 1000000 → ∀ x : Ob, CallD Tryz.prog O 105 [.msl (S.length + 1) 1 l.length] (S ++ [x, .obj (strC l)]) fun d S' => S' = S ++ [x, .obj (strC (sortL l))] ∧ d = .tup [] := fun l hl x =>
    (sortM hl (by simp [objAt, List.getElem?_append_right])).mono fun d S' ⟨h1, h2⟩ => ⟨by rw [h1]; simp [List.set_append_right], h2⟩
  have compactX : ∀ l : List ByteArray, l.length < 1000000 → ∀ x : Ob, CallD Tryz.prog O 107 [.msl (S.length + 1) 1 l.length] (S ++ [x, .obj (strC l)]) fun d S' => S' = S ++ [x, .obj (strC (compactL l))] ∧ d = .msl (S.length + 1) 1 (compactL l).length := fun l hl x =>
    (compactM hl (by simp [objAt, List.getElem?_append_right])).mono fun d S' ⟨h1, h2⟩ => ⟨by rw [h1]; simp [List.set_append_right], h2⟩
  have hcl := compactX (sortL (namesL n)) (by rw [sortL_length]; exact hlen)
  rw [sortL_length] at hcl
  repeat' (first|refine Go.a rfl ?_|refine Go.rg ?_|refine GoR.nil ?_|refine Go.ret ?_|refine Go.b rfl ?_|(refine GoR.o (by rfl) (by rfl) ?_;(conv => arg 1;simp only [G,Z,Y,Gx,un_neg,cutD,decide_true,decide_false,simprocAttr,fb2,fb9,fb73,fb75]);show GoR ..)|(refine GoR.c c102 (by rfl) (by rfl) rfl ?_;(refine (hfold _).mono ?_; rintro _ _ (⟨h1, rfl, rfl⟩ | ⟨h1, rfl, rfl⟩)))|(refine GoR.c c105 (by rfl) (by rfl) rfl ?_;(first | refine (sortNil _).ret ?_ | refine CallD.mono (sortX _ hlen _) ?_; rintro _ _ ⟨rfl, rfl⟩))|(refine GoR.c c107 (by rfl) (by rfl) rfl ?_;(first | refine (compactNil _).ret ?_ | refine CallD.mono (hcl _) ?_; rintro _ _ ⟨rfl, rfl⟩))|(refine GoR.c c106 (by rfl) (by rfl) rfl ?_;(first | refine (clipNilS _).ret ?_ | refine (clipM (n := (namesR n).length) (fun h => hpos h1 (List.eq_nil_of_length_eq_zero h)) (by simp)).ret ?_))|refine Go.condB rfl (fun hc => ?_) (fun hc => ?_))
  · refine ⟨(by first | exact .inl rfl | exact .inr rfl), fin ?_⟩
    rw [resD_tmp (fn := Tryz.f53) rfl]
    simp only [optThen_some,resultD_tmp,resultD_cell,G,Z,Y,Gx,un_neg,cutD,decide_true,decide_false,simprocAttr,fb2,fb9,fb73,fb75]
    have e : namesR n = [] := by unfold namesR; rw [h1]; exact compactL_nil
    rw [e]
    exact ⟨.sl none 1 0 [], _, [], rfl, by simp, .nilE, rfl⟩
  · refine ⟨(by first | exact .inl rfl | exact .inr rfl), fin ?_⟩
    rw [resD_tmp (fn := Tryz.f53) rfl]
    simp only [optThen_some,resultD_tmp,resultD_cell,G,Z,Y,Gx,un_neg,cutD,decide_true,decide_false,simprocAttr,fb2,fb9,fb73,fb75]
    refine ⟨.sl none 1 (namesR n).length (strC (namesR n)), _, [S.length + 1], rfl, fun o ho => ?_, ?_, rfl⟩
    · simp only [List.mem_singleton] at ho
      subst ho
      exact ⟨by omega, strC (namesR n), by simp [objAt, List.getElem?_append_right, namesR]⟩
    · exact .freeze (cells := strC (namesR n)) (by simp) (by simp [objAt, List.getElem?_append_right, namesR]) (by simp [strC]) WzL_str
end Go.Proofs.DeT
