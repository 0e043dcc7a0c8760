/- An attribute set, an attribute dropped: the document's own. -/
import Derived.Test.YtpdnaoahghfaoaaGreatDoorDwS31
set_option linter.unusedSimpArgs false
set_option linter.unusedVariables false
namespace Go.DM
open Go.AM
theorem AccD.appendZ {P : Program} {b t e n bytes len m : Nat} {o : D} {own : Option Nat} {cells new : List D} {S : Mem} (h : ElemT P t e n bytes) (ha : AccD b o n len cells S) (hb : b ≤ S.length) (hm : m = 0 → new = []) (hf : fitsD bytes (len + m) new) :
    ∃ o' S', appendD P #[t, t] o (.sl own n m new) S = some (o', S') ∧ AccD b o' n (len + m) (cells ++ new) S' ∧ Grown b S S' := by
  by_cases h0 : m = 0
  · have := hm h0
    subst h0 this
    refine ⟨o, S, ?_, by simpa using ha, .refl⟩
    rcases ha with ⟨rfl, _⟩ | ⟨rfl, _⟩ | ⟨id, _, rfl, _⟩
    · rw [ap_nils h, if_pos rfl]
    · rw [ap_sl0 h, if_pos rfl]
    · rw [ap_own h, if_pos rfl]
  · exact ha.append h hb h0 hf
end Go.DM
namespace Go.Proofs.DwT
open Go Go.DM Go.Proofs.DeT
set_option maxRecDepth 100000
variable {orc : DOracle}

def restL (l : List Att) (s : ByteArray) : List Att := l.filter fun a => !decide (a.n = s)
def withL (l : List Att) (s : ByteArray) (v : Val) : List Att := (restL l s).take (posN (restL l s) s) ++ ⟨s, v⟩ :: (restL l s).drop (posN (restL l s) s)
theorem restL_succ {l : List Att} {s : ByteArray} {i : Nat} (h : i < l.length) : restL (l.take (i + 1)) s = if l[i].n = s then restL (l.take i) s else restL (l.take i) s ++ [l[i]] := by
  rw [List.take_succ_eq_append_getElem h, restL, List.filter_append]
  by_cases he : l[i].n = s
  · rw [if_pos he]
    simp [restL, he]
  · rw [if_neg he]
    simp [restL, he]
theorem restL_le (l : List Att) (s : ByteArray) : (restL l s).length ≤ l.length := List.length_filter_le _ _
theorem attsD_low {n : Nat} (l : List Att) : DLow n (attsD l) := .sl none 5 _ _ (fun id h => by cases h) (atts_low l).get
theorem refDrop (l : List Att) (s : ByteArray) (hl : l.length < 100000) (S : Mem) :
    CallD Tryz.prog orc 29 [.sl none 5 l.length (attsC l), .str s] S fun d S' => S' = S ∧ d = .tup [attsD (restL l s), .bool (decide ((restL l s).length < l.length))] := by
  refine CallD.e Tryz.func29 rfl Tryz.ntmps29 (by rfl) ?_
  repeat' (first|refine Go.a rfl ?_|refine Go.rg ?_|refine GoR.nil ?_|refine Go.ret ?_|refine Go.b rfl ?_|(refine GoR.o (by rfl) (by rfl) ?_;(conv => arg 1;simp only [G,Z,Y,Gx,un_neg,cutD,decide_true,decide_false,simprocAttr,fb3,fb9,fb31,fb55,fb109]);show GoR ..)|refine Go.condB rfl (fun hc => ?_) (fun hc => ?_))
  refine Go.keep [(0, .sl none 5 l.length (attsC l)), (1, .str s), (6, .nils), (7, .int .i64 ((0 : Nat) : Int))] (.cons .refl (.cons .refl (.cons .refl (.cons .refl (.nil))))) ?_
  refine Go.while (α := Nat × D × Mem) (fun x => l.length - x.1) (fun x => [(0, .sl none 5 l.length (attsC l)), (1, .str s), (6, x.2.1), (7, .int .i64 (x.1 : Int))]) (fun x => x.2.2)
    (fun x => x.1 ≤ l.length ∧ AccD S.length x.2.1 5 (restL (l.take x.1) s).length (attsC (restL (l.take x.1) s)) x.2.2 ∧ Grown S.length S x.2.2) ?_ (0, .nils, S) ⟨Nat.zero_le _, .inl ⟨rfl, rfl, rfl⟩, .refl⟩
  rintro ⟨i, o, S1⟩ ⟨hi, hacc, hg⟩ next
  dsimp only at hi hacc hg next
  by_cases h1 : i < l.length
  · have at1 := attsAt h1
    have hle := restL_le (l.take i) s
    rw [List.length_take] at hle
    have dl : decide ((i : Int) < (l.length : Int)) = true := by simp; omega
    by_cases he : l[i].n = s
    · repeat' (first|refine Go.a rfl ?_|refine Go.rg ?_|refine GoR.nil ?_|refine Go.ret ?_|refine Go.b rfl ?_|(refine GoR.o (by rfl) (by rfl) ?_;(conv => arg 1;simp only [G,Z,Y,Gx,un_neg,cutD,decide_true,decide_false,simprocAttr,fb3,fb9,fb31,fb55,fb109,dl, at1, he, decide_true, wrap_succ (show i < 4611686018427387904 by omega)]);show GoR ..)|refine Go.condB rfl (fun hc => ?_) (fun hc => ?_))
      refine Go.lpN ?_
      refine Go.keep [(0, .sl none 5 l.length (attsC l)), (1, .str s), (6, o), (7, .int .i64 ((i + 1 : Nat) : Int))] (.cons .refl (.cons .refl (.cons .refl (.cons .refl (.nil))))) ?_
      refine next (i + 1, o, S1) (by dsimp only; omega) ⟨h1, ?_, hg⟩
      dsimp only
      rw [restL_succ h1, if_pos he]
      exact hacc
    · obtain ⟨o', S2, hap, hacc2, hg2⟩ := (hacc.app [.own]).append (P := Tryz.prog) del31 (own := some S1.length) (m := 1) (new := l[i].c) (by simp; have := hg.len; omega) (by omega) ⟨by omega, by omega, by omega, rfl⟩
      simp only [Val.c, Att.c] at at1 hap
      repeat' (first|refine Go.a rfl ?_|refine Go.rg ?_|refine GoR.nil ?_|refine Go.ret ?_|refine Go.b rfl ?_|(refine GoR.o (by rfl) (by rfl) ?_;(conv => arg 1;simp only [G,Z,Y,Gx,un_neg,cutD,decide_true,decide_false,simprocAttr,fb3,fb9,fb31,fb55,fb109,dl, at1, show decide (l[i].n = s) = false by simp [he], hap, builtin_append, wrap_succ (show i < 4611686018427387904 by omega)]);show GoR ..)|refine Go.condB rfl (fun hc => ?_) (fun hc => ?_))
      refine Go.lpN ?_
      refine Go.keep [(0, .sl none 5 l.length (attsC l)), (1, .str s), (6, o'), (7, .int .i64 ((i + 1 : Nat) : Int))] (.cons .refl (.cons .refl (.cons .refl (.cons .refl (.nil))))) ?_
      refine next (i + 1, o', S2) (by dsimp only; omega) ⟨h1, ?_, hg.trans (Grown.app.trans hg2)⟩
      dsimp only
      rw [restL_succ h1, if_neg he, List.length_append, show attsC (restL (l.take i) s ++ [l[i]]) = attsC (restL (l.take i) s) ++ l[i].c by simp [attsC]]
      exact hacc2
  · clear next
    have e : i = l.length := by omega
    subst e
    have dl : decide ((l.length : Int) < (l.length : Int)) = false := by simp
    rw [List.take_length] at hacc
    obtain ⟨E, hE⟩ := hg.pre [] S rfl (by simp)
    have hw := hacc.wf
    rcases hacc with ⟨ho, h0, h00⟩ | ⟨ho, h0, h00⟩ | ⟨id, h0, ho, h00⟩
    · subst ho
      have hl0 : restL l s = [] := List.eq_nil_of_length_eq_zero h0
      rw [hl0] at hw ⊢
      repeat' (first|refine Go.a rfl ?_|refine Go.rg ?_|refine GoR.nil ?_|refine Go.ret ?_|refine Go.b rfl ?_|(refine GoR.o (by rfl) (by rfl) ?_;(conv => arg 1;simp only [G,Z,Y,Gx,un_neg,cutD,decide_true,decide_false,simprocAttr,fb3,fb9,fb31,fb55,fb109,dl]);show GoR ..)|refine Go.condB rfl (fun hc => ?_) (fun hc => ?_))
      refine ⟨(by first | exact .inl rfl | exact .inr rfl), fin ?_⟩
      rw [resD_two (fn := Tryz.f29) rfl]
      simp only [optThen_some,resultD_tmp,resultD_cell,G,Z,Y,Gx,un_neg,cutD,decide_true,decide_false,simprocAttr,fb3,fb9,fb31,fb55,fb109]
      refine ⟨_, E, hE, (Wf.tup' (.cons hw (.cons .refl .nil))).to_Wk (.tup' (.cons (attsD_low []) (.cons (.bool _) .nil))), ?_⟩
      simp [attsD]
    · subst ho
      have hl0 : restL l s = [] := List.eq_nil_of_length_eq_zero h0
      rw [hl0] at hw ⊢
      repeat' (first|refine Go.a rfl ?_|refine Go.rg ?_|refine GoR.nil ?_|refine Go.ret ?_|refine Go.b rfl ?_|(refine GoR.o (by rfl) (by rfl) ?_;(conv => arg 1;simp only [G,Z,Y,Gx,un_neg,cutD,decide_true,decide_false,simprocAttr,fb3,fb9,fb31,fb55,fb109,dl]);show GoR ..)|refine Go.condB rfl (fun hc => ?_) (fun hc => ?_))
      refine ⟨(by first | exact .inl rfl | exact .inr rfl), fin ?_⟩
      rw [resD_two (fn := Tryz.f29) rfl]
      simp only [optThen_some,resultD_tmp,resultD_cell,G,Z,Y,Gx,un_neg,cutD,decide_true,decide_false,simprocAttr,fb3,fb9,fb31,fb55,fb109]
      refine ⟨_, E, hE, (Wf.tup' (.cons hw (.cons .refl .nil))).to_Wk (.tup' (.cons (attsD_low []) (.cons (.bool _) .nil))), ?_⟩
      simp [attsD]
    · subst ho
      repeat' (first|refine Go.a rfl ?_|refine Go.rg ?_|refine GoR.nil ?_|refine Go.ret ?_|refine Go.b rfl ?_|(refine GoR.o (by rfl) (by rfl) ?_;(conv => arg 1;simp only [G,Z,Y,Gx,un_neg,cutD,decide_true,decide_false,simprocAttr,fb3,fb9,fb31,fb55,fb109,dl]);show GoR ..)|refine Go.condB rfl (fun hc => ?_) (fun hc => ?_))
      refine ⟨(by first | exact .inl rfl | exact .inr rfl), fin ?_⟩
      rw [resD_two (fn := Tryz.f29) rfl]
      simp only [optThen_some,resultD_tmp,resultD_cell,G,Z,Y,Gx,un_neg,cutD,decide_true,decide_false,simprocAttr,fb3,fb9,fb31,fb55,fb109]
      refine ⟨_, E, hE, (Wf.tup' (.cons hw (.cons .refl .nil))).to_Wk (.tup' (.cons (attsD_low _) (.cons (.bool _) .nil))), ?_⟩
      simp [attsD]
theorem posN_lt : ∀ {l : List Att} {s : ByteArray} {i : Nat} (h : i < l.length), i < posN l s → ltB l[i].n s = true
  | a :: l, s, 0, h, hp => by
    simp only [posN, List.takeWhile_cons] at hp
    split at hp
    · assumption
    · simp at hp
  | a :: l, s, i + 1, h, hp => by
    simp only [posN, List.takeWhile_cons] at hp
    split at hp
    · exact posN_lt (l := l) (i := i) (by simpa using h) (by simpa [posN] using hp)
    · simp at hp
theorem posN_ge : ∀ {l : List Att} {s : ByteArray} (h : posN l s < l.length), ltB (l[posN l s]'h).n s = false
  | a :: l, s, h => by
    cases hq : ltB a.n s with
    | true =>
      have e : posN (a :: l) s = posN l s + 1 := by simp [posN, List.takeWhile_cons, hq]
      have := posN_ge (l := l) (s := s) (by rw [e] at h; simpa using h)
      simp only [e, List.getElem_cons_succ]
      exact this
    | false =>
      have e : posN (a :: l) s = 0 := by simp [posN, List.takeWhile_cons, hq]
      simp only [e, List.getElem_cons_zero]
      exact hq
theorem posN_le (l : List Att) (s : ByteArray) : posN l s ≤ l.length := by
  have := (List.takeWhile_prefix (fun a : Att => ltB a.n s) (l := l)).length_le
  exact this
theorem atts_cut0 {x : List Att} {k : Nat} (h : k ≤ x.length) {P : Program} {t : TypeId} (hu : P.underlying t = some (.slice 109)) (hs : AM.sizeA P 109 = some 5) {kk : IntKind} :
    sliceD P t (attsD x) none (some (.int kk (k : Int))) none = some (attsD (x.take k)) := by
  rw [attsD, cut_sl hu hs]
  simp only [optNatD, natD, Int.natCast_nonneg, if_true, Option.map_some, Option.bind_some, Int.toNat_natCast, DM.cutD]
  simp [attsD, List.length_take, Nat.min_eq_left h, atts_take h, h]
theorem atts_cut1 {x : List Att} {k : Nat} (h : k ≤ x.length) {P : Program} {t : TypeId} (hu : P.underlying t = some (.slice 109)) (hs : AM.sizeA P 109 = some 5) {kk : IntKind} :
    sliceD P t (attsD x) (some (.int kk (k : Int))) none none = some (attsD (x.drop k)) := by
  rw [attsD, cut_sl hu hs]
  simp only [optNatD, natD, Int.natCast_nonneg, if_true, Option.map_some, Option.bind_some, Int.toNat_natCast, DM.cutD]
  have : (attsC (x.drop k)).length ≤ (x.length - k) * 5 := by rw [attsC_len, List.length_drop]; exact Nat.le_refl _
  simp [attsD, atts_drop h, h, List.take_of_length_le this]
theorem refWith (l : List Att) (s : ByteArray) (v : Val) (hl : l.length < 100000) (S : Mem) :
    CallD Tryz.prog orc 78 [.sl none 5 l.length (attsC l), .str s, .agg v.c] S fun d S' => S' = S ∧ d = attsD (withL l s v) := by
  have hdrop := fun S => refDrop (orc := orc) l s hl S
  have hle := restL_le l s
  unfold withL
  generalize restL l s = x at *
  simp only [Val.c]
  refine CallD.e Tryz.func78 rfl Tryz.ntmps78 (by rfl) ?_
  repeat' (first|refine Go.a rfl ?_|refine Go.rg ?_|refine GoR.nil ?_|refine Go.ret ?_|refine Go.b rfl ?_|refine Go.rgS dmx (by decide) ?_|refine Go.rgD [6, 8] (fun _ => True) dmx (by decide) 9 (by decide) (by trivial) ?_|refine GoW.nil rfl ?_|(refine GoW.newL (by decide) (by rfl) rfl (by trivial) ?_;(conv => arg 1;simp only [G,Z,Y,Gx,un_neg,cutD,decide_true,decide_false,simprocAttr,fb2,fb3,fb9,fb31,fb45,fb55,fb109]);refine ⟨by first|rfl|simp,by first|rfl|simp,LowL.mem (by repeat' (first | exact .nil | refine .cons ?_ ?_ | exact .str _ | exact .int _ _ | exact .bool _ | exact .nils | assumption)),?_⟩;show GoW ..)|((first|refine GoR.o (by rfl) (by rfl) ?_|refine GoW.o (by rfl) (by rfl) ?_|refine GoW.rd (by rfl) (by rfl) ?_);(conv => arg 1;simp only [G,Z,Y,Gx,un_neg,cutD,decide_true,decide_false,simprocAttr,fb2,fb3,fb9,fb31,fb45,fb55,fb109]);first|show GoR ..|(show _ ∧ GoW ..;refine ⟨by exact fun _ => trivial,?_⟩)|(show _ ∧ _ ∧ _ ∧ GoW ..;refine ⟨rfl,by trivial,(fun H _=>by simp only [G,Z,Y,Gx,un_neg,cutD,decide_true,decide_false,simprocAttr,fb2,fb3,fb9,fb31,fb45,fb55,fb109]),?_⟩))|(refine GoW.c c29 (by rfl) (by rfl) rfl ?_;(refine (hdrop _).ret ?_);refine ⟨by exact fun _ => trivial,?_⟩)|(refine GoR.c c29 (by rfl) (by rfl) rfl ?_;(refine (hdrop _).ret ?_))|refine GoR.s (by rfl) rfl rfl ?_|refine GoW.s (by rfl) rfl rfl (by exact fun _ => trivial) ?_|(refine GoR.splitG rfl (fun hc => ?_) (fun hc => ?_) <;> simp only [hc])|refine Go.condB rfl (fun hc => ?_) (fun hc => ?_))
  refine Go.keep [(1, .str s), (5, .ptr S.length 0), (7, attsD x), (9, .int .i64 ((0 : Nat) : Int))] (.cons .refl (.cons .refl (.cons .refl (.cons .refl (.nil))))) ?_
  refine Go.while (α := Nat) (fun i => x.length - i) (fun i => [(1, .str s), (5, .ptr S.length 0), (7, attsD x), (9, .int .i64 (i : Int))]) (fun _ => S ++ [.obj [.int .i64 v.k, .int .i64 v.i, .str v.s, .sl none 1 v.l.length (intsD v.l)]])
    (fun i => i ≤ posN x s) ?_ 0 (Nat.zero_le _)
  intro i hi next
  have hpl := posN_le x s
  unfold attsD
  by_cases h1 : i < posN x s
  · have hlt : i < x.length := by omega
    have hbl : Op.bytesLess x[i].n.toList s.toList = true := posN_lt hlt h1
    repeat' (first|refine Go.a rfl ?_|refine Go.rg ?_|refine GoR.nil ?_|refine Go.ret ?_|refine Go.b rfl ?_|refine Go.rgS dmx (by decide) ?_|refine Go.rgD [6, 8] (fun _ => True) dmx (by decide) 9 (by decide) (by trivial) ?_|refine GoW.nil rfl ?_|(refine GoW.newL (by decide) (by rfl) rfl (by trivial) ?_;(conv => arg 1;simp only [G,Z,Y,Gx,un_neg,cutD,decide_true,decide_false,simprocAttr,fb2,fb3,fb9,fb31,fb45,fb55,fb109,show decide ((i : Int) < (x.length : Int)) = true by simp; omega, attsAt hlt, hbl, wrap_succ (show i < 4611686018427387904 by omega)]);refine ⟨by first|rfl|simp,by first|rfl|simp,LowL.mem (by repeat' (first | exact .nil | refine .cons ?_ ?_ | exact .str _ | exact .int _ _ | exact .bool _ | exact .nils | assumption)),?_⟩;show GoW ..)|((first|refine GoR.o (by rfl) (by rfl) ?_|refine GoW.o (by rfl) (by rfl) ?_|refine GoW.rd (by rfl) (by rfl) ?_);(conv => arg 1;simp only [G,Z,Y,Gx,un_neg,cutD,decide_true,decide_false,simprocAttr,fb2,fb3,fb9,fb31,fb45,fb55,fb109,show decide ((i : Int) < (x.length : Int)) = true by simp; omega, attsAt hlt, hbl, wrap_succ (show i < 4611686018427387904 by omega)]);first|show GoR ..|(show _ ∧ GoW ..;refine ⟨by exact fun _ => trivial,?_⟩)|(show _ ∧ _ ∧ _ ∧ GoW ..;refine ⟨rfl,by trivial,(fun H _=>by simp only [G,Z,Y,Gx,un_neg,cutD,decide_true,decide_false,simprocAttr,fb2,fb3,fb9,fb31,fb45,fb55,fb109,show decide ((i : Int) < (x.length : Int)) = true by simp; omega, attsAt hlt, hbl, wrap_succ (show i < 4611686018427387904 by omega)]),?_⟩))|refine GoR.s (by rfl) rfl rfl ?_|refine GoW.s (by rfl) rfl rfl (by exact fun _ => trivial) ?_|(refine GoR.splitG rfl (fun hc => ?_) (fun hc => ?_) <;> simp only [hc])|refine Go.condB rfl (fun hc => ?_) (fun hc => ?_))
    refine Go.lpN ?_
    refine Go.keep [(1, .str s), (5, .ptr S.length 0), (7, .sl none 5 x.length (attsC x)), (9, .int .i64 ((i + 1 : Nat) : Int))] (.cons .refl (.cons .refl (.cons .refl (.cons .refl (.nil))))) ?_
    exact next (i + 1) (by omega) h1
  · clear next
    have e : i = posN x s := by omega
    subst e
    have c0 := fun kk => atts_cut0 (x := x) hpl (P := Tryz.prog) (t := 31) Tryz.underlying31 dsz109 (kk := kk)
    have c1 := fun kk => atts_cut1 (x := x) hpl (P := Tryz.prog) (t := 31) Tryz.underlying31 dsz109 (kk := kk)
    generalize hk : posN x s = k at *
    simp only [attsD] at c0 c1
    have hl0 : DLow 0 (D.sl none 1 v.l.length (intsD v.l)) := .sl none 1 _ _ (fun id h => by cases h) intsD_low.get
    have hV : objAt (S ++ [.obj [.int .i64 v.k, .int .i64 v.i, .str v.s, .sl none 1 v.l.length (intsD v.l)], .own]) S.length = some [.int .i64 v.k, .int .i64 v.i, .str v.s, .sl none 1 v.l.length (intsD v.l)] := objAt1
    have hacc : AccD S.length (.sl (some (S.length + 1)) 5 0 []) 5 0 [] (S ++ [.obj [.int .i64 v.k, .int .i64 v.i, .str v.s, .sl none 1 v.l.length (intsD v.l)], .own]) := .inr (.inr ⟨S.length + 1, by omega, rfl, by simp⟩)
    have hM : Grown S.length S (S ++ [.obj [.int .i64 v.k, .int .i64 v.i, .str v.s, .sl none 1 v.l.length (intsD v.l)], .own]) := Grown.app
    obtain ⟨o1, S2, hap1, hacc1, hg1⟩ := hacc.appendZ (P := Tryz.prog) del31 (own := none) (m := (x.take k).length) (new := attsC (x.take k)) (by simp) (fun h => by rw [List.eq_nil_of_length_eq_zero h]; rfl) ⟨by rw [List.length_take]; omega, by rw [List.length_take]; omega, by omega, atts_one _⟩
    have hI2 := hg1.obj _ _ hV
    obtain ⟨o2, S3, hap2, hacc2, hg2⟩ := hacc1.appendZ (P := Tryz.prog) del31 (own := none) (m := 1) (new := [.str s, .int .i64 v.k, .int .i64 v.i, .str v.s, .sl none 1 v.l.length (intsD v.l)]) (Nat.le_trans hM.len hg1.len) (by omega) ⟨by rw [List.length_take]; omega, by rw [List.length_take]; omega, by omega, rfl⟩
    obtain ⟨o3, S4, hap3, hacc3, hg3⟩ := hacc2.appendZ (P := Tryz.prog) del31 (own := none) (m := (x.drop k).length) (new := attsC (x.drop k)) (Nat.le_trans hM.len (Nat.le_trans hg1.len hg2.len)) (fun h => by rw [List.eq_nil_of_length_eq_zero h]; rfl) ⟨by rw [List.length_take, List.length_drop]; omega, by rw [List.length_take, List.length_drop]; omega, by omega, atts_one _⟩
    obtain ⟨E, hE⟩ := (hM.trans (hg1.trans (hg2.trans hg3))).pre [] S rfl (by simp)
    have hcells : [] ++ attsC (x.take k) ++ [.str s, .int .i64 v.k, .int .i64 v.i, .str v.s, .sl none 1 v.l.length (intsD v.l)] ++ attsC (x.drop k) = attsC (x.take k ++ ⟨s, v⟩ :: x.drop k) := by simp [attsC, Att.c]
    have hlen3 : 0 + (x.take k).length + 1 + (x.drop k).length = (x.take k ++ ⟨s, v⟩ :: x.drop k).length := by simp; omega
    by_cases hx : k < x.length
    · have hbl : Op.bytesLess x[k].n.toList s.toList = false := by subst hk; exact posN_ge hx
      repeat' (first|refine Go.a rfl ?_|refine Go.rg ?_|refine GoR.nil ?_|refine Go.ret ?_|refine Go.b rfl ?_|refine Go.rgS dmx (by decide) ?_|refine Go.rgD [6, 8] (fun H => objAt H S.length = some [.int .i64 v.k, .int .i64 v.i, .str v.s, .sl none 1 v.l.length (intsD v.l)]) dmx (by decide) 9 (by decide) (by (first | exact hI2 | simp only [List.append_assoc, List.cons_append, List.nil_append, objAt_app, objAt_app0, objAt_succ, objAt_zero])) ?_|refine GoW.nil rfl ?_|(refine GoW.newL (by decide) (by rfl) rfl (by (first | exact hI2 | simp only [List.append_assoc, List.cons_append, List.nil_append, objAt_app, objAt_app0, objAt_succ, objAt_zero])) ?_;(conv => arg 1;simp only [G,Z,Y,Gx,un_neg,cutD,decide_true,decide_false,simprocAttr,fb2,fb3,fb9,fb31,fb45,fb55,fb109,show decide ((k : Int) < (x.length : Int)) = true by simp; omega, attsAt hx, hbl, hI2, c0, c1, hap1, hap2, hap3, builtin_append]);refine ⟨by first|rfl|simp,by first|rfl|simp,LowL.mem (by repeat' (first | exact .nil | refine .cons ?_ ?_ | exact .str _ | exact .int _ _ | exact .bool _ | exact .nils | assumption)),?_⟩;show GoW ..)|((first|refine GoR.o (by rfl) (by rfl) ?_|refine GoW.o (by rfl) (by rfl) ?_|refine GoW.rd (by rfl) (by rfl) ?_);(conv => arg 1;simp only [G,Z,Y,Gx,un_neg,cutD,decide_true,decide_false,simprocAttr,fb2,fb3,fb9,fb31,fb45,fb55,fb109,show decide ((k : Int) < (x.length : Int)) = true by simp; omega, attsAt hx, hbl, hI2, c0, c1, hap1, hap2, hap3, builtin_append]);first|show GoR ..|(show _ ∧ GoW ..;refine ⟨by (first|exact fun h => absurd h (by decide)|(intro _;(first | exact hI2 | simp only [List.append_assoc, List.cons_append, List.nil_append, objAt_app, objAt_app0, objAt_succ, objAt_zero]))),?_⟩)|(show _ ∧ _ ∧ _ ∧ GoW ..;refine ⟨rfl,by (first | exact hI2 | simp only [List.append_assoc, List.cons_append, List.nil_append, objAt_app, objAt_app0, objAt_succ, objAt_zero]),(fun H hI=>by (try dsimp only at hI);simp only [G,Z,Y,Gx,un_neg,cutD,decide_true,decide_false,simprocAttr,fb2,fb3,fb9,fb31,fb45,fb55,fb109,show decide ((k : Int) < (x.length : Int)) = true by simp; omega, attsAt hx, hbl, hI2, c0, c1, hap1, hap2, hap3, builtin_append,hI]),?_⟩))|refine GoR.s (by rfl) rfl rfl ?_|refine GoW.s (by rfl) rfl rfl (by (first|exact fun h => absurd h (by decide)|(intro _;(first | exact hI2 | simp only [List.append_assoc, List.cons_append, List.nil_append, objAt_app, objAt_app0, objAt_succ, objAt_zero])))) ?_|(refine GoR.splitG rfl (fun hc => ?_) (fun hc => ?_) <;> simp only [hc])|refine Go.condB rfl (fun hc => ?_) (fun hc => ?_))
      refine ⟨(by first | exact .inl rfl | exact .inr rfl), fin ?_⟩
      rw [resD_tmp (fn := Tryz.f78) rfl]
      simp only [optThen_some,resultD_tmp,resultD_cell,G,Z,Y,Gx,un_neg,cutD,decide_true,decide_false,simprocAttr,fb2,fb3,fb9,fb31,fb45,fb55,fb109]
      refine ⟨_, E, hE, (hacc3.wf).to_Wk (.sl none 5 _ _ (fun id h => by cases h) (LowL.get ?_)), ?_⟩
      · rw [hcells]; exact atts_low _
      · rw [hcells, hlen3]
        simp
    · repeat' (first|refine Go.a rfl ?_|refine Go.rg ?_|refine GoR.nil ?_|refine Go.ret ?_|refine Go.b rfl ?_|refine Go.rgS dmx (by decide) ?_|refine Go.rgD [6, 8] (fun H => objAt H S.length = some [.int .i64 v.k, .int .i64 v.i, .str v.s, .sl none 1 v.l.length (intsD v.l)]) dmx (by decide) 9 (by decide) (by (first | exact hI2 | simp only [List.append_assoc, List.cons_append, List.nil_append, objAt_app, objAt_app0, objAt_succ, objAt_zero])) ?_|refine GoW.nil rfl ?_|(refine GoW.newL (by decide) (by rfl) rfl (by (first | exact hI2 | simp only [List.append_assoc, List.cons_append, List.nil_append, objAt_app, objAt_app0, objAt_succ, objAt_zero])) ?_;(conv => arg 1;simp only [G,Z,Y,Gx,un_neg,cutD,decide_true,decide_false,simprocAttr,fb2,fb3,fb9,fb31,fb45,fb55,fb109,show decide ((k : Int) < (x.length : Int)) = false by simp; omega, hI2, c0, c1, hap1, hap2, hap3, builtin_append]);refine ⟨by first|rfl|simp,by first|rfl|simp,LowL.mem (by repeat' (first | exact .nil | refine .cons ?_ ?_ | exact .str _ | exact .int _ _ | exact .bool _ | exact .nils | assumption)),?_⟩;show GoW ..)|((first|refine GoR.o (by rfl) (by rfl) ?_|refine GoW.o (by rfl) (by rfl) ?_|refine GoW.rd (by rfl) (by rfl) ?_);(conv => arg 1;simp only [G,Z,Y,Gx,un_neg,cutD,decide_true,decide_false,simprocAttr,fb2,fb3,fb9,fb31,fb45,fb55,fb109,show decide ((k : Int) < (x.length : Int)) = false by simp; omega, hI2, c0, c1, hap1, hap2, hap3, builtin_append]);first|show GoR ..|(show _ ∧ GoW ..;refine ⟨by (first|exact fun h => absurd h (by decide)|(intro _;(first | exact hI2 | simp only [List.append_assoc, List.cons_append, List.nil_append, objAt_app, objAt_app0, objAt_succ, objAt_zero]))),?_⟩)|(show _ ∧ _ ∧ _ ∧ GoW ..;refine ⟨rfl,by (first | exact hI2 | simp only [List.append_assoc, List.cons_append, List.nil_append, objAt_app, objAt_app0, objAt_succ, objAt_zero]),(fun H hI=>by (try dsimp only at hI);simp only [G,Z,Y,Gx,un_neg,cutD,decide_true,decide_false,simprocAttr,fb2,fb3,fb9,fb31,fb45,fb55,fb109,show decide ((k : Int) < (x.length : Int)) = false by simp; omega, hI2, c0, c1, hap1, hap2, hap3, builtin_append,hI]),?_⟩))|refine GoR.s (by rfl) rfl rfl ?_|refine GoW.s (by rfl) rfl rfl (by (first|exact fun h => absurd h (by decide)|(intro _;(first | exact hI2 | simp only [List.append_assoc, List.cons_append, List.nil_append, objAt_app, objAt_app0, objAt_succ, objAt_zero])))) ?_|(refine GoR.splitG rfl (fun hc => ?_) (fun hc => ?_) <;> simp only [hc])|refine Go.condB rfl (fun hc => ?_) (fun hc => ?_))
      refine ⟨(by first | exact .inl rfl | exact .inr rfl), fin ?_⟩
      rw [resD_tmp (fn := Tryz.f78) rfl]
      simp only [optThen_some,resultD_tmp,resultD_cell,G,Z,Y,Gx,un_neg,cutD,decide_true,decide_false,simprocAttr,fb2,fb3,fb9,fb31,fb45,fb55,fb109]
      refine ⟨_, E, hE, (hacc3.wf).to_Wk (.sl none 5 _ _ (fun id h => by cases h) (LowL.get ?_)), ?_⟩
      · rw [hcells]; exact atts_low _
      · rw [hcells, hlen3]
        simp
/-- What the document's setting is. -/
def setRD (l : List Att) (s : ByteArray) (v : Val) : D :=
  if nameOk s = false then .tup [attsD [], .int .i64 5] else if chkV v ≠ 0 then .tup [attsD [], .int .i64 (chkV v)] else
  if (look l s).isSome = false ∧ 32 ≤ l.length then .tup [attsD [], .int .i64 4] else .tup [attsD (withL l s v), .int .i64 0]
theorem refSet (l : List Att) (s : ByteArray) (v : Val) (hr : RiseB Att.n l) (hl : l.length < 100000) (hs : s.size < 1000000) (hvs : v.s.size < 1000000) (S : Mem) :
    CallD Tryz.prog orc 26 [.sl none 5 l.length (attsC l), .str s, .agg v.c] S fun d S' => S' = S ∧ d = setRD l s v := by
  have hck := fun S => refCheckValue (orc := orc) v hvs S
  have hget := fun S => refGet (orc := orc) l s hr (by omega) S
  have hwith := fun S => refWith (orc := orc) l s v hl S
  have hnm := fun S => refName (orc := orc) s (by omega) S
  unfold setRD
  simp only [Val.c] at *
  generalize hx : (look l s).getD noVal = x at *
  cases hn : nameOk s with
  | false =>
    rw [if_pos rfl]
    refine CallD.e Tryz.func26 rfl Tryz.ntmps26 (by rfl) ?_
    repeat' (first|refine Go.a rfl ?_|refine Go.rg ?_|refine GoR.nil ?_|refine Go.ret ?_|refine Go.b rfl ?_|(refine GoR.o (by rfl) (by rfl) ?_;(conv => arg 1;simp only [G,Z,Y,Gx,un_neg,cutD,decide_true,decide_false,simprocAttr,fb2,fb3,fb9,fb31,fb45,fb55,hn]);show GoR ..)|(refine GoR.c c31 (by rfl) (by rfl) rfl ?_;(refine (hget _).ret ?_))|(refine GoR.c c59 (by rfl) (by rfl) rfl ?_;(refine (hck _).ret ?_))|(refine GoR.c c34 (by rfl) (by rfl) rfl ?_;(refine (hnm _).ret ?_))|refine GoR.s (by rfl) rfl rfl ?_|(refine GoR.splitG rfl (fun hc => ?_) (fun hc => ?_) <;> simp only [hc])|refine Go.condB rfl (fun hc => ?_) (fun hc => ?_))
    refine ⟨(by first | exact .inl rfl | exact .inr rfl), fin ?_⟩
    rw [resD_two (fn := Tryz.f26) rfl]
    simp only [optThen_some,resultD_tmp,resultD_cell,G,Z,Y,Gx,un_neg,cutD,decide_true,decide_false,simprocAttr,fb2,fb3,fb9,fb31,fb45,fb55]
    exact ⟨_, _, rfl, (Wf.tup' (.cons .nilE (.cons .refl .nil))).to_Wk (.tup' (.cons (attsD_low []) (.cons (.int _ _) .nil))), rfl⟩
  | true =>
  rw [if_neg (by decide)]
  by_cases hc : chkV v = 0
  rotate_left
  · rw [if_pos hc]
    refine CallD.e Tryz.func26 rfl Tryz.ntmps26 (by rfl) ?_
    repeat' (first|refine Go.a rfl ?_|refine Go.rg ?_|refine GoR.nil ?_|refine Go.ret ?_|refine Go.b rfl ?_|(refine GoR.o (by rfl) (by rfl) ?_;(conv => arg 1;simp only [G,Z,Y,Gx,un_neg,cutD,decide_true,decide_false,simprocAttr,fb2,fb3,fb9,fb31,fb45,fb55,hn, show (chkV v != 0) = true by simpa using hc]);show GoR ..)|(refine GoR.c c31 (by rfl) (by rfl) rfl ?_;(refine (hget _).ret ?_))|(refine GoR.c c59 (by rfl) (by rfl) rfl ?_;(refine (hck _).ret ?_))|(refine GoR.c c34 (by rfl) (by rfl) rfl ?_;(refine (hnm _).ret ?_))|refine GoR.s (by rfl) rfl rfl ?_|(refine GoR.splitG rfl (fun hc => ?_) (fun hc => ?_) <;> simp only [hc])|refine Go.condB rfl (fun hc => ?_) (fun hc => ?_))
    refine ⟨(by first | exact .inl rfl | exact .inr rfl), fin ?_⟩
    rw [resD_two (fn := Tryz.f26) rfl]
    simp only [optThen_some,resultD_tmp,resultD_cell,G,Z,Y,Gx,un_neg,cutD,decide_true,decide_false,simprocAttr,fb2,fb3,fb9,fb31,fb45,fb55]
    exact ⟨_, _, rfl, (Wf.tup' (.cons .nilE (.cons .refl .nil))).to_Wk (.tup' (.cons (attsD_low []) (.cons (.int _ _) .nil))), rfl⟩
  rw [if_neg (by simp [hc])]
  cases hlk : (look l s).isSome with
  | true =>
    rw [if_neg (by simp)]
    refine CallD.e Tryz.func26 rfl Tryz.ntmps26 (by rfl) ?_
    repeat' (first|refine Go.a rfl ?_|refine Go.rg ?_|refine GoR.nil ?_|refine Go.ret ?_|refine Go.b rfl ?_|(refine GoR.o (by rfl) (by rfl) ?_;(conv => arg 1;simp only [G,Z,Y,Gx,un_neg,cutD,decide_true,decide_false,simprocAttr,fb2,fb3,fb9,fb31,fb45,fb55,hn, hc, hlk]);show GoR ..)|(refine GoR.c c31 (by rfl) (by rfl) rfl ?_;(refine (hget _).ret ?_))|(refine GoR.c c59 (by rfl) (by rfl) rfl ?_;(refine (hck _).ret ?_))|(refine GoR.c c34 (by rfl) (by rfl) rfl ?_;(refine (hnm _).ret ?_))|(refine GoR.c c78 (by rfl) (by rfl) rfl ?_;(refine (hwith _).ret ?_))|refine GoR.s (by rfl) rfl rfl ?_|(refine GoR.splitG rfl (fun hc => ?_) (fun hc => ?_) <;> simp only [hc])|refine Go.condB rfl (fun hc => ?_) (fun hc => ?_))
    refine ⟨(by first | exact .inl rfl | exact .inr rfl), fin ?_⟩
    rw [resD_two (fn := Tryz.f26) rfl]
    simp only [optThen_some,resultD_tmp,resultD_cell,G,Z,Y,Gx,un_neg,cutD,decide_true,decide_false,simprocAttr,fb2,fb3,fb9,fb31,fb45,fb55]
    exact ⟨_, _, rfl, .of_low (.tup' (.cons (attsD_low _) (.cons (.int _ _) .nil))), rfl⟩
  | false =>
    by_cases h32 : 32 ≤ l.length
    · rw [if_pos ⟨rfl, h32⟩]
      refine CallD.e Tryz.func26 rfl Tryz.ntmps26 (by rfl) ?_
      repeat' (first|refine Go.a rfl ?_|refine Go.rg ?_|refine GoR.nil ?_|refine Go.ret ?_|refine Go.b rfl ?_|(refine GoR.o (by rfl) (by rfl) ?_;(conv => arg 1;simp only [G,Z,Y,Gx,un_neg,cutD,decide_true,decide_false,simprocAttr,fb2,fb3,fb9,fb31,fb45,fb55,hn, hc, hlk, show decide (32 ≤ (l.length : Int)) = true by simp; omega]);show GoR ..)|(refine GoR.c c31 (by rfl) (by rfl) rfl ?_;(refine (hget _).ret ?_))|(refine GoR.c c59 (by rfl) (by rfl) rfl ?_;(refine (hck _).ret ?_))|(refine GoR.c c34 (by rfl) (by rfl) rfl ?_;(refine (hnm _).ret ?_))|refine GoR.s (by rfl) rfl rfl ?_|(refine GoR.splitG rfl (fun hc => ?_) (fun hc => ?_) <;> simp only [hc])|refine Go.condB rfl (fun hc => ?_) (fun hc => ?_))
      refine ⟨(by first | exact .inl rfl | exact .inr rfl), fin ?_⟩
      rw [resD_two (fn := Tryz.f26) rfl]
      simp only [optThen_some,resultD_tmp,resultD_cell,G,Z,Y,Gx,un_neg,cutD,decide_true,decide_false,simprocAttr,fb2,fb3,fb9,fb31,fb45,fb55]
      exact ⟨_, _, rfl, (Wf.tup' (.cons .nilE (.cons .refl .nil))).to_Wk (.tup' (.cons (attsD_low []) (.cons (.int _ _) .nil))), rfl⟩
    · rw [if_neg (by simp [h32])]
      refine CallD.e Tryz.func26 rfl Tryz.ntmps26 (by rfl) ?_
      repeat' (first|refine Go.a rfl ?_|refine Go.rg ?_|refine GoR.nil ?_|refine Go.ret ?_|refine Go.b rfl ?_|(refine GoR.o (by rfl) (by rfl) ?_;(conv => arg 1;simp only [G,Z,Y,Gx,un_neg,cutD,decide_true,decide_false,simprocAttr,fb2,fb3,fb9,fb31,fb45,fb55,hn, hc, hlk, show decide (32 ≤ (l.length : Int)) = false by simp; omega]);show GoR ..)|(refine GoR.c c31 (by rfl) (by rfl) rfl ?_;(refine (hget _).ret ?_))|(refine GoR.c c59 (by rfl) (by rfl) rfl ?_;(refine (hck _).ret ?_))|(refine GoR.c c34 (by rfl) (by rfl) rfl ?_;(refine (hnm _).ret ?_))|(refine GoR.c c78 (by rfl) (by rfl) rfl ?_;(refine (hwith _).ret ?_))|refine GoR.s (by rfl) rfl rfl ?_|(refine GoR.splitG rfl (fun hc => ?_) (fun hc => ?_) <;> simp only [hc])|refine Go.condB rfl (fun hc => ?_) (fun hc => ?_))
      refine ⟨(by first | exact .inl rfl | exact .inr rfl), fin ?_⟩
      rw [resD_two (fn := Tryz.f26) rfl]
      simp only [optThen_some,resultD_tmp,resultD_cell,G,Z,Y,Gx,un_neg,cutD,decide_true,decide_false,simprocAttr,fb2,fb3,fb9,fb31,fb45,fb55]
      exact ⟨_, _, rfl, .of_low (.tup' (.cons (attsD_low _) (.cons (.int _ _) .nil))), rfl⟩
end Go.Proofs.DwT
