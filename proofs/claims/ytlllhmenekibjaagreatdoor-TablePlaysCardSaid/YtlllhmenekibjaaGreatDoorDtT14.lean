/- The document's table: a row put. -/
import Derived.Test.YtlllhmenekibjaaGreatDoorDtT13
set_option linter.unusedSimpArgs false
set_option linter.unusedVariables false
namespace Go.DM
open Go.AM
theorem Go.atMem {P : Program} {orc : DOracle} {fl sz : Nat} {k : List AM.K} {e : AM.AExit} {ρ : DEnv} {S : Mem} {Q : AM.AExit → DEnv → Mem → Prop} (p : Mem → Prop) (hp : p S) (h : ∀ M, p M → Go P orc fl sz k e ρ M Q) : Go P orc fl sz k e ρ S Q := h S hp
theorem AccD.appendZ {P : Program} {b t e n bytes len m : Nat} {o : D} {own : Option Nat} {cells new : List D} {S : Mem} (h : ElemT P t e n bytes) (ha : AccD b o n len cells S) (hb : b ≤ S.length) (hm : m = 0 → new = []) (hf : fitsD bytes (len + m) new) :
    ∃ o' S', appendD P #[t, t] o (.sl own n m new) S = some (o', S') ∧ AccD b o' n (len + m) (cells ++ new) S' ∧ Grown b S S' := by
  by_cases h0 : m = 0
  · have := hm h0
    subst h0 this
    refine ⟨o, S, ?_, by simpa using ha, .refl⟩
    rcases ha with ⟨rfl, _⟩ | ⟨rfl, _⟩ | ⟨id, _, rfl, _⟩
    · rw [ap_nils h, if_pos rfl]
    · rw [ap_sl0 h, if_pos rfl]
    · rw [ap_own h, if_pos rfl]
  · exact ha.append h hb h0 hf
end Go.DM
namespace Go.Proofs.DtT
open Go Go.DM Go.Proofs.DtF
set_option maxRecDepth 100000
variable {orc : DOracle}

theorem rows_take {l : List Rw} {i : Nat} (h : i ≤ l.length) : (rowsC l).take (i * 6) = rowsC (l.take i) := by
  have hl : (rowsC (l.take i)).length = i * 6 := by rw [rowsC_len, List.length_take]; omega
  have e : rowsC l = rowsC (l.take i) ++ rowsC (l.drop i) := by rw [← rowsC_app, List.take_append_drop]
  rw [e, ← hl, List.take_left]
theorem rows_drop {l : List Rw} {i : Nat} (h : i ≤ l.length) : (rowsC l).drop (i * 6) = rowsC (l.drop i) := flat_drop row_len l i
theorem rows_cut0 {x : List Rw} {k : Nat} (h : k ≤ x.length) {P : Program} {t e : TypeId} (hu : P.underlying t = some (.slice e)) (hs : AM.sizeA P e = some 6) {kk : IntKind} :
    sliceD P t (.sl none 6 x.length (rowsC x)) none (some (.int kk (k : Int))) none = some (.sl none 6 (x.take k).length (rowsC (x.take k))) := by
  rw [cut_sl hu hs]
  simp only [optNatD, natD, Int.natCast_nonneg, if_true, Option.map_some, Option.bind_some, Int.toNat_natCast, DM.cutD]
  simp [List.length_take, Nat.min_eq_left h, rows_take h, h]
theorem rows_cut1 {x : List Rw} {k : Nat} (h : k ≤ x.length) {P : Program} {t e : TypeId} (hu : P.underlying t = some (.slice e)) (hs : AM.sizeA P e = some 6) {kk : IntKind} :
    sliceD P t (.sl none 6 x.length (rowsC x)) (some (.int kk (k : Int))) none none = some (.sl none 6 (x.drop k).length (rowsC (x.drop k))) := by
  rw [cut_sl hu hs]
  simp only [optNatD, natD, Int.natCast_nonneg, if_true, Option.map_some, Option.bind_some, Int.toNat_natCast, DM.cutD]
  have : (rowsC (x.drop k)).length ≤ (x.length - k) * 6 := by rw [rowsC_len, List.length_drop]; exact Nat.le_refl _
  simp [rows_drop h, h, List.take_of_length_le this]
theorem restK_drop {l : List Rw} (hr : RiseB Rw.key l) (s : ByteArray) : restK l s = dropK Rw.key l s := (dropK_filter hr s).symm
theorem putK_dropK {l : List Rw} (hr : RiseB Rw.key l) (r : Rw) : putK Rw.key (dropK Rw.key l r.key) r = putK Rw.key l r := by
  have h1 := riseK_drop hr r.key
  refine extK (riseK_put h1 r) (riseK_put hr r) fun s => ?_
  by_cases hs : r.key = s
  · subst hs
    rw [lookK_put h1, lookK_put hr]
  · rw [lookK_put_ne h1 r hs, lookK_put_ne hr r hs, lookK_drop_ne hr hs]
theorem old_iff {a b : St} : decide (0 ≤ cmpSt b a) = !decide (0 < cmpSt a b) := by
  have := cmpSt_swap a b
  rw [Bool.eq_iff_iff]
  simp
  omega
set_option maxHeartbeats 8000000 in
theorem refPutT {most : Int} {l : List Rw} (ho : OkT l) (hm : 1 ≤ most) (r : Rw) (hr : FewR r) (S : Mem) : CallD Tryz.prog O 10 [.agg (refT most l), .agg r.c] S fun d S' => S' = S ∧ d = .tup [.agg (refT most (putT most l r).1), .int .i64 (putT most l r).2] := by
  have hck := fun S => refCheck r hr S
  have hll := ho.len
  have hl0 : DLow 0 (D.sl none 5 r.at_.length (attsC r.at_)) := .sl' (atts_low _)
  have hget := fun S => refGetT (orc := O) (most := most) ho.rise ho.len r.key S
  have hlow : ∀ x, LowL S.length [D.agg (refT most x), D.int .i64 (putT most l r).2] := fun x => .cons (.agg' (refT_low (l := x))) (.cons (.int _ _) .nil)
  by_cases hc : chkR r = 0
  rotate_left
  · have hp := putT_bad (most := most) (l := l) hc
    rw [hp] at hlow ⊢
    simp only [Rw.c, refT] at *
    refine CallD.e Tryz.func10 rfl Tryz.ntmps10 (by rfl) ?_
    repeat' (first|refine Go.a rfl ?_|refine Go.rg ?_|refine GoR.nil ?_|refine Go.ret ?_|refine Go.b rfl ?_|refine Go.rgS dmx (by decide) ?_|(refine GoR.o (by rfl) (by rfl) ?_;(conv => arg 1;simp only [G,Z,Y,Gx,un_neg,cutD,decide_true,decide_false,simprocAttr,fb2,fb3,fb9,fb28,fb30,fb41,fb42,fb44,show (chkR r != 0) = true by simpa using hc]);show GoR ..)|(refine GoR.c c24 (by rfl) (by rfl) rfl ?_;(refine (hck _).ret ?_))|refine GoR.s (by rfl) rfl rfl ?_|(refine GoR.splitG rfl (fun hc => ?_) (fun hc => ?_) <;> simp only [hc])|refine Go.condB rfl (fun hc => ?_) (fun hc => ?_))
    refine ⟨(by first | exact .inl rfl | exact .inr rfl), fin ?_⟩
    rw [resD_two (fn := Tryz.f10) rfl]
    simp only [optThen_some,resultD_tmp,resultD_cell,G,Z,Y,Gx,un_neg,cutD,decide_true,decide_false,simprocAttr,fb2,fb3,fb9,fb28,fb30,fb41,fb42,fb44]
    exact ⟨_, _, rfl, .of_low (.tup' (hlow l)), rfl⟩
  have hc0 : (chkR r != 0) = false := by simpa using hc
  have finish : ∀ (t' : List Rw) (e : putT most l r = (putK Rw.key t' r, 0)) (hq : lookK Rw.key t' r.key = none), putT most l r = (t'.take (posK Rw.key t' r.key) ++ r :: t'.drop (posK Rw.key t' r.key), 0) := fun t' e hq => by
    rw [e, putK_new (by rw [hq]; rfl)]
  cases hq : lookK Rw.key l r.key with
  | some x =>
    rw [hq] at hget
    have hcm := fun S => refCompare (orc := O) x.st r.st S
    simp only [Option.getD_some, Option.isSome_some] at hget
    have hoi := old_iff (a := r.st) (b := x.st)
    by_cases hn : 0 < cmpSt r.st x.st
    · have hput0 := putT_newer (most := most) hc hq hn
      have hdr := fun S => refDropT (orc := O) (most := most) ho.len r.key S
      rw [restK_drop ho.rise] at hdr
      have hod := ho.drop r.key
      have hput : putT most l r = (putK Rw.key (dropK Rw.key l r.key) r, 0) := by rw [hput0, putK_dropK ho.rise]
      have hq' := lookK_drop (f := Rw.key) ho.rise r.key
      have hat := fun S => refAt (orc := O) (most := most) hod.rise hod.len r.key S
      rw [hq'] at hat
      simp only [hn, decide_true, Bool.not_true] at hoi
      generalize dropK Rw.key l r.key = t' at *
      simp only [Rw.c, St.c, refT] at *
      refine CallD.e Tryz.func10 rfl Tryz.ntmps10 (by rfl) ?_
      repeat' (first|refine Go.a rfl ?_|refine Go.rg ?_|refine GoR.nil ?_|refine Go.ret ?_|refine Go.b rfl ?_|refine Go.rgS dmx (by decide) ?_|(refine GoR.o (by rfl) (by rfl) ?_;(conv => arg 1;simp only [G,Z,Y,Gx,un_neg,cutD,decide_true,decide_false,simprocAttr,fb2,fb3,fb9,fb28,fb30,fb41,fb42,fb44,hc0, hoi]);show GoR ..)|(refine GoR.c c24 (by rfl) (by rfl) rfl ?_;(refine (hck _).ret ?_))|(refine GoR.c c13 (by rfl) (by rfl) rfl ?_;(refine (hget _).ret ?_))|(refine GoR.c c52 (by rfl) (by rfl) rfl ?_;(refine (hcm _).ret ?_))|(refine GoR.c c15 (by rfl) (by rfl) rfl ?_;(refine (hdr _).ret ?_))|(refine GoR.c c54 (by rfl) (by rfl) rfl ?_;(refine (hat _).ret ?_))|refine GoR.s (by rfl) rfl rfl ?_|(refine GoR.splitG rfl (fun hc => ?_) (fun hc => ?_) <;> simp only [hc])|refine Go.condB rfl (fun hc => ?_) (fun hc => ?_))
      have hpl := posK_le (f := Rw.key) t' r.key
      have hp := finish t' hput hq'
      have hlen' := hod.len
      rw [hp]
      generalize posK Rw.key t' r.key = i at *
      have c0 := fun kk => rows_cut0 (x := t') hpl (P := Tryz.prog) (t := 28) Tryz.underlying28 dsz44 (kk := kk)
      have c1 := fun kk => rows_cut1 (x := t') hpl (P := Tryz.prog) (t := 28) Tryz.underlying28 dsz44 (kk := kk)
      refine Go.keep [(2, .ptr S.length 0), (3, .ptr (S.length + 1) 0), (4, .ptr (S.length + 2) 0), (5, .int .i64 0), (10, .int .i64 (i : Int))] (.cons .refl (.cons .refl (.cons .refl (.cons .refl (.cons .refl (.nil)))))) ?_
      refine Go.atMem (fun M => Fr [] S M ∧ objAt M S.length = some [.int .i64 most, .sl none 6 (t').length (rowsC t')] ∧ objAt M (S.length + 1) = some [.str r.key, .int .i64 r.st.tick, .int .i64 r.st.inc, .int .i64 r.st.seq, .str r.st.org, .sl none 5 r.at_.length (attsC r.at_)] ∧ objAt M (S.length + 2) = some [.int .i64 0, .nils]) ⟨.app, by simp [objAt, List.getElem?_append_right], by simp [objAt, List.getElem?_append_right], by simp [objAt, List.getElem?_append_right]⟩ ?_
      rintro M ⟨hF, hT, hR, hZ⟩
      have hb : S.length + 3 ≤ M.length := objAt_lt hZ
      have hT0 : ∀ E, objAt (M ++ E) S.length = some [.int .i64 most, .sl none 6 (t').length (rowsC t')] := fun E => objAt_old hT
      have hR0 : ∀ E, objAt (M ++ E) (S.length + 1) = some [.str r.key, .int .i64 r.st.tick, .int .i64 r.st.inc, .int .i64 r.st.seq, .str r.st.org, .sl none 5 r.at_.length (attsC r.at_)] := fun E => objAt_old hR
      have hacc0 : AccD (S.length + 3) (.sl (some M.length) 6 0 []) 6 0 [] (M ++ [.own]) := .inr (.inr ⟨M.length, by omega, rfl, by simp⟩)
      obtain ⟨o1, S2, hap1, hacc1, hg1⟩ := hacc0.appendZ (P := Tryz.prog) del28 (own := none) (m := ((t').take i).length) (new := rowsC ((t').take i)) (by simp; omega) (fun h => by rw [List.eq_nil_of_length_eq_zero h]; rfl) ⟨by rw [List.length_take]; omega, by rw [List.length_take]; omega, by omega, rows_one _⟩
      have hG1 : Grown (S.length + 3) M S2 := Grown.app.trans hg1
      obtain ⟨o2, S3, hap2, hacc2, hg2⟩ := hacc1.appendZ (P := Tryz.prog) del28 (own := none) (m := 1) (new := [.str r.key, .int .i64 r.st.tick, .int .i64 r.st.inc, .int .i64 r.st.seq, .str r.st.org, .sl none 5 r.at_.length (attsC r.at_)]) (Nat.le_trans hb hG1.len) (by omega) ⟨by rw [List.length_take]; omega, by rw [List.length_take]; omega, by omega, rfl⟩
      have hG2 := hG1.trans hg2
      have ho2 := hacc2.one
      obtain ⟨o3, S4, hap3, hacc3, hg3⟩ := (hacc2.app [.obj [.int .i64 most, o2]]).appendZ (P := Tryz.prog) del28 (own := none) (m := ((t').drop i).length) (new := rowsC ((t').drop i)) (by simp; have := hG2.len; omega) (fun h => by rw [List.eq_nil_of_length_eq_zero h]; rfl) ⟨by rw [List.length_take, List.length_drop]; omega, by rw [List.length_take, List.length_drop]; omega, by omega, rows_one _⟩
      have hG3 : Grown (S.length + 3) M S4 := hG2.trans (Grown.app.trans hg3)
      have ho3 := hacc3.one
      have hT1 := hG1.obj _ _ hT
      have hR1 := hG1.obj _ _ hR
      have hT2 := hG2.obj _ _ hT
      have hR2 := hG2.obj _ _ hR
      have hT2' : ∀ E, objAt (S3 ++ E) S.length = some [.int .i64 most, .sl none 6 (t').length (rowsC t')] := fun E => objAt_old hT2
      have hU4 : objAt S4 S3.length = some [.int .i64 most, o2] := hg3.obj _ _ (by rw [objAt_app0]; rfl)
      have hZ4 := hG3.obj _ _ hZ
      have hle3 := hG2.len
      have hs5 : ∀ c, objAt (S4.set S3.length (.obj c)) S3.length = some c := fun c => objAt_set_eq (objAt_lt hU4)
      have hz5 : ∀ c, objAt (S4.set S3.length (.obj c)) (S.length + 2) = some [.int .i64 0, .nils] := fun c => (objAt_set_ne (by omega)).trans hZ4
      have hs6 : ∀ c c', objAt ((S4.set S3.length (.obj c)).set (S.length + 2) (.obj c')) (S.length + 2) = some c' := fun c c' => objAt_set_eq (by rw [List.length_set]; exact objAt_lt hZ4)
      repeat' (first|refine Go.a rfl ?_|refine Go.rg ?_|refine GoR.nil ?_|refine Go.ret ?_|refine Go.b rfl ?_|refine Go.rgS dmx (by decide) ?_|refine Go.rgF 12 [2, 7, 10] [1, 4, 8, 9] (fun H => objAt H S.length = some [.int .i64 most, .sl none 6 (t').length (rowsC t')] ∧ objAt H (S.length + 1) = some [.str r.key, .int .i64 r.st.tick, .int .i64 r.st.inc, .int .i64 r.st.seq, .str r.st.org, .sl none 5 r.at_.length (attsC r.at_)]) dmx (by decide) 13 (by decide) (by decide) rfl rfl rfl rfl dze30 (by simp [AM.scalarV, Value.cells]) (by (first | exact ⟨hT, hR⟩ | exact ⟨objAt_old hT, objAt_old hR⟩ | exact ⟨hT1, hR1⟩ | exact ⟨hT2, hR2⟩ | exact ⟨objAt_old hT2, objAt_old hR2⟩)) ?_|refine GoW.nil rfl ?_|(refine GoW.newL (by decide) (by rfl) rfl (by (first | exact ⟨hT, hR⟩ | exact ⟨objAt_old hT, objAt_old hR⟩ | exact ⟨hT1, hR1⟩ | exact ⟨hT2, hR2⟩ | exact ⟨objAt_old hT2, objAt_old hR2⟩)) ?_;(conv => arg 1;simp only [G,Z,Y,Gx,un_neg,cutD,decide_true,decide_false,simprocAttr,fb2,fb3,fb9,fb28,fb30,fb41,fb42,fb44,hT0, hR0, hT, hR, hT1, hR1, hT2, hR2, hT2', hU4, hs5, hz5, c0, c1, hap1, hap2, hap3, ho2, ho3, builtin_append]);refine ⟨by first|rfl|simp,by first|rfl|simp,LowL.mem (by repeat' (first | exact .nil | refine .cons ?_ ?_ | exact .str _ | exact .int _ _ | exact .bool _ | exact .nils | assumption)),?_⟩;show GoW ..)|((first|refine GoR.o (by rfl) (by rfl) ?_|refine GoW.o (by rfl) (by rfl) ?_|refine GoW.rd (by rfl) (by rfl) ?_);(conv => arg 1;simp only [G,Z,Y,Gx,un_neg,cutD,decide_true,decide_false,simprocAttr,fb2,fb3,fb9,fb28,fb30,fb41,fb42,fb44,hT0, hR0, hT, hR, hT1, hR1, hT2, hR2, hT2', hU4, hs5, hz5, c0, c1, hap1, hap2, hap3, ho2, ho3, builtin_append]);first|show GoR ..|(show _ ∧ GoW ..;refine ⟨by (first|exact fun h => absurd h (by decide)|(intro _;(first | exact ⟨hT, hR⟩ | exact ⟨objAt_old hT, objAt_old hR⟩ | exact ⟨hT1, hR1⟩ | exact ⟨hT2, hR2⟩ | exact ⟨objAt_old hT2, objAt_old hR2⟩))),?_⟩)|(show _ ∧ _ ∧ _ ∧ GoW ..;refine ⟨rfl,by (first | exact ⟨hT, hR⟩ | exact ⟨objAt_old hT, objAt_old hR⟩ | exact ⟨hT1, hR1⟩ | exact ⟨hT2, hR2⟩ | exact ⟨objAt_old hT2, objAt_old hR2⟩),(fun H hI=>by (try dsimp only at hI);simp only [G,Z,Y,Gx,un_neg,cutD,decide_true,decide_false,simprocAttr,fb2,fb3,fb9,fb28,fb30,fb41,fb42,fb44,hT0, hR0, hT, hR, hT1, hR1, hT2, hR2, hT2', hU4, hs5, hz5, c0, c1, hap1, hap2, hap3, ho2, ho3, builtin_append,hI]),?_⟩))|refine GoR.s (by rfl) rfl rfl ?_|refine GoW.s (by rfl) rfl rfl (by (first|exact fun h => absurd h (by decide)|(intro _;(first | exact ⟨hT, hR⟩ | exact ⟨objAt_old hT, objAt_old hR⟩ | exact ⟨hT1, hR1⟩ | exact ⟨hT2, hR2⟩ | exact ⟨objAt_old hT2, objAt_old hR2⟩)))) ?_|(refine GoR.splitG rfl (fun hc => ?_) (fun hc => ?_) <;> simp only [hc])|refine Go.condB rfl (fun hc => ?_) (fun hc => ?_))
      refine ⟨(by first | exact .inl rfl | exact .inr rfl), fin ?_⟩
      rw [resD_two (fn := Tryz.f10) rfl]
      simp only [optThen_some,resultD_tmp,resultD_cell,G,Z,Y,Gx,un_neg,cutD,decide_true,decide_false,simprocAttr,fb2,fb3,fb9,fb28,fb30,fb41,fb42,fb44,hs6]
      have hF4 : Fr [] S S4 := hF.grown' (b := S.length + 3) (by omega) hb hG3
      obtain ⟨E, hE⟩ := ((hF4.trans (F := []) (G := [S3.length]) (.set (o := S3.length) (x := .obj [.int .i64 most, o3]) (by simp)) (by simp; omega)).trans (F := []) (G := [S.length + 2]) (.set (o := S.length + 2) (x := .obj [.int .i64 most, o3]) (by simp)) (by simp)).pre (by simp)
      have hw := hacc3.wf
      have hl5 : 0 + ((t').take i).length + 1 + ((t').drop i).length = ((t').take i ++ r :: (t').drop i).length := by simp; omega
      have hc5 : [] ++ rowsC ((t').take i) ++ [.str r.key, .int .i64 r.st.tick, .int .i64 r.st.inc, .int .i64 r.st.seq, .str r.st.org, .sl none 5 r.at_.length (attsC r.at_)] ++ rowsC ((t').drop i) = rowsC ((t').take i ++ r :: (t').drop i) := by simp [rowsC, Rw.c]
      rw [hl5, hc5] at hw
      exact ⟨_, E, hE, (Wf.tup' (.cons (.agg' (.cons .refl (.cons hw .nil))) (.cons .refl .nil))).to_Wk (.tup' (.cons (.agg' (refT_low (most := most) (l := (t').take i ++ r :: (t').drop i))) (.cons (.int _ _) .nil))), by simp only [List.length_append, List.length_cons]⟩
    · have hp := putT_old (most := most) hc hq hn
      rw [hp] at hlow ⊢
      simp only [hn, decide_false, Bool.not_false] at hoi
      simp only [Rw.c, St.c, refT] at *
      refine CallD.e Tryz.func10 rfl Tryz.ntmps10 (by rfl) ?_
      repeat' (first|refine Go.a rfl ?_|refine Go.rg ?_|refine GoR.nil ?_|refine Go.ret ?_|refine Go.b rfl ?_|refine Go.rgS dmx (by decide) ?_|(refine GoR.o (by rfl) (by rfl) ?_;(conv => arg 1;simp only [G,Z,Y,Gx,un_neg,cutD,decide_true,decide_false,simprocAttr,fb2,fb3,fb9,fb28,fb30,fb41,fb42,fb44,hc0, hoi]);show GoR ..)|(refine GoR.c c24 (by rfl) (by rfl) rfl ?_;(refine (hck _).ret ?_))|(refine GoR.c c13 (by rfl) (by rfl) rfl ?_;(refine (hget _).ret ?_))|(refine GoR.c c52 (by rfl) (by rfl) rfl ?_;(refine (hcm _).ret ?_))|refine GoR.s (by rfl) rfl rfl ?_|(refine GoR.splitG rfl (fun hc => ?_) (fun hc => ?_) <;> simp only [hc])|refine Go.condB rfl (fun hc => ?_) (fun hc => ?_))
      refine ⟨(by first | exact .inl rfl | exact .inr rfl), fin ?_⟩
      rw [resD_two (fn := Tryz.f10) rfl]
      simp only [optThen_some,resultD_tmp,resultD_cell,G,Z,Y,Gx,un_neg,cutD,decide_true,decide_false,simprocAttr,fb2,fb3,fb9,fb28,fb30,fb41,fb42,fb44]
      exact ⟨_, _, rfl, .of_low (.tup' (hlow l)), rfl⟩
  | none =>
    rw [hq] at hget
    simp only [Option.getD_none, Option.isSome_none, noRow] at hget
    by_cases hf : most ≤ l.length
    · have h0 : l ≠ [] := by rintro rfl; simp at hf; omega
      obtain ⟨x0, l0, hl0'⟩ : ∃ x l', l = x :: l' := by
        cases l with
        | nil => exact absurd rfl h0
        | cons x l => exact ⟨x, l, rfl⟩
      have hlst : ∀ S, CallD Tryz.prog O 53 [.agg (refT most l)] S fun d S' => S' = S ∧ d = .agg (least l).c := fun S => by
        have hlen0 := ho.len
        subst hl0'
        exact refLeast (orc := O) (most := most) (by simp at hlen0; omega) S
      have hcm := fun S => refCompare (orc := O) (least l).st r.st S
      have hoi := old_iff (a := r.st) (b := (least l).st)
      have hmem := least_mem h0
      by_cases hn : 0 < cmpSt r.st (least l).st
      · have hput := putT_out (most := most) hc hq hf hn
        have hdr := fun S => refDropT (orc := O) (most := most) ho.len (least l).key S
        rw [restK_drop ho.rise] at hdr
        have hod := ho.drop (least l).key
        have hne : ¬ (least l).key = r.key := fun e => by
          have := lookK_of_mem ho.rise hmem
          rw [e, hq] at this
          cases this
        have hq' : lookK Rw.key (dropK Rw.key l (least l).key) r.key = none := by rw [lookK_drop_ne ho.rise hne]; exact hq
        have hat := fun S => refAt (orc := O) (most := most) hod.rise hod.len r.key S
        rw [hq'] at hat
        simp only [hn, decide_true, Bool.not_true] at hoi
        generalize dropK Rw.key l (least l).key = t' at *
        generalize least l = y at *
        simp only [Rw.c, St.c, refT] at *
        refine CallD.e Tryz.func10 rfl Tryz.ntmps10 (by rfl) ?_
        repeat' (first|refine Go.a rfl ?_|refine Go.rg ?_|refine GoR.nil ?_|refine Go.ret ?_|refine Go.b rfl ?_|refine Go.rgS dmx (by decide) ?_|(refine GoR.o (by rfl) (by rfl) ?_;(conv => arg 1;simp only [G,Z,Y,Gx,un_neg,cutD,decide_true,decide_false,simprocAttr,fb2,fb3,fb9,fb28,fb30,fb41,fb42,fb44,hc0, hoi, show decide (most ≤ (l.length : Int)) = true by simpa using hf]);show GoR ..)|(refine GoR.c c24 (by rfl) (by rfl) rfl ?_;(refine (hck _).ret ?_))|(refine GoR.c c13 (by rfl) (by rfl) rfl ?_;(refine (hget _).ret ?_))|(refine GoR.c c53 (by rfl) (by rfl) rfl ?_;(refine (hlst _).ret ?_))|(refine GoR.c c52 (by rfl) (by rfl) rfl ?_;(refine (hcm _).ret ?_))|(refine GoR.c c15 (by rfl) (by rfl) rfl ?_;(refine (hdr _).ret ?_))|(refine GoR.c c54 (by rfl) (by rfl) rfl ?_;(refine (hat _).ret ?_))|refine GoR.s (by rfl) rfl rfl ?_|(refine GoR.splitG rfl (fun hc => ?_) (fun hc => ?_) <;> simp only [hc])|refine Go.condB rfl (fun hc => ?_) (fun hc => ?_))
        have hpl := posK_le (f := Rw.key) t' r.key
        have hp := finish t' hput hq'
        have hlen' := hod.len
        rw [hp]
        generalize posK Rw.key t' r.key = i at *
        have c0 := fun kk => rows_cut0 (x := t') hpl (P := Tryz.prog) (t := 28) Tryz.underlying28 dsz44 (kk := kk)
        have c1 := fun kk => rows_cut1 (x := t') hpl (P := Tryz.prog) (t := 28) Tryz.underlying28 dsz44 (kk := kk)
        refine Go.keep [(2, .ptr S.length 0), (3, .ptr (S.length + 1) 0), (4, .ptr (S.length + 2) 0), (5, .int .i64 0), (10, .int .i64 (i : Int))] (.cons .refl (.cons .refl (.cons .refl (.cons .refl (.cons .refl (.nil)))))) ?_
        refine Go.atMem (fun M => Fr [] S M ∧ objAt M S.length = some [.int .i64 most, .sl none 6 (t').length (rowsC t')] ∧ objAt M (S.length + 1) = some [.str r.key, .int .i64 r.st.tick, .int .i64 r.st.inc, .int .i64 r.st.seq, .str r.st.org, .sl none 5 r.at_.length (attsC r.at_)] ∧ objAt M (S.length + 2) = some [.int .i64 0, .nils]) ⟨.app, by simp [objAt, List.getElem?_append_right], by simp [objAt, List.getElem?_append_right], by simp [objAt, List.getElem?_append_right]⟩ ?_
        rintro M ⟨hF, hT, hR, hZ⟩
        have hb : S.length + 3 ≤ M.length := objAt_lt hZ
        have hT0 : ∀ E, objAt (M ++ E) S.length = some [.int .i64 most, .sl none 6 (t').length (rowsC t')] := fun E => objAt_old hT
        have hR0 : ∀ E, objAt (M ++ E) (S.length + 1) = some [.str r.key, .int .i64 r.st.tick, .int .i64 r.st.inc, .int .i64 r.st.seq, .str r.st.org, .sl none 5 r.at_.length (attsC r.at_)] := fun E => objAt_old hR
        have hacc0 : AccD (S.length + 3) (.sl (some M.length) 6 0 []) 6 0 [] (M ++ [.own]) := .inr (.inr ⟨M.length, by omega, rfl, by simp⟩)
        obtain ⟨o1, S2, hap1, hacc1, hg1⟩ := hacc0.appendZ (P := Tryz.prog) del28 (own := none) (m := ((t').take i).length) (new := rowsC ((t').take i)) (by simp; omega) (fun h => by rw [List.eq_nil_of_length_eq_zero h]; rfl) ⟨by rw [List.length_take]; omega, by rw [List.length_take]; omega, by omega, rows_one _⟩
        have hG1 : Grown (S.length + 3) M S2 := Grown.app.trans hg1
        obtain ⟨o2, S3, hap2, hacc2, hg2⟩ := hacc1.appendZ (P := Tryz.prog) del28 (own := none) (m := 1) (new := [.str r.key, .int .i64 r.st.tick, .int .i64 r.st.inc, .int .i64 r.st.seq, .str r.st.org, .sl none 5 r.at_.length (attsC r.at_)]) (Nat.le_trans hb hG1.len) (by omega) ⟨by rw [List.length_take]; omega, by rw [List.length_take]; omega, by omega, rfl⟩
        have hG2 := hG1.trans hg2
        have ho2 := hacc2.one
        obtain ⟨o3, S4, hap3, hacc3, hg3⟩ := (hacc2.app [.obj [.int .i64 most, o2]]).appendZ (P := Tryz.prog) del28 (own := none) (m := ((t').drop i).length) (new := rowsC ((t').drop i)) (by simp; have := hG2.len; omega) (fun h => by rw [List.eq_nil_of_length_eq_zero h]; rfl) ⟨by rw [List.length_take, List.length_drop]; omega, by rw [List.length_take, List.length_drop]; omega, by omega, rows_one _⟩
        have hG3 : Grown (S.length + 3) M S4 := hG2.trans (Grown.app.trans hg3)
        have ho3 := hacc3.one
        have hT1 := hG1.obj _ _ hT
        have hR1 := hG1.obj _ _ hR
        have hT2 := hG2.obj _ _ hT
        have hR2 := hG2.obj _ _ hR
        have hT2' : ∀ E, objAt (S3 ++ E) S.length = some [.int .i64 most, .sl none 6 (t').length (rowsC t')] := fun E => objAt_old hT2
        have hU4 : objAt S4 S3.length = some [.int .i64 most, o2] := hg3.obj _ _ (by rw [objAt_app0]; rfl)
        have hZ4 := hG3.obj _ _ hZ
        have hle3 := hG2.len
        have hs5 : ∀ c, objAt (S4.set S3.length (.obj c)) S3.length = some c := fun c => objAt_set_eq (objAt_lt hU4)
        have hz5 : ∀ c, objAt (S4.set S3.length (.obj c)) (S.length + 2) = some [.int .i64 0, .nils] := fun c => (objAt_set_ne (by omega)).trans hZ4
        have hs6 : ∀ c c', objAt ((S4.set S3.length (.obj c)).set (S.length + 2) (.obj c')) (S.length + 2) = some c' := fun c c' => objAt_set_eq (by rw [List.length_set]; exact objAt_lt hZ4)
        repeat' (first|refine Go.a rfl ?_|refine Go.rg ?_|refine GoR.nil ?_|refine Go.ret ?_|refine Go.b rfl ?_|refine Go.rgS dmx (by decide) ?_|refine Go.rgF 12 [2, 7, 10] [1, 4, 8, 9] (fun H => objAt H S.length = some [.int .i64 most, .sl none 6 (t').length (rowsC t')] ∧ objAt H (S.length + 1) = some [.str r.key, .int .i64 r.st.tick, .int .i64 r.st.inc, .int .i64 r.st.seq, .str r.st.org, .sl none 5 r.at_.length (attsC r.at_)]) dmx (by decide) 13 (by decide) (by decide) rfl rfl rfl rfl dze30 (by simp [AM.scalarV, Value.cells]) (by (first | exact ⟨hT, hR⟩ | exact ⟨objAt_old hT, objAt_old hR⟩ | exact ⟨hT1, hR1⟩ | exact ⟨hT2, hR2⟩ | exact ⟨objAt_old hT2, objAt_old hR2⟩)) ?_|refine GoW.nil rfl ?_|(refine GoW.newL (by decide) (by rfl) rfl (by (first | exact ⟨hT, hR⟩ | exact ⟨objAt_old hT, objAt_old hR⟩ | exact ⟨hT1, hR1⟩ | exact ⟨hT2, hR2⟩ | exact ⟨objAt_old hT2, objAt_old hR2⟩)) ?_;(conv => arg 1;simp only [G,Z,Y,Gx,un_neg,cutD,decide_true,decide_false,simprocAttr,fb2,fb3,fb9,fb28,fb30,fb41,fb42,fb44,hT0, hR0, hT, hR, hT1, hR1, hT2, hR2, hT2', hU4, hs5, hz5, c0, c1, hap1, hap2, hap3, ho2, ho3, builtin_append]);refine ⟨by first|rfl|simp,by first|rfl|simp,LowL.mem (by repeat' (first | exact .nil | refine .cons ?_ ?_ | exact .str _ | exact .int _ _ | exact .bool _ | exact .nils | assumption)),?_⟩;show GoW ..)|((first|refine GoR.o (by rfl) (by rfl) ?_|refine GoW.o (by rfl) (by rfl) ?_|refine GoW.rd (by rfl) (by rfl) ?_);(conv => arg 1;simp only [G,Z,Y,Gx,un_neg,cutD,decide_true,decide_false,simprocAttr,fb2,fb3,fb9,fb28,fb30,fb41,fb42,fb44,hT0, hR0, hT, hR, hT1, hR1, hT2, hR2, hT2', hU4, hs5, hz5, c0, c1, hap1, hap2, hap3, ho2, ho3, builtin_append]);first|show GoR ..|(show _ ∧ GoW ..;refine ⟨by (first|exact fun h => absurd h (by decide)|(intro _;(first | exact ⟨hT, hR⟩ | exact ⟨objAt_old hT, objAt_old hR⟩ | exact ⟨hT1, hR1⟩ | exact ⟨hT2, hR2⟩ | exact ⟨objAt_old hT2, objAt_old hR2⟩))),?_⟩)|(show _ ∧ _ ∧ _ ∧ GoW ..;refine ⟨rfl,by (first | exact ⟨hT, hR⟩ | exact ⟨objAt_old hT, objAt_old hR⟩ | exact ⟨hT1, hR1⟩ | exact ⟨hT2, hR2⟩ | exact ⟨objAt_old hT2, objAt_old hR2⟩),(fun H hI=>by (try dsimp only at hI);simp only [G,Z,Y,Gx,un_neg,cutD,decide_true,decide_false,simprocAttr,fb2,fb3,fb9,fb28,fb30,fb41,fb42,fb44,hT0, hR0, hT, hR, hT1, hR1, hT2, hR2, hT2', hU4, hs5, hz5, c0, c1, hap1, hap2, hap3, ho2, ho3, builtin_append,hI]),?_⟩))|refine GoR.s (by rfl) rfl rfl ?_|refine GoW.s (by rfl) rfl rfl (by (first|exact fun h => absurd h (by decide)|(intro _;(first | exact ⟨hT, hR⟩ | exact ⟨objAt_old hT, objAt_old hR⟩ | exact ⟨hT1, hR1⟩ | exact ⟨hT2, hR2⟩ | exact ⟨objAt_old hT2, objAt_old hR2⟩)))) ?_|(refine GoR.splitG rfl (fun hc => ?_) (fun hc => ?_) <;> simp only [hc])|refine Go.condB rfl (fun hc => ?_) (fun hc => ?_))
        refine ⟨(by first | exact .inl rfl | exact .inr rfl), fin ?_⟩
        rw [resD_two (fn := Tryz.f10) rfl]
        simp only [optThen_some,resultD_tmp,resultD_cell,G,Z,Y,Gx,un_neg,cutD,decide_true,decide_false,simprocAttr,fb2,fb3,fb9,fb28,fb30,fb41,fb42,fb44,hs6]
        have hF4 : Fr [] S S4 := hF.grown' (b := S.length + 3) (by omega) hb hG3
        obtain ⟨E, hE⟩ := ((hF4.trans (F := []) (G := [S3.length]) (.set (o := S3.length) (x := .obj [.int .i64 most, o3]) (by simp)) (by simp; omega)).trans (F := []) (G := [S.length + 2]) (.set (o := S.length + 2) (x := .obj [.int .i64 most, o3]) (by simp)) (by simp)).pre (by simp)
        have hw := hacc3.wf
        have hl5 : 0 + ((t').take i).length + 1 + ((t').drop i).length = ((t').take i ++ r :: (t').drop i).length := by simp; omega
        have hc5 : [] ++ rowsC ((t').take i) ++ [.str r.key, .int .i64 r.st.tick, .int .i64 r.st.inc, .int .i64 r.st.seq, .str r.st.org, .sl none 5 r.at_.length (attsC r.at_)] ++ rowsC ((t').drop i) = rowsC ((t').take i ++ r :: (t').drop i) := by simp [rowsC, Rw.c]
        rw [hl5, hc5] at hw
        exact ⟨_, E, hE, (Wf.tup' (.cons (.agg' (.cons .refl (.cons hw .nil))) (.cons .refl .nil))).to_Wk (.tup' (.cons (.agg' (refT_low (most := most) (l := (t').take i ++ r :: (t').drop i))) (.cons (.int _ _) .nil))), by simp only [List.length_append, List.length_cons]⟩
      · have hp := putT_full (most := most) hc hq hf hn
        rw [hp] at hlow ⊢
        simp only [hn, decide_false, Bool.not_false] at hoi
        generalize least l = y at *
        simp only [Rw.c, St.c, refT] at *
        refine CallD.e Tryz.func10 rfl Tryz.ntmps10 (by rfl) ?_
        repeat' (first|refine Go.a rfl ?_|refine Go.rg ?_|refine GoR.nil ?_|refine Go.ret ?_|refine Go.b rfl ?_|refine Go.rgS dmx (by decide) ?_|(refine GoR.o (by rfl) (by rfl) ?_;(conv => arg 1;simp only [G,Z,Y,Gx,un_neg,cutD,decide_true,decide_false,simprocAttr,fb2,fb3,fb9,fb28,fb30,fb41,fb42,fb44,hc0, hoi, show decide (most ≤ (l.length : Int)) = true by simpa using hf]);show GoR ..)|(refine GoR.c c24 (by rfl) (by rfl) rfl ?_;(refine (hck _).ret ?_))|(refine GoR.c c13 (by rfl) (by rfl) rfl ?_;(refine (hget _).ret ?_))|(refine GoR.c c53 (by rfl) (by rfl) rfl ?_;(refine (hlst _).ret ?_))|(refine GoR.c c52 (by rfl) (by rfl) rfl ?_;(refine (hcm _).ret ?_))|refine GoR.s (by rfl) rfl rfl ?_|(refine GoR.splitG rfl (fun hc => ?_) (fun hc => ?_) <;> simp only [hc])|refine Go.condB rfl (fun hc => ?_) (fun hc => ?_))
        refine ⟨(by first | exact .inl rfl | exact .inr rfl), fin ?_⟩
        rw [resD_two (fn := Tryz.f10) rfl]
        simp only [optThen_some,resultD_tmp,resultD_cell,G,Z,Y,Gx,un_neg,cutD,decide_true,decide_false,simprocAttr,fb2,fb3,fb9,fb28,fb30,fb41,fb42,fb44]
        exact ⟨_, _, rfl, .of_low (.tup' (hlow l)), rfl⟩
    · have hput := putT_new (most := most) hc hq (by omega)
      have hat := fun S => refAt (orc := O) (most := most) ho.rise ho.len r.key S
      rw [hq] at hat
      simp only [Rw.c, St.c, refT] at *
      refine CallD.e Tryz.func10 rfl Tryz.ntmps10 (by rfl) ?_
      repeat' (first|refine Go.a rfl ?_|refine Go.rg ?_|refine GoR.nil ?_|refine Go.ret ?_|refine Go.b rfl ?_|refine Go.rgS dmx (by decide) ?_|(refine GoR.o (by rfl) (by rfl) ?_;(conv => arg 1;simp only [G,Z,Y,Gx,un_neg,cutD,decide_true,decide_false,simprocAttr,fb2,fb3,fb9,fb28,fb30,fb41,fb42,fb44,hc0, show decide (most ≤ (l.length : Int)) = false by simpa using hf]);show GoR ..)|(refine GoR.c c24 (by rfl) (by rfl) rfl ?_;(refine (hck _).ret ?_))|(refine GoR.c c13 (by rfl) (by rfl) rfl ?_;(refine (hget _).ret ?_))|(refine GoR.c c54 (by rfl) (by rfl) rfl ?_;(refine (hat _).ret ?_))|refine GoR.s (by rfl) rfl rfl ?_|(refine GoR.splitG rfl (fun hc => ?_) (fun hc => ?_) <;> simp only [hc])|refine Go.condB rfl (fun hc => ?_) (fun hc => ?_))
      have hpl := posK_le (f := Rw.key) l r.key
      have hp := finish l hput hq
      have hlen' := ho.len
      rw [hp]
      generalize posK Rw.key l r.key = i at *
      have c0 := fun kk => rows_cut0 (x := l) hpl (P := Tryz.prog) (t := 28) Tryz.underlying28 dsz44 (kk := kk)
      have c1 := fun kk => rows_cut1 (x := l) hpl (P := Tryz.prog) (t := 28) Tryz.underlying28 dsz44 (kk := kk)
      refine Go.keep [(2, .ptr S.length 0), (3, .ptr (S.length + 1) 0), (4, .ptr (S.length + 2) 0), (5, .int .i64 0), (10, .int .i64 (i : Int))] (.cons .refl (.cons .refl (.cons .refl (.cons .refl (.cons .refl (.nil)))))) ?_
      refine Go.atMem (fun M => Fr [] S M ∧ objAt M S.length = some [.int .i64 most, .sl none 6 (l).length (rowsC l)] ∧ objAt M (S.length + 1) = some [.str r.key, .int .i64 r.st.tick, .int .i64 r.st.inc, .int .i64 r.st.seq, .str r.st.org, .sl none 5 r.at_.length (attsC r.at_)] ∧ objAt M (S.length + 2) = some [.int .i64 0, .nils]) ⟨.app, by simp [objAt, List.getElem?_append_right], by simp [objAt, List.getElem?_append_right], by simp [objAt, List.getElem?_append_right]⟩ ?_
      rintro M ⟨hF, hT, hR, hZ⟩
      have hb : S.length + 3 ≤ M.length := objAt_lt hZ
      have hT0 : ∀ E, objAt (M ++ E) S.length = some [.int .i64 most, .sl none 6 (l).length (rowsC l)] := fun E => objAt_old hT
      have hR0 : ∀ E, objAt (M ++ E) (S.length + 1) = some [.str r.key, .int .i64 r.st.tick, .int .i64 r.st.inc, .int .i64 r.st.seq, .str r.st.org, .sl none 5 r.at_.length (attsC r.at_)] := fun E => objAt_old hR
      have hacc0 : AccD (S.length + 3) (.sl (some M.length) 6 0 []) 6 0 [] (M ++ [.own]) := .inr (.inr ⟨M.length, by omega, rfl, by simp⟩)
      obtain ⟨o1, S2, hap1, hacc1, hg1⟩ := hacc0.appendZ (P := Tryz.prog) del28 (own := none) (m := ((l).take i).length) (new := rowsC ((l).take i)) (by simp; omega) (fun h => by rw [List.eq_nil_of_length_eq_zero h]; rfl) ⟨by rw [List.length_take]; omega, by rw [List.length_take]; omega, by omega, rows_one _⟩
      have hG1 : Grown (S.length + 3) M S2 := Grown.app.trans hg1
      obtain ⟨o2, S3, hap2, hacc2, hg2⟩ := hacc1.appendZ (P := Tryz.prog) del28 (own := none) (m := 1) (new := [.str r.key, .int .i64 r.st.tick, .int .i64 r.st.inc, .int .i64 r.st.seq, .str r.st.org, .sl none 5 r.at_.length (attsC r.at_)]) (Nat.le_trans hb hG1.len) (by omega) ⟨by rw [List.length_take]; omega, by rw [List.length_take]; omega, by omega, rfl⟩
      have hG2 := hG1.trans hg2
      have ho2 := hacc2.one
      obtain ⟨o3, S4, hap3, hacc3, hg3⟩ := (hacc2.app [.obj [.int .i64 most, o2]]).appendZ (P := Tryz.prog) del28 (own := none) (m := ((l).drop i).length) (new := rowsC ((l).drop i)) (by simp; have := hG2.len; omega) (fun h => by rw [List.eq_nil_of_length_eq_zero h]; rfl) ⟨by rw [List.length_take, List.length_drop]; omega, by rw [List.length_take, List.length_drop]; omega, by omega, rows_one _⟩
      have hG3 : Grown (S.length + 3) M S4 := hG2.trans (Grown.app.trans hg3)
      have ho3 := hacc3.one
      have hT1 := hG1.obj _ _ hT
      have hR1 := hG1.obj _ _ hR
      have hT2 := hG2.obj _ _ hT
      have hR2 := hG2.obj _ _ hR
      have hT2' : ∀ E, objAt (S3 ++ E) S.length = some [.int .i64 most, .sl none 6 (l).length (rowsC l)] := fun E => objAt_old hT2
      have hU4 : objAt S4 S3.length = some [.int .i64 most, o2] := hg3.obj _ _ (by rw [objAt_app0]; rfl)
      have hZ4 := hG3.obj _ _ hZ
      have hle3 := hG2.len
      have hs5 : ∀ c, objAt (S4.set S3.length (.obj c)) S3.length = some c := fun c => objAt_set_eq (objAt_lt hU4)
      have hz5 : ∀ c, objAt (S4.set S3.length (.obj c)) (S.length + 2) = some [.int .i64 0, .nils] := fun c => (objAt_set_ne (by omega)).trans hZ4
      have hs6 : ∀ c c', objAt ((S4.set S3.length (.obj c)).set (S.length + 2) (.obj c')) (S.length + 2) = some c' := fun c c' => objAt_set_eq (by rw [List.length_set]; exact objAt_lt hZ4)
      repeat' (first|refine Go.a rfl ?_|refine Go.rg ?_|refine GoR.nil ?_|refine Go.ret ?_|refine Go.b rfl ?_|refine Go.rgS dmx (by decide) ?_|refine Go.rgF 12 [2, 7, 10] [1, 4, 8, 9] (fun H => objAt H S.length = some [.int .i64 most, .sl none 6 (l).length (rowsC l)] ∧ objAt H (S.length + 1) = some [.str r.key, .int .i64 r.st.tick, .int .i64 r.st.inc, .int .i64 r.st.seq, .str r.st.org, .sl none 5 r.at_.length (attsC r.at_)]) dmx (by decide) 13 (by decide) (by decide) rfl rfl rfl rfl dze30 (by simp [AM.scalarV, Value.cells]) (by (first | exact ⟨hT, hR⟩ | exact ⟨objAt_old hT, objAt_old hR⟩ | exact ⟨hT1, hR1⟩ | exact ⟨hT2, hR2⟩ | exact ⟨objAt_old hT2, objAt_old hR2⟩)) ?_|refine GoW.nil rfl ?_|(refine GoW.newL (by decide) (by rfl) rfl (by (first | exact ⟨hT, hR⟩ | exact ⟨objAt_old hT, objAt_old hR⟩ | exact ⟨hT1, hR1⟩ | exact ⟨hT2, hR2⟩ | exact ⟨objAt_old hT2, objAt_old hR2⟩)) ?_;(conv => arg 1;simp only [G,Z,Y,Gx,un_neg,cutD,decide_true,decide_false,simprocAttr,fb2,fb3,fb9,fb28,fb30,fb41,fb42,fb44,hT0, hR0, hT, hR, hT1, hR1, hT2, hR2, hT2', hU4, hs5, hz5, c0, c1, hap1, hap2, hap3, ho2, ho3, builtin_append]);refine ⟨by first|rfl|simp,by first|rfl|simp,LowL.mem (by repeat' (first | exact .nil | refine .cons ?_ ?_ | exact .str _ | exact .int _ _ | exact .bool _ | exact .nils | assumption)),?_⟩;show GoW ..)|((first|refine GoR.o (by rfl) (by rfl) ?_|refine GoW.o (by rfl) (by rfl) ?_|refine GoW.rd (by rfl) (by rfl) ?_);(conv => arg 1;simp only [G,Z,Y,Gx,un_neg,cutD,decide_true,decide_false,simprocAttr,fb2,fb3,fb9,fb28,fb30,fb41,fb42,fb44,hT0, hR0, hT, hR, hT1, hR1, hT2, hR2, hT2', hU4, hs5, hz5, c0, c1, hap1, hap2, hap3, ho2, ho3, builtin_append]);first|show GoR ..|(show _ ∧ GoW ..;refine ⟨by (first|exact fun h => absurd h (by decide)|(intro _;(first | exact ⟨hT, hR⟩ | exact ⟨objAt_old hT, objAt_old hR⟩ | exact ⟨hT1, hR1⟩ | exact ⟨hT2, hR2⟩ | exact ⟨objAt_old hT2, objAt_old hR2⟩))),?_⟩)|(show _ ∧ _ ∧ _ ∧ GoW ..;refine ⟨rfl,by (first | exact ⟨hT, hR⟩ | exact ⟨objAt_old hT, objAt_old hR⟩ | exact ⟨hT1, hR1⟩ | exact ⟨hT2, hR2⟩ | exact ⟨objAt_old hT2, objAt_old hR2⟩),(fun H hI=>by (try dsimp only at hI);simp only [G,Z,Y,Gx,un_neg,cutD,decide_true,decide_false,simprocAttr,fb2,fb3,fb9,fb28,fb30,fb41,fb42,fb44,hT0, hR0, hT, hR, hT1, hR1, hT2, hR2, hT2', hU4, hs5, hz5, c0, c1, hap1, hap2, hap3, ho2, ho3, builtin_append,hI]),?_⟩))|refine GoR.s (by rfl) rfl rfl ?_|refine GoW.s (by rfl) rfl rfl (by (first|exact fun h => absurd h (by decide)|(intro _;(first | exact ⟨hT, hR⟩ | exact ⟨objAt_old hT, objAt_old hR⟩ | exact ⟨hT1, hR1⟩ | exact ⟨hT2, hR2⟩ | exact ⟨objAt_old hT2, objAt_old hR2⟩)))) ?_|(refine GoR.splitG rfl (fun hc => ?_) (fun hc => ?_) <;> simp only [hc])|refine Go.condB rfl (fun hc => ?_) (fun hc => ?_))
      refine ⟨(by first | exact .inl rfl | exact .inr rfl), fin ?_⟩
      rw [resD_two (fn := Tryz.f10) rfl]
      simp only [optThen_some,resultD_tmp,resultD_cell,G,Z,Y,Gx,un_neg,cutD,decide_true,decide_false,simprocAttr,fb2,fb3,fb9,fb28,fb30,fb41,fb42,fb44,hs6]
      have hF4 : Fr [] S S4 := hF.grown' (b := S.length + 3) (by omega) hb hG3
      obtain ⟨E, hE⟩ := ((hF4.trans (F := []) (G := [S3.length]) (.set (o := S3.length) (x := .obj [.int .i64 most, o3]) (by simp)) (by simp; omega)).trans (F := []) (G := [S.length + 2]) (.set (o := S.length + 2) (x := .obj [.int .i64 most, o3]) (by simp)) (by simp)).pre (by simp)
      have hw := hacc3.wf
      have hl5 : 0 + ((l).take i).length + 1 + ((l).drop i).length = ((l).take i ++ r :: (l).drop i).length := by simp; omega
      have hc5 : [] ++ rowsC ((l).take i) ++ [.str r.key, .int .i64 r.st.tick, .int .i64 r.st.inc, .int .i64 r.st.seq, .str r.st.org, .sl none 5 r.at_.length (attsC r.at_)] ++ rowsC ((l).drop i) = rowsC ((l).take i ++ r :: (l).drop i) := by simp [rowsC, Rw.c]
      rw [hl5, hc5] at hw
      exact ⟨_, E, hE, (Wf.tup' (.cons (.agg' (.cons .refl (.cons hw .nil))) (.cons .refl .nil))).to_Wk (.tup' (.cons (.agg' (refT_low (most := most) (l := (l).take i ++ r :: (l).drop i))) (.cons (.int _ _) .nil))), by simp only [List.length_append, List.length_cons]⟩
end Go.Proofs.DtT
