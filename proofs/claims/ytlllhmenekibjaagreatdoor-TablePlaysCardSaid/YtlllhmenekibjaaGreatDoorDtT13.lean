/- The document's table: swept. -/
import Derived.Test.YtlllhmenekibjaaGreatDoorDtT10x
set_option linter.unusedSimpArgs false
set_option linter.unusedVariables false
namespace Go.DM
open Go.AM
/-- A slice's right to grow. -/
def tok : D → Option Nat
  | .sl own _ _ _ => own
  | _ => none
theorem AccD.own {b n len : Nat} {o : D} {cells : List D} {S : Mem} (h : AccD b o n len cells S) : ∀ j, tok o = some j → S[j]? = some .own := fun j hj => by
  rcases h with ⟨rfl, _⟩ | ⟨rfl, _⟩ | ⟨id, _, rfl, h⟩
  · cases hj
  · cases hj
  · cases hj; exact h
theorem AccD.other {b n len : Nat} {o : D} {cells : List D} {S S' : Mem} (h : AccD b o n len cells S) (k : ∀ j, tok o = some j → S'[j]? = some .own) : AccD b o n len cells S' := by
  rcases h with h | h | ⟨id, h1, rfl, h3⟩
  · exact .inl h
  · exact .inr (.inl h)
  · exact .inr (.inr ⟨id, h1, rfl, k id rfl⟩)
/-- An append, and what other slices may do behind it. -/
theorem AccD.append' {P : Program} {b t e n bytes len m : Nat} {o : D} {own : Option Nat} {cells new : List D} {S : Mem} (h : ElemT P t e n bytes) (ha : AccD b o n len cells S) (hb : b ≤ S.length) (hm : m ≠ 0) (hf : fitsD bytes (len + m) new) :
    ∃ o' S', appendD P #[t, t] o (.sl own n m new) S = some (o', S') ∧ tok o' = some S.length ∧ AccD b o' n (len + m) (cells ++ new) S' ∧ Grown b S S' ∧ ∀ j, tok o ≠ some j → S[j]? = some .own → S'[j]? = some .own := by
  obtain ⟨o', S', h1, h2, h3⟩ := ha.append (P := P) (own := own) h hb hm hf
  have hself := h1
  rcases ha with ⟨rfl, rfl, rfl⟩ | ⟨rfl, rfl, rfl⟩ | ⟨id, _, rfl, hid⟩
  · rw [ap_nils h, if_neg hm, if_pos (by simpa using hf)] at h1
    cases h1
    exact ⟨_, _, hself, rfl, h2, h3, fun j _ hj => by rw [List.getElem?_append_left (List.getElem?_eq_some_iff.1 hj).1]; exact hj⟩
  · rw [ap_sl0 h, if_neg hm, if_pos (by simpa using hf)] at h1
    cases h1
    exact ⟨_, _, hself, rfl, h2, h3, fun j _ hj => by rw [List.getElem?_append_left (List.getElem?_eq_some_iff.1 hj).1]; exact hj⟩
  · rw [ap_own h, if_neg hm, if_pos hf, hid] at h1
    cases h1
    refine ⟨_, _, hself, rfl, h2, h3, fun j hne hj => ?_⟩
    have hlt := (List.getElem?_eq_some_iff.1 hj).1
    rw [List.getElem?_append_left (by simpa using hlt), List.getElem?_set_ne (fun e => hne (by rw [e]; rfl))]
    exact hj
end Go.DM
namespace Go.Proofs.DtT
open Go Go.DM Go.Proofs.DtF
set_option maxRecDepth 100000
variable {orc : DOracle}

theorem refSweepNo {most : Int} {l : List Rw} {now age : Int} (hn : now < 0 ∨ age < 0) (keep : ByteArray) (S : Mem) : CallD Tryz.prog orc 16 [.agg (refT most l), .int .i64 now, .int .i64 age, .str keep] S fun d S' => S' = S ∧ d = .tup [.agg (refT most l), strsD []] := by
  unfold refT
  by_cases h1 : now < 0
  · refine CallD.e Tryz.func16 rfl Tryz.ntmps16 (by rfl) ?_
    repeat' (first|refine Go.a rfl ?_|refine Go.rg ?_|refine GoR.nil ?_|refine Go.ret ?_|refine Go.b rfl ?_|refine Go.rgS dmx (by decide) ?_|refine Go.rgD [1] (fun _ => True) dmx (by decide) 8 (by decide) (by trivial) ?_|refine GoW.nil rfl ?_|((first|refine GoR.o (by rfl) (by rfl) ?_|refine GoW.o (by rfl) (by rfl) ?_|refine GoW.rd (by rfl) (by rfl) ?_);(conv => arg 1;simp only [G,Z,Y,Gx,un_neg,cutD,decide_true,decide_false,simprocAttr,fb2,fb3,fb9,fb28,fb30,fb41,fb42,fb44,fb51,show decide (now < 0) = true by simpa using h1]);first|show GoR ..|(show _ ∧ GoW ..;refine ⟨by exact fun _ => trivial,?_⟩)|(show _ ∧ _ ∧ _ ∧ GoW ..;refine ⟨rfl,by trivial,(fun H _=>by simp only [G,Z,Y,Gx,un_neg,cutD,decide_true,decide_false,simprocAttr,fb2,fb3,fb9,fb28,fb30,fb41,fb42,fb44,fb51,show decide (now < 0) = true by simpa using h1]),?_⟩))|refine GoR.s (by rfl) rfl rfl ?_|refine GoW.s (by rfl) rfl rfl (by exact fun _ => trivial) ?_|(refine GoR.splitG rfl (fun hc => ?_) (fun hc => ?_) <;> simp only [hc])|refine Go.condB rfl (fun hc => ?_) (fun hc => ?_))
    refine ⟨(by first | exact .inl rfl | exact .inr rfl), fin ?_⟩
    rw [resD_two (fn := Tryz.f16) rfl]
    simp only [optThen_some,resultD_tmp,resultD_cell,G,Z,Y,Gx,un_neg,cutD,decide_true,decide_false,simprocAttr,fb2,fb3,fb9,fb28,fb30,fb41,fb42,fb44,fb51]
    exact ⟨_, _, rfl, (Wf.tup' (.cons .refl (.cons .nilE .nil))).to_Wk (.tup' (.cons (.agg' (refT_low (l := l))) (.cons (.sl' (strs_low [])) .nil))), rfl⟩
  · refine CallD.e Tryz.func16 rfl Tryz.ntmps16 (by rfl) ?_
    repeat' (first|refine Go.a rfl ?_|refine Go.rg ?_|refine GoR.nil ?_|refine Go.ret ?_|refine Go.b rfl ?_|refine Go.rgS dmx (by decide) ?_|refine Go.rgD [1] (fun _ => True) dmx (by decide) 8 (by decide) (by trivial) ?_|refine GoW.nil rfl ?_|((first|refine GoR.o (by rfl) (by rfl) ?_|refine GoW.o (by rfl) (by rfl) ?_|refine GoW.rd (by rfl) (by rfl) ?_);(conv => arg 1;simp only [G,Z,Y,Gx,un_neg,cutD,decide_true,decide_false,simprocAttr,fb2,fb3,fb9,fb28,fb30,fb41,fb42,fb44,fb51,show decide (now < 0) = false by simpa using h1, show decide (age < 0) = true by simp; omega]);first|show GoR ..|(show _ ∧ GoW ..;refine ⟨by exact fun _ => trivial,?_⟩)|(show _ ∧ _ ∧ _ ∧ GoW ..;refine ⟨rfl,by trivial,(fun H _=>by simp only [G,Z,Y,Gx,un_neg,cutD,decide_true,decide_false,simprocAttr,fb2,fb3,fb9,fb28,fb30,fb41,fb42,fb44,fb51,show decide (now < 0) = false by simpa using h1, show decide (age < 0) = true by simp; omega]),?_⟩))|refine GoR.s (by rfl) rfl rfl ?_|refine GoW.s (by rfl) rfl rfl (by exact fun _ => trivial) ?_|(refine GoR.splitG rfl (fun hc => ?_) (fun hc => ?_) <;> simp only [hc])|refine Go.condB rfl (fun hc => ?_) (fun hc => ?_))
    refine ⟨(by first | exact .inl rfl | exact .inr rfl), fin ?_⟩
    rw [resD_two (fn := Tryz.f16) rfl]
    simp only [optThen_some,resultD_tmp,resultD_cell,G,Z,Y,Gx,un_neg,cutD,decide_true,decide_false,simprocAttr,fb2,fb3,fb9,fb28,fb30,fb41,fb42,fb44,fb51]
    exact ⟨_, _, rfl, (Wf.tup' (.cons .refl (.cons .nilE .nil))).to_Wk (.tup' (.cons (.agg' (refT_low (l := l))) (.cons (.sl' (strs_low [])) .nil))), rfl⟩
structure SweepI (S S1 : Mem) (most : Int) (l : List Rw) (k : List Rw) (g : List ByteArray) (o q : D) : Prop where
  fr : Fr [] S S1
  t : objAt S1 S.length = some [.int .i64 most, .sl none 6 l.length (rowsC l)]
  z : objAt S1 (S.length + 1) = some [.int .i64 0, .nils]
  u : objAt S1 (S.length + 2) = some [.int .i64 most, o]
  acc : AccD (S.length + 3) o 6 k.length (rowsC k) S1
  gone : AccD (S.length + 3) q 1 g.length (g.map .str) S1
  apart : ∀ j, tok o = some j → tok q ≠ some j
theorem keptL_succ {now age : Int} {keep : ByteArray} {l : List Rw} {i : Nat} (h : i < l.length) : keptL now age keep (l.take (i + 1)) = keptL now age keep (l.take i) ++ if goneP now age keep l[i] then [] else [l[i]] := by
  rw [List.take_succ_eq_append_getElem h, keptL, List.filter_append]
  cases hg : goneP now age keep l[i] <;> simp [keptL, hg]
set_option maxHeartbeats 4000000 in
theorem refSweep {most : Int} {l : List Rw} (hl : l.length < 1000000) {now age : Int} (hn : 0 ≤ now) (ha : 0 ≤ age) (keep : ByteArray) (S : Mem) :
    CallD Tryz.prog orc 16 [.agg (refT most l), .int .i64 now, .int .i64 age, .str keep] S fun d S' => S' = S ∧ d = .tup [.agg (refT most (keptL now age keep l)), strsD (goneL now age keep l)] := by
  unfold refT
  refine CallD.e Tryz.func16 rfl Tryz.ntmps16 (by rfl) ?_
  repeat' (first|refine Go.a rfl ?_|refine Go.rg ?_|refine GoR.nil ?_|refine Go.ret ?_|refine Go.b rfl ?_|refine Go.rgS dmx (by decide) ?_|refine Go.rgD [1] (fun _ => True) dmx (by decide) 8 (by decide) (by trivial) ?_|refine GoW.nil rfl ?_|((first|refine GoR.o (by rfl) (by rfl) ?_|refine GoW.o (by rfl) (by rfl) ?_|refine GoW.rd (by rfl) (by rfl) ?_);(conv => arg 1;simp only [G,Z,Y,Gx,un_neg,cutD,decide_true,decide_false,simprocAttr,fb2,fb3,fb9,fb28,fb30,fb41,fb42,fb44,fb51,show decide (now < 0) = false by simp; omega, show decide (age < 0) = false by simp; omega]);first|show GoR ..|(show _ ∧ GoW ..;refine ⟨by exact fun _ => trivial,?_⟩)|(show _ ∧ _ ∧ _ ∧ GoW ..;refine ⟨rfl,by trivial,(fun H _=>by simp only [G,Z,Y,Gx,un_neg,cutD,decide_true,decide_false,simprocAttr,fb2,fb3,fb9,fb28,fb30,fb41,fb42,fb44,fb51,show decide (now < 0) = false by simp; omega, show decide (age < 0) = false by simp; omega]),?_⟩))|refine GoR.s (by rfl) rfl rfl ?_|refine GoW.s (by rfl) rfl rfl (by exact fun _ => trivial) ?_|(refine GoR.splitG rfl (fun hc => ?_) (fun hc => ?_) <;> simp only [hc])|refine Go.condB rfl (fun hc => ?_) (fun hc => ?_))
  refine Go.keep [(1, .int .i64 now), (2, .int .i64 age), (3, .str keep), (4, .ptr S.length 0), (8, .ptr (S.length + 1) 0), (10, .ptr (S.length + 2) 0), (11, .nils), (12, .int .i64 ((0 : Nat) : Int))] (.cons .refl (.cons .refl (.cons .refl (.cons .refl (.cons .refl (.cons .refl (.cons .refl (.cons .refl (.nil))))))))) ?_
  refine Go.while (α := Nat × D × D × Mem) (fun x => l.length - x.1) (fun x => [(1, .int .i64 now), (2, .int .i64 age), (3, .str keep), (4, .ptr S.length 0), (8, .ptr (S.length + 1) 0), (10, .ptr (S.length + 2) 0), (11, x.2.2.1), (12, .int .i64 (x.1 : Int))]) (fun x => x.2.2.2)
    (fun x => x.1 ≤ l.length ∧ SweepI S x.2.2.2 most l (keptL now age keep (l.take x.1)) (goneL now age keep (l.take x.1)) x.2.1 x.2.2.1) ?_ (0, .nils, .nils, _) ⟨Nat.zero_le _, .app, by simp [objAt, List.getElem?_append_right], by simp [objAt, List.getElem?_append_right], by simp [objAt, List.getElem?_append_right], .inl ⟨rfl, rfl, rfl⟩, .inl ⟨rfl, rfl, rfl⟩, by simp [tok]⟩
  rintro ⟨i, o, q, S1⟩ ⟨hi, hI⟩ next
  dsimp only at hi hI next
  have hb : S.length + 3 ≤ S1.length := objAt_lt hI.u
  have hT := hI.t
  have hU := hI.u
  have hZ := hI.z
  by_cases h1 : i < l.length
  · have dl : decide ((i : Int) < (l.length : Int)) = true := by simp; omega
    have at1 := rowsAt h1
    have htk := rowTick h1
    have hk1 := rowKey h1
    have hks := keptL_succ (now := now) (age := age) (keep := keep) h1
    have hgs := goneL_succ (now := now) (age := age) (keep := keep) h1
    have hle1 : (keptL now age keep (l.take i)).length ≤ i := Nat.le_trans (List.length_filter_le _ _) (by simp; omega)
    have hle2 : (goneL now age keep (l.take i)).length ≤ i := by
      unfold goneL
      rw [List.length_map]
      exact Nat.le_trans (List.length_filter_le _ _) (by simp; omega)
    cases hg : goneP now age keep l[i] with
    | true =>
      rw [hg, if_pos rfl] at hks hgs
      rw [List.append_nil] at hks
      have hk : decide (l[i].key = keep) = false := by simp [goneP] at hg; simpa using hg.1
      have ht : decide (l[i].st.tick < IntKind.i64.wrap (now - age)) = true := by simp [goneP] at hg; simpa using hg.2
      obtain ⟨q', S2, hap, htq, hacc2, hg2, hoth⟩ := (hI.gone.app [.own]).append' (P := Tryz.prog) del51 (own := some S1.length) (m := 1) (new := [.str l[i].key]) (by simp; omega) (by omega) ⟨by omega, by omega, by omega, rfl⟩
      have hg : Grown (S.length + 3) S1 S2 := Grown.app.trans hg2
      have hown : ∀ j, tok o = some j → S2[j]? = some .own := fun j hj => hoth j (hI.apart j hj) (by
        have := hI.acc.own j hj
        rw [List.getElem?_append_left (List.getElem?_eq_some_iff.1 this).1]; exact this)
      repeat' (first|refine Go.a rfl ?_|refine Go.rg ?_|refine GoR.nil ?_|refine Go.ret ?_|refine Go.b rfl ?_|refine Go.rgS dmx (by decide) ?_|refine Go.rgD [1] (fun _ => True) dmx (by decide) 8 (by decide) (by trivial) ?_|refine GoW.nil rfl ?_|((first|refine GoR.o (by rfl) (by rfl) ?_|refine GoW.o (by rfl) (by rfl) ?_|refine GoW.rd (by rfl) (by rfl) ?_);(conv => arg 1;simp only [G,Z,Y,Gx,un_neg,cutD,decide_true,decide_false,simprocAttr,fb2,fb3,fb9,fb28,fb30,fb41,fb42,fb44,fb51,dl, hT, hU, at1, htk, hk1, hk, ht, hap, builtin_append, wrap_succ (show i < 4611686018427387904 by omega)]);first|show GoR ..|(show _ ∧ GoW ..;refine ⟨by exact fun _ => trivial,?_⟩)|(show _ ∧ _ ∧ _ ∧ GoW ..;refine ⟨rfl,by trivial,(fun H _=>by simp only [G,Z,Y,Gx,un_neg,cutD,decide_true,decide_false,simprocAttr,fb2,fb3,fb9,fb28,fb30,fb41,fb42,fb44,fb51,dl, hT, hU, at1, htk, hk1, hk, ht, hap, builtin_append, wrap_succ (show i < 4611686018427387904 by omega)]),?_⟩))|refine GoR.s (by rfl) rfl rfl ?_|refine GoW.s (by rfl) rfl rfl (by exact fun _ => trivial) ?_|(refine GoR.splitG rfl (fun hc => ?_) (fun hc => ?_) <;> simp only [hc])|refine Go.condB rfl (fun hc => ?_) (fun hc => ?_))
      refine Go.lpN ?_
      refine Go.keep [(1, .int .i64 now), (2, .int .i64 age), (3, .str keep), (4, .ptr S.length 0), (8, .ptr (S.length + 1) 0), (10, .ptr (S.length + 2) 0), (11, q'), (12, .int .i64 ((i + 1 : Nat) : Int))] (.cons .refl (.cons .refl (.cons .refl (.cons .refl (.cons .refl (.cons .refl (.cons .refl (.cons .refl (.nil))))))))) ?_
      refine next (i + 1, o, q', S2) (by dsimp only; omega) ⟨h1, hI.fr.grown' (by omega) hb hg, hg.obj _ _ hT, hg.obj _ _ hZ, hg.obj _ _ hU, ?_, ?_, fun j hj => ?_⟩
      · dsimp only; rw [hks]; exact hI.acc.other hown
      · dsimp only; rw [hgs, List.length_append, List.map_append]; exact hacc2
      · dsimp only; rw [htq]
        rintro h
        cases h
        have h2 := hI.acc.own _ hj
        have := (List.getElem?_eq_some_iff.1 h2).1
        simp at this
        omega
    | false =>
      rw [hg, if_neg (by decide)] at hks hgs
      rw [List.append_nil] at hgs
      obtain ⟨o', S2, hap, hto, hacc2, hg2, hoth⟩ := (hI.acc.app [.own]).append' (P := Tryz.prog) del28 (own := some S1.length) (m := 1) (new := l[i].c) (by simp; omega) (by omega) ⟨by omega, by omega, by omega, rfl⟩
      have hg0 : Grown (S.length + 3) S1 S2 := Grown.app.trans hg2
      have hU2 := hg0.obj _ _ hU
      have hone := hacc2.one
      have hown : ∀ j, tok q = some j → S2[j]? = some .own := fun j hj => hoth j (fun h => hI.apart j h hj) (by
        have := hI.gone.own j hj
        rw [List.getElem?_append_left (List.getElem?_eq_some_iff.1 this).1]; exact this)
      have hset : ∀ j : Nat, S2[j]? = some Ob.own → (S2.set (S.length + 2) (Ob.obj [.int .i64 most, o']))[j]? = some Ob.own := fun j hj => by
        rw [List.getElem?_set_ne]
        · exact hj
        · rintro rfl
          rw [objAt_some hU2] at hj
          cases hj
      have hobj : ∀ j c, j ≠ S.length + 2 → objAt S1 j = some c → objAt (S2.set (S.length + 2) (.obj [.int .i64 most, o'])) j = some c := fun j c hj hc => (objAt_set_ne (fun e => hj e.symm)).trans (hg0.obj _ _ hc)
      have hfr : Fr [] S (S2.set (S.length + 2) (.obj [.int .i64 most, o'])) := (hI.fr.grown' (by omega) hb hg0).trans (F := []) (G := [S.length + 2]) (.set (by simp)) (by simp)
      have hnext : SweepI S (S2.set (S.length + 2) (.obj [.int .i64 most, o'])) most l (keptL now age keep (l.take (i + 1))) (goneL now age keep (l.take (i + 1))) o' q := by
        refine ⟨hfr, hobj _ _ (by omega) hT, hobj _ _ (by omega) hZ, objAt_set_eq (objAt_lt hU2), ?_, ?_, fun j hj => ?_⟩
        · rw [hks, List.length_append, rowsC_app]
          have : rowsC [l[i]] = l[i].c := by simp [rowsC]
          rw [this]
          exact hacc2.set (by omega)
        · rw [hgs]
          exact hI.gone.other fun j hj => hset j (hown j hj)
        · rw [hto] at hj
          cases hj
          intro h
          have h2 := hI.gone.own _ h
          have := (List.getElem?_eq_some_iff.1 h2).1
          simp at this
          omega
      have hcase : decide (l[i].st.tick < IntKind.i64.wrap (now - age)) = false ∨ (decide (l[i].st.tick < IntKind.i64.wrap (now - age)) = true ∧ decide (l[i].key = keep) = true) := by
        cases ht : decide (l[i].st.tick < IntKind.i64.wrap (now - age)) with
        | false => exact .inl rfl
        | true =>
          right
          refine ⟨rfl, ?_⟩
          unfold goneP at hg
          rw [ht] at hg
          simpa using hg
      simp only [Rw.c] at hap at1
      rcases hcase with ht | ⟨ht, hk⟩
      · repeat' (first|refine Go.a rfl ?_|refine Go.rg ?_|refine GoR.nil ?_|refine Go.ret ?_|refine Go.b rfl ?_|refine Go.rgS dmx (by decide) ?_|refine Go.rgD [1] (fun H => objAt H (S.length + 2) = some [.int .i64 most, o] ∧ objAt H S.length = some [.int .i64 most, .sl none 6 l.length (rowsC l)]) dmx (by decide) 8 (by decide) (by (first | exact ⟨hU, hT⟩ | exact ⟨objAt_old hU, objAt_old hT⟩)) ?_|refine GoW.nil rfl ?_|((first|refine GoR.o (by rfl) (by rfl) ?_|refine GoW.o (by rfl) (by rfl) ?_|refine GoW.rd (by rfl) (by rfl) ?_);(conv => arg 1;simp only [G,Z,Y,Gx,un_neg,cutD,decide_true,decide_false,simprocAttr,fb2,fb3,fb9,fb28,fb30,fb41,fb42,fb44,fb51,dl, hT, hU, hU2, hone, at1, htk, hk1, ht, hap, builtin_append, wrap_succ (show i < 4611686018427387904 by omega)]);first|show GoR ..|(show _ ∧ GoW ..;refine ⟨by (first|exact fun h => absurd h (by decide)|(intro _;(first | exact ⟨hU, hT⟩ | exact ⟨objAt_old hU, objAt_old hT⟩))),?_⟩)|(show _ ∧ _ ∧ _ ∧ GoW ..;refine ⟨rfl,by (first | exact ⟨hU, hT⟩ | exact ⟨objAt_old hU, objAt_old hT⟩),(fun H hI=>by (try dsimp only at hI);simp only [G,Z,Y,Gx,un_neg,cutD,decide_true,decide_false,simprocAttr,fb2,fb3,fb9,fb28,fb30,fb41,fb42,fb44,fb51,dl, hT, hU, hU2, hone, at1, htk, hk1, ht, hap, builtin_append, wrap_succ (show i < 4611686018427387904 by omega),hI]),?_⟩))|refine GoR.s (by rfl) rfl rfl ?_|refine GoW.s (by rfl) rfl rfl (by (first|exact fun h => absurd h (by decide)|(intro _;(first | exact ⟨hU, hT⟩ | exact ⟨objAt_old hU, objAt_old hT⟩)))) ?_|(refine GoR.splitG rfl (fun hc => ?_) (fun hc => ?_) <;> simp only [hc])|refine Go.condB rfl (fun hc => ?_) (fun hc => ?_))
        refine Go.lpN ?_
        refine Go.keep [(1, .int .i64 now), (2, .int .i64 age), (3, .str keep), (4, .ptr S.length 0), (8, .ptr (S.length + 1) 0), (10, .ptr (S.length + 2) 0), (11, q), (12, .int .i64 ((i + 1 : Nat) : Int))] (.cons .refl (.cons .refl (.cons .refl (.cons .refl (.cons .refl (.cons .refl (.cons .refl (.cons .refl (.nil))))))))) ?_
        exact next (i + 1, o', q, _) (by dsimp only; omega) ⟨h1, hnext⟩
      · repeat' (first|refine Go.a rfl ?_|refine Go.rg ?_|refine GoR.nil ?_|refine Go.ret ?_|refine Go.b rfl ?_|refine Go.rgS dmx (by decide) ?_|refine Go.rgD [1] (fun H => objAt H (S.length + 2) = some [.int .i64 most, o] ∧ objAt H S.length = some [.int .i64 most, .sl none 6 l.length (rowsC l)]) dmx (by decide) 8 (by decide) (by (first | exact ⟨hU, hT⟩ | exact ⟨objAt_old hU, objAt_old hT⟩)) ?_|refine GoW.nil rfl ?_|((first|refine GoR.o (by rfl) (by rfl) ?_|refine GoW.o (by rfl) (by rfl) ?_|refine GoW.rd (by rfl) (by rfl) ?_);(conv => arg 1;simp only [G,Z,Y,Gx,un_neg,cutD,decide_true,decide_false,simprocAttr,fb2,fb3,fb9,fb28,fb30,fb41,fb42,fb44,fb51,dl, hT, hU, hU2, hone, at1, htk, hk1, ht, hk, hap, builtin_append, wrap_succ (show i < 4611686018427387904 by omega)]);first|show GoR ..|(show _ ∧ GoW ..;refine ⟨by (first|exact fun h => absurd h (by decide)|(intro _;(first | exact ⟨hU, hT⟩ | exact ⟨objAt_old hU, objAt_old hT⟩))),?_⟩)|(show _ ∧ _ ∧ _ ∧ GoW ..;refine ⟨rfl,by (first | exact ⟨hU, hT⟩ | exact ⟨objAt_old hU, objAt_old hT⟩),(fun H hI=>by (try dsimp only at hI);simp only [G,Z,Y,Gx,un_neg,cutD,decide_true,decide_false,simprocAttr,fb2,fb3,fb9,fb28,fb30,fb41,fb42,fb44,fb51,dl, hT, hU, hU2, hone, at1, htk, hk1, ht, hk, hap, builtin_append, wrap_succ (show i < 4611686018427387904 by omega),hI]),?_⟩))|refine GoR.s (by rfl) rfl rfl ?_|refine GoW.s (by rfl) rfl rfl (by (first|exact fun h => absurd h (by decide)|(intro _;(first | exact ⟨hU, hT⟩ | exact ⟨objAt_old hU, objAt_old hT⟩)))) ?_|(refine GoR.splitG rfl (fun hc => ?_) (fun hc => ?_) <;> simp only [hc])|refine Go.condB rfl (fun hc => ?_) (fun hc => ?_))
        refine Go.lpN ?_
        refine Go.keep [(1, .int .i64 now), (2, .int .i64 age), (3, .str keep), (4, .ptr S.length 0), (8, .ptr (S.length + 1) 0), (10, .ptr (S.length + 2) 0), (11, q), (12, .int .i64 ((i + 1 : Nat) : Int))] (.cons .refl (.cons .refl (.cons .refl (.cons .refl (.cons .refl (.cons .refl (.cons .refl (.cons .refl (.nil))))))))) ?_
        exact next (i + 1, o', q, _) (by dsimp only; omega) ⟨h1, hnext⟩
  · clear next
    have hi' : i = l.length := by omega
    subst hi'
    have hacc := hI.acc
    have hgone := hI.gone
    rw [List.take_length] at hacc hgone
    have hone := hacc.one
    have hs : ∀ c, objAt (S1.set (S.length + 1) (.obj c)) (S.length + 1) = some c := fun c => objAt_set_eq (objAt_lt hZ)
    repeat' (first|refine Go.a rfl ?_|refine Go.rg ?_|refine GoR.nil ?_|refine Go.ret ?_|refine Go.b rfl ?_|refine Go.rgS dmx (by decide) ?_|refine Go.rgD [1] (fun _ => True) dmx (by decide) 8 (by decide) (by trivial) ?_|refine GoW.nil rfl ?_|((first|refine GoR.o (by rfl) (by rfl) ?_|refine GoW.o (by rfl) (by rfl) ?_|refine GoW.rd (by rfl) (by rfl) ?_);(conv => arg 1;simp only [G,Z,Y,Gx,un_neg,cutD,decide_true,decide_false,simprocAttr,fb2,fb3,fb9,fb28,fb30,fb41,fb42,fb44,fb51,show decide ((l.length : Int) < (l.length : Int)) = false by simp, hT, hU, hZ, hone]);first|show GoR ..|(show _ ∧ GoW ..;refine ⟨by exact fun _ => trivial,?_⟩)|(show _ ∧ _ ∧ _ ∧ GoW ..;refine ⟨rfl,by trivial,(fun H _=>by simp only [G,Z,Y,Gx,un_neg,cutD,decide_true,decide_false,simprocAttr,fb2,fb3,fb9,fb28,fb30,fb41,fb42,fb44,fb51,show decide ((l.length : Int) < (l.length : Int)) = false by simp, hT, hU, hZ, hone]),?_⟩))|refine GoR.s (by rfl) rfl rfl ?_|refine GoW.s (by rfl) rfl rfl (by exact fun _ => trivial) ?_|(refine GoR.splitG rfl (fun hc => ?_) (fun hc => ?_) <;> simp only [hc])|refine Go.condB rfl (fun hc => ?_) (fun hc => ?_))
    refine ⟨(by first | exact .inl rfl | exact .inr rfl), fin ?_⟩
    rw [resD_two (fn := Tryz.f16) rfl]
    simp only [optThen_some,resultD_tmp,resultD_cell,G,Z,Y,Gx,un_neg,cutD,decide_true,decide_false,simprocAttr,fb2,fb3,fb9,fb28,fb30,fb41,fb42,fb44,fb51,hs]
    obtain ⟨E, hE⟩ := (hI.fr.trans (F := []) (G := [S.length + 1]) (.set (o := S.length + 1) (x := .obj [.int .i64 most, o]) (by simp)) (by simp)).pre (by simp)
    exact ⟨_, E, hE, (Wf.tup' (.cons (.agg' (.cons .refl (.cons hacc.wf .nil))) (.cons hgone.wf .nil))).to_Wk (.tup' (.cons (.agg' (refT_low (l := keptL now age keep l))) (.cons (.sl' (strs_low _)) .nil))), rfl⟩
end Go.Proofs.DtT
