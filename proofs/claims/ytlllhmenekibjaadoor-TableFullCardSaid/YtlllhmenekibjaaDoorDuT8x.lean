/- Tables above a memory; what putting comes to; all attributes. -/
import Derived.Test.YtlllhmenekibjaaDoorDuT6x
import Derived.KernelRfl
import Derived.Test.YtlllhmenekibjaaDoorDmOx
set_option linter.unusedSimpArgs false
set_option linter.unusedVariables false
namespace Go.Proofs.DuT
open Go Go.DM Go.Proofs.DuF
set_option maxRecDepth 100000
variable {orc : DOracle}

/-- A table whose objects lie above a memory. -/
structure Tab0 (S0 S : Mem) (T : Tb) (most : Int) (l : List Rw) : Prop where
  tab : TabAt S T most l
  ok : OkT l
  lo : ∀ o ∈ T.own, S0.length ≤ o
  fr : Fr [] S0 S
theorem Tab0.app {S0 S T most l} (h : Tab0 S0 S T most l) (E : Mem) : Tab0 S0 (S ++ E) T most l := ⟨h.tab.app E, h.ok, h.lo, h.fr.trans (F := []) (G := []) .app (by simp)⟩
theorem Tab0.moved {S0 S S' T most l l'} (h : Tab0 S0 S T most l) (hok : OkT l') (x : MovedT S T most l' S') : ∃ T' : Tb, T'.t = T.t ∧ Tab0 S0 S' T' most l' ∧ ∀ B mB lB, TabAt S B mB lB → (∀ o ∈ B.own, o ∉ T.own) → TabAt S' B mB lB ∧ ∀ o ∈ B.own, o ∉ T'.own := by
  obtain ⟨T', e1, _, h1, h2, h3⟩ := x
  refine ⟨T', e1, ⟨h1, hok, fun o ho => ?_, h.fr.trans (F := []) h3 fun o ho => .inr (h.lo o ho)⟩, fun B mB lB hB hd => ⟨hB.fr h3 hd, fun o ho hT => ?_⟩⟩
  · rcases h2 o ho with hh | hh
    · exact h.lo o hh
    · exact Nat.le_trans h.fr.len hh
  · rcases h2 o hT with hh | hh
    · exact hd o ho hh
    · have := hB.lt o ho
      omega
theorem Tab0.grow {S0 S S' T most l} (h : Tab0 S0 S T most l) (x : Fr [] S S') : Tab0 S0 S' T most l := ⟨h.tab.fr x (by simp), h.ok, h.lo, h.fr.trans (F := []) x (by simp)⟩
theorem OkT.nil : OkT [] := ⟨fun i h => by simp at h, by simp, by simp⟩
theorem putT_old {most : Int} {l : List Rw} {r o : Rw} (h : chkR r = 0) (hq : lookK Rw.key l r.key = some o) (hn : ¬ 0 < cmpSt r.st o.st) : putT most l r = (l, 11) := by rw [putT, if_neg (by simp [h]), hq]; simp [hn]
theorem putT_new {most : Int} {l : List Rw} {r : Rw} (h : chkR r = 0) (hq : lookK Rw.key l r.key = none) (hm : (l.length : Int) < most) : putT most l r = (putK Rw.key l r, 0) := by
  rw [putT, if_neg (by simp [h]), hq]
  dsimp only
  rw [if_neg (by omega)]
theorem putT_out {most : Int} {l : List Rw} {r : Rw} (h : chkR r = 0) (hq : lookK Rw.key l r.key = none) (hm : most ≤ l.length) (hn : 0 < cmpSt r.st (least l).st) : putT most l r = (putK Rw.key (dropK Rw.key l (least l).key) r, 0) := by
  rw [putT, if_neg (by simp [h]), hq]
  dsimp only
  rw [if_pos hm, if_pos hn]
theorem putT_full {most : Int} {l : List Rw} {r : Rw} (h : chkR r = 0) (hq : lookK Rw.key l r.key = none) (hm : most ≤ l.length) (hn : ¬ 0 < cmpSt r.st (least l).st) : putT most l r = (l, 9) := by
  rw [putT, if_neg (by simp [h]), hq]
  dsimp only
  rw [if_pos hm, if_neg hn]
theorem OkT.putT {most : Int} {l : List Rw} (h : OkT l) (hl : l.length < 900000) {r : Rw} (hr : OkR r) : OkT (putT most l r).1 := by
  unfold DuT.putT
  split
  · exact h
  · split
    · split
      · exact h.put (by omega) hr
      · exact h
    · split
      · split
        · exact (h.drop _).put (by rw [lenK_drop h.rise]; split <;> omega) hr
        · exact h
      · exact h.put (by omega) hr
theorem put0 {S0 S T most l t l' e} (h : Tab0 S0 S T most l) (ht : T.t = t) (hl : l.length < 900000) (hm : 1 ≤ most) (r : Rw) (hr : FewR r) (hrl : OkR r) (hp : putT most l r = (l', e)) :
    CallD Tryd.prog O 8 [.ptr t 0, .agg r.c] S fun d S' => d = .int .i64 e ∧ ∃ T' : Tb, T'.t = t ∧ Tab0 S0 S' T' most l' ∧ ∀ B mB lB, TabAt S B mB lB → (∀ o ∈ B.own, o ∉ T.own) → TabAt S' B mB lB ∧ ∀ o ∈ B.own, o ∉ T'.own :=
  ht ▸ (tabPut h.tab h.ok hm r hr hrl).mono fun d S' ⟨h1, h2⟩ => by
    have hok := h.ok.putT (most := most) hl hrl
    rw [hp] at h1 h2 hok
    exact ⟨h1, h.moved hok h2⟩
theorem drop0 {S0 S T most l t} (h : Tab0 S0 S T most l) (ht : T.t = t) (s : ByteArray) :
    CallD Tryd.prog O 21 [.ptr t 0, .str s] S fun d S' => d = .bool (lookK Rw.key l s).isSome ∧ ∃ T' : Tb, T'.t = t ∧ Tab0 S0 S' T' most (dropK Rw.key l s) ∧ ∀ B mB lB, TabAt S B mB lB → (∀ o ∈ B.own, o ∉ T.own) → TabAt S' B mB lB ∧ ∀ o ∈ B.own, o ∉ T'.own :=
  ht ▸ (tabDrop h.tab h.ok s).mono fun d S' ⟨h1, h2⟩ => ⟨h1, h.moved (h.ok.drop s) h2⟩
theorem keptL_sub {now age : Int} {keep : ByteArray} {l : List Rw} : (keptL now age keep l).Sublist l := List.filter_sublist
theorem sweep0 {S0 S T most l t} (h : Tab0 S0 S T most l) (ht : T.t = t) {now age : Int} (hn : 0 ≤ now) (ha : 0 ≤ age) (keep : ByteArray) :
    CallD Tryd.prog O 11 [.ptr t 0, .int .i64 now, .int .i64 age, .str keep] S fun d S' => d = strsD (goneL now age keep l) ∧ ∃ T' : Tb, T'.t = t ∧ Tab0 S0 S' T' most (keptL now age keep l) ∧ ∀ B mB lB, TabAt S B mB lB → (∀ o ∈ B.own, o ∉ T.own) → TabAt S' B mB lB ∧ ∀ o ∈ B.own, o ∉ T'.own :=
  ht ▸ (tabSweep h.tab h.ok hn ha keep).mono fun d S' ⟨h1, h2⟩ => ⟨h1, h.moved (h.ok.sub keptL_sub) h2⟩
theorem new0 {S0 S : Mem} {most : Int} (h1 : 1 ≤ most) (h2 : most ≤ 64) (hf : Fr [] S0 S) : CallD Tryd.prog orc 7 [.int .i64 most] S fun d S' => ∃ T : Tb, d = .tup [.ptr T.t 0, .int .i64 0] ∧ Tab0 S0 S' T most [] ∧ Fr [] S S' ∧ ∀ o ∈ T.own, S.length ≤ o :=
  (tabNew h1 h2 S).mono fun d S' ⟨T, e, hT, hlo, hfr⟩ => ⟨T, e, ⟨hT, .nil, fun o ho => Nat.le_trans hf.len (hlo o ho), hf.trans (F := []) hfr (by simp)⟩, hfr, hlo⟩
theorem twin0 {S0 S T most l t} (h : Tab0 S0 S T most l) (ht : T.t = t) : CallD Tryd.prog orc 18 [.ptr t 0] S fun d S' => ∃ T' : Tb, d = .ptr T'.t 0 ∧ Tab0 S0 S' T' most l ∧ Tab0 S0 S' T most l ∧ (∀ o ∈ T'.own, S.length ≤ o) ∧ Fr [] S S' :=
  ht ▸ (tabTwin h.tab h.ok).mono fun d S' ⟨T', e, hT, hlo, hfr⟩ => ⟨T', e, ⟨hT, h.ok, fun o ho => Nat.le_trans h.fr.len (hlo o ho), h.fr.trans (F := []) hfr (by simp)⟩, h.grow hfr, hlo, hfr⟩
theorem rows0 {S0 S T most l t} (h : Tab0 S0 S T most l) (ht : T.t = t) : CallD Tryd.prog orc 9 [.ptr t 0] S fun d S' => S' = S ∧ d = .sl none 6 l.length (rowsC l) := ht ▸ tabRows h.tab h.ok.len h.ok.ok
theorem get0 {S0 S T most l t} (h : Tab0 S0 S T most l) (ht : T.t = t) (s : ByteArray) : CallD Tryd.prog orc 10 [.ptr t 0, .str s] S fun d S' => S' = S ∧ d = .tup [.agg ((lookK Rw.key l s).getD noRow).c, .bool (lookK Rw.key l s).isSome] := ht ▸ tabGet h.tab h.ok s
theorem len0 {S0 S T most l t} (h : Tab0 S0 S T most l) (ht : T.t = t) : CallD Tryd.prog orc 19 [.ptr t 0] S fun d S' => S' = S ∧ d = .int .i64 (l.length : Int) := ht ▸ tabLen h.tab
def attssC (l : List Rw) : List D := l.map fun r => attsD r.at_
theorem attss_low {n : Nat} (l : List Rw) : LowL n (attssC l) := .of_mem (by
  intro x hx
  obtain ⟨r, _, rfl⟩ := List.mem_map.1 hx
  exact attsD_low _)
theorem clipAttss (own : Option Nat) (l : List Rw) (S : Mem) : CallD Tryd.prog orc 43 [.sl own 1 l.length (attssC l)] S fun d S' => S' = S ∧ d = .sl none 1 l.length (attssC l) := by
  refine CallD.e Tryd.func43 rfl Tryd.ntmps43 (by rfl) ?_
  have hll : (attssC l).length = l.length := by simp [attssC]
  by_cases h0 : l.length = 0
  · have hi : attssC l = [] := by rw [List.length_eq_zero_iff.1 h0]; rfl
    rw [hi, h0]
    have c : sliceD Tryd.prog 55 (.sl own 1 0 []) none (some (.int .i64 0)) (some (.int .i64 0)) = some .sl0 := by
      simp [sliceD, optNatD, natD, Tryd.underlying55, dsz31]
    repeat' (first|refine Go.a rfl ?_|refine Go.rg ?_|refine GoR.nil ?_|refine Go.ret ?_|refine Go.b rfl ?_|(refine GoR.o (by rfl) (by rfl) ?_;(conv => arg 1;simp only [G,Z,Y,Gx,un_neg,cutD,decide_true,decide_false,simprocAttr,fb55,c, Option.map_some, Option.map_none]);show GoR ..)|refine Go.condB rfl (fun hc => ?_) (fun hc => ?_))
    refine ⟨(by first | exact .inl rfl | exact .inr rfl), fin ?_⟩
    rw [resD_tmp (fn := Tryd.f43) rfl]
    simp only [optThen_some,resultD_tmp,resultD_cell,G,Z,Y,Gx,un_neg,cutD,decide_true,decide_false,simprocAttr,fb55]
    exact ⟨_, [], by simp, .sl0E, rfl⟩
  · generalize l.length = n at *
    have c : ∃ o', sliceD Tryd.prog 55 (.sl own 1 n (attssC l)) none (some (.int .i64 (n : Int))) (some (.int .i64 (n : Int))) = some (.sl o' 1 n (attssC l)) := by
      refine ⟨own, ?_⟩
      simp [sliceD, optNatD, natD, Tryd.underlying55, dsz31, h0]
      rw [List.take_of_length_le (by omega)]
    obtain ⟨o', c⟩ := c
    repeat' (first|refine Go.a rfl ?_|refine Go.rg ?_|refine GoR.nil ?_|refine Go.ret ?_|refine Go.b rfl ?_|(refine GoR.o (by rfl) (by rfl) ?_;(conv => arg 1;simp only [G,Z,Y,Gx,un_neg,cutD,decide_true,decide_false,simprocAttr,fb55,c, Option.map_some, Option.map_none]);show GoR ..)|refine Go.condB rfl (fun hc => ?_) (fun hc => ?_))
    refine ⟨(by first | exact .inl rfl | exact .inr rfl), fin ?_⟩
    rw [resD_tmp (fn := Tryd.f43) rfl]
    simp only [optThen_some,resultD_tmp,resultD_cell,G,Z,Y,Gx,un_neg,cutD,decide_true,decide_false,simprocAttr,fb55]
    exact ⟨_, [], by simp, .disown (attss_low l).get, rfl⟩
theorem tabAttrs {S : Mem} {T : Tb} {most : Int} {l : List Rw} (h : TabAt S T most l) (hl : l.length < 1000000) (hok : ∀ r ∈ l, OkR r) : CallD Tryd.prog orc 20 [.ptr T.t 0] S fun d S' => S' = S ∧ d = .sl none 1 l.length (attssC l) := by
  have hall := tabAll (orc := orc) h hl
  refine CallD.e Tryd.func20 rfl Tryd.ntmps20 (by rfl) ?_
  repeat' (first|refine Go.a rfl ?_|refine Go.rg ?_|refine GoR.nil ?_|refine Go.ret ?_|refine Go.b rfl ?_|(refine GoR.o (by rfl) (by rfl) ?_;(conv => arg 1;simp only [G,Z,Y,Gx,un_neg,cutD,decide_true,decide_false,simprocAttr,fb3,fb9,fb30,fb31,fb33,fb34,fb55]);show GoR ..)|(refine GoR.c c31 (by rfl) (by rfl) rfl ?_;(refine hall.ret ?_))|refine Go.condB rfl (fun hc => ?_) (fun hc => ?_))
  refine Go.keep [(3, .nils), (7, .sl none 6 l.length (rowsC l)), (8, .int .i64 (l.length : Int)), (9, .int .i64 ((0 : Nat) : Int))] (.cons .refl (.cons .refl (.cons .refl (.cons .refl (.nil))))) ?_
  refine Go.while (α := Nat × D × Mem) (fun x => l.length - x.1) (fun x => [(3, x.2.1), (7, .sl none 6 l.length (rowsC l)), (8, .int .i64 (l.length : Int)), (9, .int .i64 (x.1 : Int))]) (fun x => x.2.2)
    (fun x => x.1 ≤ l.length ∧ AccD S.length x.2.1 1 x.1 (attssC (l.take x.1)) x.2.2 ∧ Grown S.length S x.2.2) ?_ (0, .nils, S) ⟨Nat.zero_le _, .inl ⟨rfl, rfl, rfl⟩, .refl⟩
  rintro ⟨i, o, S1⟩ ⟨hi, hacc, hg⟩ next
  dsimp only at hi hacc hg next
  by_cases h1 : i < l.length
  · have hap0 := fun S => cloneF (orc := orc) l[i].at_ (hok _ (List.getElem_mem h1)).len (hok _ (List.getElem_mem h1)).atl S
    have at1 := rowsAt h1
    obtain ⟨o', S2, hap, hacc2, hg2⟩ := (hacc.app [.obj l[i].c, .own]).append (P := Tryd.prog) del55 (own := some (S1.length + 1)) (m := 1) (new := [attsD l[i].at_]) (by simp; have := hg.len; omega) (by omega) ⟨by omega, by omega, by omega, rfl⟩
    simp only [Rw.c, attsD] at hap0 hap at1
    repeat' (first|refine Go.a rfl ?_|refine Go.rg ?_|refine GoR.nil ?_|refine Go.ret ?_|refine Go.b rfl ?_|(refine GoR.o (by rfl) (by rfl) ?_;(conv => arg 1;simp only [G,Z,Y,Gx,un_neg,cutD,decide_true,decide_false,simprocAttr,fb3,fb9,fb30,fb31,fb33,fb34,fb55,show decide ((i : Int) < (l.length : Int)) = true by simp; omega, at1, List.append_assoc, List.cons_append, List.nil_append, hap, builtin_append, wrap_succ (show i < 4611686018427387904 by omega)]);show GoR ..)|(refine GoR.c c42 (by rfl) (by rfl) rfl ?_;(refine (hap0 _).ret ?_))|refine Go.condB rfl (fun hc => ?_) (fun hc => ?_))
    refine Go.lpN ?_
    refine Go.keep [(3, o'), (7, .sl none 6 l.length (rowsC l)), (8, .int .i64 (l.length : Int)), (9, .int .i64 ((i + 1 : Nat) : Int))] (.cons .refl (.cons .refl (.cons .refl (.cons .refl (.nil))))) ?_
    refine next (i + 1, o', S2) (by dsimp only; omega) ⟨h1, ?_, hg.trans (Grown.app.trans hg2)⟩
    dsimp only
    rw [show attssC (l.take (i + 1)) = attssC (l.take i) ++ [attsD l[i].at_] by rw [attssC, List.take_succ_eq_append_getElem h1, List.map_append]; rfl]
    exact hacc2
  · clear next
    have hi' : i = l.length := by omega
    subst hi'
    rw [List.take_length] at hacc
    obtain ⟨E, hE⟩ := hg.pre [] S rfl (by simp)
    have hcl := fun S => CallD.weak (.cons hacc.wf .nil) (clipAttss (orc := orc) none l S)
    repeat' (first|refine Go.a rfl ?_|refine Go.rg ?_|refine GoR.nil ?_|refine Go.ret ?_|refine Go.b rfl ?_|(refine GoR.o (by rfl) (by rfl) ?_;(conv => arg 1;simp only [G,Z,Y,Gx,un_neg,cutD,decide_true,decide_false,simprocAttr,fb3,fb9,fb30,fb31,fb33,fb34,fb55,show decide ((l.length : Int) < (l.length : Int)) = false by simp]);show GoR ..)|(refine GoR.c c43 (by rfl) (by rfl) rfl ?_;(refine (hcl _).ret ?_))|refine Go.condB rfl (fun hc => ?_) (fun hc => ?_))
    refine ⟨(by first | exact .inl rfl | exact .inr rfl), fin ?_⟩
    rw [resD_tmp (fn := Tryd.f20) rfl]
    simp only [optThen_some,resultD_tmp,resultD_cell,G,Z,Y,Gx,un_neg,cutD,decide_true,decide_false,simprocAttr,fb3,fb9,fb30,fb31,fb33,fb34,fb55]
    exact ⟨_, E, hE, .of_low (.sl' (attss_low l)), rfl⟩
theorem attrs0 {S0 S T most l t} (h : Tab0 S0 S T most l) (ht : T.t = t) : CallD Tryd.prog orc 20 [.ptr t 0] S fun d S' => S' = S ∧ d = .sl none 1 l.length (attssC l) := ht ▸ tabAttrs h.tab h.ok.len h.ok.ok
theorem tick0 (n : Int) (S : Mem) : CallD Tryd.prog orc 17 [.int .i64 n] S fun d S' => S' = S ∧ d = .agg (St.c ⟨n, 0, 0, (⟨#[47, 122]⟩ : ByteArray)⟩) := by
  simp only [St.c]
  refine CallD.e Tryd.func17 rfl Tryd.ntmps17 (by rfl) ?_
  repeat' (first|refine Go.a rfl ?_|refine Go.rg ?_|refine GoR.nil ?_|refine Go.ret ?_|refine Go.b rfl ?_|(refine GoR.o (by rfl) (by rfl) ?_;(conv => arg 1;simp only [G,Z,Y,Gx,un_neg,cutD,decide_true,decide_false,simprocAttr,fb2,fb9,fb30]);show GoR ..)|refine Go.condB rfl (fun hc => ?_) (fun hc => ?_))
  refine ⟨(by first | exact .inl rfl | exact .inr rfl), fin ?_⟩
  rw [resD_cell (fn := Tryd.f17) rfl]
  simp only [optThen_some,resultD_tmp,resultD_cell,G,Z,Y,Gx,un_neg,cutD,decide_true,decide_false,simprocAttr,fb2,fb9,fb30]
  exact ⟨_, _, rfl, .of_low (.agg' St.low), rfl⟩
end Go.Proofs.DuT

/- What the package of Table's laws knows. -/
namespace Go.Proofs.DuT
open Go Go.DM Go.Proofs.DuF
set_option maxRecDepth 100000

def rowAt (k : ByteArray) (st : St) : Rw := ⟨k, st, []⟩
theorem rowAt_ok (k : ByteArray) (st : St) : OkR (rowAt k st) := ⟨by simp [rowAt], by simp [rowAt]⟩
theorem rowAt_few {k : ByteArray} {st : St} (h1 : k.size < 1000000) (h2 : st.org.size < 1000000) : FewR (rowAt k st) := ⟨h1, h2, by simp [rowAt], by simp [rowAt], by simp [rowAt]⟩
theorem put0n {S0 S T most l t k st l' e} (h : Tab0 S0 S T most l) (ht : T.t = t) (hp : putT most l (rowAt k st) = (l', e)) (hl : l.length < 900000) (hm : 1 ≤ most) (h1 : k.size < 1000000) (h2 : st.org.size < 1000000) :
    CallD Tryd.prog O 8 [.ptr t 0, .agg [.str k, .int .i64 st.tick, .int .i64 st.inc, .int .i64 st.seq, .str st.org, .nils]] S fun d S' => d = .int .i64 e ∧ ∃ T' : Tb, T'.t = t ∧ Tab0 S0 S' T' most l' ∧ ∀ B mB lB, TabAt S B mB lB → (∀ o ∈ B.own, o ∉ T.own) → TabAt S' B mB lB ∧ ∀ o ∈ B.own, o ∉ T'.own :=
  CallD.weak (.cons .refl (.cons (.agg' (.cons .refl (.cons .refl (.cons .refl (.cons .refl (.cons .refl (.cons .nilE .nil))))))) .nil)) (put0 h ht hl hm (rowAt k st) (rowAt_few h1 h2) (rowAt_ok k st) hp)
def kz (n : Int) : St := ⟨n, 0, 0, (⟨#[47, 122]⟩ : ByteArray)⟩
def kb5 : Rw := rowAt (⟨#[98]⟩ : ByteArray) (kz 5)
def kb4 : Rw := rowAt (⟨#[98]⟩ : ByteArray) (kz 4)
def ka6 : Rw := rowAt (⟨#[97]⟩ : ByteArray) (kz 6)
def kc7 : Rw := rowAt (⟨#[99]⟩ : ByteArray) (kz 7)
theorem kp1 : putT 2 [] kb5 = ([kb5], 0) := putT_new (by decide +kernel) rfl (by decide)
theorem kp2 : putT 2 [kb5] kb4 = ([kb5], 11) := putT_old (o := kb5) (by decide +kernel) (by rw [lookK_cons]; exact if_pos rfl) (by decide +kernel)
theorem kp3 : putT 2 [kb5] ka6 = ([ka6, kb5], 0) := by
  have hq : lookK Rw.key [kb5] ka6.key = none := by rw [lookK_cons, if_neg (by decide +kernel)]; rfl
  rw [putT_new (by decide +kernel) hq (by decide), putK, hq, if_neg (by decide)]
  have h1 : ltB kb5.key ka6.key = false := by decide +kernel
  simp [posK, List.takeWhile_cons, h1]
theorem kdrop : dropK Rw.key [ka6, kb5] kb5.key = [ka6] := by
  have hq : lookK Rw.key [ka6, kb5] kb5.key = some kb5 := by rw [lookK_cons, if_neg (by decide +kernel), lookK_cons, if_pos rfl]
  have h1 : ltB ka6.key kb5.key = true := by decide +kernel
  have h2 : ltB kb5.key kb5.key = false := ltB_irrefl _
  rw [dropK, hq, if_pos (by rfl)]
  simp [posK, List.takeWhile_cons, h1, h2]
theorem kp4 : putT 2 [ka6, kb5] kc7 = ([ka6, kc7], 0) := by
  have hq : lookK Rw.key [ka6, kb5] kc7.key = none := by rw [lookK_cons, if_neg (by decide +kernel), lookK_cons, if_neg (by decide +kernel)]; rfl
  have hl : least [ka6, kb5] = kb5 := by
    show leastR (if cmpSt kb5.st ka6.st < 0 then kb5 else ka6) [] = kb5
    rw [if_pos (by decide +kernel)]
    rfl
  have hq2 : lookK Rw.key [ka6] kc7.key = none := by rw [lookK_cons, if_neg (by decide +kernel)]; rfl
  rw [putT_out (by decide +kernel) hq (by decide) (by rw [hl]; decide +kernel), hl, kdrop, putK, hq2, if_neg (by decide)]
  have h1 : ltB ka6.key kc7.key = true := by decide +kernel
  simp [posK, List.takeWhile_cons, h1]
theorem klook : lookK Rw.key [ka6, kc7] (⟨#[98]⟩ : ByteArray) = none := by rw [lookK_cons, if_neg (by decide +kernel), lookK_cons, if_neg (by decide +kernel)]; rfl
theorem kgone : goneL 10 3 (⟨#[120]⟩ : ByteArray) [ka6, kc7] = [(⟨#[97]⟩ : ByteArray)] := by
  have h1 : goneP 10 3 (⟨#[120]⟩ : ByteArray) ka6 = true := by decide +kernel
  have h2 : goneP 10 3 (⟨#[120]⟩ : ByteArray) kc7 = false := by decide +kernel
  simp [goneL, h1, h2]
  rfl
theorem kkept : keptL 10 3 (⟨#[120]⟩ : ByteArray) [ka6, kc7] = [kc7] := by
  have h1 : goneP 10 3 (⟨#[120]⟩ : ByteArray) ka6 = true := by decide +kernel
  have h2 : goneP 10 3 (⟨#[120]⟩ : ByteArray) kc7 = false := by decide +kernel
  simp [keptL, h1, h2]
theorem klook2 : lookK Rw.key [kc7] (⟨#[99]⟩ : ByteArray) = some kc7 := by rw [lookK_cons]; exact if_pos rfl
set_option maxHeartbeats 4000000 in
theorem known (S : Mem) : CallD Tryd.prog O 6 [] S fun d S' => S' = S ∧ d = .bool true := by
  refine CallD.e Tryd.func6 rfl Tryd.ntmps6 (by rfl) ?_
  have g0 : IntKind.i64.wrap ((0 : Int) + 0) = 0 := rfl
  repeat' (first|refine Go.a rfl ?_|refine Go.rg ?_|refine GoR.nil ?_|refine Go.ret ?_|refine Go.b rfl ?_|(refine GoR.o (by rfl) (by rfl) ?_;(conv => arg 1;simp only [G,Z,Y,Gx,un_neg,cutD,decide_true,decide_false,simprocAttr,fb3,fb9,fb24,fb30,fb31,fb33,fb34,fb39,fb55,g0, St.c]);show GoR ..)|(refine GoR.c c7 (by rfl) (by rfl) rfl ?_;(first | (refine (new0 (S0 := S) (most := 2) (by decide) (by decide) .refl).mono ?_; rintro _ S1 ⟨T1, rfl, h1, _, _⟩)))|(refine GoR.c c17 (by rfl) (by rfl) rfl ?_;(refine (tick0 _ _).ret ?_))|(refine GoR.c c8 (by rfl) (by rfl) rfl ?_;(first | (refine (put0n (st := kz 5) h1 rfl kp1 (by decide) (by decide) (by decide) (by decide)).mono ?_; rintro _ S2 ⟨rfl, T2, e2, h2, _⟩) | (refine (put0n (st := kz 4) h2 e2 kp2 (by decide) (by decide) (by decide) (by decide)).mono ?_; rintro _ S3 ⟨rfl, T3, e3, h3, _⟩) | (refine (put0n (st := kz 6) h3 e3 kp3 (by decide) (by decide) (by decide) (by decide)).mono ?_; rintro _ S4 ⟨rfl, T4, e4, h4, _⟩) | (refine (put0n (st := kz 7) h4 e4 kp4 (by decide) (by decide) (by decide) (by decide)).mono ?_; rintro _ S5 ⟨rfl, T5, e5, h5, _⟩)))|refine GoR.s (by rfl) rfl rfl ?_)
  have hrows : CallD Tryd.prog O 9 [.ptr T1.t 0] S5 fun d S' => S' = S5 ∧ d = .sl none 6 2 (rowsC [ka6, kc7]) := rows0 h5 e5
  have hget : CallD Tryd.prog O 10 [.ptr T1.t 0, .str (⟨#[98]⟩ : ByteArray)] S5 fun d S' => S' = S5 ∧ d = .tup [.agg [.str ⟨#[]⟩, .int .i64 0, .int .i64 0, .int .i64 0, .str ⟨#[]⟩, .sl none 5 0 []], .bool false] := by
    have := get0 (orc := O) h5 e5 (⟨#[98]⟩ : ByteArray)
    rw [klook] at this
    exact this
  repeat' (first|refine Go.a rfl ?_|refine Go.rg ?_|refine GoR.nil ?_|refine Go.ret ?_|refine Go.b rfl ?_|(refine GoR.o (by rfl) (by rfl) ?_;(conv => arg 1;simp only [G,Z,Y,Gx,un_neg,cutD,decide_true,decide_false,simprocAttr,fb3,fb9,fb24,fb30,fb31,fb33,fb34,fb39,fb55]);show GoR ..)|(refine GoR.c c9 (by rfl) (by rfl) rfl ?_;(refine hrows.ret ?_))|(refine GoR.c c10 (by rfl) (by rfl) rfl ?_;(refine hget.ret ?_))|(refine GoR.c c7 (by rfl) (by rfl) rfl ?_;(refine (tabNew1 (by decide) _).ret ?_))|(refine GoR.c c18 (by rfl) (by rfl) rfl ?_;(refine (twin0 (h5.app _) e5).mono ?_; rintro _ S6 ⟨T6, rfl, h6, h7, hlo6, hfr6⟩))|refine GoR.s (by rfl) rfl rfl ?_)
  have hd6 : ∀ o ∈ T6.own, o ∉ T5.own := fun o ho hT => by
    have a1 := hlo6 o ho
    have a2 := (h5.app [.obj [.str ⟨#[]⟩, .int .i64 0, .int .i64 0, .int .i64 0, .str ⟨#[]⟩, .sl none 5 0 []]]).tab.lt o hT
    omega
  have hsw : CallD Tryd.prog O 11 [.ptr T1.t 0, .int .i64 10, .int .i64 3, .str (⟨#[120]⟩ : ByteArray)] S6 fun d S' => d = .sl none 1 1 [.str (⟨#[97]⟩ : ByteArray)] ∧ ∃ T' : Tb, T'.t = T1.t ∧ Tab0 S S' T' 2 [kc7] ∧ ∀ B mB lB, TabAt S6 B mB lB → (∀ o ∈ B.own, o ∉ T5.own) → TabAt S' B mB lB ∧ ∀ o ∈ B.own, o ∉ T'.own := by
    have := sweep0 h7 e5 (now := 10) (age := 3) (by decide) (by decide) (⟨#[120]⟩ : ByteArray)
    rw [kgone, kkept] at this
    exact this
  repeat' (first|refine Go.a rfl ?_|refine Go.rg ?_|refine GoR.nil ?_|refine Go.ret ?_|refine Go.b rfl ?_|(refine GoR.o (by rfl) (by rfl) ?_;(conv => arg 1;simp only [G,Z,Y,Gx,un_neg,cutD,decide_true,decide_false,simprocAttr,fb3,fb9,fb24,fb30,fb31,fb33,fb34,fb39,fb55]);show GoR ..)|(refine GoR.c c11 (by rfl) (by rfl) rfl ?_;(refine hsw.mono ?_; rintro _ S7 ⟨rfl, T8, e8, h8, hoth⟩))|refine GoR.s (by rfl) rfl rfl ?_)
  obtain ⟨hu, hdu⟩ := hoth T6 _ _ h6.tab hd6
  have h9 : Tab0 S S7 T6 2 [ka6, kc7] := ⟨hu, h6.ok, h6.lo, h8.fr⟩
  have hdr := drop0 h8 e8 (⟨#[99]⟩ : ByteArray)
  rw [klook2] at hdr
  have hl1 : CallD Tryd.prog O 19 [.ptr T1.t 0] S7 fun d S' => S' = S7 ∧ d = .int .i64 1 := len0 h8 e8
  have hl2 : CallD Tryd.prog O 19 [.ptr T6.t 0] S7 fun d S' => S' = S7 ∧ d = .int .i64 2 := len0 h9 rfl
  have ha2 : CallD Tryd.prog O 20 [.ptr T6.t 0] S7 fun d S' => S' = S7 ∧ d = .sl none 1 2 (attssC [ka6, kc7]) := attrs0 h9 rfl
  have c0 : (rowsC [ka6, kc7])[0]? = some (.str (⟨#[97]⟩ : ByteArray)) := rfl
  have c1 : (rowsC [ka6, kc7])[6]? = some (.str (⟨#[99]⟩ : ByteArray)) := rfl
  have g3 : Int.toNat 0 = 0 := rfl
  have g4 : Int.toNat 1 = 1 := rfl
  repeat' (first|refine Go.a rfl ?_|refine Go.rg ?_|refine GoR.nil ?_|refine Go.ret ?_|refine Go.b rfl ?_|(refine GoR.o (by rfl) (by rfl) ?_;(conv => arg 1;simp only [G,Z,Y,Gx,un_neg,cutD,decide_true,decide_false,simprocAttr,fb3,fb9,fb24,fb30,fb31,fb33,fb34,fb39,fb55,g0, c0, c1, g3, g4]);show GoR ..)|(refine GoR.c c19 (by rfl) (by rfl) rfl ?_;(first | (refine hl1.ret ?_) | (refine hl2.ret ?_)))|(refine GoR.c c20 (by rfl) (by rfl) rfl ?_;(refine ha2.ret ?_))|(refine GoR.c c21 (by rfl) (by rfl) rfl ?_;(refine hdr.mono ?_; rintro _ S8 ⟨rfl, T9, e9, h10, _⟩))|refine GoR.s (by rfl) rfl rfl ?_|(refine GoR.splitG rfl (fun hc => ?_) (fun hc => ?_) <;> simp only [hc])|refine Go.condB rfl (fun hc => ?_) (fun hc => ?_))
  refine ⟨(by first | exact .inl rfl | exact .inr rfl), fin ?_⟩
  rw [resD_tmp (fn := Tryd.f6) rfl]
  simp only [optThen_some,resultD_tmp,resultD_cell,G,Z,Y,Gx,un_neg,cutD,decide_true,decide_false,simprocAttr,fb3,fb9,fb24,fb30,fb31,fb33,fb34,fb39,fb55]
  obtain ⟨E, hE⟩ := h10.fr.pre (by simp)
  exact ⟨_, E, hE, .bool, rfl⟩
end Go.Proofs.DuT

/- Few rows; what putting comes to, plainly. -/
namespace Go.Proofs.DuT
open Go Go.DM Go.Proofs.DuF
set_option maxRecDepth 100000
variable {orc : DOracle}

def ltSt (a b : St) : Prop := a.tick < b.tick ∨ (a.tick = b.tick ∧ (a.inc < b.inc ∨ (a.inc = b.inc ∧ (a.seq < b.seq ∨ (a.seq = b.seq ∧ ltB a.org b.org = true)))))
theorem cmpSt_cases (a b : St) : (cmpSt a b = -1 ∧ ltSt a b) ∨ (cmpSt a b = 0 ∧ a = b) ∨ (cmpSt a b = 1 ∧ ltSt b a) := by
  obtain ⟨a1, a2, a3, a4⟩ := a
  obtain ⟨b1, b2, b3, b4⟩ := b
  have key : ∀ x y : Int, (cmpI x y = -1 ∧ x < y) ∨ (cmpI x y = 0 ∧ x = y) ∨ (cmpI x y = 1 ∧ y < x) := by
    intro x y
    unfold cmpI
    rcases Int.lt_trichotomy x y with h | h | h
    · exact .inl ⟨by rw [if_pos h], h⟩
    · exact .inr (.inl ⟨by rw [if_neg (by omega), if_neg (by omega)], h⟩)
    · exact .inr (.inr ⟨by rw [if_neg (by omega), if_pos h], h⟩)
  have keyB : (cmpB a4 b4 = -1 ∧ ltB a4 b4 = true) ∨ (cmpB a4 b4 = 0 ∧ a4 = b4) ∨ (cmpB a4 b4 = 1 ∧ ltB b4 a4 = true) := by
    unfold cmpB
    rcases ltB_total a4 b4 with h | h | h
    · exact .inl ⟨by rw [if_pos h], h⟩
    · subst h
      exact .inr (.inl ⟨by rw [if_neg (by rw [ltB_irrefl]; decide), if_pos rfl], rfl⟩)
    · have h1 := ltB_asymm h
      refine .inr (.inr ⟨?_, h⟩)
      rw [if_neg (by rw [h1]; decide), if_neg]
      rintro rfl
      rw [ltB_irrefl] at h
      cases h
  simp only [cmpSt, orI, ltSt, St.mk.injEq]
  rcases key a1 b1 with ⟨e1, h1⟩ | ⟨e1, h1⟩ | ⟨e1, h1⟩ <;> rw [e1]
  · simp [h1]
  · subst h1
    rcases key a2 b2 with ⟨e2, h2⟩ | ⟨e2, h2⟩ | ⟨e2, h2⟩ <;> rw [e2]
    · simp [h2]
    · subst h2
      rcases key a3 b3 with ⟨e3, h3⟩ | ⟨e3, h3⟩ | ⟨e3, h3⟩ <;> rw [e3]
      · simp [h3]
      · subst h3
        rcases keyB with ⟨e4, h4⟩ | ⟨e4, h4⟩ | ⟨e4, h4⟩ <;> rw [e4]
        · simp [h4]
        · simp [h4]
        · simp [h4]
      · simp [h3]
    · simp [h2]
  · simp [h1]
theorem ltSt_trans {a b c : St} (h : ltSt a b) (k : ltSt b c) : ltSt a c := by
  unfold ltSt at *
  rcases h with h | ⟨h1, h | ⟨h2, h | ⟨h3, h⟩⟩⟩ <;> rcases k with k | ⟨k1, k | ⟨k2, k | ⟨k3, k⟩⟩⟩ <;>
    first
      | (exact .inr ⟨by omega, .inr ⟨by omega, .inr ⟨by omega, ltB_trans h k⟩⟩⟩)
      | (exact .inl (by omega))
      | (exact .inr ⟨by omega, .inl (by omega)⟩)
      | (exact .inr ⟨by omega, .inr ⟨by omega, .inl (by omega)⟩⟩)
theorem ltSt_irrefl (a : St) : ¬ ltSt a a := by
  unfold ltSt
  rw [ltB_irrefl]
  rintro (h | ⟨_, h | ⟨_, h | ⟨_, h⟩⟩⟩)
  · omega
  · omega
  · omega
  · cases h
theorem cmpSt_pos {a b : St} : 0 < cmpSt a b ↔ ltSt b a := by
  rcases cmpSt_cases a b with ⟨e, h⟩ | ⟨e, h⟩ | ⟨e, h⟩ <;> rw [e]
  · exact ⟨fun h => by omega, fun k => absurd (ltSt_trans h k) (ltSt_irrefl _)⟩
  · subst h
    exact ⟨fun h => by omega, fun k => absurd k (ltSt_irrefl _)⟩
  · exact ⟨fun _ => h, fun _ => by omega⟩
theorem cmpSt_neg {a b : St} : cmpSt a b < 0 ↔ ltSt a b := by
  rcases cmpSt_cases a b with ⟨e, h⟩ | ⟨e, h⟩ | ⟨e, h⟩ <;> rw [e]
  · exact ⟨fun _ => h, fun _ => by omega⟩
  · subst h
    exact ⟨fun h => by omega, fun k => absurd k (ltSt_irrefl _)⟩
  · exact ⟨fun h => by omega, fun k => absurd (ltSt_trans h k) (ltSt_irrefl _)⟩
theorem ltSt_total (a b : St) : ltSt a b ∨ a = b ∨ ltSt b a := by
  rcases cmpSt_cases a b with ⟨_, h⟩ | ⟨_, h⟩ | ⟨_, h⟩
  · exact .inl h
  · exact .inr (.inl h)
  · exact .inr (.inr h)
theorem leastR_le : ∀ (l : List Rw) (m : Rw), ¬ ltSt m.st (leastR m l).st ∧ ∀ y ∈ l, ¬ ltSt y.st (leastR m l).st
  | [], m => ⟨ltSt_irrefl _, by simp⟩
  | y :: l, m => by
    rw [leastR]
    obtain ⟨h1, h2⟩ := leastR_le l (if cmpSt y.st m.st < 0 then y else m)
    by_cases hc : cmpSt y.st m.st < 0
    · rw [if_pos hc] at h1 h2 ⊢
      have hlt := cmpSt_neg.1 hc
      refine ⟨fun h => ?_, fun z hz => ?_⟩
      · exact h1 (ltSt_trans hlt h)
      · rcases List.mem_cons.1 hz with rfl | hz
        · exact h1
        · exact h2 z hz
    · rw [if_neg hc] at h1 h2 ⊢
      have hlt : ¬ ltSt y.st m.st := fun h => hc (cmpSt_neg.2 h)
      refine ⟨h1, fun z hz => ?_⟩
      rcases List.mem_cons.1 hz with rfl | hz
      · intro h
        rcases ltSt_total z.st m.st with q | q | q
        · exact hlt q
        · rw [q] at h; exact h1 h
        · exact h1 (ltSt_trans q h)
      · exact h2 z hz
theorem least_le {l : List Rw} : ∀ y ∈ l, ¬ ltSt y.st (least l).st := by
  cases l with
  | nil => simp
  | cons x l =>
    intro y hy
    obtain ⟨h1, h2⟩ := leastR_le l x
    rcases List.mem_cons.1 hy with rfl | hy
    · exact h1
    · exact h2 y hy
end Go.Proofs.DuT
