/- The law TableGets. -/
import Derived.Test.YtlllhmenekibjaaDoorDuT8x
set_option linter.unusedSimpArgs false
set_option linter.unusedVariables false
namespace Go.Proofs.DuT
open Go Go.DM Go.Proofs.DuF
set_option maxRecDepth 100000

theorem put1 {S0 S T most l t l' e} (h : Tab0 S0 S T most l) (ht : T.t = t) (hl : l.length < 900000) (hm : 1 ≤ most) (r : Rw) (hr : FewR r) (hrl : OkR r) (hp : putT most l r = (l', e)) :
    CallD Tryd.prog O 8 [.ptr t 0, .agg r.c] S fun d S' => d = .int .i64 e ∧ ∃ T' : Tb, T'.t = t ∧ Tab0 S0 S' T' most l' ∧ ∀ o c, o ∉ T.own → objAt S o = some c → objAt S' o = some c ∧ o ∉ T'.own :=
  ht ▸ (tabPut h.tab h.ok hm r hr hrl).mono fun d S' ⟨h1, h2⟩ => by
    have hok := h.ok.putT (most := most) hl hrl
    rw [hp] at h1 h2 hok
    obtain ⟨T', e1, _, g1, g2, g3⟩ := h2
    refine ⟨h1, T', e1, ⟨g1, hok, fun o ho => ?_, h.fr.trans (F := []) g3 fun o ho => .inr (h.lo o ho)⟩, fun o c ho hc => ⟨g3.obj hc ho, fun hx => ?_⟩⟩
    · rcases g2 o ho with hh | hh
      · exact h.lo o hh
      · exact Nat.le_trans h.fr.len hh
    · rcases g2 o hx with hh | hh
      · exact ho hh
      · have := objAt_lt hc
        omega
/-- The table behind some rows. -/
def fold (most : Int) (l : List Rw) : List Rw := l.foldl (fun c r => (putT most c r).1) []
theorem fold_succ {most : Int} {l : List Rw} {i : Nat} (h : i < l.length) : fold most (l.take (i + 1)) = (putT most (fold most (l.take i)) l[i]).1 := by
  rw [List.take_succ_eq_append_getElem h, fold, List.foldl_append]
  rfl
theorem fold_ok {l : List Rw} (hl : l.length < 64) (hk : ∀ r ∈ l, OkR r) : ∀ i, i ≤ l.length → OkT (fold 64 (l.take i)) ∧ (fold 64 (l.take i)).length ≤ i := by
  intro i
  induction i with
  | zero => intro _; exact ⟨.nil, by simp [fold]⟩
  | succ i ih =>
    intro hi
    obtain ⟨h1, h2⟩ := ih (by omega)
    have h3 := h1.putT (most := 64) (r := l[i]) (by omega) (hk _ (List.getElem_mem _))
    have h4 := putT_len h1.rise (r := l[i]) (most := 64) (by omega)
    rw [fold_succ (by omega)]
    exact ⟨h3, by omega⟩
set_option maxHeartbeats 4000000 in
theorem lawGets (l : List Rw) (r : Rw) (S : Mem) : CallD Tryd.prog O 5 [.sl none 6 l.length (rowsC l), .agg r.c] S fun d S' => S' = S ∧ d = .bool true := by
  have hfl := fun S => fewRows (orc := O) l S
  have hfr := fun S => few4 (orc := O) r S
  cases hq : (decide (l.length ≤ 70) && l.all fewR) with
  | false =>
    rw [hq] at hfl
    simp only [Rw.c] at *
    refine CallD.e Tryd.func5 rfl Tryd.ntmps5 (by rfl) ?_
    repeat' (first|refine Go.a rfl ?_|refine Go.rg ?_|refine GoR.nil ?_|refine Go.ret ?_|refine Go.b rfl ?_|refine Go.rgS dmx (by decide) ?_|refine Go.rgD [14] (fun _ => True) dmx (by decide) 15 (by decide) (by trivial) ?_|refine GoW.nil rfl ?_|((first|refine GoR.o (by rfl) (by rfl) ?_|refine GoW.o (by rfl) (by rfl) ?_|refine GoW.rd (by rfl) (by rfl) ?_);(conv => arg 1;simp only [G,Z,Y,Gx,un_neg,cutD,decide_true,decide_false,simprocAttr,fb3,fb4,fb9,fb24,fb30,fb31,fb33,fb34,fb46,fb47,fb49]);first|show GoR ..|(show _ ∧ GoW ..;refine ⟨by exact fun _ => trivial,?_⟩)|(show _ ∧ _ ∧ _ ∧ GoW ..;refine ⟨rfl,by trivial,(fun H _=>by simp only [G,Z,Y,Gx,un_neg,cutD,decide_true,decide_false,simprocAttr,fb3,fb4,fb9,fb24,fb30,fb31,fb33,fb34,fb46,fb47,fb49]),?_⟩))|(refine GoW.c c6 (by rfl) (by rfl) rfl ?_;(refine (known _).ret ?_);refine ⟨by exact fun _ => trivial,?_⟩)|(refine GoR.c c6 (by rfl) (by rfl) rfl ?_;(refine (known _).ret ?_))|(refine GoW.c c12 (by rfl) (by rfl) rfl ?_;(refine (hfl _).ret ?_);refine ⟨by exact fun _ => trivial,?_⟩)|(refine GoR.c c12 (by rfl) (by rfl) rfl ?_;(refine (hfl _).ret ?_))|refine GoR.s (by rfl) rfl rfl ?_|refine GoW.s (by rfl) rfl rfl (by exact fun _ => trivial) ?_|(refine GoR.splitG rfl (fun hc => ?_) (fun hc => ?_) <;> simp only [hc])|refine Go.condB rfl (fun hc => ?_) (fun hc => ?_))
    refine ⟨(by first | exact .inl rfl | exact .inr rfl), fin ?_⟩
    rw [resD_tmp (fn := Tryd.f5) rfl]
    simp only [optThen_some,resultD_tmp,resultD_cell,G,Z,Y,Gx,un_neg,cutD,decide_true,decide_false,simprocAttr,fb3,fb4,fb9,fb24,fb30,fb31,fb33,fb34,fb46,fb47,fb49]
    exact ⟨_, _, rfl, .bool, rfl⟩
  | true =>
  rw [hq] at hfl
  by_cases h40 : 40 < l.length
  · simp only [Rw.c] at *
    refine CallD.e Tryd.func5 rfl Tryd.ntmps5 (by rfl) ?_
    repeat' (first|refine Go.a rfl ?_|refine Go.rg ?_|refine GoR.nil ?_|refine Go.ret ?_|refine Go.b rfl ?_|refine Go.rgS dmx (by decide) ?_|refine Go.rgD [14] (fun _ => True) dmx (by decide) 15 (by decide) (by trivial) ?_|refine GoW.nil rfl ?_|((first|refine GoR.o (by rfl) (by rfl) ?_|refine GoW.o (by rfl) (by rfl) ?_|refine GoW.rd (by rfl) (by rfl) ?_);(conv => arg 1;simp only [G,Z,Y,Gx,un_neg,cutD,decide_true,decide_false,simprocAttr,fb3,fb4,fb9,fb24,fb30,fb31,fb33,fb34,fb46,fb47,fb49,show decide (40 < (l.length : Int)) = true by simp; omega]);first|show GoR ..|(show _ ∧ GoW ..;refine ⟨by exact fun _ => trivial,?_⟩)|(show _ ∧ _ ∧ _ ∧ GoW ..;refine ⟨rfl,by trivial,(fun H _=>by simp only [G,Z,Y,Gx,un_neg,cutD,decide_true,decide_false,simprocAttr,fb3,fb4,fb9,fb24,fb30,fb31,fb33,fb34,fb46,fb47,fb49,show decide (40 < (l.length : Int)) = true by simp; omega]),?_⟩))|(refine GoW.c c6 (by rfl) (by rfl) rfl ?_;(refine (known _).ret ?_);refine ⟨by exact fun _ => trivial,?_⟩)|(refine GoR.c c6 (by rfl) (by rfl) rfl ?_;(refine (known _).ret ?_))|(refine GoW.c c12 (by rfl) (by rfl) rfl ?_;(refine (hfl _).ret ?_);refine ⟨by exact fun _ => trivial,?_⟩)|(refine GoR.c c12 (by rfl) (by rfl) rfl ?_;(refine (hfl _).ret ?_))|refine GoR.s (by rfl) rfl rfl ?_|refine GoW.s (by rfl) rfl rfl (by exact fun _ => trivial) ?_|(refine GoR.splitG rfl (fun hc => ?_) (fun hc => ?_) <;> simp only [hc])|refine Go.condB rfl (fun hc => ?_) (fun hc => ?_))
    refine ⟨(by first | exact .inl rfl | exact .inr rfl), fin ?_⟩
    rw [resD_tmp (fn := Tryd.f5) rfl]
    simp only [optThen_some,resultD_tmp,resultD_cell,G,Z,Y,Gx,un_neg,cutD,decide_true,decide_false,simprocAttr,fb3,fb4,fb9,fb24,fb30,fb31,fb33,fb34,fb46,fb47,fb49]
    exact ⟨_, _, rfl, .bool, rfl⟩
  have d40 : decide (40 < (l.length : Int)) = false := by simp; omega
  cases hr : fewR r with
  | false =>
    rw [hr] at hfr
    simp only [Rw.c] at *
    refine CallD.e Tryd.func5 rfl Tryd.ntmps5 (by rfl) ?_
    repeat' (first|refine Go.a rfl ?_|refine Go.rg ?_|refine GoR.nil ?_|refine Go.ret ?_|refine Go.b rfl ?_|refine Go.rgS dmx (by decide) ?_|refine Go.rgD [14] (fun _ => True) dmx (by decide) 15 (by decide) (by trivial) ?_|refine GoW.nil rfl ?_|((first|refine GoR.o (by rfl) (by rfl) ?_|refine GoW.o (by rfl) (by rfl) ?_|refine GoW.rd (by rfl) (by rfl) ?_);(conv => arg 1;simp only [G,Z,Y,Gx,un_neg,cutD,decide_true,decide_false,simprocAttr,fb3,fb4,fb9,fb24,fb30,fb31,fb33,fb34,fb46,fb47,fb49,d40]);first|show GoR ..|(show _ ∧ GoW ..;refine ⟨by exact fun _ => trivial,?_⟩)|(show _ ∧ _ ∧ _ ∧ GoW ..;refine ⟨rfl,by trivial,(fun H _=>by simp only [G,Z,Y,Gx,un_neg,cutD,decide_true,decide_false,simprocAttr,fb3,fb4,fb9,fb24,fb30,fb31,fb33,fb34,fb46,fb47,fb49,d40]),?_⟩))|(refine GoW.c c6 (by rfl) (by rfl) rfl ?_;(refine (known _).ret ?_);refine ⟨by exact fun _ => trivial,?_⟩)|(refine GoR.c c6 (by rfl) (by rfl) rfl ?_;(refine (known _).ret ?_))|(refine GoW.c c12 (by rfl) (by rfl) rfl ?_;(refine (hfl _).ret ?_);refine ⟨by exact fun _ => trivial,?_⟩)|(refine GoR.c c12 (by rfl) (by rfl) rfl ?_;(refine (hfl _).ret ?_))|(refine GoW.c c13 (by rfl) (by rfl) rfl ?_;(refine (hfr _).ret ?_);refine ⟨by exact fun _ => trivial,?_⟩)|(refine GoR.c c13 (by rfl) (by rfl) rfl ?_;(refine (hfr _).ret ?_))|refine GoR.s (by rfl) rfl rfl ?_|refine GoW.s (by rfl) rfl rfl (by exact fun _ => trivial) ?_|(refine GoR.splitG rfl (fun hc => ?_) (fun hc => ?_) <;> simp only [hc])|refine Go.condB rfl (fun hc => ?_) (fun hc => ?_))
    refine ⟨(by first | exact .inl rfl | exact .inr rfl), fin ?_⟩
    rw [resD_tmp (fn := Tryd.f5) rfl]
    simp only [optThen_some,resultD_tmp,resultD_cell,G,Z,Y,Gx,un_neg,cutD,decide_true,decide_false,simprocAttr,fb3,fb4,fb9,fb24,fb30,fb31,fb33,fb34,fb46,fb47,fb49]
    exact ⟨_, _, rfl, .bool, rfl⟩
  | true =>
  rw [hr] at hfr
  simp only [Bool.and_eq_true, decide_eq_true_eq, List.all_eq_true] at hq
  obtain ⟨_, hall⟩ := hq
  obtain ⟨fr, okr⟩ := fewR_ok hr
  have hok := fold_ok (l := l) (by omega) fun x hx => (fewR_ok (hall x hx)).2
  obtain ⟨okn, lenn⟩ := hok l.length (Nat.le_refl _)
  rw [List.take_length] at okn lenn
  have hrc : r.c = [.str r.key, .int .i64 r.st.tick, .int .i64 r.st.inc, .int .i64 r.st.seq, .str r.st.org, .sl none 5 r.at_.length (attsC r.at_)] := rfl
  rw [hrc] at hfr ⊢
  refine CallD.e Tryd.func5 rfl Tryd.ntmps5 (by rfl) ?_
  repeat' (first|refine Go.a rfl ?_|refine Go.rg ?_|refine GoR.nil ?_|refine Go.ret ?_|refine Go.b rfl ?_|refine Go.rgS dmx (by decide) ?_|refine Go.rgD [14] (fun _ => True) dmx (by decide) 15 (by decide) (by trivial) ?_|refine GoW.nil rfl ?_|((first|refine GoR.o (by rfl) (by rfl) ?_|refine GoW.o (by rfl) (by rfl) ?_|refine GoW.rd (by rfl) (by rfl) ?_);(conv => arg 1;simp only [G,Z,Y,Gx,un_neg,cutD,decide_true,decide_false,simprocAttr,fb3,fb4,fb9,fb24,fb30,fb31,fb33,fb34,fb46,fb47,fb49,d40]);first|show GoR ..|(show _ ∧ GoW ..;refine ⟨by exact fun _ => trivial,?_⟩)|(show _ ∧ _ ∧ _ ∧ GoW ..;refine ⟨rfl,by trivial,(fun H _=>by simp only [G,Z,Y,Gx,un_neg,cutD,decide_true,decide_false,simprocAttr,fb3,fb4,fb9,fb24,fb30,fb31,fb33,fb34,fb46,fb47,fb49,d40]),?_⟩))|(refine GoW.c c6 (by rfl) (by rfl) rfl ?_;(refine (known _).ret ?_);refine ⟨by exact fun _ => trivial,?_⟩)|(refine GoR.c c6 (by rfl) (by rfl) rfl ?_;(refine (known _).ret ?_))|(refine GoW.c c12 (by rfl) (by rfl) rfl ?_;(refine (hfl _).ret ?_);refine ⟨by exact fun _ => trivial,?_⟩)|(refine GoR.c c12 (by rfl) (by rfl) rfl ?_;(refine (hfl _).ret ?_))|(refine GoW.c c13 (by rfl) (by rfl) rfl ?_;(refine (hfr _).ret ?_);refine ⟨by exact fun _ => trivial,?_⟩)|(refine GoR.c c13 (by rfl) (by rfl) rfl ?_;(refine (hfr _).ret ?_))|(refine GoW.c c7 (by rfl) (by rfl) rfl ?_;(refine (new0 (S0 := S ++ [.obj r.c]) (most := 64) (by decide) (by decide) .refl).mono ?_; rintro _ S1 ⟨T, rfl, hT, _, _⟩);refine ⟨by exact fun _ => trivial,?_⟩)|(refine GoR.c c7 (by rfl) (by rfl) rfl ?_;(refine (new0 (S0 := S ++ [.obj r.c]) (most := 64) (by decide) (by decide) .refl).mono ?_; rintro _ S1 ⟨T, rfl, hT, _, _⟩))|refine GoR.s (by rfl) rfl rfl ?_|refine GoW.s (by rfl) rfl rfl (by exact fun _ => trivial) ?_|(refine GoR.splitG rfl (fun hc => ?_) (fun hc => ?_) <;> simp only [hc])|refine Go.condB rfl (fun hc => ?_) (fun hc => ?_))
  generalize ht : T.t = t at *
  refine Go.keep [(0, .sl none 6 l.length (rowsC l)), (3, .ptr S.length 0), (5, .ptr t 0), (7, .int .i64 ((0 : Nat) : Int))] (.cons .refl (.cons .refl (.cons .refl (.cons .refl (.nil))))) ?_
  refine Go.while (α := Nat × Tb × Mem) (fun x => l.length - x.1) (fun x => [(0, .sl none 6 l.length (rowsC l)), (3, .ptr S.length 0), (5, .ptr t 0), (7, .int .i64 (x.1 : Int))]) (fun x => x.2.2)
    (fun x => x.1 ≤ l.length ∧ x.2.1.t = t ∧ Tab0 (S ++ [.obj r.c]) x.2.2 x.2.1 64 (fold 64 (l.take x.1))) ?_ (0, T, S1) ⟨Nat.zero_le _, ht, hT⟩
  clear hT ht
  rintro ⟨i, T, S1⟩ ⟨hi, ht, hT⟩ next
  dsimp only at hi ht hT next
  by_cases h1 : i < l.length
  · have at1 := rowsAt h1
    obtain ⟨fx, ox⟩ := fewR_ok (hall _ (List.getElem_mem h1))
    obtain ⟨c', e, hpp⟩ : ∃ c' e, putT 64 (fold 64 (l.take i)) l[i] = (c', e) := ⟨_, _, rfl⟩
    have hp := put0 hT ht (by have := hT.ok.len; have := (hok i (by omega)).2; omega) (by decide) l[i] fx ox hpp
    have hc' : c' = fold 64 (l.take (i + 1)) := by rw [fold_succ h1, hpp]
    subst hc'
    simp only [Rw.c] at at1 hp
    repeat' (first|refine Go.a rfl ?_|refine Go.rg ?_|refine GoR.nil ?_|refine Go.ret ?_|refine Go.b rfl ?_|refine Go.rgS dmx (by decide) ?_|refine Go.rgD [14] (fun _ => True) dmx (by decide) 15 (by decide) (by trivial) ?_|refine GoW.nil rfl ?_|((first|refine GoR.o (by rfl) (by rfl) ?_|refine GoW.o (by rfl) (by rfl) ?_|refine GoW.rd (by rfl) (by rfl) ?_);(conv => arg 1;simp only [G,Z,Y,Gx,un_neg,cutD,decide_true,decide_false,simprocAttr,fb3,fb4,fb9,fb24,fb30,fb31,fb33,fb34,fb46,fb47,fb49,show decide ((i : Int) < (l.length : Int)) = true by simp; omega, at1, wrap_succ (show i < 4611686018427387904 by omega)]);first|show GoR ..|(show _ ∧ GoW ..;refine ⟨by exact fun _ => trivial,?_⟩)|(show _ ∧ _ ∧ _ ∧ GoW ..;refine ⟨rfl,by trivial,(fun H _=>by simp only [G,Z,Y,Gx,un_neg,cutD,decide_true,decide_false,simprocAttr,fb3,fb4,fb9,fb24,fb30,fb31,fb33,fb34,fb46,fb47,fb49,show decide ((i : Int) < (l.length : Int)) = true by simp; omega, at1, wrap_succ (show i < 4611686018427387904 by omega)]),?_⟩))|(refine GoW.c c8 (by rfl) (by rfl) rfl ?_;(refine hp.mono ?_; rintro _ S2 ⟨rfl, T2, e2, hT2, _⟩);refine ⟨by exact fun _ => trivial,?_⟩)|(refine GoR.c c8 (by rfl) (by rfl) rfl ?_;(refine hp.mono ?_; rintro _ S2 ⟨rfl, T2, e2, hT2, _⟩))|refine GoR.s (by rfl) rfl rfl ?_|refine GoW.s (by rfl) rfl rfl (by exact fun _ => trivial) ?_|(refine GoR.splitG rfl (fun hc => ?_) (fun hc => ?_) <;> simp only [hc])|refine Go.condB rfl (fun hc => ?_) (fun hc => ?_))
    refine Go.lpN ?_
    refine Go.keep [(0, .sl none 6 l.length (rowsC l)), (3, .ptr S.length 0), (5, .ptr t 0), (7, .int .i64 ((i + 1 : Nat) : Int))] (.cons .refl (.cons .refl (.cons .refl (.cons .refl (.nil))))) ?_
    exact next (i + 1, T2, S2) (by dsimp only; omega) ⟨h1, e2, hT2⟩
  clear next
  obtain rfl : i = l.length := by omega
  rw [List.take_length] at hT
  generalize fold 64 l = cur at *
  have hb : ∀ E, objAt (S1 ++ E) S.length = some [.str r.key, .int .i64 r.st.tick, .int .i64 r.st.inc, .int .i64 r.st.seq, .str r.st.org, .sl none 5 r.at_.length (attsC r.at_)] := fun E => objAt_old (hT.fr.obj (by rw [objAt_app0]; rfl) (by simp))
  have hb0 := hb []
  rw [List.append_nil] at hb0
  have hnb : S.length ∉ T.own := fun hx => by have := hT.lo _ hx; rw [List.length_append, List.length_singleton] at this; omega
  have hrw := rows0 (orc := O) hT ht
  have hg := get0 (orc := O) hT ht r.key
  obtain ⟨cur', e, hpp⟩ : ∃ c' e, putT 64 cur r = (c', e) := ⟨_, _, rfl⟩
  have hx : OkR ((lookK Rw.key cur r.key).getD noRow) := by
    cases hq : lookK Rw.key cur r.key with
    | none => exact ⟨by simp [noRow], by simp [noRow]⟩
    | some o => exact okn.ok o (lookK_mem hq).1
  have hp := fun E => put1 (hT.app E) ht (by omega) (by decide) r fr okr hpp
  have ho1 : ∀ c E, objAt (S1 ++ (.obj c :: E)) S1.length = some c := fun c E => by simp [objAt]
  generalize hxe : (lookK Rw.key cur r.key).getD noRow = x at *
  simp only [Rw.c] at hg hp
  repeat' (first|refine Go.a rfl ?_|refine Go.rg ?_|refine GoR.nil ?_|refine Go.ret ?_|refine Go.b rfl ?_|refine Go.rgS dmx (by decide) ?_|refine Go.rgD [14] (fun _ => True) dmx (by decide) 15 (by decide) (by trivial) ?_|refine GoW.nil rfl ?_|((first|refine GoR.o (by rfl) (by rfl) ?_|refine GoW.o (by rfl) (by rfl) ?_|refine GoW.rd (by rfl) (by rfl) ?_);(conv => arg 1;simp only [G,Z,Y,Gx,un_neg,cutD,decide_true,decide_false,simprocAttr,fb3,fb4,fb9,fb24,fb30,fb31,fb33,fb34,fb46,fb47,fb49,show decide ((l.length : Int) < (l.length : Int)) = false by simp, hb0, hb]);first|show GoR ..|(show _ ∧ GoW ..;refine ⟨by exact fun _ => trivial,?_⟩)|(show _ ∧ _ ∧ _ ∧ GoW ..;refine ⟨rfl,by trivial,(fun H _=>by simp only [G,Z,Y,Gx,un_neg,cutD,decide_true,decide_false,simprocAttr,fb3,fb4,fb9,fb24,fb30,fb31,fb33,fb34,fb46,fb47,fb49,show decide ((l.length : Int) < (l.length : Int)) = false by simp, hb0, hb]),?_⟩))|(refine GoW.c c9 (by rfl) (by rfl) rfl ?_;(refine hrw.ret ?_);refine ⟨by exact fun _ => trivial,?_⟩)|(refine GoR.c c9 (by rfl) (by rfl) rfl ?_;(refine hrw.ret ?_))|(refine GoW.c c10 (by rfl) (by rfl) rfl ?_;(refine hg.ret ?_);refine ⟨by exact fun _ => trivial,?_⟩)|(refine GoR.c c10 (by rfl) (by rfl) rfl ?_;(refine hg.ret ?_))|(refine GoW.c c8 (by rfl) (by rfl) rfl ?_;(refine (hp _).mono ?_; rintro _ S2 ⟨rfl, T2, e2, hT2, hob⟩);refine ⟨by exact fun _ => trivial,?_⟩)|(refine GoR.c c8 (by rfl) (by rfl) rfl ?_;(refine (hp _).mono ?_; rintro _ S2 ⟨rfl, T2, e2, hT2, hob⟩))|refine GoR.s (by rfl) rfl rfl ?_|refine GoW.s (by rfl) rfl rfl (by exact fun _ => trivial) ?_|(refine GoR.splitG rfl (fun hc => ?_) (fun hc => ?_) <;> simp only [hc])|refine Go.condB rfl (fun hc => ?_) (fun hc => ?_))
  have hn1 : S1.length ∉ T.own := fun hx => by have := hT.tab.lt _ hx; omega
  have hr2 : ∀ E, objAt (S2 ++ E) S.length = some [.str r.key, .int .i64 r.st.tick, .int .i64 r.st.inc, .int .i64 r.st.seq, .str r.st.org, .sl none 5 r.at_.length (attsC r.at_)] := fun E => objAt_old (hob _ _ hnb (hb _)).1
  have hr20 := hr2 []
  rw [List.append_nil] at hr20
  have hx2 : ∀ E, objAt (S2 ++ E) S1.length = some [.str x.key, .int .i64 x.st.tick, .int .i64 x.st.inc, .int .i64 x.st.seq, .str x.st.org, .sl none 5 x.at_.length (attsC x.at_)] := fun E => objAt_old (hob _ _ hn1 (ho1 _ _)).1
  have hg2 := get0 (orc := O) hT2 e2 r.key
  have hrw2 := fun E => rows0 (orc := O) (hT2.app E) e2
  have ho2 : ∀ c E, objAt (S2 ++ (.obj c :: E)) S2.length = some c := fun c E => by simp [objAt]
  by_cases he : e = 0
  rotate_left
  · have hcc : cur' = cur := by have := putT_err (most := 64) (l := cur) (r := r) (by rw [hpp]; exact he); rwa [hpp] at this
    subst hcc
    have hsm := fun S => rowSame (orc := O) x x (by have := hx.len; omega) hx.atl S
    rw [sameR_self] at hsm
    rw [hxe] at hg2
    obtain ⟨Eg, hEg⟩ := (hT2.app [.obj x.c]).fr.pre (by simp)
    rw [List.append_assoc] at hEg
    generalize (lookK Rw.key cur' r.key).isSome = bb at *
    simp only [Rw.c] at hsm hg2 hEg
    repeat' (first|refine Go.a rfl ?_|refine Go.rg ?_|refine GoR.nil ?_|refine Go.ret ?_|refine Go.b rfl ?_|refine Go.rgS dmx (by decide) ?_|refine Go.rgD [14] (fun _ => True) dmx (by decide) 15 (by decide) (by trivial) ?_|refine GoW.nil rfl ?_|((first|refine GoR.o (by rfl) (by rfl) ?_|refine GoW.o (by rfl) (by rfl) ?_|refine GoW.rd (by rfl) (by rfl) ?_);(conv => arg 1;simp only [G,Z,Y,Gx,un_neg,cutD,decide_true,decide_false,simprocAttr,fb3,fb4,fb9,fb24,fb30,fb31,fb33,fb34,fb46,fb47,fb49,hr20, hx2, ho2, show (e != 0) = true by simpa using he, beq_self_eq_true]);first|show GoR ..|(show _ ∧ GoW ..;refine ⟨by exact fun _ => trivial,?_⟩)|(show _ ∧ _ ∧ _ ∧ GoW ..;refine ⟨rfl,by trivial,(fun H _=>by simp only [G,Z,Y,Gx,un_neg,cutD,decide_true,decide_false,simprocAttr,fb3,fb4,fb9,fb24,fb30,fb31,fb33,fb34,fb46,fb47,fb49,hr20, hx2, ho2, show (e != 0) = true by simpa using he, beq_self_eq_true]),?_⟩))|(refine GoW.c c10 (by rfl) (by rfl) rfl ?_;(refine hg2.ret ?_);refine ⟨by exact fun _ => trivial,?_⟩)|(refine GoR.c c10 (by rfl) (by rfl) rfl ?_;(refine hg2.ret ?_))|(refine GoW.c c14 (by rfl) (by rfl) rfl ?_;(refine (hsm _).ret ?_);refine ⟨by exact fun _ => trivial,?_⟩)|(refine GoR.c c14 (by rfl) (by rfl) rfl ?_;(refine (hsm _).ret ?_))|(refine GoW.c c9 (by rfl) (by rfl) rfl ?_;(refine (hrw2 _).ret ?_);refine ⟨by exact fun _ => trivial,?_⟩)|(refine GoR.c c9 (by rfl) (by rfl) rfl ?_;(refine (hrw2 _).ret ?_))|refine GoR.s (by rfl) rfl rfl ?_|refine GoW.s (by rfl) rfl rfl (by exact fun _ => trivial) ?_|(refine GoR.splitG rfl (fun hc => ?_) (fun hc => ?_) <;> simp only [hc])|refine Go.condB rfl (fun hc => ?_) (fun hc => ?_))
    refine ⟨(by first | exact .inl rfl | exact .inr rfl), fin ?_⟩
    rw [resD_tmp (fn := Tryd.f5) rfl]
    simp only [optThen_some,resultD_tmp,resultD_cell,G,Z,Y,Gx,un_neg,cutD,decide_true,decide_false,simprocAttr,fb3,fb4,fb9,fb24,fb30,fb31,fb33,fb34,fb46,fb47,fb49]
    exact ⟨_, _, hEg, .bool, rfl⟩
  subst he
  obtain ⟨hc', hck, hnew⟩ := putT_room (most := 64) (l := cur) (r := r) (by omega) (by rw [hpp])
  rw [hpp] at hc'
  dsimp only at hc'
  subst hc'
  have hlk := lookK_put okn.rise r
  rw [hlk] at hg2
  have hsm := fun S => rowSame (orc := O) r r (by have := okr.len; omega) okr.atl S
  rw [sameR_self] at hsm
  have hor := fun S => of4 (orc := O) r (by have := okr.len; omega) S
  have hox := fun S => of4 (orc := O) x (by have := hx.len; omega) S
  have hcmp := fun S => refCompare (orc := O) r.st x.st S
  have fv := fun cs => fv_agg (cs := cs) Tryd.underlying49 (f := 1) rfl dag46 dsz46 rfl
  have hcp : (lookK Rw.key cur r.key).isSome = true → decide (cmpSt r.st x.st ≤ 0) = false := fun h => by
    obtain ⟨o, ho⟩ := Option.isSome_iff_exists.1 h
    rw [ho] at hxe
    have : o = x := hxe
    subst this
    have := hnew _ ho
    simp
    omega
  generalize (lookK Rw.key cur r.key).isSome = bb at *
  have hT3 := hT2.app [.obj r.c]
  have hb3 : ∀ E, objAt (S2 ++ [.obj r.c] ++ E) S.length = some [.str r.key, .int .i64 r.st.tick, .int .i64 r.st.inc, .int .i64 r.st.seq, .str r.st.org, .sl none 5 r.at_.length (attsC r.at_)] := fun E => by rw [List.append_assoc]; exact hr2 _
  simp only [Rw.c, St.c, Option.getD_some, Option.isSome_some] at hsm hg2 hor hox hcmp hT3 hb3
  generalize hq : decide (cmpSt r.st x.st ≤ 0) = q at *
  cases bb
  all_goals
    try (obtain rfl := hcp rfl)
    repeat' (first|refine Go.a rfl ?_|refine Go.rg ?_|refine GoR.nil ?_|refine Go.ret ?_|refine Go.b rfl ?_|refine Go.rgS dmx (by decide) ?_|refine Go.rgD [14] (fun H => objAt H S1.length = some [.str x.key, .int .i64 x.st.tick, .int .i64 x.st.inc, .int .i64 x.st.seq, .str x.st.org, .sl none 5 x.at_.length (attsC x.at_)]) dmx (by decide) 15 (by decide) (by (exact hx2 _)) ?_|refine GoW.nil rfl ?_|((first|refine GoR.o (by rfl) (by rfl) ?_|refine GoW.o (by rfl) (by rfl) ?_|refine GoW.rd (by rfl) (by rfl) ?_);(conv => arg 1;simp only [G,Z,Y,Gx,un_neg,cutD,decide_true,decide_false,simprocAttr,fb3,fb4,fb9,fb24,fb30,fb31,fb33,fb34,fb46,fb47,fb49,hr20, hr2, hx2, ho2, bne_self_eq_false, fv, hq]);first|show GoR ..|(show _ ∧ GoW ..;refine ⟨by (first|exact fun h => absurd h (by decide)|(intro _;(exact hx2 _))),?_⟩)|(show _ ∧ _ ∧ _ ∧ GoW ..;refine ⟨rfl,by (exact hx2 _),(fun H hI=>by (try dsimp only at hI);simp only [G,Z,Y,Gx,un_neg,cutD,decide_true,decide_false,simprocAttr,fb3,fb4,fb9,fb24,fb30,fb31,fb33,fb34,fb46,fb47,fb49,hr20, hr2, hx2, ho2, bne_self_eq_false, fv, hq,hI]),?_⟩))|(refine GoW.c c10 (by rfl) (by rfl) rfl ?_;(refine hg2.ret ?_);refine ⟨by (first|exact fun h => absurd h (by decide)|(intro _;(exact hx2 _))),?_⟩)|(refine GoR.c c10 (by rfl) (by rfl) rfl ?_;(refine hg2.ret ?_))|(refine GoW.c c14 (by rfl) (by rfl) rfl ?_;(refine (hsm _).ret ?_);refine ⟨by (first|exact fun h => absurd h (by decide)|(intro _;(exact hx2 _))),?_⟩)|(refine GoR.c c14 (by rfl) (by rfl) rfl ?_;(refine (hsm _).ret ?_))|(refine GoW.c c16 (by rfl) (by rfl) rfl ?_;(first | (refine (hor _).ret ?_) | (refine (hox _).ret ?_));refine ⟨by (first|exact fun h => absurd h (by decide)|(intro _;(exact hx2 _))),?_⟩)|(refine GoR.c c16 (by rfl) (by rfl) rfl ?_;(first | (refine (hor _).ret ?_) | (refine (hox _).ret ?_)))|(refine GoW.c c15 (by rfl) (by rfl) rfl ?_;(refine (hcmp _).ret ?_);refine ⟨by (first|exact fun h => absurd h (by decide)|(intro _;(exact hx2 _))),?_⟩)|(refine GoR.c c15 (by rfl) (by rfl) rfl ?_;(refine (hcmp _).ret ?_))|refine GoR.s (by rfl) rfl rfl ?_|refine GoW.s (by rfl) rfl rfl (by (first|exact fun h => absurd h (by decide)|(intro _;(exact hx2 _)))) ?_|(refine GoR.splitG rfl (fun hc => ?_) (fun hc => ?_) <;> simp only [hc])|refine Go.condB rfl (fun hc => ?_) (fun hc => ?_))
    clear hg2 hrw2 ho2 hx2 hr2 hr20 hob hrw hg hp ho1 hb hb0 hT hT2 hb3
    refine Go.keep [(3, .ptr S.length 0), (5, .ptr t 0), (8, .sl none 6 cur.length (rowsC cur)), (14, .int .i64 ((0 : Nat) : Int))] (.cons .refl (.cons .refl (.cons .refl (.cons .refl (.nil))))) ?_
    refine Go.while (α := Nat × Mem) (fun x => cur.length - x.1) (fun x => [(3, .ptr S.length 0), (5, .ptr t 0), (8, .sl none 6 cur.length (rowsC cur)), (14, .int .i64 (x.1 : Int))]) (fun x => x.2) (fun x => x.1 ≤ cur.length ∧ Tab0 (S ++ [.obj r.c]) x.2 T2 64 (putK Rw.key cur r)) ?_ (0, _) ⟨Nat.zero_le _, hT3⟩
    clear hT3
    rintro ⟨i, M⟩ ⟨hi, hT⟩ next
    dsimp only at hi hT next
    by_cases h1 : i < cur.length
    · have a1 := rowsAt h1
      have k1 : (rowsC cur)[i * 6]? = some (.str cur[i].key) := flat_cell0 row_len cur i h1 (by omega)
      have hb : ∀ E, objAt (M ++ E) S.length = some [.str r.key, .int .i64 r.st.tick, .int .i64 r.st.inc, .int .i64 r.st.seq, .str r.st.org, .sl none 5 r.at_.length (attsC r.at_)] := fun E => objAt_old (hT.fr.obj (by rw [objAt_app0]; rfl) (by simp))
      have hg := get0 (orc := O) hT e2 cur[i].key
      by_cases hk : r.key = cur[i].key
      · rw [← hk, hlk, hk] at hg
        have dk : decide (cur[i].key = r.key) = true := by simp [hk]
        simp only [Rw.c, Option.getD_some, Option.isSome_some] at hg a1
        repeat' (first|refine Go.a rfl ?_|refine Go.rg ?_|refine GoR.nil ?_|refine Go.ret ?_|refine Go.b rfl ?_|refine Go.rgS dmx (by decide) ?_|refine Go.rgD [14] (fun _ => True) dmx (by decide) 15 (by decide) (by trivial) ?_|refine GoW.nil rfl ?_|((first|refine GoR.o (by rfl) (by rfl) ?_|refine GoW.o (by rfl) (by rfl) ?_|refine GoW.rd (by rfl) (by rfl) ?_);(conv => arg 1;simp only [G,Z,Y,Gx,un_neg,cutD,decide_true,decide_false,simprocAttr,fb3,fb4,fb9,fb24,fb30,fb31,fb33,fb34,fb46,fb47,fb49,show decide ((i : Int) < (cur.length : Int)) = true by simp; omega, a1, k1, hb, dk, wrap_succ (show i < 4611686018427387904 by omega)]);first|show GoR ..|(show _ ∧ GoW ..;refine ⟨by exact fun _ => trivial,?_⟩)|(show _ ∧ _ ∧ _ ∧ GoW ..;refine ⟨rfl,by trivial,(fun H _=>by simp only [G,Z,Y,Gx,un_neg,cutD,decide_true,decide_false,simprocAttr,fb3,fb4,fb9,fb24,fb30,fb31,fb33,fb34,fb46,fb47,fb49,show decide ((i : Int) < (cur.length : Int)) = true by simp; omega, a1, k1, hb, dk, wrap_succ (show i < 4611686018427387904 by omega)]),?_⟩))|(refine GoW.c c10 (by rfl) (by rfl) rfl ?_;(refine hg.ret ?_);refine ⟨by exact fun _ => trivial,?_⟩)|(refine GoR.c c10 (by rfl) (by rfl) rfl ?_;(refine hg.ret ?_))|(refine GoW.c c14 (by rfl) (by rfl) rfl ?_;(refine (hsm _).ret ?_);refine ⟨by exact fun _ => trivial,?_⟩)|(refine GoR.c c14 (by rfl) (by rfl) rfl ?_;(refine (hsm _).ret ?_))|refine GoR.s (by rfl) rfl rfl ?_|refine GoW.s (by rfl) rfl rfl (by exact fun _ => trivial) ?_|(refine GoR.splitG rfl (fun hc => ?_) (fun hc => ?_) <;> simp only [hc])|refine Go.condB rfl (fun hc => ?_) (fun hc => ?_))
        refine Go.lpN ?_
        refine Go.keep [(3, .ptr S.length 0), (5, .ptr t 0), (8, .sl none 6 cur.length (rowsC cur)), (14, .int .i64 ((i + 1 : Nat) : Int))] (.cons .refl (.cons .refl (.cons .refl (.cons .refl (.nil))))) ?_
        exact next (i + 1, _) (by dsimp only; omega) ⟨h1, hT.app _⟩
      · rw [lookK_put_ne okn.rise r hk, lookK_of_mem okn.rise (List.getElem_mem h1)] at hg
        have dk : decide (cur[i].key = r.key) = false := by simpa using fun e => hk e.symm
        have hy := okn.ok _ (List.getElem_mem h1)
        have hsm2 := fun S => rowSame (orc := O) cur[i] cur[i] (by have := hy.len; omega) hy.atl S
        rw [sameR_self] at hsm2
        have ho : ∀ E, objAt (M ++ (.obj cur[i].c :: E)) M.length = some cur[i].c := fun E => by simp [objAt]
        simp only [Rw.c, Option.getD_some, Option.isSome_some] at hg a1 hsm2 ho
        repeat' (first|refine Go.a rfl ?_|refine Go.rg ?_|refine GoR.nil ?_|refine Go.ret ?_|refine Go.b rfl ?_|refine Go.rgS dmx (by decide) ?_|refine Go.rgD [14] (fun _ => True) dmx (by decide) 15 (by decide) (by trivial) ?_|refine GoW.nil rfl ?_|((first|refine GoR.o (by rfl) (by rfl) ?_|refine GoW.o (by rfl) (by rfl) ?_|refine GoW.rd (by rfl) (by rfl) ?_);(conv => arg 1;simp only [G,Z,Y,Gx,un_neg,cutD,decide_true,decide_false,simprocAttr,fb3,fb4,fb9,fb24,fb30,fb31,fb33,fb34,fb46,fb47,fb49,show decide ((i : Int) < (cur.length : Int)) = true by simp; omega, a1, k1, hb, ho, dk, wrap_succ (show i < 4611686018427387904 by omega)]);first|show GoR ..|(show _ ∧ GoW ..;refine ⟨by exact fun _ => trivial,?_⟩)|(show _ ∧ _ ∧ _ ∧ GoW ..;refine ⟨rfl,by trivial,(fun H _=>by simp only [G,Z,Y,Gx,un_neg,cutD,decide_true,decide_false,simprocAttr,fb3,fb4,fb9,fb24,fb30,fb31,fb33,fb34,fb46,fb47,fb49,show decide ((i : Int) < (cur.length : Int)) = true by simp; omega, a1, k1, hb, ho, dk, wrap_succ (show i < 4611686018427387904 by omega)]),?_⟩))|(refine GoW.c c10 (by rfl) (by rfl) rfl ?_;(refine hg.ret ?_);refine ⟨by exact fun _ => trivial,?_⟩)|(refine GoR.c c10 (by rfl) (by rfl) rfl ?_;(refine hg.ret ?_))|(refine GoW.c c14 (by rfl) (by rfl) rfl ?_;(refine (hsm2 _).ret ?_);refine ⟨by exact fun _ => trivial,?_⟩)|(refine GoR.c c14 (by rfl) (by rfl) rfl ?_;(refine (hsm2 _).ret ?_))|refine GoR.s (by rfl) rfl rfl ?_|refine GoW.s (by rfl) rfl rfl (by exact fun _ => trivial) ?_|(refine GoR.splitG rfl (fun hc => ?_) (fun hc => ?_) <;> simp only [hc])|refine Go.condB rfl (fun hc => ?_) (fun hc => ?_))
        refine Go.lpN ?_
        refine Go.keep [(3, .ptr S.length 0), (5, .ptr t 0), (8, .sl none 6 cur.length (rowsC cur)), (14, .int .i64 ((i + 1 : Nat) : Int))] (.cons .refl (.cons .refl (.cons .refl (.cons .refl (.nil))))) ?_
        exact next (i + 1, _) (by dsimp only; omega) ⟨h1, hT.app _⟩
    · clear next
      obtain rfl : i = cur.length := by omega
      obtain ⟨Eg, hEg⟩ := hT.fr.pre (by simp)
      rw [List.append_assoc] at hEg
      repeat' (first|refine Go.a rfl ?_|refine Go.rg ?_|refine GoR.nil ?_|refine Go.ret ?_|refine Go.b rfl ?_|refine Go.rgS dmx (by decide) ?_|refine Go.rgD [14] (fun _ => True) dmx (by decide) 15 (by decide) (by trivial) ?_|refine GoW.nil rfl ?_|((first|refine GoR.o (by rfl) (by rfl) ?_|refine GoW.o (by rfl) (by rfl) ?_|refine GoW.rd (by rfl) (by rfl) ?_);(conv => arg 1;simp only [G,Z,Y,Gx,un_neg,cutD,decide_true,decide_false,simprocAttr,fb3,fb4,fb9,fb24,fb30,fb31,fb33,fb34,fb46,fb47,fb49,show decide ((cur.length : Int) < (cur.length : Int)) = false by simp]);first|show GoR ..|(show _ ∧ GoW ..;refine ⟨by exact fun _ => trivial,?_⟩)|(show _ ∧ _ ∧ _ ∧ GoW ..;refine ⟨rfl,by trivial,(fun H _=>by simp only [G,Z,Y,Gx,un_neg,cutD,decide_true,decide_false,simprocAttr,fb3,fb4,fb9,fb24,fb30,fb31,fb33,fb34,fb46,fb47,fb49,show decide ((cur.length : Int) < (cur.length : Int)) = false by simp]),?_⟩))|refine GoR.s (by rfl) rfl rfl ?_|refine GoW.s (by rfl) rfl rfl (by exact fun _ => trivial) ?_|(refine GoR.splitG rfl (fun hc => ?_) (fun hc => ?_) <;> simp only [hc])|refine Go.condB rfl (fun hc => ?_) (fun hc => ?_))
      refine ⟨(by first | exact .inl rfl | exact .inr rfl), fin ?_⟩
      rw [resD_tmp (fn := Tryd.f5) rfl]
      simp only [optThen_some,resultD_tmp,resultD_cell,G,Z,Y,Gx,un_neg,cutD,decide_true,decide_false,simprocAttr,fb3,fb4,fb9,fb24,fb30,fb31,fb33,fb34,fb46,fb47,fb49]
      exact ⟨_, _, hEg, .bool, rfl⟩
end Go.Proofs.DuT
