/- The program's parser: products, sums, factors. -/
import Derived.Test.YtpdnaoahghfaoaaGreatDoorDeP3
set_option linter.unusedSimpArgs false
set_option linter.unusedVariables false
namespace Go.Proofs.DeT
open Go Go.DM
set_option maxRecDepth 100000

theorem prdW {l : List Tok} (hl : l.length < 100000) {o f : Nat} (hp : PartW l o 160 (facF l f)) : PartW l o 133 (prdF l f) := by
  intro M n0 hF st r hb hr
  obtain ⟨m1, m2, m3, m4, m5, m6, m7, m8, m9, m10, m11⟩ := hF.facts
  have hf := fun own (E : Mem) => foldW hl (fn := Tryz.f160) Tryz.func160 (by decide) (by rfl) hp mulS (by decide) own f (hF.app E) st r hb hr
  refine ⟨(hf none []).1, ?_⟩
  have hf2 : ∀ own (E : Mem), CallD Tryz.prog O 132 [.ptr o 0, .fn (.func 160) [.ptr o 0] [], .sl own 1 3 [.str (⟨#[42]⟩ : ByteArray), .str (⟨#[47]⟩ : ByteArray), .str (⟨#[37]⟩ : ByteArray)]] (M (pC l st) ++ E) fun d S' => S' = M (pC l r.2) ++ E ∧ d = .agg r.1.c := fun own E => (hf own E).2
  clear hf
  obtain ⟨nd, st1⟩ := r
  obtain ⟨y1, hy1, hk1⟩ := kidY_of nd
  have ho1 := hk1.one
  have hc1 := hk1.cells
  simp only [hy1, ndX] at hf2
  refine CallD.updE hF ?_
  refine CallD.eb Tryz.func133 rfl Tryz.ntmps133 (by rfl) ?_
  repeat' (first|refine Go.a rfl ?_|refine Go.rg ?_|refine GoR.nil ?_|refine Go.ret ?_|refine Go.b rfl ?_|(refine GoR.o (by rfl) (by rfl) ?_;(conv => arg 1;simp only [G,Z,Y,Gx,un_neg,cutD,decide_true,decide_false,simprocAttr,fb2,fb9,fb73,fb75,fb100,m1, m2, m3, m4, m5, m6, m7, m8, m9, m10, m11, ho1, hc1]);show GoR ..)|(refine GoR.c c132 (by rfl) (by rfl) rfl ?_;(refine CallD.ret2 (hf2 _ _) ?_))|refine Go.condB rfl (fun hc => ?_) (fun hc => ?_))
  refine ⟨(by first | exact .inl rfl | exact .inr rfl), fin ?_⟩
  rw [resD_cell (fn := Tryz.f133) rfl]
  simp only [optThen_some,resultD_tmp,resultD_cell,G,Z,Y,Gx,un_neg,cutD,decide_true,decide_false,simprocAttr,fb2,fb9,fb73,fb75,fb100,m1, m2, m3, m4, m5, m6, m7, m8, m9, m10, m11, ho1, hc1]
  exact ⟨_, rfl, pC_low l _, .agg' (ndX_wf hk1), nd_low _⟩
theorem sumW {l : List Tok} (hl : l.length < 100000) {o f : Nat} (hp : PartW l o 160 (facF l f)) : PartW l o 92 (sumF l f) := by
  intro M n0 hF st r hb hr
  obtain ⟨m1, m2, m3, m4, m5, m6, m7, m8, m9, m10, m11⟩ := hF.facts
  have hf := fun own (E : Mem) => foldW hl (fn := Tryz.f133) Tryz.func133 (by decide) (by rfl) (prdW hl hp) addS (by decide) own f (hF.app E) st r hb hr
  refine ⟨(hf none []).1, ?_⟩
  have hf2 : ∀ own (E : Mem), CallD Tryz.prog O 132 [.ptr o 0, .fn (.func 133) [.ptr o 0] [], .sl own 1 2 [.str (⟨#[43]⟩ : ByteArray), .str (⟨#[45]⟩ : ByteArray)]] (M (pC l st) ++ E) fun d S' => S' = M (pC l r.2) ++ E ∧ d = .agg r.1.c := fun own E => (hf own E).2
  clear hf
  obtain ⟨nd, st1⟩ := r
  obtain ⟨y1, hy1, hk1⟩ := kidY_of nd
  have ho1 := hk1.one
  have hc1 := hk1.cells
  simp only [hy1, ndX] at hf2
  refine CallD.updE hF ?_
  refine CallD.eb Tryz.func92 rfl Tryz.ntmps92 (by rfl) ?_
  repeat' (first|refine Go.a rfl ?_|refine Go.rg ?_|refine GoR.nil ?_|refine Go.ret ?_|refine Go.b rfl ?_|(refine GoR.o (by rfl) (by rfl) ?_;(conv => arg 1;simp only [G,Z,Y,Gx,un_neg,cutD,decide_true,decide_false,simprocAttr,fb2,fb9,fb73,fb75,fb100,m1, m2, m3, m4, m5, m6, m7, m8, m9, m10, m11, ho1, hc1]);show GoR ..)|(refine GoR.c c132 (by rfl) (by rfl) rfl ?_;(refine CallD.ret2 (hf2 _ _) ?_))|refine Go.condB rfl (fun hc => ?_) (fun hc => ?_))
  refine ⟨(by first | exact .inl rfl | exact .inr rfl), fin ?_⟩
  rw [resD_cell (fn := Tryz.f92) rfl]
  simp only [optThen_some,resultD_tmp,resultD_cell,G,Z,Y,Gx,un_neg,cutD,decide_true,decide_false,simprocAttr,fb2,fb9,fb73,fb75,fb100,m1, m2, m3, m4, m5, m6, m7, m8, m9, m10, m11, ho1, hc1]
  exact ⟨_, rfl, pC_low l _, .agg' (ndX_wf hk1), nd_low _⟩

theorem nilN_low {m : Nat} : DLow m (.agg [.str ⟨#[]⟩, .str ⟨#[]⟩, .int .i64 0, .sl none 4 0 (ndsC [])]) := by
  have := nd_low (m := m) nilN
  rw [nilN, Nd.c_mk] at this
  exact this
theorem isT_one {l : List Tok} {i : Nat} (h : i < l.length) {s : ByteArray} : isT l i [s] = (decide (l[i].k = 3) && decide (l[i].t = s)) := by
  unfold isT
  rw [List.getElem?_eq_getElem h]
  simp
set_option maxHeartbeats 4000000 in
theorem facW {l : List Tok} (hl : l.length < 100000) {o : Nat} : ∀ f, PartW l o 160 (facF l f)
  | 0 => by intro M n0 hF st r hb hr; cases hr
  | f + 1 => by
    intro M n0 hF st r hb hr
    have ihf := facW hl (o := o) f
    have ihs := sumW hl ihf
    obtain ⟨m1, m2, m3, m4, m5, m6, m7, m8, m9, m10, m11⟩ := hF.facts
    have hq := fun own (E : Mem) (s : ByteArray) => pIsE hF E l st own [s] (by simp)
    rw [facF_succ] at hr
    obtain ⟨i, n, e⟩ := st
    by_cases he : e ≠ 0
    · rw [if_pos he] at hr
      cases hr
      refine ⟨hb, CallD.updE hF ?_⟩
      refine CallD.eb Tryz.func160 rfl Tryz.ntmps160 (by rfl) ?_
      repeat' (first|refine Go.a rfl ?_|refine Go.rg ?_|refine GoR.nil ?_|refine Go.ret ?_|refine Go.b rfl ?_|refine Go.rgS dmx (by decide) ?_|refine Go.rgD [3, 7, 9] (fun _ => True) dmx (by decide) 11 (by decide) (by trivial) ?_|refine GoW.nil rfl ?_|((first|refine GoR.o (by rfl) (by rfl) ?_|refine GoW.o (by rfl) (by rfl) ?_|refine GoW.rd (by rfl) (by rfl) ?_);(conv => arg 1;simp only [G,Z,Y,Gx,un_neg,cutD,decide_true,decide_false,simprocAttr,fb2,fb3,fb9,fb35,fb73,fb75,fb90,fb100,fb146,fb148,m1, m2, m3, m4, m5, m6, m7, m8, m9, m10, m11, pC_at, show (e == 0) = false by simpa using he, show (e != 0) = true by simpa using he]);first|show GoR ..|(show _ ∧ GoW ..;refine ⟨by exact fun _ => trivial,?_⟩)|(show _ ∧ _ ∧ _ ∧ GoW ..;refine ⟨rfl,by trivial,(fun H _=>by simp only [G,Z,Y,Gx,un_neg,cutD,decide_true,decide_false,simprocAttr,fb2,fb3,fb9,fb35,fb73,fb75,fb90,fb100,fb146,fb148,m1, m2, m3, m4, m5, m6, m7, m8, m9, m10, m11, pC_at, show (e == 0) = false by simpa using he, show (e != 0) = true by simpa using he]),?_⟩))|refine Go.condB rfl (fun hc => ?_) (fun hc => ?_))
      refine ⟨(by first | exact .inl rfl | exact .inr rfl), fin ?_⟩
      rw [resD_cell (fn := Tryz.f160) rfl]
      simp only [optThen_some,resultD_tmp,resultD_cell,G,Z,Y,Gx,un_neg,cutD,decide_true,decide_false,simprocAttr,fb2,fb3,fb9,fb35,fb73,fb75,fb90,fb100,fb146,fb148,m1, m2, m3, m4, m5, m6, m7, m8, m9, m10, m11]
      exact ⟨_, rfl, pC_low l _, nil_wf, nd_low _⟩
    rw [if_neg he] at hr
    obtain rfl : e = 0 := Decidable.not_not.1 he
    have hfail := fun (E : Mem) x => pFailE hF E l ⟨i, n, 0⟩ rfl x
    cases hqi : l[i]? with
    | none =>
      dsimp only at hr
      rw [hqi] at hr
      cases hr
      have hge : l.length ≤ i := by simpa using hqi
      refine ⟨⟨hb.1, hb.2.1, nz2⟩, CallD.updE hF ?_⟩
      refine CallD.eb Tryz.func160 rfl Tryz.ntmps160 (by rfl) ?_
      repeat' (first|refine Go.a rfl ?_|refine Go.rg ?_|refine GoR.nil ?_|refine Go.ret ?_|refine Go.b rfl ?_|refine Go.rgS dmx (by decide) ?_|refine Go.rgD [3, 7, 9] (fun _ => True) dmx (by decide) 11 (by decide) (by trivial) ?_|refine GoW.nil rfl ?_|((first|refine GoR.o (by rfl) (by rfl) ?_|refine GoW.o (by rfl) (by rfl) ?_|refine GoW.rd (by rfl) (by rfl) ?_);(conv => arg 1;simp only [G,Z,Y,Gx,un_neg,cutD,decide_true,decide_false,simprocAttr,fb2,fb3,fb9,fb35,fb73,fb75,fb90,fb100,fb146,fb148,m1, m2, m3, m4, m5, m6, m7, m8, m9, m10, m11, pC_at, show decide ((i : Int) ≥ (l.length : Int)) = true by simp; omega, show decide ((l.length : Int) ≤ (i : Int)) = true by simp; omega, nilN, Nd.c_mk]);first|show GoR ..|(show _ ∧ GoW ..;refine ⟨by exact fun _ => trivial,?_⟩)|(show _ ∧ _ ∧ _ ∧ GoW ..;refine ⟨rfl,by trivial,(fun H _=>by simp only [G,Z,Y,Gx,un_neg,cutD,decide_true,decide_false,simprocAttr,fb2,fb3,fb9,fb35,fb73,fb75,fb90,fb100,fb146,fb148,m1, m2, m3, m4, m5, m6, m7, m8, m9, m10, m11, pC_at, show decide ((i : Int) ≥ (l.length : Int)) = true by simp; omega, show decide ((l.length : Int) ≤ (i : Int)) = true by simp; omega, nilN, Nd.c_mk]),?_⟩))|(refine GoW.c c190 (by rfl) (by rfl) rfl ?_;(refine CallD.ret2 (hfail _ _) ?_);refine ⟨by exact fun _ => trivial,?_⟩)|(refine GoR.c c190 (by rfl) (by rfl) rfl ?_;(refine CallD.ret2 (hfail _ _) ?_))|refine Go.condB rfl (fun hc => ?_) (fun hc => ?_))
      refine ⟨(by first | exact .inl rfl | exact .inr rfl), fin ?_⟩
      rw [resD_cell (fn := Tryz.f160) rfl]
      simp only [optThen_some,resultD_tmp,resultD_cell,G,Z,Y,Gx,un_neg,cutD,decide_true,decide_false,simprocAttr,fb2,fb3,fb9,fb35,fb73,fb75,fb90,fb100,fb146,fb148,m1, m2, m3, m4, m5, m6, m7, m8, m9, m10, m11, nilN, Nd.c_mk]
      exact ⟨_, rfl, pC_low l _, .refl, nilN_low⟩
    | some t =>
      dsimp only at hr
      rw [hqi] at hr
      obtain ⟨hi, rfl⟩ := List.getElem?_eq_some_iff.1 hqi
      dsimp only at hr
      clear hqi
      have d1 : decide ((i : Int) ≥ (l.length : Int)) = false := by simp; omega
      have d2 : decide ((l.length : Int) ≤ (i : Int)) = false := by simp; omega
      have hn : n ≤ 32 := hb.2.2 rfl
      have hmade := fun (E : Mem) => pMadeE hF E l ⟨i, n, 0⟩ rfl (by dsimp only; omega) (by dsimp only; omega)
      by_cases hk : l[i].k = 3
      · rw [if_pos hk] at hr
        by_cases ho : l[i].t = (⟨#[40]⟩ : ByteArray)
        · rw [if_pos ho] at hr
          have hq1 : isT l i [(⟨#[40]⟩ : ByteArray)] = true := by rw [isT_one hi]; simp [hk, ho]
          cases hs : sumF l f ⟨i + 1, n, 0⟩ with
          | none => rw [hs] at hr; cases hr
          | some r1 =>
          rw [hs, Option.map_some] at hr
          have hbs : Bs l ⟨i + 1, n, 0⟩ := ⟨hi, by dsimp only; omega, fun _ => hn⟩
          obtain ⟨hb1, _⟩ := ihs.at hF [] hbs hs
          have hp1 := fun E => (ihs.at hF E hbs hs).2
          obtain ⟨⟨op1, nm1, k1, ks1⟩, ⟨i1, n1, e1⟩⟩ := r1
          obtain ⟨y1, hy1, hk1⟩ := kidY_of (.mk op1 nm1 k1 ks1)
          simp only [hy1, ndX, Nd.op, Nd.name, Nd.n] at hp1
          have ho1 := hk1.one
          have hc1 := hk1.cells
          have hend := fun own (E : Mem) (s : ByteArray) => pIsE hF E l ⟨i1, n1, e1⟩ own [s] (by simp)
          simp only [closeF] at hr
          by_cases he1 : e1 ≠ 0
          · rw [if_pos he1] at hr
            cases hr
            refine ⟨hb1, CallD.updE hF ?_⟩
            refine CallD.eb Tryz.func160 rfl Tryz.ntmps160 (by rfl) ?_
            repeat' (first|refine Go.a rfl ?_|refine Go.rg ?_|refine GoR.nil ?_|refine Go.ret ?_|refine Go.b rfl ?_|refine Go.rgS dmx (by decide) ?_|refine Go.rgD [3, 7, 9] (fun _ => True) dmx (by decide) 11 (by decide) (by trivial) ?_|refine GoW.nil rfl ?_|((first|refine GoR.o (by rfl) (by rfl) ?_|refine GoW.o (by rfl) (by rfl) ?_|refine GoW.rd (by rfl) (by rfl) ?_);(conv => arg 1;simp only [G,Z,Y,Gx,un_neg,cutD,decide_true,decide_false,simprocAttr,fb2,fb3,fb9,fb35,fb73,fb75,fb90,fb100,fb146,fb148,m1, m2, m3, m4, m5, m6, m7, m8, m9, m10, m11, pC_at, pC_wr, d1, d2, hq1, ho1, hc1, wrap_succ (show i < 4611686018427387904 by omega), show (e1 == 0) = false by simpa using he1, show (e1 != 0) = true by simpa using he1]);first|show GoR ..|(show _ ∧ GoW ..;refine ⟨by exact fun _ => trivial,?_⟩)|(show _ ∧ _ ∧ _ ∧ GoW ..;refine ⟨rfl,by trivial,(fun H _=>by simp only [G,Z,Y,Gx,un_neg,cutD,decide_true,decide_false,simprocAttr,fb2,fb3,fb9,fb35,fb73,fb75,fb90,fb100,fb146,fb148,m1, m2, m3, m4, m5, m6, m7, m8, m9, m10, m11, pC_at, pC_wr, d1, d2, hq1, ho1, hc1, wrap_succ (show i < 4611686018427387904 by omega), show (e1 == 0) = false by simpa using he1, show (e1 != 0) = true by simpa using he1]),?_⟩))|(refine GoW.c c158 (by rfl) (by rfl) rfl ?_;(refine CallD.ret2 (hq _ _ _) ?_);refine ⟨by exact fun _ => trivial,?_⟩)|(refine GoR.c c158 (by rfl) (by rfl) rfl ?_;(refine CallD.ret2 (hq _ _ _) ?_))|(refine GoW.c c92 (by rfl) (by rfl) rfl ?_;(refine CallD.ret2 (hp1 _) ?_);refine ⟨by exact fun _ => trivial,?_⟩)|(refine GoR.c c92 (by rfl) (by rfl) rfl ?_;(refine CallD.ret2 (hp1 _) ?_))|refine Go.condB rfl (fun hc => ?_) (fun hc => ?_))
            refine ⟨(by first | exact .inl rfl | exact .inr rfl), fin ?_⟩
            rw [resD_cell (fn := Tryz.f160) rfl]
            simp only [optThen_some,resultD_tmp,resultD_cell,G,Z,Y,Gx,un_neg,cutD,decide_true,decide_false,simprocAttr,fb2,fb3,fb9,fb35,fb73,fb75,fb90,fb100,fb146,fb148,m1, m2, m3, m4, m5, m6, m7, m8, m9, m10, m11]
            exact ⟨_, rfl, pC_low l _, nil_wf, nd_low _⟩
          · rw [if_neg he1] at hr
            obtain rfl : e1 = 0 := Decidable.not_not.1 he1
            by_cases hx : isT l i1 endS = true
            · rw [if_pos hx] at hr
              cases hr
              obtain ⟨hi1, _⟩ := isT_lt hx
              have hx2 : isT l i1 [(⟨#[41]⟩ : ByteArray)] = true := hx
              refine ⟨⟨hi1, hb1.2.1, fun _ => hb1.2.2 rfl⟩, CallD.updE hF ?_⟩
              refine CallD.eb Tryz.func160 rfl Tryz.ntmps160 (by rfl) ?_
              repeat' (first|refine Go.a rfl ?_|refine Go.rg ?_|refine GoR.nil ?_|refine Go.ret ?_|refine Go.b rfl ?_|refine Go.rgS dmx (by decide) ?_|refine Go.rgD [3, 7, 9] (fun _ => True) dmx (by decide) 11 (by decide) (by trivial) ?_|refine GoW.nil rfl ?_|((first|refine GoR.o (by rfl) (by rfl) ?_|refine GoW.o (by rfl) (by rfl) ?_|refine GoW.rd (by rfl) (by rfl) ?_);(conv => arg 1;simp only [G,Z,Y,Gx,un_neg,cutD,decide_true,decide_false,simprocAttr,fb2,fb3,fb9,fb35,fb73,fb75,fb90,fb100,fb146,fb148,m1, m2, m3, m4, m5, m6, m7, m8, m9, m10, m11, pC_at, pC_wr, d1, d2, hq1, hx2, ho1, hc1, Bool.not_true, wrap_succ (show i < 4611686018427387904 by omega), wrap_succ (show i1 < 4611686018427387904 by omega)]);first|show GoR ..|(show _ ∧ GoW ..;refine ⟨by exact fun _ => trivial,?_⟩)|(show _ ∧ _ ∧ _ ∧ GoW ..;refine ⟨rfl,by trivial,(fun H _=>by simp only [G,Z,Y,Gx,un_neg,cutD,decide_true,decide_false,simprocAttr,fb2,fb3,fb9,fb35,fb73,fb75,fb90,fb100,fb146,fb148,m1, m2, m3, m4, m5, m6, m7, m8, m9, m10, m11, pC_at, pC_wr, d1, d2, hq1, hx2, ho1, hc1, Bool.not_true, wrap_succ (show i < 4611686018427387904 by omega), wrap_succ (show i1 < 4611686018427387904 by omega)]),?_⟩))|(refine GoW.c c158 (by rfl) (by rfl) rfl ?_;(first | refine CallD.ret2 (hend _ _ (⟨#[41]⟩ : ByteArray)) ?_ | refine CallD.ret2 (hq _ _ _) ?_);refine ⟨by exact fun _ => trivial,?_⟩)|(refine GoR.c c158 (by rfl) (by rfl) rfl ?_;(first | refine CallD.ret2 (hend _ _ (⟨#[41]⟩ : ByteArray)) ?_ | refine CallD.ret2 (hq _ _ _) ?_))|(refine GoW.c c92 (by rfl) (by rfl) rfl ?_;(refine CallD.ret2 (hp1 _) ?_);refine ⟨by exact fun _ => trivial,?_⟩)|(refine GoR.c c92 (by rfl) (by rfl) rfl ?_;(refine CallD.ret2 (hp1 _) ?_))|refine Go.condB rfl (fun hc => ?_) (fun hc => ?_))
              refine ⟨(by first | exact .inl rfl | exact .inr rfl), fin ?_⟩
              rw [resD_cell (fn := Tryz.f160) rfl]
              simp only [optThen_some,resultD_tmp,resultD_cell,G,Z,Y,Gx,un_neg,cutD,decide_true,decide_false,simprocAttr,fb2,fb3,fb9,fb35,fb73,fb75,fb90,fb100,fb146,fb148,m1, m2, m3, m4, m5, m6, m7, m8, m9, m10, m11, ho1, hc1]
              exact ⟨_, rfl, pC_low l _, .agg' (ndX_wf (n := .mk op1 nm1 k1 ks1) hk1), nd_low _⟩
            · rw [if_neg hx] at hr
              cases hr
              have hx2 : isT l i1 [(⟨#[41]⟩ : ByteArray)] = false := Bool.eq_false_iff.2 hx
              have hfail1 := fun (E : Mem) x => pFailE hF E l ⟨i1, n1, 0⟩ rfl x
              refine ⟨⟨hb1.1, hb1.2.1, nz2⟩, CallD.updE hF ?_⟩
              refine CallD.eb Tryz.func160 rfl Tryz.ntmps160 (by rfl) ?_
              repeat' (first|refine Go.a rfl ?_|refine Go.rg ?_|refine GoR.nil ?_|refine Go.ret ?_|refine Go.b rfl ?_|refine Go.rgS dmx (by decide) ?_|refine Go.rgD [3, 7, 9] (fun _ => True) dmx (by decide) 11 (by decide) (by trivial) ?_|refine GoW.nil rfl ?_|((first|refine GoR.o (by rfl) (by rfl) ?_|refine GoW.o (by rfl) (by rfl) ?_|refine GoW.rd (by rfl) (by rfl) ?_);(conv => arg 1;simp only [G,Z,Y,Gx,un_neg,cutD,decide_true,decide_false,simprocAttr,fb2,fb3,fb9,fb35,fb73,fb75,fb90,fb100,fb146,fb148,m1, m2, m3, m4, m5, m6, m7, m8, m9, m10, m11, pC_at, pC_wr, d1, d2, hq1, hx2, ho1, hc1, Bool.not_false, wrap_succ (show i < 4611686018427387904 by omega), nilN, Nd.c_mk]);first|show GoR ..|(show _ ∧ GoW ..;refine ⟨by exact fun _ => trivial,?_⟩)|(show _ ∧ _ ∧ _ ∧ GoW ..;refine ⟨rfl,by trivial,(fun H _=>by simp only [G,Z,Y,Gx,un_neg,cutD,decide_true,decide_false,simprocAttr,fb2,fb3,fb9,fb35,fb73,fb75,fb90,fb100,fb146,fb148,m1, m2, m3, m4, m5, m6, m7, m8, m9, m10, m11, pC_at, pC_wr, d1, d2, hq1, hx2, ho1, hc1, Bool.not_false, wrap_succ (show i < 4611686018427387904 by omega), nilN, Nd.c_mk]),?_⟩))|(refine GoW.c c158 (by rfl) (by rfl) rfl ?_;(first | refine CallD.ret2 (hend _ _ (⟨#[41]⟩ : ByteArray)) ?_ | refine CallD.ret2 (hq _ _ _) ?_);refine ⟨by exact fun _ => trivial,?_⟩)|(refine GoR.c c158 (by rfl) (by rfl) rfl ?_;(first | refine CallD.ret2 (hend _ _ (⟨#[41]⟩ : ByteArray)) ?_ | refine CallD.ret2 (hq _ _ _) ?_))|(refine GoW.c c92 (by rfl) (by rfl) rfl ?_;(refine CallD.ret2 (hp1 _) ?_);refine ⟨by exact fun _ => trivial,?_⟩)|(refine GoR.c c92 (by rfl) (by rfl) rfl ?_;(refine CallD.ret2 (hp1 _) ?_))|(refine GoW.c c190 (by rfl) (by rfl) rfl ?_;(refine CallD.ret2 (hfail1 _ _) ?_);refine ⟨by exact fun _ => trivial,?_⟩)|(refine GoR.c c190 (by rfl) (by rfl) rfl ?_;(refine CallD.ret2 (hfail1 _ _) ?_))|refine Go.condB rfl (fun hc => ?_) (fun hc => ?_))
              refine ⟨(by first | exact .inl rfl | exact .inr rfl), fin ?_⟩
              rw [resD_cell (fn := Tryz.f160) rfl]
              simp only [optThen_some,resultD_tmp,resultD_cell,G,Z,Y,Gx,un_neg,cutD,decide_true,decide_false,simprocAttr,fb2,fb3,fb9,fb35,fb73,fb75,fb90,fb100,fb146,fb148,m1, m2, m3, m4, m5, m6, m7, m8, m9, m10, m11, nilN, Nd.c_mk]
              exact ⟨_, rfl, pC_low l _, .refl, nilN_low⟩
        · rw [if_neg ho] at hr
          have hq1 : isT l i [(⟨#[40]⟩ : ByteArray)] = false := by rw [isT_one hi]; simp [ho]
          by_cases hm : l[i].t = (⟨#[45]⟩ : ByteArray)
          · rw [if_pos hm] at hr
            have hq2 : isT l i [(⟨#[45]⟩ : ByteArray)] = true := by rw [isT_one hi]; simp [hk, hm]
            by_cases hbig : 32 < n + 1
            · rw [if_pos hbig] at hr
              cases hr
              have hms : madeS ⟨i, n, 0⟩ = ⟨i, n + 1, 4⟩ := by unfold madeS; rw [if_pos hbig]
              rw [hms] at hmade
              refine ⟨⟨hb.1, by dsimp only; omega, nz4⟩, CallD.updE hF ?_⟩
              refine CallD.eb Tryz.func160 rfl Tryz.ntmps160 (by rfl) ?_
              repeat' (first|refine Go.a rfl ?_|refine Go.rg ?_|refine GoR.nil ?_|refine Go.ret ?_|refine Go.b rfl ?_|refine Go.rgS dmx (by decide) ?_|refine Go.rgD [3, 7, 9] (fun _ => True) dmx (by decide) 11 (by decide) (by trivial) ?_|refine GoW.nil rfl ?_|((first|refine GoR.o (by rfl) (by rfl) ?_|refine GoW.o (by rfl) (by rfl) ?_|refine GoW.rd (by rfl) (by rfl) ?_);(conv => arg 1;simp only [G,Z,Y,Gx,un_neg,cutD,decide_true,decide_false,simprocAttr,fb2,fb3,fb9,fb35,fb73,fb75,fb90,fb100,fb146,fb148,m1, m2, m3, m4, m5, m6, m7, m8, m9, m10, m11, pC_at, d1, d2, hq1, hq2, hbig, Bool.not_true]);first|show GoR ..|(show _ ∧ GoW ..;refine ⟨by exact fun _ => trivial,?_⟩)|(show _ ∧ _ ∧ _ ∧ GoW ..;refine ⟨rfl,by trivial,(fun H _=>by simp only [G,Z,Y,Gx,un_neg,cutD,decide_true,decide_false,simprocAttr,fb2,fb3,fb9,fb35,fb73,fb75,fb90,fb100,fb146,fb148,m1, m2, m3, m4, m5, m6, m7, m8, m9, m10, m11, pC_at, d1, d2, hq1, hq2, hbig, Bool.not_true]),?_⟩))|(refine GoW.c c158 (by rfl) (by rfl) rfl ?_;(refine CallD.ret2 (hq _ _ _) ?_);refine ⟨by exact fun _ => trivial,?_⟩)|(refine GoR.c c158 (by rfl) (by rfl) rfl ?_;(refine CallD.ret2 (hq _ _ _) ?_))|(refine GoW.c c159 (by rfl) (by rfl) rfl ?_;(refine CallD.ret2 (hmade _) ?_);refine ⟨by exact fun _ => trivial,?_⟩)|(refine GoR.c c159 (by rfl) (by rfl) rfl ?_;(refine CallD.ret2 (hmade _) ?_))|refine Go.condB rfl (fun hc => ?_) (fun hc => ?_))
              refine ⟨(by first | exact .inl rfl | exact .inr rfl), fin ?_⟩
              rw [resD_cell (fn := Tryz.f160) rfl]
              simp only [optThen_some,resultD_tmp,resultD_cell,G,Z,Y,Gx,un_neg,cutD,decide_true,decide_false,simprocAttr,fb2,fb3,fb9,fb35,fb73,fb75,fb90,fb100,fb146,fb148,m1, m2, m3, m4, m5, m6, m7, m8, m9, m10, m11]
              exact ⟨_, rfl, pC_low l _, nil_wf, nd_low _⟩
            · rw [if_neg hbig] at hr
              have hms : madeS ⟨i, n, 0⟩ = ⟨i + 1, n + 1, 0⟩ := by unfold madeS; rw [if_neg hbig]
              rw [hms] at hmade
              cases hs : facF l f ⟨i + 1, n + 1, 0⟩ with
              | none => rw [hs] at hr; cases hr
              | some r1 =>
              rw [hs, Option.map_some] at hr
              cases hr
              have hbs : Bs l ⟨i + 1, n + 1, 0⟩ := ⟨hi, by dsimp only; omega, fun _ => by dsimp only; omega⟩
              obtain ⟨hb1, _⟩ := ihf.at hF [] hbs hs
              have hp1 := fun E => (ihf.at hF E hbs hs).2
              obtain ⟨⟨op1, nm1, k1, ks1⟩, st1⟩ := r1
              obtain ⟨y1, hy1, hk1⟩ := kidY_of (.mk op1 nm1 k1 ks1)
              have hcc : ∀ id, Wf (.sl id 4 1 (Nd.mk op1 nm1 k1 ks1).c) (.sl none 4 1 (ndsC [.mk op1 nm1 k1 ks1])) := by
                rw [show ndsC [.mk op1 nm1 k1 ks1] = (Nd.mk op1 nm1 k1 ks1).c by simp [ndsC]]
                exact fun _ => .disown
              simp only [hy1, ndX, Nd.op, Nd.name, Nd.n] at hp1 hcc
              have ho1 := hk1.one
              have hc1 := hk1.cells
              refine ⟨hb1, CallD.updE hF ?_⟩
              refine CallD.eb Tryz.func160 rfl Tryz.ntmps160 (by rfl) ?_
              repeat' (first|refine Go.a rfl ?_|refine Go.rg ?_|refine GoR.nil ?_|refine Go.ret ?_|refine Go.b rfl ?_|refine Go.rgS dmx (by decide) ?_|refine Go.rgD [3, 7, 9] (fun _ => True) dmx (by decide) 11 (by decide) (by trivial) ?_|refine GoW.nil rfl ?_|((first|refine GoR.o (by rfl) (by rfl) ?_|refine GoW.o (by rfl) (by rfl) ?_|refine GoW.rd (by rfl) (by rfl) ?_);(conv => arg 1;simp only [G,Z,Y,Gx,un_neg,cutD,decide_true,decide_false,simprocAttr,fb2,fb3,fb9,fb35,fb73,fb75,fb90,fb100,fb146,fb148,m1, m2, m3, m4, m5, m6, m7, m8, m9, m10, m11, pC_at, d1, d2, hq1, hq2, hbig, ho1, hc1, wr_full, Bool.not_false]);first|show GoR ..|(show _ ∧ GoW ..;refine ⟨by exact fun _ => trivial,?_⟩)|(show _ ∧ _ ∧ _ ∧ GoW ..;refine ⟨rfl,by trivial,(fun H _=>by simp only [G,Z,Y,Gx,un_neg,cutD,decide_true,decide_false,simprocAttr,fb2,fb3,fb9,fb35,fb73,fb75,fb90,fb100,fb146,fb148,m1, m2, m3, m4, m5, m6, m7, m8, m9, m10, m11, pC_at, d1, d2, hq1, hq2, hbig, ho1, hc1, wr_full, Bool.not_false]),?_⟩))|(refine GoW.c c158 (by rfl) (by rfl) rfl ?_;(refine CallD.ret2 (hq _ _ _) ?_);refine ⟨by exact fun _ => trivial,?_⟩)|(refine GoR.c c158 (by rfl) (by rfl) rfl ?_;(refine CallD.ret2 (hq _ _ _) ?_))|(refine GoW.c c159 (by rfl) (by rfl) rfl ?_;(refine CallD.ret2 (hmade _) ?_);refine ⟨by exact fun _ => trivial,?_⟩)|(refine GoR.c c159 (by rfl) (by rfl) rfl ?_;(refine CallD.ret2 (hmade _) ?_))|(refine GoW.c c160 (by rfl) (by rfl) rfl ?_;(refine CallD.ret2 (hp1 _) ?_);refine ⟨by exact fun _ => trivial,?_⟩)|(refine GoR.c c160 (by rfl) (by rfl) rfl ?_;(refine CallD.ret2 (hp1 _) ?_))|refine Go.condB rfl (fun hc => ?_) (fun hc => ?_))
              refine ⟨(by first | exact .inl rfl | exact .inr rfl), fin ?_⟩
              rw [resD_cell (fn := Tryz.f160) rfl]
              simp only [optThen_some,resultD_tmp,resultD_cell,G,Z,Y,Gx,un_neg,cutD,decide_true,decide_false,simprocAttr,fb2,fb3,fb9,fb35,fb73,fb75,fb90,fb100,fb146,fb148,m1, m2, m3, m4, m5, m6, m7, m8, m9, m10, m11, ho1, hc1]
              refine ⟨_, rfl, pC_low l _, ?_, nd_low _⟩
              rw [Nd.c_mk]
              exact .agg' (.cons .refl (.cons .refl (.cons .refl (.cons (hcc _) .nil))))
          · rw [if_neg hm] at hr
            cases hr
            have hq2 : isT l i [(⟨#[45]⟩ : ByteArray)] = false := by rw [isT_one hi]; simp [hm]
            refine ⟨⟨hb.1, hb.2.1, nz2⟩, CallD.updE hF ?_⟩
            refine CallD.eb Tryz.func160 rfl Tryz.ntmps160 (by rfl) ?_
            repeat' (first|refine Go.a rfl ?_|refine Go.rg ?_|refine GoR.nil ?_|refine Go.ret ?_|refine Go.b rfl ?_|refine Go.rgS dmx (by decide) ?_|refine Go.rgD [3, 7, 9] (fun H => objAt H o = some (pC l ⟨i, n, 0⟩)) dmx (by decide) 11 (by decide) (by (simp only [m2, m4])) ?_|refine GoW.nil rfl ?_|((first|refine GoR.o (by rfl) (by rfl) ?_|refine GoW.o (by rfl) (by rfl) ?_|refine GoW.rd (by rfl) (by rfl) ?_);(conv => arg 1;simp only [G,Z,Y,Gx,un_neg,cutD,decide_true,decide_false,simprocAttr,fb2,fb3,fb9,fb35,fb73,fb75,fb90,fb100,fb146,fb148,m1, m2, m3, m4, m5, m6, m7, m8, m9, m10, m11, pC_at, d1, d2, hq1, hq2, toksAt hi, Tok.c, hk, nilN, Nd.c_mk]);first|show GoR ..|(show _ ∧ GoW ..;refine ⟨by (first|exact fun h => absurd h (by decide)|(intro _;(simp only [m2, m4]))),?_⟩)|(show _ ∧ _ ∧ _ ∧ GoW ..;refine ⟨rfl,by (simp only [m2, m4]),(fun H hI=>by (try dsimp only at hI);simp only [G,Z,Y,Gx,un_neg,cutD,decide_true,decide_false,simprocAttr,fb2,fb3,fb9,fb35,fb73,fb75,fb90,fb100,fb146,fb148,m1, m2, m3, m4, m5, m6, m7, m8, m9, m10, m11, pC_at, d1, d2, hq1, hq2, toksAt hi, Tok.c, hk, nilN, Nd.c_mk,hI]),?_⟩))|(refine GoW.c c158 (by rfl) (by rfl) rfl ?_;(refine CallD.ret2 (hq _ _ _) ?_);refine ⟨by (first|exact fun h => absurd h (by decide)|(intro _;(simp only [m2, m4]))),?_⟩)|(refine GoR.c c158 (by rfl) (by rfl) rfl ?_;(refine CallD.ret2 (hq _ _ _) ?_))|(refine GoW.c c190 (by rfl) (by rfl) rfl ?_;(refine CallD.ret2 (hfail _ _) ?_);refine ⟨by (first|exact fun h => absurd h (by decide)|(intro _;(simp only [m2, m4]))),?_⟩)|(refine GoR.c c190 (by rfl) (by rfl) rfl ?_;(refine CallD.ret2 (hfail _ _) ?_))|refine Go.condB rfl (fun hc => ?_) (fun hc => ?_))
            refine ⟨(by first | exact .inl rfl | exact .inr rfl), fin ?_⟩
            rw [resD_cell (fn := Tryz.f160) rfl]
            simp only [optThen_some,resultD_tmp,resultD_cell,G,Z,Y,Gx,un_neg,cutD,decide_true,decide_false,simprocAttr,fb2,fb3,fb9,fb35,fb73,fb75,fb90,fb100,fb146,fb148,m1, m2, m3, m4, m5, m6, m7, m8, m9, m10, m11, nilN, Nd.c_mk]
            exact ⟨_, rfl, pC_low l _, .refl, nilN_low⟩
      · rw [if_neg hk] at hr
        have hq1 : isT l i [(⟨#[40]⟩ : ByteArray)] = false := by rw [isT_one hi]; simp [hk]
        have hq2 : isT l i [(⟨#[45]⟩ : ByteArray)] = false := by rw [isT_one hi]; simp [hk]
        have hkb : (l[i].k == 3) = false := by simpa using hk
        by_cases hbig : 32 < n + 1
        · rw [if_pos hbig] at hr
          cases hr
          have hms : madeS ⟨i, n, 0⟩ = ⟨i, n + 1, 4⟩ := by unfold madeS; rw [if_pos hbig]
          rw [hms] at hmade
          refine ⟨⟨hb.1, by dsimp only; omega, nz4⟩, CallD.updE hF ?_⟩
          refine CallD.eb Tryz.func160 rfl Tryz.ntmps160 (by rfl) ?_
          repeat' (first|refine Go.a rfl ?_|refine Go.rg ?_|refine GoR.nil ?_|refine Go.ret ?_|refine Go.b rfl ?_|refine Go.rgS dmx (by decide) ?_|refine Go.rgD [3, 7, 9] (fun H => objAt H o = some (pC l ⟨i, n, 0⟩)) dmx (by decide) 11 (by decide) (by (simp only [m2, m4])) ?_|refine GoW.nil rfl ?_|((first|refine GoR.o (by rfl) (by rfl) ?_|refine GoW.o (by rfl) (by rfl) ?_|refine GoW.rd (by rfl) (by rfl) ?_);(conv => arg 1;simp only [G,Z,Y,Gx,un_neg,cutD,decide_true,decide_false,simprocAttr,fb2,fb3,fb9,fb35,fb73,fb75,fb90,fb100,fb146,fb148,m1, m2, m3, m4, m5, m6, m7, m8, m9, m10, m11, pC_at, d1, d2, hq1, hq2, hbig, toksAt hi, Tok.c, hkb, Bool.not_true]);first|show GoR ..|(show _ ∧ GoW ..;refine ⟨by (first|exact fun h => absurd h (by decide)|(intro _;(simp only [m2, m4]))),?_⟩)|(show _ ∧ _ ∧ _ ∧ GoW ..;refine ⟨rfl,by (simp only [m2, m4]),(fun H hI=>by (try dsimp only at hI);simp only [G,Z,Y,Gx,un_neg,cutD,decide_true,decide_false,simprocAttr,fb2,fb3,fb9,fb35,fb73,fb75,fb90,fb100,fb146,fb148,m1, m2, m3, m4, m5, m6, m7, m8, m9, m10, m11, pC_at, d1, d2, hq1, hq2, hbig, toksAt hi, Tok.c, hkb, Bool.not_true,hI]),?_⟩))|(refine GoW.c c158 (by rfl) (by rfl) rfl ?_;(refine CallD.ret2 (hq _ _ _) ?_);refine ⟨by (first|exact fun h => absurd h (by decide)|(intro _;(simp only [m2, m4]))),?_⟩)|(refine GoR.c c158 (by rfl) (by rfl) rfl ?_;(refine CallD.ret2 (hq _ _ _) ?_))|(refine GoW.c c159 (by rfl) (by rfl) rfl ?_;(refine CallD.ret2 (hmade _) ?_);refine ⟨by (first|exact fun h => absurd h (by decide)|(intro _;(simp only [m2, m4]))),?_⟩)|(refine GoR.c c159 (by rfl) (by rfl) rfl ?_;(refine CallD.ret2 (hmade _) ?_))|refine Go.condB rfl (fun hc => ?_) (fun hc => ?_))
          refine ⟨(by first | exact .inl rfl | exact .inr rfl), fin ?_⟩
          rw [resD_cell (fn := Tryz.f160) rfl]
          simp only [optThen_some,resultD_tmp,resultD_cell,G,Z,Y,Gx,un_neg,cutD,decide_true,decide_false,simprocAttr,fb2,fb3,fb9,fb35,fb73,fb75,fb90,fb100,fb146,fb148,m1, m2, m3, m4, m5, m6, m7, m8, m9, m10, m11]
          exact ⟨_, rfl, pC_low l _, nil_wf, nd_low _⟩
        · rw [if_neg hbig] at hr
          cases hr
          have hms : madeS ⟨i, n, 0⟩ = ⟨i + 1, n + 1, 0⟩ := by unfold madeS; rw [if_neg hbig]
          rw [hms] at hmade
          refine ⟨⟨hi, by dsimp only; omega, fun _ => by dsimp only; omega⟩, CallD.updE hF ?_⟩
          by_cases h2 : l[i].k = 2
          · have hlf : leafN l[i] = .mk (⟨#[110, 117, 109]⟩ : ByteArray) ⟨#[]⟩ l[i].n [] := by unfold leafN; rw [if_pos h2]
            rw [hlf]
            refine CallD.eb Tryz.func160 rfl Tryz.ntmps160 (by rfl) ?_
            repeat' (first|refine Go.a rfl ?_|refine Go.rg ?_|refine GoR.nil ?_|refine Go.ret ?_|refine Go.b rfl ?_|refine Go.rgS dmx (by decide) ?_|refine Go.rgD [3, 7, 9] (fun H => objAt H o = some (pC l ⟨i, n, 0⟩)) dmx (by decide) 11 (by decide) (by (simp only [m2, m4])) ?_|refine GoW.nil rfl ?_|((first|refine GoR.o (by rfl) (by rfl) ?_|refine GoW.o (by rfl) (by rfl) ?_|refine GoW.rd (by rfl) (by rfl) ?_);(conv => arg 1;simp only [G,Z,Y,Gx,un_neg,cutD,decide_true,decide_false,simprocAttr,fb2,fb3,fb9,fb35,fb73,fb75,fb90,fb100,fb146,fb148,m1, m2, m3, m4, m5, m6, m7, m8, m9, m10, m11, pC_at, d1, d2, hq1, hq2, hbig, toksAt hi, Tok.c, hkb, h2, Bool.not_false]);first|show GoR ..|(show _ ∧ GoW ..;refine ⟨by (first|exact fun h => absurd h (by decide)|(intro _;(simp only [m2, m4]))),?_⟩)|(show _ ∧ _ ∧ _ ∧ GoW ..;refine ⟨rfl,by (simp only [m2, m4]),(fun H hI=>by (try dsimp only at hI);simp only [G,Z,Y,Gx,un_neg,cutD,decide_true,decide_false,simprocAttr,fb2,fb3,fb9,fb35,fb73,fb75,fb90,fb100,fb146,fb148,m1, m2, m3, m4, m5, m6, m7, m8, m9, m10, m11, pC_at, d1, d2, hq1, hq2, hbig, toksAt hi, Tok.c, hkb, h2, Bool.not_false,hI]),?_⟩))|(refine GoW.c c158 (by rfl) (by rfl) rfl ?_;(refine CallD.ret2 (hq _ _ _) ?_);refine ⟨by (first|exact fun h => absurd h (by decide)|(intro _;(simp only [m2, m4]))),?_⟩)|(refine GoR.c c158 (by rfl) (by rfl) rfl ?_;(refine CallD.ret2 (hq _ _ _) ?_))|(refine GoW.c c159 (by rfl) (by rfl) rfl ?_;(refine CallD.ret2 (hmade _) ?_);refine ⟨by (first|exact fun h => absurd h (by decide)|(intro _;(simp only [m2, m4]))),?_⟩)|(refine GoR.c c159 (by rfl) (by rfl) rfl ?_;(refine CallD.ret2 (hmade _) ?_))|refine Go.condB rfl (fun hc => ?_) (fun hc => ?_))
            refine ⟨(by first | exact .inl rfl | exact .inr rfl), fin ?_⟩
            rw [resD_cell (fn := Tryz.f160) rfl]
            simp only [optThen_some,resultD_tmp,resultD_cell,G,Z,Y,Gx,un_neg,cutD,decide_true,decide_false,simprocAttr,fb2,fb3,fb9,fb35,fb73,fb75,fb90,fb100,fb146,fb148,m1, m2, m3, m4, m5, m6, m7, m8, m9, m10, m11]
            refine ⟨_, rfl, pC_low l _, ?_, nd_low _⟩
            rw [Nd.c_mk]
            exact .agg' (.cons .refl (.cons .refl (.cons .refl (.cons .nilE .nil))))
          · have hlf : leafN l[i] = .mk (⟨#[110, 97, 109, 101]⟩ : ByteArray) l[i].t 0 [] := by unfold leafN; rw [if_neg h2]
            have h2b : (l[i].k == 2) = false := by simpa using h2
            rw [hlf]
            refine CallD.eb Tryz.func160 rfl Tryz.ntmps160 (by rfl) ?_
            repeat' (first|refine Go.a rfl ?_|refine Go.rg ?_|refine GoR.nil ?_|refine Go.ret ?_|refine Go.b rfl ?_|refine Go.rgS dmx (by decide) ?_|refine Go.rgD [3, 7, 9] (fun H => objAt H o = some (pC l ⟨i, n, 0⟩)) dmx (by decide) 11 (by decide) (by (simp only [m2, m4])) ?_|refine GoW.nil rfl ?_|((first|refine GoR.o (by rfl) (by rfl) ?_|refine GoW.o (by rfl) (by rfl) ?_|refine GoW.rd (by rfl) (by rfl) ?_);(conv => arg 1;simp only [G,Z,Y,Gx,un_neg,cutD,decide_true,decide_false,simprocAttr,fb2,fb3,fb9,fb35,fb73,fb75,fb90,fb100,fb146,fb148,m1, m2, m3, m4, m5, m6, m7, m8, m9, m10, m11, pC_at, d1, d2, hq1, hq2, hbig, toksAt hi, Tok.c, hkb, h2b, Bool.not_false]);first|show GoR ..|(show _ ∧ GoW ..;refine ⟨by (first|exact fun h => absurd h (by decide)|(intro _;(simp only [m2, m4]))),?_⟩)|(show _ ∧ _ ∧ _ ∧ GoW ..;refine ⟨rfl,by (simp only [m2, m4]),(fun H hI=>by (try dsimp only at hI);simp only [G,Z,Y,Gx,un_neg,cutD,decide_true,decide_false,simprocAttr,fb2,fb3,fb9,fb35,fb73,fb75,fb90,fb100,fb146,fb148,m1, m2, m3, m4, m5, m6, m7, m8, m9, m10, m11, pC_at, d1, d2, hq1, hq2, hbig, toksAt hi, Tok.c, hkb, h2b, Bool.not_false,hI]),?_⟩))|(refine GoW.c c158 (by rfl) (by rfl) rfl ?_;(refine CallD.ret2 (hq _ _ _) ?_);refine ⟨by (first|exact fun h => absurd h (by decide)|(intro _;(simp only [m2, m4]))),?_⟩)|(refine GoR.c c158 (by rfl) (by rfl) rfl ?_;(refine CallD.ret2 (hq _ _ _) ?_))|(refine GoW.c c159 (by rfl) (by rfl) rfl ?_;(refine CallD.ret2 (hmade _) ?_);refine ⟨by (first|exact fun h => absurd h (by decide)|(intro _;(simp only [m2, m4]))),?_⟩)|(refine GoR.c c159 (by rfl) (by rfl) rfl ?_;(refine CallD.ret2 (hmade _) ?_))|refine Go.condB rfl (fun hc => ?_) (fun hc => ?_))
            refine ⟨(by first | exact .inl rfl | exact .inr rfl), fin ?_⟩
            rw [resD_cell (fn := Tryz.f160) rfl]
            simp only [optThen_some,resultD_tmp,resultD_cell,G,Z,Y,Gx,un_neg,cutD,decide_true,decide_false,simprocAttr,fb2,fb3,fb9,fb35,fb73,fb75,fb90,fb100,fb146,fb148,m1, m2, m3, m4, m5, m6, m7, m8, m9, m10, m11]
            refine ⟨_, rfl, pC_low l _, ?_, nd_low _⟩
            rw [Nd.c_mk]
            exact .agg' (.cons .refl (.cons .refl (.cons .refl (.cons .nilE .nil))))
end Go.Proofs.DeT
