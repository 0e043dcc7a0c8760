/- The document's reader: factors. -/
import Derived.Test.YtpdnaoahghfaoaaGreatDoorDeP7
set_option linter.unusedSimpArgs false
set_option linter.unusedVariables false
namespace Go.Proofs.DeT
open Go Go.DM
set_option maxRecDepth 100000

theorem facBad {l : List Tok} {o : Nat} {M : List D → Mem} {n0 : Nat} (hF : Fam M o n0) (a k b w : Int) (hb : b ≠ 0) :
    CallD Tryz.prog O 161 [.ptr o 0] (M (rC l a k b w)) fun d S' => S' = M (rC l a k b w) ∧ d = .agg nilN.c := by
  obtain ⟨m1, m2, m3, m4, m5, m6, m7, m8, m9, m10, m11⟩ := hF.facts
  refine CallD.updE hF ?_
  refine CallD.eb Tryz.func161 rfl Tryz.ntmps161 (by rfl) ?_
  repeat' (first|refine Go.a rfl ?_|refine Go.rg ?_|refine GoR.nil ?_|refine Go.ret ?_|refine Go.b rfl ?_|refine Go.rgS dmx (by decide) ?_|refine Go.rgD [3, 7, 9] (fun _ => True) dmx (by decide) 11 (by decide) (by trivial) ?_|refine GoW.nil rfl ?_|((first|refine GoR.o (by rfl) (by rfl) ?_|refine GoW.o (by rfl) (by rfl) ?_|refine GoW.rd (by rfl) (by rfl) ?_);(conv => arg 1;simp only [G,Z,Y,Gx,un_neg,cutD,decide_true,decide_false,simprocAttr,fb2,fb3,fb9,fb78,fb80,fb86,fb138,fb151,m1, m2, m3, m4, m5, m6, m7, m8, m9, m10, m11, rC_at, show (b == 0) = false by simpa using hb, show (b != 0) = true by simpa using hb]);first|show GoR ..|(show _ ∧ GoW ..;refine ⟨by exact fun _ => trivial,?_⟩)|(show _ ∧ _ ∧ _ ∧ GoW ..;refine ⟨rfl,by trivial,(fun H _=>by simp only [G,Z,Y,Gx,un_neg,cutD,decide_true,decide_false,simprocAttr,fb2,fb3,fb9,fb78,fb80,fb86,fb138,fb151,m1, m2, m3, m4, m5, m6, m7, m8, m9, m10, m11, rC_at, show (b == 0) = false by simpa using hb, show (b != 0) = true by simpa using hb]),?_⟩))|refine GoR.s (by rfl) rfl rfl ?_|refine GoW.s (by rfl) rfl rfl (by exact fun _ => trivial) ?_|(refine GoR.splitG rfl (fun hc => ?_) (fun hc => ?_) <;> simp only [hc])|refine Go.condB rfl (fun hc => ?_) (fun hc => ?_))
  refine ⟨(by first | exact .inl rfl | exact .inr rfl), fin ?_⟩
  rw [resD_cell (fn := Tryz.f161) rfl]
  simp only [optThen_some,resultD_tmp,resultD_cell,G,Z,Y,Gx,un_neg,cutD,decide_true,decide_false,simprocAttr,fb2,fb3,fb9,fb78,fb80,fb86,fb138,fb151,m1, m2, m3, m4, m5, m6, m7, m8, m9, m10, m11]
  exact ⟨_, rfl, rC_low, nil_wf, nd_low _⟩
theorem Fam.triv : Fam (fun c => [.obj c]) 0 1 := ⟨by decide, fun _ => rfl, fun _ => rfl, fun _ _ => rfl⟩
theorem fac_bs {l : List Tok} (hl : l.length < 100000) (f : Nat) (st : St) (r : Nd × St) (hb : Bs l st) (hr : facF l f st = some r) : Bs l r.2 := (facW hl (o := 0) f _ _ Fam.triv st r hb hr).1
theorem leaf_wf {op nm : ByteArray} {n : Int} : Wf (.agg [.str op, .str nm, .int .i64 n, .nils]) (.agg (Nd.mk op nm n []).c) := by
  rw [Nd.c_mk]
  exact .agg' (.cons .refl (.cons .refl (.cons .refl (.cons .nilE .nil))))
theorem kidY_one {a : Nd} {y : D} (h : KidY y a.kids) {id : Option Nat} : KidY (.sl id 4 1 (ndX a y)) [a] := by
  refine ⟨?_, rfl, rfl⟩
  have e : ndsC [a] = a.c := by simp [ndsC]
  rw [e]
  exact .sl' (ndX_wf h)

set_option maxHeartbeats 4000000 in
theorem facR {l : List Tok} (hl : l.length < 100000) (hw : ∀ t ∈ l, WordOk t) {o : Nat} : ∀ f, PartR l o 161 (facF l f)
  | 0 => ⟨fun M n0 hF i n r w hb hr => (by cases hr), fun M n0 hF a k b w hb => facBad hF a k b w hb, fun st r hb hr => (by cases hr)⟩
  | f + 1 => by
    have ihf := facR hl hw (o := o) f
    have ihs : PartR l o 93 (sumF l f) := sumR hl (prdR hl ihf)
    refine ⟨fun M n0 hF i n r w hb hr => ?_, fun M n0 hF a k b w hb => facBad hF a k b w hb, fun st r hb hr => fac_bs hl _ st r hb hr⟩
    obtain ⟨m1, m2, m3, m4, m5, m6, m7, m8, m9, m10, m11⟩ := hF.facts
    rw [facF_succ, if_neg (fun h => h rfl)] at hr
    have hfail := fun (E : Mem) x => rFailE hF E l (i : Int) (n : Int) w x
    refine CallD.upd hF ?_
    cases hqi : l[i]? with
    | none =>
      dsimp only at hr
      rw [hqi] at hr
      cases hr
      have hge : l.length ≤ i := by simpa using hqi
      refine CallD.eb Tryz.func161 rfl Tryz.ntmps161 (by rfl) ?_
      repeat' (first|refine Go.a rfl ?_|refine Go.rg ?_|refine GoR.nil ?_|refine Go.ret ?_|refine Go.b rfl ?_|refine Go.rgS dmx (by decide) ?_|refine Go.rgD [3, 7, 9] (fun _ => True) dmx (by decide) 11 (by decide) (by trivial) ?_|refine GoW.nil rfl ?_|((first|refine GoR.o (by rfl) (by rfl) ?_|refine GoW.o (by rfl) (by rfl) ?_|refine GoW.rd (by rfl) (by rfl) ?_);(conv => arg 1;simp only [G,Z,Y,Gx,un_neg,cutD,decide_true,decide_false,simprocAttr,fb2,fb3,fb9,fb78,fb80,fb86,fb138,fb151,m1, m2, m3, m4, m5, m6, m7, m8, m9, m10, m11, rC_at, rC_wr, show decide ((i : Int) ≥ (l.length : Int)) = true by simp; omega, show decide ((l.length : Int) ≤ (i : Int)) = true by simp; omega]);first|show GoR ..|(show _ ∧ GoW ..;refine ⟨by exact fun _ => trivial,?_⟩)|(show _ ∧ _ ∧ _ ∧ GoW ..;refine ⟨rfl,by trivial,(fun H _=>by simp only [G,Z,Y,Gx,un_neg,cutD,decide_true,decide_false,simprocAttr,fb2,fb3,fb9,fb78,fb80,fb86,fb138,fb151,m1, m2, m3, m4, m5, m6, m7, m8, m9, m10, m11, rC_at, rC_wr, show decide ((i : Int) ≥ (l.length : Int)) = true by simp; omega, show decide ((l.length : Int) ≤ (i : Int)) = true by simp; omega]),?_⟩))|(refine GoW.c c162 (by rfl) (by rfl) rfl ?_;(refine CallD.ret2 (hfail _ _) ?_);refine ⟨by exact fun _ => trivial,?_⟩)|(refine GoR.c c162 (by rfl) (by rfl) rfl ?_;(refine CallD.ret2 (hfail _ _) ?_))|refine GoR.s (by rfl) rfl rfl ?_|refine GoW.s (by rfl) rfl rfl (by exact fun _ => trivial) ?_|(refine GoR.splitG rfl (fun hc => ?_) (fun hc => ?_) <;> simp only [hc])|refine Go.condB rfl (fun hc => ?_) (fun hc => ?_))
      refine ⟨(by first | exact .inl rfl | exact .inr rfl), fin ?_⟩
      rw [resD_cell (fn := Tryz.f161) rfl]
      simp only [optThen_some,resultD_tmp,resultD_cell,G,Z,Y,Gx,un_neg,cutD,decide_true,decide_false,simprocAttr,fb2,fb3,fb9,fb78,fb80,fb86,fb138,fb151,m1, m2, m3, m4, m5, m6, m7, m8, m9, m10, m11]
      exact ⟨_, _, _, rfl, rC_low, nil_wf, nd_low _, .inr ⟨fun e => nz2 e, _, _, _, rfl, rfl⟩⟩
    | some t =>
      dsimp only at hr
      rw [hqi] at hr
      obtain ⟨hi, rfl⟩ := List.getElem?_eq_some_iff.1 hqi
      dsimp only at hr
      clear hqi
      have hwt := hw _ (List.getElem_mem hi)
      have d1 : decide ((i : Int) ≥ (l.length : Int)) = false := by simp; omega
      have d2 : decide ((l.length : Int) ≤ (i : Int)) = false := by simp; omega
      have hn : n ≤ 32 := hb.2.2 rfl
      have htk := fun (E : Mem) => rTickE hF E l i n w (by omega) (by omega)
      by_cases hk : l[i].k = 3
      · rw [if_pos hk] at hr
        have hk2 : (l[i].k == 2) = false := by rw [hk]; rfl
        have hk1 : (l[i].k == 1) = false := by rw [hk]; rfl
        by_cases ho : l[i].t = (⟨#[40]⟩ : ByteArray)
        · rw [if_pos ho] at hr
          cases hs : sumF l f ⟨i + 1, n, 0⟩ with
          | none => rw [hs] at hr; cases hr
          | some r1 =>
          rw [hs, Option.map_some] at hr
          cases hr
          have hbs : Bs l ⟨i + 1, n, 0⟩ := ⟨hi, by dsimp only; omega, fun _ => hn⟩
          have hb1 := ihs.bs _ _ hbs hs
          have hp1 := fun E => ihs.okE hF E w hbs hs
          refine CallD.eb Tryz.func161 rfl Tryz.ntmps161 (by rfl) ?_
          repeat' (first|refine Go.a rfl ?_|refine Go.rg ?_|refine GoR.nil ?_|refine Go.ret ?_|refine Go.b rfl ?_|refine Go.rgS dmx (by decide) ?_|refine Go.rgD [3, 7, 9] (fun H => objAt H o = some (rC l (i : Int) (n : Int) 0 w)) dmx (by decide) 11 (by decide) (by (simp only [m2, m4])) ?_|refine GoW.nil rfl ?_|((first|refine GoR.o (by rfl) (by rfl) ?_|refine GoW.o (by rfl) (by rfl) ?_|refine GoW.rd (by rfl) (by rfl) ?_);(conv => arg 1;simp only [G,Z,Y,Gx,un_neg,cutD,decide_true,decide_false,simprocAttr,fb2,fb3,fb9,fb78,fb80,fb86,fb138,fb151,m1, m2, m3, m4, m5, m6, m7, m8, m9, m10, m11, rC_at, rC_wr, d1, d2, hk1, hk2, ho, toksAt hi, Tok.c, wrap_succ (show i < 4611686018427387904 by omega), show decide ((⟨#[40]⟩ : ByteArray) = ⟨#[45]⟩) = false by decide]);first|show GoR ..|(show _ ∧ GoW ..;refine ⟨by (first|exact fun h => absurd h (by decide)|(intro _;(simp only [m2, m4]))),?_⟩)|(show _ ∧ _ ∧ _ ∧ GoW ..;refine ⟨rfl,by (simp only [m2, m4]),(fun H hI=>by (try dsimp only at hI);simp only [G,Z,Y,Gx,un_neg,cutD,decide_true,decide_false,simprocAttr,fb2,fb3,fb9,fb78,fb80,fb86,fb138,fb151,m1, m2, m3, m4, m5, m6, m7, m8, m9, m10, m11, rC_at, rC_wr, d1, d2, hk1, hk2, ho, toksAt hi, Tok.c, wrap_succ (show i < 4611686018427387904 by omega), show decide ((⟨#[40]⟩ : ByteArray) = ⟨#[45]⟩) = false by decide,hI]),?_⟩))|(refine GoW.c c93 (by rfl) (by rfl) rfl ?_;(refine CallD.mono (hp1 _) ?_; rintro _ _ ⟨c1, rfl, hrr⟩; obtain ⟨nd1, y1, rfl, hy1, hrr⟩ := hrr.form; have ho1 := hy1.one; have hc1 := hy1.cells; rcases hrr with ⟨he1, rfl, rfl⟩ | ⟨he1, p, q, rfl⟩);refine ⟨by (first|exact fun h => absurd h (by decide)|(intro _;(simp only [m2, m4]))),?_⟩)|(refine GoR.c c93 (by rfl) (by rfl) rfl ?_;(refine CallD.mono (hp1 _) ?_; rintro _ _ ⟨c1, rfl, hrr⟩; obtain ⟨nd1, y1, rfl, hy1, hrr⟩ := hrr.form; have ho1 := hy1.one; have hc1 := hy1.cells; rcases hrr with ⟨he1, rfl, rfl⟩ | ⟨he1, p, q, rfl⟩))|refine GoR.s (by rfl) rfl rfl ?_|refine GoW.s (by rfl) rfl rfl (by (first|exact fun h => absurd h (by decide)|(intro _;(simp only [m2, m4])))) ?_|(refine GoR.splitG rfl (fun hc => ?_) (fun hc => ?_) <;> simp only [hc])|refine Go.condB rfl (fun hc => ?_) (fun hc => ?_))
          · obtain ⟨nd1, ⟨i1, n1, e1⟩⟩ := r1
            obtain rfl : e1 = 0 := he1
            have hend := fun E s => rIsE hF E l i1 (n1 : Int) 0 w s
            have hfail1 := fun (E : Mem) x => rFailE hF E l (i1 : Int) (n1 : Int) w x
            have hi1 : i1 ≤ l.length := hb1.1
            by_cases hx : isT l i1 endS = true
            · have hx2 : isT l i1 [(⟨#[41]⟩ : ByteArray)] = true := hx
              have e : closeF l (nd1, ⟨i1, n1, 0⟩) = (nd1, ⟨i1 + 1, n1, 0⟩) := by unfold closeF; rw [if_neg (fun h => h rfl), if_pos hx]
              rw [e]
              repeat' (first|refine Go.a rfl ?_|refine Go.rg ?_|refine GoR.nil ?_|refine Go.ret ?_|refine Go.b rfl ?_|refine Go.rgS dmx (by decide) ?_|refine Go.rgD [3, 7, 9] (fun _ => True) dmx (by decide) 11 (by decide) (by trivial) ?_|refine GoW.nil rfl ?_|((first|refine GoR.o (by rfl) (by rfl) ?_|refine GoW.o (by rfl) (by rfl) ?_|refine GoW.rd (by rfl) (by rfl) ?_);(conv => arg 1;simp only [G,Z,Y,Gx,un_neg,cutD,decide_true,decide_false,simprocAttr,fb2,fb3,fb9,fb78,fb80,fb86,fb138,fb151,m1, m2, m3, m4, m5, m6, m7, m8, m9, m10, m11, rC_at, rC_wr, ho1, hc1, hx2, Bool.not_true, wrap_succ (show i1 < 4611686018427387904 by omega)]);first|show GoR ..|(show _ ∧ GoW ..;refine ⟨by exact fun _ => trivial,?_⟩)|(show _ ∧ _ ∧ _ ∧ GoW ..;refine ⟨rfl,by trivial,(fun H _=>by simp only [G,Z,Y,Gx,un_neg,cutD,decide_true,decide_false,simprocAttr,fb2,fb3,fb9,fb78,fb80,fb86,fb138,fb151,m1, m2, m3, m4, m5, m6, m7, m8, m9, m10, m11, rC_at, rC_wr, ho1, hc1, hx2, Bool.not_true, wrap_succ (show i1 < 4611686018427387904 by omega)]),?_⟩))|(refine GoW.c c135 (by rfl) (by rfl) rfl ?_;(refine CallD.ret2 (hend _ _) ?_);refine ⟨by exact fun _ => trivial,?_⟩)|(refine GoR.c c135 (by rfl) (by rfl) rfl ?_;(refine CallD.ret2 (hend _ _) ?_))|refine GoR.s (by rfl) rfl rfl ?_|refine GoW.s (by rfl) rfl rfl (by exact fun _ => trivial) ?_|(refine GoR.splitG rfl (fun hc => ?_) (fun hc => ?_) <;> simp only [hc])|refine Go.condB rfl (fun hc => ?_) (fun hc => ?_))
              refine ⟨(by first | exact .inl rfl | exact .inr rfl), fin ?_⟩
              rw [resD_cell (fn := Tryz.f161) rfl]
              simp only [optThen_some,resultD_tmp,resultD_cell,G,Z,Y,Gx,un_neg,cutD,decide_true,decide_false,simprocAttr,fb2,fb3,fb9,fb78,fb80,fb86,fb138,fb151,m1, m2, m3, m4, m5, m6, m7, m8, m9, m10, m11, ho1, hc1]
              exact ⟨_, _, _, rfl, rC_low, .agg' (ndX_wf hy1), nd_low _, .inl ⟨rfl, rfl, rfl⟩⟩
            · have hx2 : isT l i1 [(⟨#[41]⟩ : ByteArray)] = false := Bool.eq_false_iff.2 hx
              have e : closeF l (nd1, ⟨i1, n1, 0⟩) = (nilN, ⟨i1, n1, 2⟩) := by unfold closeF; rw [if_neg (fun h => h rfl), if_neg hx]
              rw [e]
              repeat' (first|refine Go.a rfl ?_|refine Go.rg ?_|refine GoR.nil ?_|refine Go.ret ?_|refine Go.b rfl ?_|refine Go.rgS dmx (by decide) ?_|refine Go.rgD [3, 7, 9] (fun _ => True) dmx (by decide) 11 (by decide) (by trivial) ?_|refine GoW.nil rfl ?_|((first|refine GoR.o (by rfl) (by rfl) ?_|refine GoW.o (by rfl) (by rfl) ?_|refine GoW.rd (by rfl) (by rfl) ?_);(conv => arg 1;simp only [G,Z,Y,Gx,un_neg,cutD,decide_true,decide_false,simprocAttr,fb2,fb3,fb9,fb78,fb80,fb86,fb138,fb151,m1, m2, m3, m4, m5, m6, m7, m8, m9, m10, m11, rC_at, rC_wr, ho1, hc1, hx2, Bool.not_false, wrap_succ (show i1 < 4611686018427387904 by omega)]);first|show GoR ..|(show _ ∧ GoW ..;refine ⟨by exact fun _ => trivial,?_⟩)|(show _ ∧ _ ∧ _ ∧ GoW ..;refine ⟨rfl,by trivial,(fun H _=>by simp only [G,Z,Y,Gx,un_neg,cutD,decide_true,decide_false,simprocAttr,fb2,fb3,fb9,fb78,fb80,fb86,fb138,fb151,m1, m2, m3, m4, m5, m6, m7, m8, m9, m10, m11, rC_at, rC_wr, ho1, hc1, hx2, Bool.not_false, wrap_succ (show i1 < 4611686018427387904 by omega)]),?_⟩))|(refine GoW.c c135 (by rfl) (by rfl) rfl ?_;(refine CallD.ret2 (hend _ _) ?_);refine ⟨by exact fun _ => trivial,?_⟩)|(refine GoR.c c135 (by rfl) (by rfl) rfl ?_;(refine CallD.ret2 (hend _ _) ?_))|(refine GoW.c c162 (by rfl) (by rfl) rfl ?_;(refine CallD.ret2 (hfail1 _ _) ?_);refine ⟨by exact fun _ => trivial,?_⟩)|(refine GoR.c c162 (by rfl) (by rfl) rfl ?_;(refine CallD.ret2 (hfail1 _ _) ?_))|refine GoR.s (by rfl) rfl rfl ?_|refine GoW.s (by rfl) rfl rfl (by exact fun _ => trivial) ?_|(refine GoR.splitG rfl (fun hc => ?_) (fun hc => ?_) <;> simp only [hc])|refine Go.condB rfl (fun hc => ?_) (fun hc => ?_))
              refine ⟨(by first | exact .inl rfl | exact .inr rfl), fin ?_⟩
              rw [resD_cell (fn := Tryz.f161) rfl]
              simp only [optThen_some,resultD_tmp,resultD_cell,G,Z,Y,Gx,un_neg,cutD,decide_true,decide_false,simprocAttr,fb2,fb3,fb9,fb78,fb80,fb86,fb138,fb151,m1, m2, m3, m4, m5, m6, m7, m8, m9, m10, m11, ho1, hc1]
              exact ⟨_, _, _, rfl, rC_low, .agg' (ndX_wf hy1), nd_low _, .inr ⟨fun e => nz2 e, _, _, _, rfl, rfl⟩⟩
          · have e : closeF l r1 = (nilN, r1.2) := by unfold closeF; rw [if_pos he1]
            rw [e]
            repeat' (first|refine Go.a rfl ?_|refine Go.rg ?_|refine GoR.nil ?_|refine Go.ret ?_|refine Go.b rfl ?_|refine Go.rgS dmx (by decide) ?_|refine Go.rgD [3, 7, 9] (fun _ => True) dmx (by decide) 11 (by decide) (by trivial) ?_|refine GoW.nil rfl ?_|((first|refine GoR.o (by rfl) (by rfl) ?_|refine GoW.o (by rfl) (by rfl) ?_|refine GoW.rd (by rfl) (by rfl) ?_);(conv => arg 1;simp only [G,Z,Y,Gx,un_neg,cutD,decide_true,decide_false,simprocAttr,fb2,fb3,fb9,fb78,fb80,fb86,fb138,fb151,m1, m2, m3, m4, m5, m6, m7, m8, m9, m10, m11, rC_at, rC_wr, ho1, hc1, show (r1.2.e == 0) = false by simpa using he1]);first|show GoR ..|(show _ ∧ GoW ..;refine ⟨by exact fun _ => trivial,?_⟩)|(show _ ∧ _ ∧ _ ∧ GoW ..;refine ⟨rfl,by trivial,(fun H _=>by simp only [G,Z,Y,Gx,un_neg,cutD,decide_true,decide_false,simprocAttr,fb2,fb3,fb9,fb78,fb80,fb86,fb138,fb151,m1, m2, m3, m4, m5, m6, m7, m8, m9, m10, m11, rC_at, rC_wr, ho1, hc1, show (r1.2.e == 0) = false by simpa using he1]),?_⟩))|refine GoR.s (by rfl) rfl rfl ?_|refine GoW.s (by rfl) rfl rfl (by exact fun _ => trivial) ?_|(refine GoR.splitG rfl (fun hc => ?_) (fun hc => ?_) <;> simp only [hc])|refine Go.condB rfl (fun hc => ?_) (fun hc => ?_))
            refine ⟨(by first | exact .inl rfl | exact .inr rfl), fin ?_⟩
            rw [resD_cell (fn := Tryz.f161) rfl]
            simp only [optThen_some,resultD_tmp,resultD_cell,G,Z,Y,Gx,un_neg,cutD,decide_true,decide_false,simprocAttr,fb2,fb3,fb9,fb78,fb80,fb86,fb138,fb151,m1, m2, m3, m4, m5, m6, m7, m8, m9, m10, m11, ho1, hc1]
            exact ⟨_, _, _, rfl, rC_low, .agg' (ndX_wf hy1), nd_low _, .inr ⟨he1, _, _, _, rfl, rfl⟩⟩
        · rw [if_neg ho] at hr
          by_cases hm : l[i].t = (⟨#[45]⟩ : ByteArray)
          · rw [if_pos hm] at hr
            by_cases hbig : 32 < n + 1
            · rw [if_pos hbig] at hr
              cases hr
              have hbd := fun E => ihf.badE hF E ((i + 1 : Nat) : Int) ((n + 1 : Nat) : Int) (b := 4) (i : Int) (by decide)
              simp only [nilN, Nd.c_mk] at hbd
              unfold tickC at htk
              simp only [if_pos hbig] at htk
              refine CallD.eb Tryz.func161 rfl Tryz.ntmps161 (by rfl) ?_
              repeat' (first|refine Go.a rfl ?_|refine Go.rg ?_|refine GoR.nil ?_|refine Go.ret ?_|refine Go.b rfl ?_|refine Go.rgS dmx (by decide) ?_|refine Go.rgD [3, 7, 9] (fun H => objAt H o = some (rC l (i : Int) (n : Int) 0 w)) dmx (by decide) 11 (by decide) (by (simp only [m2, m4])) ?_|refine GoW.nil rfl ?_|((first|refine GoR.o (by rfl) (by rfl) ?_|refine GoW.o (by rfl) (by rfl) ?_|refine GoW.rd (by rfl) (by rfl) ?_);(conv => arg 1;simp only [G,Z,Y,Gx,un_neg,cutD,decide_true,decide_false,simprocAttr,fb2,fb3,fb9,fb78,fb80,fb86,fb138,fb151,m1, m2, m3, m4, m5, m6, m7, m8, m9, m10, m11, rC_at, rC_wr, d1, d2, hk1, hk2, hm, toksAt hi, Tok.c, wr_full]);first|show GoR ..|(show _ ∧ GoW ..;refine ⟨by (first|exact fun h => absurd h (by decide)|(intro _;(simp only [m2, m4]))),?_⟩)|(show _ ∧ _ ∧ _ ∧ GoW ..;refine ⟨rfl,by (simp only [m2, m4]),(fun H hI=>by (try dsimp only at hI);simp only [G,Z,Y,Gx,un_neg,cutD,decide_true,decide_false,simprocAttr,fb2,fb3,fb9,fb78,fb80,fb86,fb138,fb151,m1, m2, m3, m4, m5, m6, m7, m8, m9, m10, m11, rC_at, rC_wr, d1, d2, hk1, hk2, hm, toksAt hi, Tok.c, wr_full,hI]),?_⟩))|(refine GoW.c c136 (by rfl) (by rfl) rfl ?_;(refine CallD.ret2 (htk _) ?_);refine ⟨by (first|exact fun h => absurd h (by decide)|(intro _;(simp only [m2, m4]))),?_⟩)|(refine GoR.c c136 (by rfl) (by rfl) rfl ?_;(refine CallD.ret2 (htk _) ?_))|(refine GoW.c c161 (by rfl) (by rfl) rfl ?_;(refine CallD.ret2 (hbd _) ?_);refine ⟨by (first|exact fun h => absurd h (by decide)|(intro _;(simp only [m2, m4]))),?_⟩)|(refine GoR.c c161 (by rfl) (by rfl) rfl ?_;(refine CallD.ret2 (hbd _) ?_))|refine GoR.s (by rfl) rfl rfl ?_|refine GoW.s (by rfl) rfl rfl (by (first|exact fun h => absurd h (by decide)|(intro _;(simp only [m2, m4])))) ?_|(refine GoR.splitG rfl (fun hc => ?_) (fun hc => ?_) <;> simp only [hc])|refine Go.condB rfl (fun hc => ?_) (fun hc => ?_))
              refine ⟨(by first | exact .inl rfl | exact .inr rfl), fin ?_⟩
              rw [resD_cell (fn := Tryz.f161) rfl]
              simp only [optThen_some,resultD_tmp,resultD_cell,G,Z,Y,Gx,un_neg,cutD,decide_true,decide_false,simprocAttr,fb2,fb3,fb9,fb78,fb80,fb86,fb138,fb151,m1, m2, m3, m4, m5, m6, m7, m8, m9, m10, m11]
              refine ⟨.agg (Nd.mk (⟨#[110, 101, 103]⟩ : ByteArray) ⟨#[]⟩ 0 [nilN]).c, _, _, rfl, rC_low, ?_, nd_low _, .inr ⟨fun e => nz4 e, _, _, _, rfl, rfl⟩⟩
              rw [Nd.c_mk, show ndsC [nilN] = nilN.c by simp [ndsC], nilN, Nd.c_mk]
              exact .agg' (.cons .refl (.cons .refl (.cons .refl (.cons .disown .nil))))
            · rw [if_neg hbig] at hr
              unfold tickC at htk
              simp only [if_neg hbig] at htk
              cases hs : facF l f ⟨i + 1, n + 1, 0⟩ with
              | none => rw [hs] at hr; cases hr
              | some r1 =>
              rw [hs, Option.map_some] at hr
              cases hr
              have hbs : Bs l ⟨i + 1, n + 1, 0⟩ := ⟨hi, by dsimp only; omega, fun _ => by dsimp only; omega⟩
              have hp1 := fun E => ihf.okE hF E w hbs hs
              refine CallD.eb Tryz.func161 rfl Tryz.ntmps161 (by rfl) ?_
              repeat' (first|refine Go.a rfl ?_|refine Go.rg ?_|refine GoR.nil ?_|refine Go.ret ?_|refine Go.b rfl ?_|refine Go.rgS dmx (by decide) ?_|refine Go.rgD [3, 7, 9] (fun H => objAt H o = some (rC l (i : Int) (n : Int) 0 w)) dmx (by decide) 11 (by decide) (by (simp only [m2, m4])) ?_|refine GoW.nil rfl ?_|((first|refine GoR.o (by rfl) (by rfl) ?_|refine GoW.o (by rfl) (by rfl) ?_|refine GoW.rd (by rfl) (by rfl) ?_);(conv => arg 1;simp only [G,Z,Y,Gx,un_neg,cutD,decide_true,decide_false,simprocAttr,fb2,fb3,fb9,fb78,fb80,fb86,fb138,fb151,m1, m2, m3, m4, m5, m6, m7, m8, m9, m10, m11, rC_at, rC_wr, d1, d2, hk1, hk2, hm, toksAt hi, Tok.c]);first|show GoR ..|(show _ ∧ GoW ..;refine ⟨by (first|exact fun h => absurd h (by decide)|(intro _;(simp only [m2, m4]))),?_⟩)|(show _ ∧ _ ∧ _ ∧ GoW ..;refine ⟨rfl,by (simp only [m2, m4]),(fun H hI=>by (try dsimp only at hI);simp only [G,Z,Y,Gx,un_neg,cutD,decide_true,decide_false,simprocAttr,fb2,fb3,fb9,fb78,fb80,fb86,fb138,fb151,m1, m2, m3, m4, m5, m6, m7, m8, m9, m10, m11, rC_at, rC_wr, d1, d2, hk1, hk2, hm, toksAt hi, Tok.c,hI]),?_⟩))|(refine GoW.c c136 (by rfl) (by rfl) rfl ?_;(refine CallD.ret2 (htk _) ?_);refine ⟨by (first|exact fun h => absurd h (by decide)|(intro _;(simp only [m2, m4]))),?_⟩)|(refine GoR.c c136 (by rfl) (by rfl) rfl ?_;(refine CallD.ret2 (htk _) ?_))|(refine GoW.c c161 (by rfl) (by rfl) rfl ?_;(refine CallD.mono (hp1 _) ?_; rintro _ _ ⟨c1, rfl, hrr⟩; obtain ⟨nd1, y1, rfl, hy1, hrr⟩ := hrr.form; have ho1 := hy1.one; have hc1 := hy1.cells);refine ⟨by (first|exact fun h => absurd h (by decide)|(intro _;(simp only [m2, m4]))),?_⟩)|(refine GoR.c c161 (by rfl) (by rfl) rfl ?_;(refine CallD.mono (hp1 _) ?_; rintro _ _ ⟨c1, rfl, hrr⟩; obtain ⟨nd1, y1, rfl, hy1, hrr⟩ := hrr.form; have ho1 := hy1.one; have hc1 := hy1.cells))|refine GoR.s (by rfl) rfl rfl ?_|refine GoW.s (by rfl) rfl rfl (by (first|exact fun h => absurd h (by decide)|(intro _;(simp only [m2, m4])))) ?_|(refine GoR.splitG rfl (fun hc => ?_) (fun hc => ?_) <;> simp only [hc])|refine Go.condB rfl (fun hc => ?_) (fun hc => ?_))
              repeat' (first|refine Go.a rfl ?_|refine Go.rg ?_|refine GoR.nil ?_|refine Go.ret ?_|refine Go.b rfl ?_|refine Go.rgS dmx (by decide) ?_|refine Go.rgD [3, 7, 9] (fun _ => True) dmx (by decide) 11 (by decide) (by trivial) ?_|refine GoW.nil rfl ?_|((first|refine GoR.o (by rfl) (by rfl) ?_|refine GoW.o (by rfl) (by rfl) ?_|refine GoW.rd (by rfl) (by rfl) ?_);(conv => arg 1;simp only [G,Z,Y,Gx,un_neg,cutD,decide_true,decide_false,simprocAttr,fb2,fb3,fb9,fb78,fb80,fb86,fb138,fb151,m1, m2, m3, m4, m5, m6, m7, m8, m9, m10, m11, ho1, hc1, wr_full]);first|show GoR ..|(show _ ∧ GoW ..;refine ⟨by exact fun _ => trivial,?_⟩)|(show _ ∧ _ ∧ _ ∧ GoW ..;refine ⟨rfl,by trivial,(fun H _=>by simp only [G,Z,Y,Gx,un_neg,cutD,decide_true,decide_false,simprocAttr,fb2,fb3,fb9,fb78,fb80,fb86,fb138,fb151,m1, m2, m3, m4, m5, m6, m7, m8, m9, m10, m11, ho1, hc1, wr_full]),?_⟩))|refine GoR.s (by rfl) rfl rfl ?_|refine GoW.s (by rfl) rfl rfl (by exact fun _ => trivial) ?_|(refine GoR.splitG rfl (fun hc => ?_) (fun hc => ?_) <;> simp only [hc])|refine Go.condB rfl (fun hc => ?_) (fun hc => ?_))
              refine ⟨(by first | exact .inl rfl | exact .inr rfl), fin ?_⟩
              rw [resD_cell (fn := Tryz.f161) rfl]
              simp only [optThen_some,resultD_tmp,resultD_cell,G,Z,Y,Gx,un_neg,cutD,decide_true,decide_false,simprocAttr,fb2,fb3,fb9,fb78,fb80,fb86,fb138,fb151,m1, m2, m3, m4, m5, m6, m7, m8, m9, m10, m11, ho1, hc1]
              refine ⟨.agg (Nd.mk (⟨#[110, 101, 103]⟩ : ByteArray) ⟨#[]⟩ 0 [nd1]).c, _, c1, rfl, ?_, ?_, nd_low _, ?_⟩
              · rcases hrr with ⟨_, _, rfl⟩ | ⟨_, p, q, rfl⟩ <;> exact rC_low
              · rw [Nd.c_mk]
                exact .agg' (.cons .refl (.cons .refl (.cons .refl (.cons (kidY_one hy1).wf .nil))))
              · rcases hrr with ⟨he1, rfl, rfl⟩ | ⟨he1, p, q, rfl⟩
                · exact .inl ⟨he1, rfl, rfl⟩
                · exact .inr ⟨he1, p, q, _, rfl, rfl⟩
          · rw [if_neg hm] at hr
            cases hr
            refine CallD.eb Tryz.func161 rfl Tryz.ntmps161 (by rfl) ?_
            repeat' (first|refine Go.a rfl ?_|refine Go.rg ?_|refine GoR.nil ?_|refine Go.ret ?_|refine Go.b rfl ?_|refine Go.rgS dmx (by decide) ?_|refine Go.rgD [3, 7, 9] (fun H => objAt H o = some (rC l (i : Int) (n : Int) 0 w)) dmx (by decide) 11 (by decide) (by (simp only [m2, m4])) ?_|refine GoW.nil rfl ?_|((first|refine GoR.o (by rfl) (by rfl) ?_|refine GoW.o (by rfl) (by rfl) ?_|refine GoW.rd (by rfl) (by rfl) ?_);(conv => arg 1;simp only [G,Z,Y,Gx,un_neg,cutD,decide_true,decide_false,simprocAttr,fb2,fb3,fb9,fb78,fb80,fb86,fb138,fb151,m1, m2, m3, m4, m5, m6, m7, m8, m9, m10, m11, rC_at, rC_wr, d1, d2, hk1, hk2, show decide (l[i].t = (⟨#[45]⟩ : ByteArray)) = false by simpa using hm, show decide (l[i].t = (⟨#[40]⟩ : ByteArray)) = false by simpa using ho, toksAt hi, Tok.c]);first|show GoR ..|(show _ ∧ GoW ..;refine ⟨by (first|exact fun h => absurd h (by decide)|(intro _;(simp only [m2, m4]))),?_⟩)|(show _ ∧ _ ∧ _ ∧ GoW ..;refine ⟨rfl,by (simp only [m2, m4]),(fun H hI=>by (try dsimp only at hI);simp only [G,Z,Y,Gx,un_neg,cutD,decide_true,decide_false,simprocAttr,fb2,fb3,fb9,fb78,fb80,fb86,fb138,fb151,m1, m2, m3, m4, m5, m6, m7, m8, m9, m10, m11, rC_at, rC_wr, d1, d2, hk1, hk2, show decide (l[i].t = (⟨#[45]⟩ : ByteArray)) = false by simpa using hm, show decide (l[i].t = (⟨#[40]⟩ : ByteArray)) = false by simpa using ho, toksAt hi, Tok.c,hI]),?_⟩))|(refine GoW.c c162 (by rfl) (by rfl) rfl ?_;(refine CallD.ret2 (hfail _ _) ?_);refine ⟨by (first|exact fun h => absurd h (by decide)|(intro _;(simp only [m2, m4]))),?_⟩)|(refine GoR.c c162 (by rfl) (by rfl) rfl ?_;(refine CallD.ret2 (hfail _ _) ?_))|refine GoR.s (by rfl) rfl rfl ?_|refine GoW.s (by rfl) rfl rfl (by (first|exact fun h => absurd h (by decide)|(intro _;(simp only [m2, m4])))) ?_|(refine GoR.splitG rfl (fun hc => ?_) (fun hc => ?_) <;> simp only [hc])|refine Go.condB rfl (fun hc => ?_) (fun hc => ?_))
            refine ⟨(by first | exact .inl rfl | exact .inr rfl), fin ?_⟩
            rw [resD_cell (fn := Tryz.f161) rfl]
            simp only [optThen_some,resultD_tmp,resultD_cell,G,Z,Y,Gx,un_neg,cutD,decide_true,decide_false,simprocAttr,fb2,fb3,fb9,fb78,fb80,fb86,fb138,fb151,m1, m2, m3, m4, m5, m6, m7, m8, m9, m10, m11]
            exact ⟨_, _, _, rfl, rC_low, nil_wf, nd_low _, .inr ⟨fun e => nz2 e, _, _, _, rfl, rfl⟩⟩
      · rw [if_neg hk] at hr
        by_cases h2 : l[i].k = 2
        · have hlf : leafN l[i] = .mk (⟨#[110, 117, 109]⟩ : ByteArray) ⟨#[]⟩ l[i].n [] := by unfold leafN; rw [if_pos h2]
          have hk2 : (l[i].k == 2) = true := by rw [h2]; rfl
          by_cases hbig : 32 < n + 1
          · rw [if_pos hbig] at hr
            cases hr
            unfold tickC at htk
            simp only [if_pos hbig] at htk
            refine CallD.eb Tryz.func161 rfl Tryz.ntmps161 (by rfl) ?_
            repeat' (first|refine Go.a rfl ?_|refine Go.rg ?_|refine GoR.nil ?_|refine Go.ret ?_|refine Go.b rfl ?_|refine Go.rgS dmx (by decide) ?_|refine Go.rgD [3, 7, 9] (fun H => objAt H o = some (rC l (i : Int) (n : Int) 0 w)) dmx (by decide) 11 (by decide) (by (simp only [m2, m4])) ?_|refine GoW.nil rfl ?_|((first|refine GoR.o (by rfl) (by rfl) ?_|refine GoW.o (by rfl) (by rfl) ?_|refine GoW.rd (by rfl) (by rfl) ?_);(conv => arg 1;simp only [G,Z,Y,Gx,un_neg,cutD,decide_true,decide_false,simprocAttr,fb2,fb3,fb9,fb78,fb80,fb86,fb138,fb151,m1, m2, m3, m4, m5, m6, m7, m8, m9, m10, m11, rC_at, rC_wr, d1, d2, hk2, toksAt hi, Tok.c]);first|show GoR ..|(show _ ∧ GoW ..;refine ⟨by (first|exact fun h => absurd h (by decide)|(intro _;(simp only [m2, m4]))),?_⟩)|(show _ ∧ _ ∧ _ ∧ GoW ..;refine ⟨rfl,by (simp only [m2, m4]),(fun H hI=>by (try dsimp only at hI);simp only [G,Z,Y,Gx,un_neg,cutD,decide_true,decide_false,simprocAttr,fb2,fb3,fb9,fb78,fb80,fb86,fb138,fb151,m1, m2, m3, m4, m5, m6, m7, m8, m9, m10, m11, rC_at, rC_wr, d1, d2, hk2, toksAt hi, Tok.c,hI]),?_⟩))|(refine GoW.c c136 (by rfl) (by rfl) rfl ?_;(refine CallD.ret2 (htk _) ?_);refine ⟨by (first|exact fun h => absurd h (by decide)|(intro _;(simp only [m2, m4]))),?_⟩)|(refine GoR.c c136 (by rfl) (by rfl) rfl ?_;(refine CallD.ret2 (htk _) ?_))|refine GoR.s (by rfl) rfl rfl ?_|refine GoW.s (by rfl) rfl rfl (by (first|exact fun h => absurd h (by decide)|(intro _;(simp only [m2, m4])))) ?_|(refine GoR.splitG rfl (fun hc => ?_) (fun hc => ?_) <;> simp only [hc])|refine Go.condB rfl (fun hc => ?_) (fun hc => ?_))
            refine ⟨(by first | exact .inl rfl | exact .inr rfl), fin ?_⟩
            rw [resD_cell (fn := Tryz.f161) rfl]
            simp only [optThen_some,resultD_tmp,resultD_cell,G,Z,Y,Gx,un_neg,cutD,decide_true,decide_false,simprocAttr,fb2,fb3,fb9,fb78,fb80,fb86,fb138,fb151,m1, m2, m3, m4, m5, m6, m7, m8, m9, m10, m11]
            exact ⟨_, _, _, rfl, rC_low, leaf_wf, nd_low _, .inr ⟨fun e => nz4 e, _, _, _, rfl, rfl⟩⟩
          · rw [if_neg hbig, hlf] at hr
            cases hr
            unfold tickC at htk
            simp only [if_neg hbig] at htk
            refine CallD.eb Tryz.func161 rfl Tryz.ntmps161 (by rfl) ?_
            repeat' (first|refine Go.a rfl ?_|refine Go.rg ?_|refine GoR.nil ?_|refine Go.ret ?_|refine Go.b rfl ?_|refine Go.rgS dmx (by decide) ?_|refine Go.rgD [3, 7, 9] (fun H => objAt H o = some (rC l (i : Int) (n : Int) 0 w)) dmx (by decide) 11 (by decide) (by (simp only [m2, m4])) ?_|refine GoW.nil rfl ?_|((first|refine GoR.o (by rfl) (by rfl) ?_|refine GoW.o (by rfl) (by rfl) ?_|refine GoW.rd (by rfl) (by rfl) ?_);(conv => arg 1;simp only [G,Z,Y,Gx,un_neg,cutD,decide_true,decide_false,simprocAttr,fb2,fb3,fb9,fb78,fb80,fb86,fb138,fb151,m1, m2, m3, m4, m5, m6, m7, m8, m9, m10, m11, rC_at, rC_wr, d1, d2, hk2, toksAt hi, Tok.c]);first|show GoR ..|(show _ ∧ GoW ..;refine ⟨by (first|exact fun h => absurd h (by decide)|(intro _;(simp only [m2, m4]))),?_⟩)|(show _ ∧ _ ∧ _ ∧ GoW ..;refine ⟨rfl,by (simp only [m2, m4]),(fun H hI=>by (try dsimp only at hI);simp only [G,Z,Y,Gx,un_neg,cutD,decide_true,decide_false,simprocAttr,fb2,fb3,fb9,fb78,fb80,fb86,fb138,fb151,m1, m2, m3, m4, m5, m6, m7, m8, m9, m10, m11, rC_at, rC_wr, d1, d2, hk2, toksAt hi, Tok.c,hI]),?_⟩))|(refine GoW.c c136 (by rfl) (by rfl) rfl ?_;(refine CallD.ret2 (htk _) ?_);refine ⟨by (first|exact fun h => absurd h (by decide)|(intro _;(simp only [m2, m4]))),?_⟩)|(refine GoR.c c136 (by rfl) (by rfl) rfl ?_;(refine CallD.ret2 (htk _) ?_))|refine GoR.s (by rfl) rfl rfl ?_|refine GoW.s (by rfl) rfl rfl (by (first|exact fun h => absurd h (by decide)|(intro _;(simp only [m2, m4])))) ?_|(refine GoR.splitG rfl (fun hc => ?_) (fun hc => ?_) <;> simp only [hc])|refine Go.condB rfl (fun hc => ?_) (fun hc => ?_))
            refine ⟨(by first | exact .inl rfl | exact .inr rfl), fin ?_⟩
            rw [resD_cell (fn := Tryz.f161) rfl]
            simp only [optThen_some,resultD_tmp,resultD_cell,G,Z,Y,Gx,un_neg,cutD,decide_true,decide_false,simprocAttr,fb2,fb3,fb9,fb78,fb80,fb86,fb138,fb151,m1, m2, m3, m4, m5, m6, m7, m8, m9, m10, m11]
            exact ⟨_, _, _, rfl, rC_low, leaf_wf, nd_low _, .inl ⟨rfl, rfl, rfl⟩⟩
        · have hlf : leafN l[i] = .mk (⟨#[110, 97, 109, 101]⟩ : ByteArray) l[i].t 0 [] := by unfold leafN; rw [if_neg h2]
          have h1 : l[i].k = 1 := by rcases hwt.1 with h | h | h <;> first | exact h | exact absurd h h2 | exact absurd h hk
          have hk2 : (l[i].k == 2) = false := by rw [h1]; rfl
          have hk1 : (l[i].k == 1) = true := by rw [h1]; rfl
          by_cases hbig : 32 < n + 1
          · rw [if_pos hbig] at hr
            cases hr
            unfold tickC at htk
            simp only [if_pos hbig] at htk
            refine CallD.eb Tryz.func161 rfl Tryz.ntmps161 (by rfl) ?_
            repeat' (first|refine Go.a rfl ?_|refine Go.rg ?_|refine GoR.nil ?_|refine Go.ret ?_|refine Go.b rfl ?_|refine Go.rgS dmx (by decide) ?_|refine Go.rgD [3, 7, 9] (fun H => objAt H o = some (rC l (i : Int) (n : Int) 0 w)) dmx (by decide) 11 (by decide) (by (simp only [m2, m4])) ?_|refine GoW.nil rfl ?_|((first|refine GoR.o (by rfl) (by rfl) ?_|refine GoW.o (by rfl) (by rfl) ?_|refine GoW.rd (by rfl) (by rfl) ?_);(conv => arg 1;simp only [G,Z,Y,Gx,un_neg,cutD,decide_true,decide_false,simprocAttr,fb2,fb3,fb9,fb78,fb80,fb86,fb138,fb151,m1, m2, m3, m4, m5, m6, m7, m8, m9, m10, m11, rC_at, rC_wr, d1, d2, hk2, hk1, toksAt hi, Tok.c]);first|show GoR ..|(show _ ∧ GoW ..;refine ⟨by (first|exact fun h => absurd h (by decide)|(intro _;(simp only [m2, m4]))),?_⟩)|(show _ ∧ _ ∧ _ ∧ GoW ..;refine ⟨rfl,by (simp only [m2, m4]),(fun H hI=>by (try dsimp only at hI);simp only [G,Z,Y,Gx,un_neg,cutD,decide_true,decide_false,simprocAttr,fb2,fb3,fb9,fb78,fb80,fb86,fb138,fb151,m1, m2, m3, m4, m5, m6, m7, m8, m9, m10, m11, rC_at, rC_wr, d1, d2, hk2, hk1, toksAt hi, Tok.c,hI]),?_⟩))|(refine GoW.c c136 (by rfl) (by rfl) rfl ?_;(refine CallD.ret2 (htk _) ?_);refine ⟨by (first|exact fun h => absurd h (by decide)|(intro _;(simp only [m2, m4]))),?_⟩)|(refine GoR.c c136 (by rfl) (by rfl) rfl ?_;(refine CallD.ret2 (htk _) ?_))|refine GoR.s (by rfl) rfl rfl ?_|refine GoW.s (by rfl) rfl rfl (by (first|exact fun h => absurd h (by decide)|(intro _;(simp only [m2, m4])))) ?_|(refine GoR.splitG rfl (fun hc => ?_) (fun hc => ?_) <;> simp only [hc])|refine Go.condB rfl (fun hc => ?_) (fun hc => ?_))
            refine ⟨(by first | exact .inl rfl | exact .inr rfl), fin ?_⟩
            rw [resD_cell (fn := Tryz.f161) rfl]
            simp only [optThen_some,resultD_tmp,resultD_cell,G,Z,Y,Gx,un_neg,cutD,decide_true,decide_false,simprocAttr,fb2,fb3,fb9,fb78,fb80,fb86,fb138,fb151,m1, m2, m3, m4, m5, m6, m7, m8, m9, m10, m11]
            exact ⟨_, _, _, rfl, rC_low, leaf_wf, nd_low _, .inr ⟨fun e => nz4 e, _, _, _, rfl, rfl⟩⟩
          · rw [if_neg hbig, hlf] at hr
            cases hr
            unfold tickC at htk
            simp only [if_neg hbig] at htk
            refine CallD.eb Tryz.func161 rfl Tryz.ntmps161 (by rfl) ?_
            repeat' (first|refine Go.a rfl ?_|refine Go.rg ?_|refine GoR.nil ?_|refine Go.ret ?_|refine Go.b rfl ?_|refine Go.rgS dmx (by decide) ?_|refine Go.rgD [3, 7, 9] (fun H => objAt H o = some (rC l (i : Int) (n : Int) 0 w)) dmx (by decide) 11 (by decide) (by (simp only [m2, m4])) ?_|refine GoW.nil rfl ?_|((first|refine GoR.o (by rfl) (by rfl) ?_|refine GoW.o (by rfl) (by rfl) ?_|refine GoW.rd (by rfl) (by rfl) ?_);(conv => arg 1;simp only [G,Z,Y,Gx,un_neg,cutD,decide_true,decide_false,simprocAttr,fb2,fb3,fb9,fb78,fb80,fb86,fb138,fb151,m1, m2, m3, m4, m5, m6, m7, m8, m9, m10, m11, rC_at, rC_wr, d1, d2, hk2, hk1, toksAt hi, Tok.c]);first|show GoR ..|(show _ ∧ GoW ..;refine ⟨by (first|exact fun h => absurd h (by decide)|(intro _;(simp only [m2, m4]))),?_⟩)|(show _ ∧ _ ∧ _ ∧ GoW ..;refine ⟨rfl,by (simp only [m2, m4]),(fun H hI=>by (try dsimp only at hI);simp only [G,Z,Y,Gx,un_neg,cutD,decide_true,decide_false,simprocAttr,fb2,fb3,fb9,fb78,fb80,fb86,fb138,fb151,m1, m2, m3, m4, m5, m6, m7, m8, m9, m10, m11, rC_at, rC_wr, d1, d2, hk2, hk1, toksAt hi, Tok.c,hI]),?_⟩))|(refine GoW.c c136 (by rfl) (by rfl) rfl ?_;(refine CallD.ret2 (htk _) ?_);refine ⟨by (first|exact fun h => absurd h (by decide)|(intro _;(simp only [m2, m4]))),?_⟩)|(refine GoR.c c136 (by rfl) (by rfl) rfl ?_;(refine CallD.ret2 (htk _) ?_))|refine GoR.s (by rfl) rfl rfl ?_|refine GoW.s (by rfl) rfl rfl (by (first|exact fun h => absurd h (by decide)|(intro _;(simp only [m2, m4])))) ?_|(refine GoR.splitG rfl (fun hc => ?_) (fun hc => ?_) <;> simp only [hc])|refine Go.condB rfl (fun hc => ?_) (fun hc => ?_))
            refine ⟨(by first | exact .inl rfl | exact .inr rfl), fin ?_⟩
            rw [resD_cell (fn := Tryz.f161) rfl]
            simp only [optThen_some,resultD_tmp,resultD_cell,G,Z,Y,Gx,un_neg,cutD,decide_true,decide_false,simprocAttr,fb2,fb3,fb9,fb78,fb80,fb86,fb138,fb151,m1, m2, m3, m4, m5, m6, m7, m8, m9, m10, m11]
            exact ⟨_, _, _, rfl, rC_low, leaf_wf, nd_low _, .inl ⟨rfl, rfl, rfl⟩⟩
end Go.Proofs.DeT
