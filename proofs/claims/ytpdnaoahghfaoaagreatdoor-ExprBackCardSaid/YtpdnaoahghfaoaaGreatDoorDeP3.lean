/- The program's parser: parts with signs between. -/
import Derived.Test.YtpdnaoahghfaoaaGreatDoorDeP2
set_option linter.unusedSimpArgs false
set_option linter.unusedVariables false
namespace Go.Proofs.DeT
open Go Go.DM
set_option maxRecDepth 100000

/-- Where a state is in bounds. -/
def Bs (l : List Tok) (st : St) : Prop := st.i ≤ l.length ∧ st.n ≤ 33 ∧ (st.e = 0 → st.n ≤ 32)
/-- A function of the program is a part of the parser. -/
def PartW (l : List Tok) (o : Nat) (g : FuncId) (part : St → Option (Nd × St)) : Prop :=
  ∀ (M : List D → Mem) (n0 : Nat), Fam M o n0 → ∀ st r, Bs l st → part st = some r → Bs l r.2 ∧ CallD Tryz.prog O g [.ptr o 0] (M (pC l st)) fun d S' => S' = M (pC l r.2) ∧ d = .agg r.1.c
/-- A node's last cell: its kids, as they are now. -/
structure KidY (y : D) (ks : List Nd) : Prop where
  wf : Wf y (.sl none 4 ks.length (ndsC ks))
  one : D.one y = true
  cells : cellsD y = some [y]
def ndX (n : Nd) (y : D) : List D := [.str n.op, .str n.name, .int .i64 n.n, y]
theorem ndX_wf {n : Nd} {y : D} (h : KidY y n.kids) : WfL (ndX n y) n.c := by
  obtain ⟨op, nm, k, ks⟩ := n
  rw [Nd.c_mk]
  exact .cons .refl (.cons .refl (.cons .refl (.cons h.wf .nil)))
theorem kidY_of (n : Nd) : ∃ y, n.c = ndX n y ∧ KidY y n.kids := by
  obtain ⟨op, nm, k, ks⟩ := n
  exact ⟨_, Nd.c_mk, .refl, rfl, rfl⟩
theorem kidY_two {a b : Nd} {y : D} (h : KidY y a.kids) {id : Option Nat} : KidY (.sl id 4 2 (ndX a y ++ b.c)) [a, b] := by
  refine ⟨?_, rfl, rfl⟩
  have e : ndsC [a, b] = a.c ++ b.c := by simp [ndsC]
  rw [e]
  exact .sl' (.append (ndX_wf h) .refl)

theorem repD2 {a b c d : D} : repD [a, b, c, d] 2 = [a, b, c, d, a, b, c, d] := rfl
theorem wrA {z1 z2 z3 z4 z5 z6 z7 z8 a b c d : D} : wr [z1, z2, z3, z4, z5, z6, z7, z8] 0 [a, b, c, d] = [a, b, c, d, z5, z6, z7, z8] := rfl
theorem wrB {z1 z2 z3 z4 z5 z6 z7 z8 a b c d : D} : wr [z1, z2, z3, z4, z5, z6, z7, z8] 4 [a, b, c, d] = [z1, z2, z3, z4, a, b, c, d] := rfl
theorem PartW.at {l : List Tok} {o : Nat} {g : FuncId} {part : St → Option (Nd × St)} (hp : PartW l o g part) {M : List D → Mem} {n0 : Nat} (hF : Fam M o n0) (E : Mem) {st : St} {r : Nd × St} (hb : Bs l st) (hr : part st = some r) :
    Bs l r.2 ∧ CallD Tryz.prog O g [.ptr o 0] (M (pC l st) ++ E) fun d S' => S' = M (pC l r.2) ++ E ∧ d = .agg r.1.c := hp (fun c => M c ++ E) _ (hF.app E) st r hb hr
theorem pIsE {M : List D → Mem} {o n0 : Nat} (hF : Fam M o n0) (E : Mem) (l : List Tok) (st : St) (own : Option Nat) (sg : List ByteArray) (hs : sg.length < 1000000) :
    CallD Tryz.prog O 158 [.ptr o 0, .sl own 1 sg.length (sg.map .str)] (M (pC l st) ++ E) fun d S' => S' = M (pC l st) ++ E ∧ d = .bool (isT l st.i sg) := pIs (hF.app E) l st own sg hs
theorem pMadeE {M : List D → Mem} {o n0 : Nat} (hF : Fam M o n0) (E : Mem) (l : List Tok) (st : St) (he : st.e = 0) (hi : st.i < 1000000) (hn : st.n ≤ 100) :
    CallD Tryz.prog O 159 [.ptr o 0] (M (pC l st) ++ E) fun d S' => S' = M (pC l (madeS st)) ++ E ∧ d = .bool (!decide (32 < st.n + 1)) := pMade (hF.app E) l st he hi hn
theorem pFailE {M : List D → Mem} {o n0 : Nat} (hF : Fam M o n0) (E : Mem) (l : List Tok) (st : St) (he : st.e = 0) (e : Int) :
    CallD Tryz.prog O 190 [.ptr o 0, .int .i64 e] (M (pC l st) ++ E) fun d S' => S' = M (pC l ⟨st.i, st.n, e⟩) ++ E ∧ d = .agg nilN.c := pFail (hF.app E) l st he e
theorem pC_at {l : List Tok} {i n : Nat} {e : Int} : (pC l ⟨i, n, e⟩)[0]? = some (.sl none 4 l.length (toksC l)) ∧ (pC l ⟨i, n, e⟩)[1]? = some (.int .i64 (i : Int)) ∧ (pC l ⟨i, n, e⟩)[2]? = some (.int .i64 (n : Int)) ∧ (pC l ⟨i, n, e⟩)[3]? = some (.int .i64 e) ∧ (pC l ⟨i, n, e⟩).length = 4 := ⟨rfl, rfl, rfl, rfl, rfl⟩
theorem pC_wr {l : List Tok} {i n : Nat} {e : Int} {j : Nat} : wr (pC l ⟨i, n, e⟩) 1 [.int .i64 (j : Int)] = pC l ⟨j, n, e⟩ := rfl
theorem foldW {l : List Tok} (hl : l.length < 100000) {o : Nat} {g : FuncId} {fn : Func} (hgf : Tryz.prog.funcs[g]? = some fn) (hgn : (fn.name == "runtime.NumGoroutine") = false) (hgb : fn.body.isNone = false) {part : St → Option (Nd × St)} (hp : PartW l o g part) (sg : List ByteArray) (hs : sg.length < 1000000) (own : Option Nat) (fu : Nat)
    {M : List D → Mem} {n0 : Nat} (hF : Fam M o n0) (st : St) (r : Nd × St) (hb : Bs l st) (hr : foldF l part sg fu st = some r) :
    Bs l r.2 ∧ CallD Tryz.prog O 132 [.ptr o 0, .fn (.func g) [.ptr o 0] [], .sl own 1 sg.length (sg.map .str)] (M (pC l st)) fun d S' => S' = M (pC l r.2) ∧ d = .agg r.1.c := by
  obtain ⟨m1, m2, m3, m4, m5, m6, m7, m8, m9, m10, m11⟩ := hF.facts
  unfold foldF at hr
  cases hr1 : part st with
  | none => rw [hr1] at hr; cases hr
  | some r1 =>
  rw [hr1, Option.bind_some] at hr
  obtain ⟨hb1, _⟩ := hp.at hF [] hb hr1
  have hp1 := fun E => (hp.at hF E hb hr1).2
  obtain ⟨⟨op1, nm1, k1, ks1⟩, st1⟩ := r1
  obtain ⟨y1, hy1, hk1⟩ := kidY_of (.mk op1 nm1 k1 ks1)
  simp only [hy1, ndX, Nd.op, Nd.name, Nd.n] at hp1
  have ho1 := hk1.one
  have hc1 := hk1.cells
  suffices key : ∀ (fu : Nat) (nd : Nd) (st' : St), Bs l st' → loopF l part sg fu nd st' = some r → Bs l r.2 by
    refine ⟨key fu _ _ hb1 hr, ?_⟩
    refine CallD.updE hF ?_
    refine CallD.eb Tryz.func132 rfl Tryz.ntmps132 (by rfl) ?_
    repeat' (first|refine Go.a rfl ?_|refine Go.rg ?_|refine GoR.nil ?_|refine Go.ret ?_|refine Go.b rfl ?_|refine Go.rgS dmx (by decide) ?_|refine Go.rgD [1] (fun _ => True) dmx (by decide) 4 (by decide) (by trivial) ?_|refine GoW.nil rfl ?_|((first|refine GoR.o (by rfl) (by rfl) ?_|refine GoW.o (by rfl) (by rfl) ?_|refine GoW.rd (by rfl) (by rfl) ?_);(conv => arg 1;simp only [G,Z,Y,Gx,un_neg,cutD,decide_true,decide_false,simprocAttr,fb2,fb3,fb9,fb35,fb73,fb75,fb90,fb146,fb148,m1, m2, m3, m4, m5, m6, m7, m8, m9, m10, m11, ho1, hc1]);first|show GoR ..|(show _ ∧ GoW ..;refine ⟨by exact fun _ => trivial,?_⟩)|(show _ ∧ _ ∧ _ ∧ GoW ..;refine ⟨rfl,by trivial,(fun H _=>by simp only [G,Z,Y,Gx,un_neg,cutD,decide_true,decide_false,simprocAttr,fb2,fb3,fb9,fb35,fb73,fb75,fb90,fb146,fb148,m1, m2, m3, m4, m5, m6, m7, m8, m9, m10, m11, ho1, hc1]),?_⟩))|(refine GoR.call (f := g) (by decide) (by rfl) rfl hgf hgn hgb ?_; refine CallD.ret2 (hp1 _) ?_)|refine GoR.s (by rfl) rfl rfl ?_|refine GoW.s (by rfl) rfl rfl (by exact fun _ => trivial) ?_|(refine GoR.splitG rfl (fun hc => ?_) (fun hc => ?_) <;> simp only [hc])|refine Go.condB rfl (fun hc => ?_) (fun hc => ?_))
    refine Go.keep [(0, .ptr o 0), (1, .fn (.func g) [.ptr o 0] []), (2, .sl own 1 sg.length (sg.map .str)), (6, .ptr n0 0), (7, .ptr (n0 + 1) 0)] (.cons .refl (.cons .refl (.cons .refl (.cons .refl (.cons .refl (.nil)))))) ?_
    refine Go.while (α := Nat × Nd × D × St × Mem) (fun a => a.1) (fun _ => [(0, .ptr o 0), (1, .fn (.func g) [.ptr o 0] []), (2, .sl own 1 sg.length (sg.map .str)), (6, .ptr n0 0), (7, .ptr (n0 + 1) 0)])
      (fun a => M (pC l a.2.2.2.1) ++ (.obj [.str ⟨#[]⟩, .str ⟨#[]⟩, .int .i64 0, .nils] :: .obj [.str a.2.1.op, .str a.2.1.name, .int .i64 a.2.1.n, a.2.2.1] :: a.2.2.2.2))
      (fun a => Bs l a.2.2.2.1 ∧ KidY a.2.2.1 a.2.1.kids ∧ loopF l part sg a.1 a.2.1 a.2.2.2.1 = some r) ?_ (fu, .mk op1 nm1 k1 ks1, y1, st1, []) ⟨hb1, hk1, hr⟩
    clear hr hb1 hk1 ho1 hc1 hp1 hy1 hr1 hb
    rintro ⟨fu, ⟨op, nm, k, ks⟩, y, ⟨i, n, e⟩, E⟩ ⟨hb, hky, hr⟩ next
    simp only [Nd.op, Nd.name, Nd.n, Nd.kids] at hky hr next ⊢
    have hoy := hky.one
    have hcy := hky.cells
    have hq := fun E => pIsE hF E l ⟨i, n, e⟩ own sg hs
    cases fu with
    | zero => simp [loopF] at hr
    | succ fu =>
    unfold loopF at hr
    by_cases hc : e = 0 ∧ isT l i sg = true
    · rw [if_pos hc] at hr
      obtain ⟨rfl, hc⟩ := hc
      obtain ⟨hi, hk3, hm, hop⟩ := isT_lt hc
      have hm := fun E => pMadeE hF E l ⟨i, n, 0⟩ rfl (by dsimp only; omega) (by have := hb.2.1; dsimp only at this ⊢; omega)
      by_cases hbig : 32 < n + 1
      · rw [if_pos hbig] at hr
        cases hr
        have hms : madeS ⟨i, n, 0⟩ = ⟨i, n + 1, 4⟩ := by unfold madeS; rw [if_pos hbig]
        rw [hms] at hm
        repeat' (first|refine Go.a rfl ?_|refine Go.rg ?_|refine GoR.nil ?_|refine Go.ret ?_|refine Go.b rfl ?_|refine Go.rgS dmx (by decide) ?_|refine Go.rgD [1] (fun _ => True) dmx (by decide) 4 (by decide) (by trivial) ?_|refine GoW.nil rfl ?_|((first|refine GoR.o (by rfl) (by rfl) ?_|refine GoW.o (by rfl) (by rfl) ?_|refine GoW.rd (by rfl) (by rfl) ?_);(conv => arg 1;simp only [G,Z,Y,Gx,un_neg,cutD,decide_true,decide_false,simprocAttr,fb2,fb3,fb9,fb35,fb73,fb75,fb90,fb146,fb148,m1, m2, m3, m4, m5, m6, m7, m8, m9, m10, m11, hoy, hcy, pC_at, hc, toksAt hi, Tok.c, hbig, Bool.not_true]);first|show GoR ..|(show _ ∧ GoW ..;refine ⟨by exact fun _ => trivial,?_⟩)|(show _ ∧ _ ∧ _ ∧ GoW ..;refine ⟨rfl,by trivial,(fun H _=>by simp only [G,Z,Y,Gx,un_neg,cutD,decide_true,decide_false,simprocAttr,fb2,fb3,fb9,fb35,fb73,fb75,fb90,fb146,fb148,m1, m2, m3, m4, m5, m6, m7, m8, m9, m10, m11, hoy, hcy, pC_at, hc, toksAt hi, Tok.c, hbig, Bool.not_true]),?_⟩))|(refine GoW.c c158 (by rfl) (by rfl) rfl ?_;(refine CallD.ret2 (hq _) ?_);refine ⟨by exact fun _ => trivial,?_⟩)|(refine GoR.c c158 (by rfl) (by rfl) rfl ?_;(refine CallD.ret2 (hq _) ?_))|(refine GoW.c c159 (by rfl) (by rfl) rfl ?_;(refine CallD.ret2 (hm _) ?_);refine ⟨by exact fun _ => trivial,?_⟩)|(refine GoR.c c159 (by rfl) (by rfl) rfl ?_;(refine CallD.ret2 (hm _) ?_))|refine GoR.s (by rfl) rfl rfl ?_|refine GoW.s (by rfl) rfl rfl (by exact fun _ => trivial) ?_|(refine GoR.splitG rfl (fun hc => ?_) (fun hc => ?_) <;> simp only [hc])|refine Go.condB rfl (fun hc => ?_) (fun hc => ?_))
        clear next
        refine ⟨(by first | exact .inl rfl | exact .inr rfl), fin ?_⟩
        rw [resD_cell (fn := Tryz.f132) rfl]
        simp only [optThen_some,resultD_tmp,resultD_cell,G,Z,Y,Gx,un_neg,cutD,decide_true,decide_false,simprocAttr,fb2,fb3,fb9,fb35,fb73,fb75,fb90,fb146,fb148,m1, m2, m3, m4, m5, m6, m7, m8, m9, m10, m11, hoy, hcy]
        exact ⟨_, rfl, pC_low l _, nil_wf, nd_low _⟩
      · rw [if_neg hbig] at hr
        have hms : madeS ⟨i, n, 0⟩ = ⟨i + 1, n + 1, 0⟩ := by unfold madeS; rw [if_neg hbig]
        rw [hms] at hm
        cases hr1 : part ⟨i + 1, n + 1, 0⟩ with
        | none => rw [hr1] at hr; cases hr
        | some r1 =>
        rw [hr1, Option.bind_some, hop] at hr
        have hbs : Bs l ⟨i + 1, n + 1, 0⟩ := ⟨by dsimp only; omega, by dsimp only; omega, fun _ => by dsimp only; omega⟩
        obtain ⟨hb1, _⟩ := hp.at hF [] hbs hr1
        have hp1 := fun E => (hp.at hF E hbs hr1).2
        obtain ⟨⟨op1, nm1, k1, ks1⟩, st1⟩ := r1
        obtain ⟨y1, hy1, hk1⟩ := kidY_of (.mk op1 nm1 k1 ks1)
        have hyy := fun id => kidY_two (a := .mk op nm k ks) (b := .mk op1 nm1 k1 ks1) (y := y) hky (id := id)
        simp only [hy1, ndX, Nd.op, Nd.name, Nd.n] at hp1 hyy
        have ho1 := hk1.one
        have hc1 := hk1.cells
        repeat' (first|refine Go.a rfl ?_|refine Go.rg ?_|refine GoR.nil ?_|refine Go.ret ?_|refine Go.b rfl ?_|refine Go.rgS dmx (by decide) ?_|refine Go.rgD [1] (fun H => objAt H (n0 + 1) = some [.str op, .str nm, .int .i64 k, y]) dmx (by decide) 4 (by decide) (by (simp only [m1, m2, m3, m4, m5, m6, m7, m8, m9, m10, m11, objAt_succ, objAt_zero])) ?_|refine GoW.nil rfl ?_|((first|refine GoR.o (by rfl) (by rfl) ?_|refine GoW.o (by rfl) (by rfl) ?_|refine GoW.rd (by rfl) (by rfl) ?_);(conv => arg 1;simp only [G,Z,Y,Gx,un_neg,cutD,decide_true,decide_false,simprocAttr,fb2,fb3,fb9,fb35,fb73,fb75,fb90,fb146,fb148,m1, m2, m3, m4, m5, m6, m7, m8, m9, m10, m11, hoy, hcy, ho1, hc1, pC_at, hc, toksAt hi, Tok.c, hbig, Bool.not_false, repD2, wrA, wrB]);first|show GoR ..|(show _ ∧ GoW ..;refine ⟨by (first|exact fun h => absurd h (by decide)|(intro _;(simp only [m1, m2, m3, m4, m5, m6, m7, m8, m9, m10, m11, objAt_succ, objAt_zero]))),?_⟩)|(show _ ∧ _ ∧ _ ∧ GoW ..;refine ⟨rfl,by (simp only [m1, m2, m3, m4, m5, m6, m7, m8, m9, m10, m11, objAt_succ, objAt_zero]),(fun H hI=>by (try dsimp only at hI);simp only [G,Z,Y,Gx,un_neg,cutD,decide_true,decide_false,simprocAttr,fb2,fb3,fb9,fb35,fb73,fb75,fb90,fb146,fb148,m1, m2, m3, m4, m5, m6, m7, m8, m9, m10, m11, hoy, hcy, ho1, hc1, pC_at, hc, toksAt hi, Tok.c, hbig, Bool.not_false, repD2, wrA, wrB,hI]),?_⟩))|(refine GoW.c c158 (by rfl) (by rfl) rfl ?_;(refine CallD.ret2 (hq _) ?_);refine ⟨by (first|exact fun h => absurd h (by decide)|(intro _;(simp only [m1, m2, m3, m4, m5, m6, m7, m8, m9, m10, m11, objAt_succ, objAt_zero]))),?_⟩)|(refine GoR.c c158 (by rfl) (by rfl) rfl ?_;(refine CallD.ret2 (hq _) ?_))|(refine GoW.c c159 (by rfl) (by rfl) rfl ?_;(refine CallD.ret2 (hm _) ?_);refine ⟨by (first|exact fun h => absurd h (by decide)|(intro _;(simp only [m1, m2, m3, m4, m5, m6, m7, m8, m9, m10, m11, objAt_succ, objAt_zero]))),?_⟩)|(refine GoR.c c159 (by rfl) (by rfl) rfl ?_;(refine CallD.ret2 (hm _) ?_))|(refine GoW.call (f := g) (by decide) (by rfl) rfl hgf hgn hgb rfl ?_; refine CallD.ret2 (hp1 _) ?_; refine ⟨by (first | exact fun h => absurd h (by decide) | (intro _; simp only [m1, m2, m3, m4, m5, m6, m7, m8, m9, m10, m11, objAt_succ, objAt_zero])), ?_⟩)|refine GoR.s (by rfl) rfl rfl ?_|refine GoW.s (by rfl) rfl rfl (by (first|exact fun h => absurd h (by decide)|(intro _;(simp only [m1, m2, m3, m4, m5, m6, m7, m8, m9, m10, m11, objAt_succ, objAt_zero])))) ?_|(refine GoR.splitG rfl (fun hc => ?_) (fun hc => ?_) <;> simp only [hc])|refine Go.condB rfl (fun hc => ?_) (fun hc => ?_))
        refine Go.lpN ?_
        refine Go.keep [(0, .ptr o 0), (1, .fn (.func g) [.ptr o 0] []), (2, .sl own 1 sg.length (sg.map .str)), (6, .ptr n0 0), (7, .ptr (n0 + 1) 0)] (.cons .refl (.cons .refl (.cons .refl (.cons .refl (.cons .refl (.nil)))))) ?_
        refine next (fu, .mk l[i].t ⟨#[]⟩ 0 [.mk op nm k ks, .mk op1 nm1 k1 ks1], _, st1, _) (Nat.lt_succ_self _) ⟨hb1, hyy _, hr⟩
    · rw [if_neg hc] at hr
      cases hr
      clear next
      have hc0 : (e == 0 && isT l i sg) = false := by
        rw [Bool.eq_false_iff]
        intro h
        simp only [Bool.and_eq_true, beq_iff_eq] at h
        exact hc h
      by_cases he : e = 0
      · subst he
        have hc1 : isT l i sg = false := by simpa using hc0
        repeat' (first|refine Go.a rfl ?_|refine Go.rg ?_|refine GoR.nil ?_|refine Go.ret ?_|refine Go.b rfl ?_|refine Go.rgS dmx (by decide) ?_|refine Go.rgD [1] (fun _ => True) dmx (by decide) 4 (by decide) (by trivial) ?_|refine GoW.nil rfl ?_|((first|refine GoR.o (by rfl) (by rfl) ?_|refine GoW.o (by rfl) (by rfl) ?_|refine GoW.rd (by rfl) (by rfl) ?_);(conv => arg 1;simp only [G,Z,Y,Gx,un_neg,cutD,decide_true,decide_false,simprocAttr,fb2,fb3,fb9,fb35,fb73,fb75,fb90,fb146,fb148,m1, m2, m3, m4, m5, m6, m7, m8, m9, m10, m11, hoy, hcy, pC_at, hc1]);first|show GoR ..|(show _ ∧ GoW ..;refine ⟨by exact fun _ => trivial,?_⟩)|(show _ ∧ _ ∧ _ ∧ GoW ..;refine ⟨rfl,by trivial,(fun H _=>by simp only [G,Z,Y,Gx,un_neg,cutD,decide_true,decide_false,simprocAttr,fb2,fb3,fb9,fb35,fb73,fb75,fb90,fb146,fb148,m1, m2, m3, m4, m5, m6, m7, m8, m9, m10, m11, hoy, hcy, pC_at, hc1]),?_⟩))|(refine GoW.c c158 (by rfl) (by rfl) rfl ?_;(refine CallD.ret2 (hq _) ?_);refine ⟨by exact fun _ => trivial,?_⟩)|(refine GoR.c c158 (by rfl) (by rfl) rfl ?_;(refine CallD.ret2 (hq _) ?_))|refine GoR.s (by rfl) rfl rfl ?_|refine GoW.s (by rfl) rfl rfl (by exact fun _ => trivial) ?_|(refine GoR.splitG rfl (fun hc => ?_) (fun hc => ?_) <;> simp only [hc])|refine Go.condB rfl (fun hc => ?_) (fun hc => ?_))
        refine ⟨(by first | exact .inl rfl | exact .inr rfl), fin ?_⟩
        rw [resD_cell (fn := Tryz.f132) rfl]
        simp only [optThen_some,resultD_tmp,resultD_cell,G,Z,Y,Gx,un_neg,cutD,decide_true,decide_false,simprocAttr,fb2,fb3,fb9,fb35,fb73,fb75,fb90,fb146,fb148,m1, m2, m3, m4, m5, m6, m7, m8, m9, m10, m11, hoy, hcy]
        exact ⟨_, rfl, pC_low l _, .agg' (ndX_wf (n := .mk op nm k ks) hky), nd_low _⟩
      · repeat' (first|refine Go.a rfl ?_|refine Go.rg ?_|refine GoR.nil ?_|refine Go.ret ?_|refine Go.b rfl ?_|refine Go.rgS dmx (by decide) ?_|refine Go.rgD [1] (fun _ => True) dmx (by decide) 4 (by decide) (by trivial) ?_|refine GoW.nil rfl ?_|((first|refine GoR.o (by rfl) (by rfl) ?_|refine GoW.o (by rfl) (by rfl) ?_|refine GoW.rd (by rfl) (by rfl) ?_);(conv => arg 1;simp only [G,Z,Y,Gx,un_neg,cutD,decide_true,decide_false,simprocAttr,fb2,fb3,fb9,fb35,fb73,fb75,fb90,fb146,fb148,m1, m2, m3, m4, m5, m6, m7, m8, m9, m10, m11, hoy, hcy, pC_at, show (e == 0) = false by simp [he]]);first|show GoR ..|(show _ ∧ GoW ..;refine ⟨by exact fun _ => trivial,?_⟩)|(show _ ∧ _ ∧ _ ∧ GoW ..;refine ⟨rfl,by trivial,(fun H _=>by simp only [G,Z,Y,Gx,un_neg,cutD,decide_true,decide_false,simprocAttr,fb2,fb3,fb9,fb35,fb73,fb75,fb90,fb146,fb148,m1, m2, m3, m4, m5, m6, m7, m8, m9, m10, m11, hoy, hcy, pC_at, show (e == 0) = false by simp [he]]),?_⟩))|(refine GoW.c c158 (by rfl) (by rfl) rfl ?_;(refine CallD.ret2 (hq _) ?_);refine ⟨by exact fun _ => trivial,?_⟩)|(refine GoR.c c158 (by rfl) (by rfl) rfl ?_;(refine CallD.ret2 (hq _) ?_))|refine GoR.s (by rfl) rfl rfl ?_|refine GoW.s (by rfl) rfl rfl (by exact fun _ => trivial) ?_|(refine GoR.splitG rfl (fun hc => ?_) (fun hc => ?_) <;> simp only [hc])|refine Go.condB rfl (fun hc => ?_) (fun hc => ?_))
        refine ⟨(by first | exact .inl rfl | exact .inr rfl), fin ?_⟩
        rw [resD_cell (fn := Tryz.f132) rfl]
        simp only [optThen_some,resultD_tmp,resultD_cell,G,Z,Y,Gx,un_neg,cutD,decide_true,decide_false,simprocAttr,fb2,fb3,fb9,fb35,fb73,fb75,fb90,fb146,fb148,m1, m2, m3, m4, m5, m6, m7, m8, m9, m10, m11, hoy, hcy]
        exact ⟨_, rfl, pC_low l _, .agg' (ndX_wf (n := .mk op nm k ks) hky), nd_low _⟩
  intro fu
  induction fu with
  | zero => intro nd st' _ h; simp [loopF] at h
  | succ fu ih =>
    rintro nd ⟨i, n, e⟩ hb' h
    unfold loopF at h
    by_cases hc : e = 0 ∧ isT l i sg = true
    · rw [if_pos hc] at h
      obtain ⟨hi, _⟩ := isT_lt hc.2
      have hn := hb'.2.2 hc.1
      dsimp only at hn h
      by_cases hbig : 32 < n + 1
      · rw [if_pos hbig] at h
        cases h
        exact ⟨by dsimp only; omega, by dsimp only; omega, nz4⟩
      · rw [if_neg hbig] at h
        cases hr2 : part ⟨i + 1, n + 1, 0⟩ with
        | none => rw [hr2] at h; cases h
        | some r2 =>
          rw [hr2, Option.bind_some] at h
          exact ih _ _ (hp.at hF [] ⟨by dsimp only; omega, by dsimp only; omega, fun _ => by dsimp only; omega⟩ hr2).1 h
    · rw [if_neg hc] at h
      cases h
      exact hb'
end Go.Proofs.DeT
