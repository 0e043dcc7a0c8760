/- Attributes told apart: a slice that may be written. -/
import Derived.Test.YtlllhmenekibjaaGreatDoorDtS23x
set_option linter.unusedSimpArgs false
set_option linter.unusedVariables false
namespace Go.DM
open Go.AM
section
variable {P : Program} {orc : DOracle} {fl sz : Nat} {ops : Array Oper} {loose : List Nat} {Inv : Mem → Prop} {F : Nat} {k : List AM.K} {ρ : DEnv} {H : Mem} {Q : AM.AExit → DEnv → Mem → Prop}
theorem GoW.oM {i : Nat} {os : List Oper} {dst : Option Tmp} {op : Op} {ty : TypeId} {pos : String} {after : Array Edge} (h0 : okOpW loose i sz dst op = true)
    (h : opThenM (opD P ρ op H) H fun v H1 => (i < F → Inv H1) ∧ GoW P orc fl sz ops loose Inv F (i + 1) os k (putD ρ dst v) H1 Q) : GoW P orc fl sz ops loose Inv F i (⟨dst, op, ty, pos, after, none⟩ :: os) k ρ H Q := fun hi => by
  obtain ⟨hd, hc, hl⟩ := okOpW_ok h0
  obtain ⟨h1, h2⟩ := get_of_drop hi
  obtain ⟨v, H1, hop, h⟩ := opThenM_elim h
  obtain ⟨l, ρ', H', t, q⟩ := h.2 h2
  have e : dstOf ops i = dst := by simp [dstOf, h1]
  rw [← e] at t
  exact ⟨_, ρ', H', .cons ⟨_, h1, hd, .inr ⟨rfl, hc, .inl hop⟩⟩ (fun hm => by simp [hm] at hl) h.1 t, q⟩
end
end Go.DM
namespace Go.Proofs.DtT
open Go Go.DM Go.Proofs.DtF
set_option maxRecDepth 100000
variable {orc : DOracle}

theorem ap_msl {P : Program} {S : Mem} {t e n bytes : Nat} (h : ElemT P t e n bytes) {own : Option Nat} {o len m : Nat} {new : List D} :
    appendD P #[t, t] (.msl o n len) (.sl own n m new) S = if m = 0 then some (.msl o n len, S) else if fitsD bytes (len + m) new then (match objAt S o with | some cells => if cells.length = len * n then some (.msl S.length n (len + m), S.set o .dead ++ [.obj (cells ++ new)]) else none | none => none) else none := by
  obtain ⟨hu, i, z, hi, rfl, rfl, hz, hs⟩ := h
  simp [appendD, hu, hi, hz, hs, elemsD, srcD, fitsD]
  rfl
theorem cut_msl {P : Program} {t e n : Nat} (hu : P.underlying t = some (.slice e)) (hs : AM.sizeA P e = some n) {o len : Nat} {hi mx : D} (h1 : natD hi = some len) (h2 : natD mx = some len) (h0 : len ≠ 0) : sliceD P t (.msl o n len) none (some hi) (some mx) = some (.msl o n len) := by
  simp [sliceD, optNatD, h1, h2, hu, hs, h0]
theorem len_msl {P : Program} {S : Mem} {at_ : Array TypeId} {t e : Nat} (h : at_[0]? = some t) (hu : P.underlying t = some (.slice e)) {o n len : Nat} : builtinD P .len at_ [.msl o n len] S = some (.int .i64 len, S) := by simp [builtinD, h, hu]
theorem attsC_len {l : List Att} : (attsC l).length = l.length * 5 := by
  unfold attsC
  induction l with
  | nil => rfl
  | cons a l ih => rw [List.flatMap_cons, List.length_append, ih, Att.len, List.length_cons]; omega
theorem WzL_low {S1 : Mem} {F : List Nat} {ι : Nat → Nat} {n : Nat} {l : List D} (h : LowL 0 l) : WzL S1 F ι n l l :=
  ⟨rfl, fun j h1 _ => Wz.of_low (m := 0) (fun i hi => by omega) (Nat.zero_le _) (h.get j h1)⟩
/-- Attributes in a slice that may be written, which is new. -/
def NewAtts (l : List Att) (S : Mem) (d : D) (S' : Mem) : Prop := (l = [] ∧ d = .nils ∧ S' = S) ∨ (l ≠ [] ∧ d = .msl S.length 5 l.length ∧ S' = S ++ [.obj (attsC l)])
theorem NewAtts.of {P : Program} {f : FuncId} {args : List D} {S : Mem} {l : List Att}
    (h : CallD P orc f args S fun d S1 => ∃ E, S1 = S ++ E ∧ ((l = [] ∧ d = .nils) ∨ (l ≠ [] ∧ ∃ o, S.length ≤ o ∧ d = .msl o 5 l.length ∧ objAt S1 o = some (attsC l)))) : CallD P orc f args S (NewAtts l S) := by
  obtain ⟨d, S1, hb, E, rfl, hs⟩ := h
  rcases hs with ⟨rfl, rfl⟩ | ⟨h0, o, ho, rfl, hob⟩
  · have : CallD P orc f args S fun d S' => S' = S ∧ d = .nils := CallD.drop ⟨.nils, _, hb, .nils, E, rfl, .of_low .nils, rfl⟩
    exact this.mono fun d S' ⟨h1, h2⟩ => .inl ⟨rfl, h2, h1⟩
  · refine CallD.keep1 ⟨_, _, hb, o, E, attsC l, attsC l, .msl S.length 5 l.length, rfl, ho, hob, fun ι h1 h2 => ⟨WzL_low (atts_low l), ?_⟩, .inr ⟨h0, rfl, rfl⟩⟩
    rw [← h2]
    exact Wz.msl (by omega)
theorem clipNilA (S : Mem) : CallD Tryz.prog orc 115 [.nils] S fun d S' => S' = S ∧ d = .nils := by
  refine CallD.e Tryz.func115 rfl Tryz.ntmps115 (by rfl) ?_
  repeat' (first|refine Go.a rfl ?_|refine Go.rg ?_|refine GoR.nil ?_|refine Go.ret ?_|refine Go.b rfl ?_|(refine GoR.o (by rfl) (by rfl) ?_;(conv => arg 1;simp only [G,Z,Y,Gx,un_neg,cutD,decide_true,decide_false,simprocAttr,fb33]);show GoR ..)|refine Go.condB rfl (fun hc => ?_) (fun hc => ?_))
  refine ⟨(by first | exact .inl rfl | exact .inr rfl), fin ?_⟩
  rw [resD_tmp (fn := Tryz.f115) rfl]
  simp only [optThen_some,resultD_tmp,resultD_cell,G,Z,Y,Gx,un_neg,cutD,decide_true,decide_false,simprocAttr,fb33]
  exact ⟨.nils, [], by simp, .of_low .nils, rfl⟩
theorem clipA {o n : Nat} {S : Mem} (h0 : n ≠ 0) (ho : o < S.length) : CallD Tryz.prog orc 115 [.msl o 5 n] S fun d S' => S' = S ∧ d = .msl o 5 n := by
  have e : ∀ k, DM.sliceD Tryz.prog 33 (.msl o 5 n) none (some (.int k (n : Int))) (some (.int k (n : Int))) = some (.msl o 5 n) := fun k => cut_msl Tryz.underlying33 dsz141 natD_cast natD_cast h0
  refine CallD.e Tryz.func115 rfl Tryz.ntmps115 (by rfl) ?_
  repeat' (first|refine Go.a rfl ?_|refine Go.rg ?_|refine GoR.nil ?_|refine Go.ret ?_|refine Go.b rfl ?_|(refine GoR.o (by rfl) (by rfl) ?_;(conv => arg 1;simp only [G,Z,Y,Gx,un_neg,cutD,decide_true,decide_false,simprocAttr,fb33,e, Option.map_some, Option.map_none, len_msl (P := Tryz.prog) (at_ := #[33]) (t := 33) rfl Tryz.underlying33]);show GoR ..)|refine Go.condB rfl (fun hc => ?_) (fun hc => ?_))
  refine ⟨(by first | exact .inl rfl | exact .inr rfl), fin ?_⟩
  rw [resD_tmp (fn := Tryz.f115) rfl]
  simp only [optThen_some,resultD_tmp,resultD_cell,G,Z,Y,Gx,un_neg,cutD,decide_true,decide_false,simprocAttr,fb33]
  exact ⟨_, [], by simp, .of_low (.msl _ _ _ ho), rfl⟩
theorem clone (l : List Att) (hl : l.length < 100000) (hv : ∀ a ∈ l, a.v.l.length < 1000000) (S : Mem) : CallD Tryz.prog orc 84 [.sl none 5 l.length (attsC l)] S (NewAtts l S) := by
  refine NewAtts.of ?_
  refine CallD.eb Tryz.func84 rfl Tryz.ntmps84 (by rfl) ?_
  repeat' (first|refine Go.a rfl ?_|refine Go.rg ?_|refine GoR.nil ?_|refine Go.ret ?_|refine Go.b rfl ?_|refine Go.rgS dmx (by decide) ?_|refine Go.rgD [2] (fun _ => True) dmx (by decide) 7 (by decide) (by trivial) ?_|refine GoW.nil rfl ?_|((first|refine GoR.o (by rfl) (by rfl) ?_|refine GoW.o (by rfl) (by rfl) ?_|refine GoW.rd (by rfl) (by rfl) ?_);(conv => arg 1;simp only [G,Z,Y,Gx,un_neg,cutD,decide_true,decide_false,simprocAttr,fb2,fb3,fb9,fb33,fb116,fb139,fb141]);first|show GoR ..|(show _ ∧ GoW ..;refine ⟨by exact fun _ => trivial,?_⟩)|(show _ ∧ _ ∧ _ ∧ GoW ..;refine ⟨rfl,by trivial,(fun H _=>by simp only [G,Z,Y,Gx,un_neg,cutD,decide_true,decide_false,simprocAttr,fb2,fb3,fb9,fb33,fb116,fb139,fb141]),?_⟩))|refine Go.condB rfl (fun hc => ?_) (fun hc => ?_))
  refine Go.keep [(3, .nils), (6, .sl none 5 l.length (attsC l)), (7, .int .i64 (l.length : Int)), (8, .int .i64 ((0 : Nat) : Int))] (.cons .refl (.cons .refl (.cons .refl (.cons .refl (.nil))))) ?_
  refine Go.while (α := Nat × D × Mem) (fun x => l.length - x.1) (fun x => [(3, x.2.1), (6, .sl none 5 l.length (attsC l)), (7, .int .i64 (l.length : Int)), (8, .int .i64 (x.1 : Int))]) (fun x => x.2.2)
    (fun x => x.1 ≤ l.length ∧ (∃ E, x.2.2 = S ++ E) ∧ ((x.1 = 0 ∧ x.2.1 = .nils) ∨ (0 < x.1 ∧ ∃ o, S.length ≤ o ∧ x.2.1 = .msl o 5 x.1 ∧ objAt x.2.2 o = some (attsC (l.take x.1))))) ?_ (0, .nils, S) ⟨Nat.zero_le _, ⟨[], by simp⟩, .inl ⟨rfl, rfl⟩⟩
  rintro ⟨i, d, S1⟩ ⟨hi, ⟨E, hE⟩, hs⟩ next
  dsimp only at hi hE hs next
  have hSl : S.length ≤ S1.length := by rw [hE]; simp
  by_cases h1 : i < l.length
  · have hap0 := fun S => apart (orc := orc) l[i].v (hv _ (List.getElem_mem _)) S
    have at1 := attsAt h1
    simp only [Val.c, Att.c] at at1 hap0
    have dl : decide ((i : Int) < (l.length : Int)) = true := by simp; omega
    have e5 : attsC (l.take (i + 1)) = attsC (l.take i) ++ l[i].c := flat_take_succ h1
    rcases hs with ⟨h0, rfl⟩ | ⟨h0, o, ho, rfl, hob⟩
    · have hap : appendD Tryz.prog #[33, 33] .nils (.sl (some (S1.length + 1)) 5 1 l[i].c) (S1 ++ [Ob.obj l[i].c, Ob.own]) = some (.sl (some (S1.length + 2)) 5 1 l[i].c, S1 ++ [.obj l[i].c, .own, .own]) := by
        rw [ap_nils del33, if_neg (by omega), if_pos ⟨by omega, by omega, by omega, rfl⟩]
        simp
      simp only [Att.c] at hap
      repeat' (first|refine Go.a rfl ?_|refine Go.rg ?_|refine GoR.nil ?_|refine Go.ret ?_|refine Go.b rfl ?_|refine Go.rgS dmx (by decide) ?_|refine Go.rgD [2] (fun H => objAt H S1.length = some [.str l[i].n, .int .i64 l[i].v.k, .int .i64 l[i].v.i, .str l[i].v.s, .sl none 1 l[i].v.l.length (intsD l[i].v.l)]) dmx (by decide) 7 (by decide) (by (simp [objAt, List.getElem?_append_right])) ?_|(refine GoW.oM (i := 8) (by rfl) ?_;(conv => arg 1;simp only [G,Z,Y,Gx,un_neg,cutD,decide_true,decide_false,simprocAttr,fb2,fb3,fb9,fb33,fb116,fb139,fb141,dl, at1, wrap_succ (show i < 4611686018427387904 by omega), hap, builtin_append]);refine ⟨by first|rfl|simp,by first|rfl|simp,?_⟩;refine ⟨by (first|exact fun h => absurd h (by decide)|(intro _;(simp [objAt, List.getElem?_append_right]))),?_⟩;show GoW ..)|refine GoW.nil rfl ?_|((first|refine GoR.o (by rfl) (by rfl) ?_|refine GoW.o (by rfl) (by rfl) ?_|refine GoW.rd (by rfl) (by rfl) ?_);(conv => arg 1;simp only [G,Z,Y,Gx,un_neg,cutD,decide_true,decide_false,simprocAttr,fb2,fb3,fb9,fb33,fb116,fb139,fb141,dl, at1, wrap_succ (show i < 4611686018427387904 by omega), hap, builtin_append]);first|show GoR ..|(show _ ∧ GoW ..;refine ⟨by (first|exact fun h => absurd h (by decide)|(intro _;(simp [objAt, List.getElem?_append_right]))),?_⟩)|(show _ ∧ _ ∧ _ ∧ GoW ..;refine ⟨rfl,by (simp [objAt, List.getElem?_append_right]),(fun H hI=>by (try dsimp only at hI);simp only [G,Z,Y,Gx,un_neg,cutD,decide_true,decide_false,simprocAttr,fb2,fb3,fb9,fb33,fb116,fb139,fb141,dl, at1, wrap_succ (show i < 4611686018427387904 by omega), hap, builtin_append,hI]),?_⟩))|(refine GoW.c c114 (by rfl) (by rfl) rfl ?_;(refine (hap0 _).ret ?_);refine ⟨by (first|exact fun h => absurd h (by decide)|(intro _;(simp [objAt, List.getElem?_append_right]))),?_⟩)|(refine GoR.c c114 (by rfl) (by rfl) rfl ?_;(refine (hap0 _).ret ?_))|refine Go.condB rfl (fun hc => ?_) (fun hc => ?_))
      refine Go.lpN ?_
      subst h0
      refine Go.keep [(3, .msl (S1.length + 2) 5 1), (6, .sl none 5 l.length (attsC l)), (7, .int .i64 (l.length : Int)), (8, .int .i64 ((0 + 1 : Nat) : Int))] (.cons .refl (.cons .refl (.cons .refl (.cons .refl (.nil))))) ?_
      refine next (0 + 1, .msl (S1.length + 2) 5 1, _) (by dsimp only; omega) ⟨h1, ⟨_, by dsimp only; rw [hE, List.append_assoc]⟩, .inr ⟨Nat.one_pos, S1.length + 2, by omega, rfl, ?_⟩⟩
      dsimp only
      rw [e5]
      simp [objAt, List.getElem?_append_right, attsC, Att.c]
    · have hol : o < S1.length := (List.getElem?_eq_some_iff.1 (objAt_some hob)).1
      have hob2 : objAt (S1 ++ [Ob.obj l[i].c, Ob.own]) o = some (attsC (l.take i)) := objAt_old hob
      have hlen : (attsC (l.take i)).length = i * 5 := by rw [attsC_len, List.length_take]; omega
      have hap : appendD Tryz.prog #[33, 33] (.msl o 5 i) (.sl (some (S1.length + 1)) 5 1 l[i].c) (S1 ++ [Ob.obj l[i].c, Ob.own]) = some (.msl (S1.length + 2) 5 (i + 1), (S1 ++ [Ob.obj l[i].c, Ob.own]).set o Ob.dead ++ [Ob.obj (attsC (l.take i) ++ l[i].c)]) := by
        rw [ap_msl del33, if_neg (by omega), if_pos ⟨by omega, by omega, by omega, rfl⟩, hob2]
        simp only [hlen, if_true]
        simp
      simp only [Att.c] at hap
      have hdead : (S1 ++ [Ob.obj l[i].c, Ob.own]).set o Ob.dead = S ++ (E ++ [Ob.obj l[i].c, Ob.own]).set (o - S.length) Ob.dead := by
        rw [hE, List.append_assoc, List.set_append_right _ _ ho]
      repeat' (first|refine Go.a rfl ?_|refine Go.rg ?_|refine GoR.nil ?_|refine Go.ret ?_|refine Go.b rfl ?_|refine Go.rgS dmx (by decide) ?_|refine Go.rgD [2] (fun H => objAt H S1.length = some [.str l[i].n, .int .i64 l[i].v.k, .int .i64 l[i].v.i, .str l[i].v.s, .sl none 1 l[i].v.l.length (intsD l[i].v.l)]) dmx (by decide) 7 (by decide) (by (simp [objAt, List.getElem?_append_right])) ?_|refine GoW.nil rfl ?_|((first|refine GoR.o (by rfl) (by rfl) ?_|refine GoW.o (by rfl) (by rfl) ?_|refine GoW.rd (by rfl) (by rfl) ?_);(conv => arg 1;simp only [G,Z,Y,Gx,un_neg,cutD,decide_true,decide_false,simprocAttr,fb2,fb3,fb9,fb33,fb116,fb139,fb141,dl, at1, wrap_succ (show i < 4611686018427387904 by omega), hap, builtin_append]);first|show GoR ..|(show _ ∧ GoW ..;refine ⟨by (first|exact fun h => absurd h (by decide)|(intro _;(simp [objAt, List.getElem?_append_right]))),?_⟩)|(show _ ∧ _ ∧ _ ∧ GoW ..;refine ⟨rfl,by (simp [objAt, List.getElem?_append_right]),(fun H hI=>by (try dsimp only at hI);simp only [G,Z,Y,Gx,un_neg,cutD,decide_true,decide_false,simprocAttr,fb2,fb3,fb9,fb33,fb116,fb139,fb141,dl, at1, wrap_succ (show i < 4611686018427387904 by omega), hap, builtin_append,hI]),?_⟩))|(refine GoW.c c114 (by rfl) (by rfl) rfl ?_;(refine (hap0 _).ret ?_);refine ⟨by (first|exact fun h => absurd h (by decide)|(intro _;(simp [objAt, List.getElem?_append_right]))),?_⟩)|(refine GoR.c c114 (by rfl) (by rfl) rfl ?_;(refine (hap0 _).ret ?_))|refine Go.condB rfl (fun hc => ?_) (fun hc => ?_))
      refine Go.lpN ?_
      refine Go.keep [(3, .msl (S1.length + 2) 5 (i + 1)), (6, .sl none 5 l.length (attsC l)), (7, .int .i64 (l.length : Int)), (8, .int .i64 ((i + 1 : Nat) : Int))] (.cons .refl (.cons .refl (.cons .refl (.cons .refl (.nil))))) ?_
      refine next (i + 1, .msl (S1.length + 2) 5 (i + 1), _) (by dsimp only; omega) ⟨h1, ⟨(E ++ [Ob.obj l[i].c, Ob.own]).set (o - S.length) Ob.dead ++ [Ob.obj (attsC (l.take i) ++ l[i].c)], ?_⟩, .inr ⟨Nat.succ_pos _, S1.length + 2, by omega, rfl, ?_⟩⟩
      · dsimp only
        rw [← List.append_assoc, ← hdead]
        rfl
      · dsimp only
        rw [e5]
        simp [objAt, List.getElem?_append_right, Att.c]
  · clear next
    have e : i = l.length := by omega
    subst e
    have dl : decide ((l.length : Int) < (l.length : Int)) = false := by simp
    rw [List.take_length] at hs
    rcases hs with ⟨h0, rfl⟩ | ⟨h0, o, ho, rfl, hob⟩
    · repeat' (first|refine Go.a rfl ?_|refine Go.rg ?_|refine GoR.nil ?_|refine Go.ret ?_|refine Go.b rfl ?_|refine Go.rgS dmx (by decide) ?_|refine Go.rgD [2] (fun _ => True) dmx (by decide) 7 (by decide) (by trivial) ?_|refine GoW.nil rfl ?_|((first|refine GoR.o (by rfl) (by rfl) ?_|refine GoW.o (by rfl) (by rfl) ?_|refine GoW.rd (by rfl) (by rfl) ?_);(conv => arg 1;simp only [G,Z,Y,Gx,un_neg,cutD,decide_true,decide_false,simprocAttr,fb2,fb3,fb9,fb33,fb116,fb139,fb141,dl]);first|show GoR ..|(show _ ∧ GoW ..;refine ⟨by exact fun _ => trivial,?_⟩)|(show _ ∧ _ ∧ _ ∧ GoW ..;refine ⟨rfl,by trivial,(fun H _=>by simp only [G,Z,Y,Gx,un_neg,cutD,decide_true,decide_false,simprocAttr,fb2,fb3,fb9,fb33,fb116,fb139,fb141,dl]),?_⟩))|(refine GoW.c c115 (by rfl) (by rfl) rfl ?_;(refine (clipNilA _).ret ?_);refine ⟨by exact fun _ => trivial,?_⟩)|(refine GoR.c c115 (by rfl) (by rfl) rfl ?_;(refine (clipNilA _).ret ?_))|refine Go.condB rfl (fun hc => ?_) (fun hc => ?_))
      refine ⟨(by first | exact .inl rfl | exact .inr rfl), fin ?_⟩
      rw [resD_tmp (fn := Tryz.f84) rfl]
      simp only [optThen_some,resultD_tmp,resultD_cell,G,Z,Y,Gx,un_neg,cutD,decide_true,decide_false,simprocAttr,fb2,fb3,fb9,fb33,fb116,fb139,fb141]
      exact ⟨E, hE, .inl (by simp [List.eq_nil_of_length_eq_zero h0])⟩
    · have hol : o < S1.length := (List.getElem?_eq_some_iff.1 (objAt_some hob)).1
      repeat' (first|refine Go.a rfl ?_|refine Go.rg ?_|refine GoR.nil ?_|refine Go.ret ?_|refine Go.b rfl ?_|refine Go.rgS dmx (by decide) ?_|refine Go.rgD [2] (fun _ => True) dmx (by decide) 7 (by decide) (by trivial) ?_|refine GoW.nil rfl ?_|((first|refine GoR.o (by rfl) (by rfl) ?_|refine GoW.o (by rfl) (by rfl) ?_|refine GoW.rd (by rfl) (by rfl) ?_);(conv => arg 1;simp only [G,Z,Y,Gx,un_neg,cutD,decide_true,decide_false,simprocAttr,fb2,fb3,fb9,fb33,fb116,fb139,fb141,dl]);first|show GoR ..|(show _ ∧ GoW ..;refine ⟨by exact fun _ => trivial,?_⟩)|(show _ ∧ _ ∧ _ ∧ GoW ..;refine ⟨rfl,by trivial,(fun H _=>by simp only [G,Z,Y,Gx,un_neg,cutD,decide_true,decide_false,simprocAttr,fb2,fb3,fb9,fb33,fb116,fb139,fb141,dl]),?_⟩))|(refine GoW.c c115 (by rfl) (by rfl) rfl ?_;(refine (clipA (by omega) hol).ret ?_);refine ⟨by exact fun _ => trivial,?_⟩)|(refine GoR.c c115 (by rfl) (by rfl) rfl ?_;(refine (clipA (by omega) hol).ret ?_))|refine Go.condB rfl (fun hc => ?_) (fun hc => ?_))
      refine ⟨(by first | exact .inl rfl | exact .inr rfl), fin ?_⟩
      rw [resD_tmp (fn := Tryz.f84) rfl]
      simp only [optThen_some,resultD_tmp,resultD_cell,G,Z,Y,Gx,un_neg,cutD,decide_true,decide_false,simprocAttr,fb2,fb3,fb9,fb33,fb116,fb139,fb141]
      exact ⟨E, hE, .inr ⟨by rintro rfl; exact absurd h0 (by simp), o, ho, rfl, hob⟩⟩
end Go.Proofs.DtT

/- Attributes are searched in a slice that may be written. -/
namespace Go.Proofs.DtT
open Go Go.DM Go.Proofs.DtF
set_option maxRecDepth 100000
variable {orc : DOracle}

theorem ix_msl {P : Program} {t e n : Nat} (hu : P.underlying t = some (.slice e)) (hs : AM.sizeA P e = some n) {o : Nat} {len : Nat} {k : IntKind} {i : Int} :
    indexAtD P t (.msl o n len) (.int k i) = if 0 ≤ i ∧ i < len then some (.ptr o (i.toNat * n)) else none := by
  simp only [indexAtD, hu, hs, and_true]
end Go.Proofs.DtT

/- An attribute set, an attribute dropped: what they come to, and the program's own. -/
namespace Go.Proofs.DtT
open Go Go.DM Go.Proofs.DtF
set_option maxRecDepth 100000
variable {orc : DOracle}

theorem wr_mid {α : Type} : ∀ (xs pre cs : List α), xs.length ≤ cs.length → wr (pre ++ cs) pre.length xs = pre ++ (xs ++ cs.drop xs.length)
  | [], pre, cs, _ => by simp [wr]
  | x :: xs, pre, [], h => by simp at h
  | x :: xs, pre, c :: cs, h => by
    rw [wr]
    have e : (pre ++ c :: cs).set pre.length x = (pre ++ [x]) ++ cs := by simp
    have := wr_mid xs (pre ++ [x]) cs (by simpa using h)
    rw [e, show pre.length + 1 = (pre ++ [x]).length by simp, this]
    simp
end Go.Proofs.DtT

/- Whether attributes, rows are the same: the program's word, the document's. -/
namespace Go.Proofs.DtT
open Go Go.DM Go.Proofs.DtF
set_option maxRecDepth 100000
variable {orc : DOracle}

end Go.Proofs.DtT

/- A row in words: the program's, the document's; the law's own helpers on rows. -/
namespace Go.Proofs.DtT
open Go Go.DM Go.Proofs.DtF
set_option maxRecDepth 100000
variable {orc : DOracle}

end Go.Proofs.DtT
