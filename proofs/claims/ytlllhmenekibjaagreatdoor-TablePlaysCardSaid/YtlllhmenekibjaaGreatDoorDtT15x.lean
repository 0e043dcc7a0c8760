/- A table is the document's; two lists of texts. -/
import Derived.Test.YtlllhmenekibjaaGreatDoorDtT14
set_option linter.unusedSimpArgs false
set_option linter.unusedVariables false
namespace Go.Proofs.DtT
open Go Go.DM Go.Proofs.DtF
set_option maxRecDepth 100000
variable {orc : DOracle}

theorem sameL_self : ∀ l : List Att, sameL l l = true
  | [] => rfl
  | a :: l => by rw [sameL, sameA_self, sameL_self l]; rfl
theorem texts6 (l : List ByteArray) (hl : l.length < 1000000) (S : Mem) : CallD Tryz.prog orc 17 [strsD l, strsD l] S fun d S' => S' = S ∧ d = .bool true := by
  unfold strsD
  refine CallD.e Tryz.func17 rfl Tryz.ntmps17 (by rfl) ?_
  repeat' (first|refine Go.a rfl ?_|refine Go.rg ?_|refine GoR.nil ?_|refine Go.ret ?_|refine Go.b rfl ?_|refine Go.rgS dmx (by decide) ?_|(refine GoR.o (by rfl) (by rfl) ?_;(conv => arg 1;simp only [G,Z,Y,Gx,un_neg,cutD,decide_true,decide_false,simprocAttr,fb3,fb9,fb51,bne_self_eq_false]);show GoR ..)|refine Go.condB rfl (fun hc => ?_) (fun hc => ?_))
  refine Go.keep [(0, .sl none 1 l.length (l.map .str)), (1, .sl none 1 l.length (l.map .str)), (5, .int .i64 ((0 : Nat) : Int))] (.cons .refl (.cons .refl (.cons .refl (.nil)))) ?_
  refine Go.while (α := Nat) (fun i => l.length - i) (fun i => [(0, .sl none 1 l.length (l.map .str)), (1, .sl none 1 l.length (l.map .str)), (5, .int .i64 (i : Int))]) (fun _ => S) (fun i => i ≤ l.length) ?_ 0 (Nat.zero_le _)
  intro i hi next
  by_cases h1 : i < l.length
  · have a1 := strsAt h1
    repeat' (first|refine Go.a rfl ?_|refine Go.rg ?_|refine GoR.nil ?_|refine Go.ret ?_|refine Go.b rfl ?_|refine Go.rgS dmx (by decide) ?_|(refine GoR.o (by rfl) (by rfl) ?_;(conv => arg 1;simp only [G,Z,Y,Gx,un_neg,cutD,decide_true,decide_false,simprocAttr,fb3,fb9,fb51,show decide ((i : Int) < (l.length : Int)) = true by simp; omega, a1, wrap_succ (show i < 4611686018427387904 by omega)]);show GoR ..)|refine Go.condB rfl (fun hc => ?_) (fun hc => ?_))
    refine Go.lpN ?_
    refine Go.keep [(0, .sl none 1 l.length (l.map .str)), (1, .sl none 1 l.length (l.map .str)), (5, .int .i64 ((i + 1 : Nat) : Int))] (.cons .refl (.cons .refl (.cons .refl (.nil)))) ?_
    exact next (i + 1) (by omega) h1
  · clear next
    repeat' (first|refine Go.a rfl ?_|refine Go.rg ?_|refine GoR.nil ?_|refine Go.ret ?_|refine Go.b rfl ?_|refine Go.rgS dmx (by decide) ?_|(refine GoR.o (by rfl) (by rfl) ?_;(conv => arg 1;simp only [G,Z,Y,Gx,un_neg,cutD,decide_true,decide_false,simprocAttr,fb3,fb9,fb51,show decide ((i : Int) < (l.length : Int)) = false by simp; omega]);show GoR ..)|refine Go.condB rfl (fun hc => ?_) (fun hc => ?_))
    refine ⟨(by first | exact .inl rfl | exact .inr rfl), fin ?_⟩
    rw [resD_tmp (fn := Tryz.f17) rfl]
    simp only [optThen_some,resultD_tmp,resultD_cell,G,Z,Y,Gx,un_neg,cutD,decide_true,decide_false,simprocAttr,fb3,fb9,fb51]
    exact ⟨_, [], by simp, .bool, rfl⟩
theorem rowAtt {l : List Rw} {i : Nat} (h : i < l.length) : (rowsC l)[i * 6 + 5]? = some (attsD l[i].at_) := flat_cell row_len l i h (by omega)
theorem attssAt {l : List Rw} {i : Nat} (h : i < l.length) : ((0 ≤ (i : Int) ∧ (i : Int) < (l.length : Int)) = True) ∧ (attssC l)[i]? = some (attsD l[i].at_) := ⟨ix_ok h, by simp [attssC, h]⟩
set_option maxHeartbeats 2000000 in
theorem same13 {S0 S T most l t} (h : Tab0 S0 S T most l) (ht : T.t = t) (mm : Int) : CallD Tryz.prog O 20 [.ptr t 0, .agg (refT mm l)] S fun d S' => S' = S ∧ d = .bool true := by
  have hrw := fun E => rows0 (orc := O) (h.app E) ht
  have hat := fun E => attrs0 (orc := O) (h.app E) ht
  have hln := fun E => len0 (orc := O) (h.app E) ht
  have hok := h.ok
  clear h
  have hll := hok.len
  unfold refT
  refine CallD.e Tryz.func20 rfl Tryz.ntmps20 (by rfl) ?_
  repeat' (first|refine Go.a rfl ?_|refine Go.rg ?_|refine GoR.nil ?_|refine Go.ret ?_|refine Go.b rfl ?_|refine Go.rgS dmx (by decide) ?_|refine Go.rgD (id := 3) [10] (fun H => objAt H S.length = some [.int .i64 mm, .sl none 6 l.length (rowsC l)]) dmx (by decide) 22 (by decide) (by (simp [objAt])) ?_|refine Go.rgD (id := 8) [6, 9, 19, 23] (fun H => objAt H S.length = some [.int .i64 mm, .sl none 6 l.length (rowsC l)]) dmx (by decide) 24 (by decide) (by (simp [objAt])) ?_|refine GoW.nil rfl ?_|((first|refine GoR.o (by rfl) (by rfl) ?_|refine GoW.o (by rfl) (by rfl) ?_|refine GoW.rd (by rfl) (by rfl) ?_);(conv => arg 1;simp only [G,Z,Y,Gx,un_neg,cutD,decide_true,decide_false,simprocAttr,fb3,fb9,fb28,fb30,fb32,fb33,fb35,fb41,fb42,fb44,fb62,fb97,bne_self_eq_false]);first|show GoR ..|(show _ ∧ GoW ..;refine ⟨by (first|exact fun h => absurd h (by decide)|(intro _;(simp [objAt]))),?_⟩)|(show _ ∧ _ ∧ _ ∧ GoW ..;refine ⟨rfl,by (simp [objAt]),(fun H hI=>by (try dsimp only at hI);simp only [G,Z,Y,Gx,un_neg,cutD,decide_true,decide_false,simprocAttr,fb3,fb9,fb28,fb30,fb32,fb33,fb35,fb41,fb42,fb44,fb62,fb97,bne_self_eq_false,hI]),?_⟩))|(refine GoW.c c26 (by rfl) (by rfl) rfl ?_;(refine (hrw _).ret ?_);refine ⟨by (first|exact fun h => absurd h (by decide)|(intro _;(simp [objAt]))),?_⟩)|(refine GoR.c c26 (by rfl) (by rfl) rfl ?_;(refine (hrw _).ret ?_))|(refine GoW.c c49 (by rfl) (by rfl) rfl ?_;(refine (hat _).ret ?_);refine ⟨by (first|exact fun h => absurd h (by decide)|(intro _;(simp [objAt]))),?_⟩)|(refine GoR.c c49 (by rfl) (by rfl) rfl ?_;(refine (hat _).ret ?_))|(refine GoW.c c48 (by rfl) (by rfl) rfl ?_;(refine (hln _).ret ?_);refine ⟨by (first|exact fun h => absurd h (by decide)|(intro _;(simp [objAt]))),?_⟩)|(refine GoR.c c48 (by rfl) (by rfl) rfl ?_;(refine (hln _).ret ?_))|refine GoR.s (by rfl) rfl rfl ?_|refine GoW.s (by rfl) rfl rfl (by (first|exact fun h => absurd h (by decide)|(intro _;(simp [objAt])))) ?_|(refine GoR.splitG rfl (fun hc => ?_) (fun hc => ?_) <;> simp only [hc])|refine Go.condB rfl (fun hc => ?_) (fun hc => ?_))
  refine Go.keep [(0, .ptr t 0), (3, .ptr S.length 0), (5, .sl none 6 l.length (rowsC l)), (6, .sl none 1 l.length (attssC l)), (7, .int .i64 ((0 : Nat) : Int))] (.cons .refl (.cons .refl (.cons .refl (.cons .refl (.cons .refl (.nil)))))) ?_
  refine Go.while (α := Nat) (fun i => l.length - i) (fun i => [(0, .ptr t 0), (3, .ptr S.length 0), (5, .sl none 6 l.length (rowsC l)), (6, .sl none 1 l.length (attssC l)), (7, .int .i64 (i : Int))]) (fun _ => S ++ [.obj [.int .i64 mm, .sl none 6 l.length (rowsC l)]]) (fun i => i ≤ l.length) ?_ 0 (Nat.zero_le _)
  intro i hi next
  by_cases h1 : i < l.length
  · have dl : decide ((i : Int) < (l.length : Int)) = true := by simp; omega
    have at1 := rowsAt h1
    have at2 := attssAt h1
    have at3 := rowAtt h1
    have hr := hok.ok _ (List.getElem_mem h1)
    have h4 := fun S => of4 (orc := O) l[i] (by have := hr.len; omega) S
    have hsr := fun S => refSame (orc := O) l[i] l[i] (by have := hr.len; omega) hr.atl hr.atl S
    have hoa := fun S => ofAttrs (orc := O) l[i].at_ (by have := hr.len; omega) S
    have hsa := fun S => refSameAttrs (orc := O) l[i].at_ l[i].at_ (by have := hr.len; omega) hr.atl hr.atl S
    rw [sameR_self] at hsr
    rw [sameL_self] at hsa
    simp only [Rw.c, attsD] at *
    repeat' (first|refine Go.a rfl ?_|refine Go.rg ?_|refine GoR.nil ?_|refine Go.ret ?_|refine Go.b rfl ?_|refine Go.rgS dmx (by decide) ?_|refine Go.rgD (id := 3) [10] (fun H => objAt H S.length = some [.int .i64 mm, .sl none 6 l.length (rowsC l)]) dmx (by decide) 22 (by decide) (by (simp [objAt])) ?_|refine Go.rgD (id := 8) [6, 9, 19, 23] (fun H => objAt H S.length = some [.int .i64 mm, .sl none 6 l.length (rowsC l)]) dmx (by decide) 24 (by decide) (by (simp [objAt])) ?_|refine GoW.nil rfl ?_|((first|refine GoR.o (by rfl) (by rfl) ?_|refine GoW.o (by rfl) (by rfl) ?_|refine GoW.rd (by rfl) (by rfl) ?_);(conv => arg 1;simp only [G,Z,Y,Gx,un_neg,cutD,decide_true,decide_false,simprocAttr,fb3,fb9,fb28,fb30,fb32,fb33,fb35,fb41,fb42,fb44,fb62,fb97,dl, at1, at2, at3, wrap_succ (show i < 4611686018427387904 by omega)]);first|show GoR ..|(show _ ∧ GoW ..;refine ⟨by (first|exact fun h => absurd h (by decide)|(intro _;(simp [objAt]))),?_⟩)|(show _ ∧ _ ∧ _ ∧ GoW ..;refine ⟨rfl,by (simp [objAt]),(fun H hI=>by (try dsimp only at hI);simp only [G,Z,Y,Gx,un_neg,cutD,decide_true,decide_false,simprocAttr,fb3,fb9,fb28,fb30,fb32,fb33,fb35,fb41,fb42,fb44,fb62,fb97,dl, at1, at2, at3, wrap_succ (show i < 4611686018427387904 by omega),hI]),?_⟩))|(refine GoW.c c11 (by rfl) (by rfl) rfl ?_;(refine (h4 _).ret ?_);refine ⟨by (first|exact fun h => absurd h (by decide)|(intro _;(simp [objAt]))),?_⟩)|(refine GoR.c c11 (by rfl) (by rfl) rfl ?_;(refine (h4 _).ret ?_))|(refine GoW.c c22 (by rfl) (by rfl) rfl ?_;(refine (hsr _).ret ?_);refine ⟨by (first|exact fun h => absurd h (by decide)|(intro _;(simp [objAt]))),?_⟩)|(refine GoR.c c22 (by rfl) (by rfl) rfl ?_;(refine (hsr _).ret ?_))|(refine GoW.c c56 (by rfl) (by rfl) rfl ?_;(refine (hoa _).ret ?_);refine ⟨by (first|exact fun h => absurd h (by decide)|(intro _;(simp [objAt]))),?_⟩)|(refine GoR.c c56 (by rfl) (by rfl) rfl ?_;(refine (hoa _).ret ?_))|(refine GoW.c c67 (by rfl) (by rfl) rfl ?_;(refine (hsa _).ret ?_);refine ⟨by (first|exact fun h => absurd h (by decide)|(intro _;(simp [objAt]))),?_⟩)|(refine GoR.c c67 (by rfl) (by rfl) rfl ?_;(refine (hsa _).ret ?_))|refine GoR.s (by rfl) rfl rfl ?_|refine GoW.s (by rfl) rfl rfl (by (first|exact fun h => absurd h (by decide)|(intro _;(simp [objAt])))) ?_|(refine GoR.splitG rfl (fun hc => ?_) (fun hc => ?_) <;> simp only [hc])|refine Go.condB rfl (fun hc => ?_) (fun hc => ?_))
    refine Go.lpN ?_
    refine Go.keep [(0, .ptr t 0), (3, .ptr S.length 0), (5, .sl none 6 l.length (rowsC l)), (6, .sl none 1 l.length (attssC l)), (7, .int .i64 ((i + 1 : Nat) : Int))] (.cons .refl (.cons .refl (.cons .refl (.cons .refl (.cons .refl (.nil)))))) ?_
    exact next (i + 1) (by omega) h1
  · clear next
    repeat' (first|refine Go.a rfl ?_|refine Go.rg ?_|refine GoR.nil ?_|refine Go.ret ?_|refine Go.b rfl ?_|refine Go.rgS dmx (by decide) ?_|refine Go.rgD (id := 3) [10] (fun _ => True) dmx (by decide) 22 (by decide) (by trivial) ?_|refine Go.rgD (id := 8) [6, 9, 19, 23] (fun _ => True) dmx (by decide) 24 (by decide) (by trivial) ?_|refine GoW.nil rfl ?_|((first|refine GoR.o (by rfl) (by rfl) ?_|refine GoW.o (by rfl) (by rfl) ?_|refine GoW.rd (by rfl) (by rfl) ?_);(conv => arg 1;simp only [G,Z,Y,Gx,un_neg,cutD,decide_true,decide_false,simprocAttr,fb3,fb9,fb28,fb30,fb32,fb33,fb35,fb41,fb42,fb44,fb62,fb97,show decide ((i : Int) < (l.length : Int)) = false by simp; omega]);first|show GoR ..|(show _ ∧ GoW ..;refine ⟨by exact fun _ => trivial,?_⟩)|(show _ ∧ _ ∧ _ ∧ GoW ..;refine ⟨rfl,by trivial,(fun H _=>by simp only [G,Z,Y,Gx,un_neg,cutD,decide_true,decide_false,simprocAttr,fb3,fb9,fb28,fb30,fb32,fb33,fb35,fb41,fb42,fb44,fb62,fb97,show decide ((i : Int) < (l.length : Int)) = false by simp; omega]),?_⟩))|refine GoR.s (by rfl) rfl rfl ?_|refine GoW.s (by rfl) rfl rfl (by exact fun _ => trivial) ?_|(refine GoR.splitG rfl (fun hc => ?_) (fun hc => ?_) <;> simp only [hc])|refine Go.condB rfl (fun hc => ?_) (fun hc => ?_))
    refine ⟨(by first | exact .inl rfl | exact .inr rfl), fin ?_⟩
    rw [resD_tmp (fn := Tryz.f20) rfl]
    simp only [optThen_some,resultD_tmp,resultD_cell,G,Z,Y,Gx,un_neg,cutD,decide_true,decide_false,simprocAttr,fb3,fb9,fb28,fb30,fb32,fb33,fb35,fb41,fb42,fb44,fb62,fb97]
    exact ⟨_, _, rfl, .bool, rfl⟩
end Go.Proofs.DtT

/- The law TablePlays. -/
namespace Go.Proofs.DtT
open Go Go.DM Go.Proofs.DtF
set_option maxRecDepth 100000

structure Ac where
  op : Int
  r : Rw
  k : ByteArray
  now : Int
  age : Int
def Ac.c (a : Ac) : List D := [.int .i64 a.op, .str a.r.key, .int .i64 a.r.st.tick, .int .i64 a.r.st.inc, .int .i64 a.r.st.seq, .str a.r.st.org, .sl none 5 a.r.at_.length (attsC a.r.at_), .str a.k, .int .i64 a.now, .int .i64 a.age]
theorem Ac.len (a : Ac) : a.c.length = 10 := rfl
def acsC (l : List Ac) : List D := l.flatMap Ac.c
theorem acsAt {l : List Ac} {i : Nat} (h : i < l.length) : ((0 ≤ (i : Int) ∧ (i : Int) < (l.length : Int)) = True) ∧ ((i * 10 + 10 ≤ (acsC l).length) = True) ∧ ((acsC l).drop (i * 10)).take 10 = l[i].c :=
  ⟨ix_ok h, flat_fits0 Ac.len l i h, flat_all Ac.len l i h⟩
theorem putT_le {most : Int} {l : List Rw} (hr : RiseB Rw.key l) {r : Rw} : (putT most l r).1.length ≤ l.length + 1 := by
  unfold putT
  split
  · simp
  · split
    · split
      · rw [lenK_put hr]; split <;> omega
      · simp
    · split
      · split
        · rw [lenK_put (riseK_drop hr _), lenK_drop hr]; split <;> split <;> omega
        · simp
      · rw [lenK_put hr]; split <;> omega
/-- A play's state: the table, and the document's beside it. -/
structure PlayI (S S1 : Mem) (T : Tb) (mo : Nat) (most : Int) (cur : List Rw) (o : D) : Prop where
  tab : Tab0 S S1 T most cur
  m : objAt S1 mo = some [.int .i64 most, o]
  w : Wf o (.sl none 6 cur.length (rowsC cur))
  nt : mo ∉ T.own
  lo : S.length ≤ mo
theorem PlayI.moved {S S1 S2 : Mem} {T : Tb} {mo : Nat} {most : Int} {cur cur' : List Rw} {o : D} {E : Mem} (h : PlayI S S1 T mo most cur o) (hok : OkT cur') (x : MovedT (S1 ++ E) T most cur' S2) :
    ∃ T' : Tb, T'.t = T.t ∧ Tab0 S S2 T' most cur' ∧ mo ∉ T'.own ∧ objAt S2 mo = some [.int .i64 most, o] ∧ ∀ o c, S1.length ≤ o → objAt (S1 ++ E) o = some c → objAt S2 o = some c := by
  obtain ⟨T', e1, _, h1, h2, h3⟩ := x
  have hlt := objAt_lt h.m
  refine ⟨T', e1, ⟨h1, hok, fun o ho => ?_, (h.tab.app E).fr.trans (F := []) h3 fun o ho => .inr (h.tab.lo o ho)⟩, fun hm => ?_, h3.obj (objAt_old h.m) h.nt, fun o c ho hc => h3.obj hc fun hT => ?_⟩
  · rcases h2 o ho with hh | hh
    · exact h.tab.lo o hh
    · exact Nat.le_trans (h.tab.app E).fr.len hh
  · rcases h2 mo hm with hh | hh
    · exact h.nt hh
    · simp at hh; omega
  · have := h.tab.tab.lt o hT
    omega
theorem PlayI.stored {S S2 : Mem} {T' : Tb} {mo : Nat} {most : Int} {cur' : List Rw} {o : D} (h : Tab0 S S2 T' most cur') (hm : objAt S2 mo = some [.int .i64 most, o]) (hn : mo ∉ T'.own) (hlo : S.length ≤ mo) :
    PlayI S (S2.set mo (.obj [.int .i64 most, .sl none 6 cur'.length (rowsC cur')])) T' mo most cur' (.sl none 6 cur'.length (rowsC cur')) :=
  have x : Fr [mo] S2 (S2.set mo (.obj [.int .i64 most, .sl none 6 cur'.length (rowsC cur')])) := .set (by simp)
  ⟨⟨h.tab.fr x (fun o ho hx => hn (by simp at hx; exact hx ▸ ho)), h.ok, h.lo, h.fr.trans (F := []) x (by simpa using hlo)⟩, objAt_set_eq (objAt_lt hm), .refl, hn, hlo⟩
theorem PlayI.app {S S1 T mo most cur o} (h : PlayI S S1 T mo most cur o) (E : Mem) : PlayI S (S1 ++ E) T mo most cur o := ⟨h.tab.app E, objAt_old h.m, h.w, h.nt, h.lo⟩
set_option maxHeartbeats 8000000 in
theorem lawPlays (most : Int) (l : List Ac) (key : ByteArray) (S : Mem) : CallD Tryz.prog O 3 [.int .i64 most, .sl none 10 l.length (acsC l), .str key] S fun d S' => S' = S ∧ d = .bool true := by
  refine CallD.e Tryz.func3 rfl Tryz.ntmps3 (by rfl) ?_
  by_cases h90 : 90 < l.length
  · repeat' (first|refine Go.a rfl ?_|refine Go.rg ?_|refine GoR.nil ?_|refine Go.ret ?_|refine Go.b rfl ?_|refine Go.rgS dmx (by decide) ?_|refine Go.rgF (id := 20) 8 [3, 4] [0] (fun _ => True) dmx (by decide) 4 (by decide) (by decide) rfl rfl rfl rfl dze30 (by simp [AM.scalarV, Value.cells]) (by trivial) ?_|refine Go.rgD (id := 44) [6] (fun _ => True) dmx (by decide) 7 (by decide) (by trivial) ?_|refine GoW.nil rfl ?_|((first|refine GoR.o (by rfl) (by rfl) ?_|refine GoW.o (by rfl) (by rfl) ?_|refine GoW.rd (by rfl) (by rfl) ?_);(conv => arg 1;simp only [G,Z,Y,Gx,un_neg,cutD,decide_true,decide_false,simprocAttr,fb2,fb3,fb4,fb9,fb22,fb24,fb28,fb30,fb32,fb33,fb35,fb37,fb41,fb42,fb44,show decide (90 < (l.length : Int)) = true by simp; omega]);first|show GoR ..|(show _ ∧ GoW ..;refine ⟨by exact fun _ => trivial,?_⟩)|(show _ ∧ _ ∧ _ ∧ GoW ..;refine ⟨rfl,by trivial,(fun H _=>by simp only [G,Z,Y,Gx,un_neg,cutD,decide_true,decide_false,simprocAttr,fb2,fb3,fb4,fb9,fb22,fb24,fb28,fb30,fb32,fb33,fb35,fb37,fb41,fb42,fb44,show decide (90 < (l.length : Int)) = true by simp; omega]),?_⟩))|(refine GoW.c c7 (by rfl) (by rfl) rfl ?_;(refine (known _).ret ?_);refine ⟨by exact fun _ => trivial,?_⟩)|(refine GoR.c c7 (by rfl) (by rfl) rfl ?_;(refine (known _).ret ?_))|refine GoR.s (by rfl) rfl rfl ?_|refine GoW.s (by rfl) rfl rfl (by exact fun _ => trivial) ?_|(refine GoR.splitG rfl (fun hc => ?_) (fun hc => ?_) <;> simp only [hc])|refine Go.condB rfl (fun hc => ?_) (fun hc => ?_))
    refine ⟨(by first | exact .inl rfl | exact .inr rfl), fin ?_⟩
    rw [resD_tmp (fn := Tryz.f3) rfl]
    simp only [optThen_some,resultD_tmp,resultD_cell,G,Z,Y,Gx,un_neg,cutD,decide_true,decide_false,simprocAttr,fb2,fb3,fb4,fb9,fb22,fb24,fb28,fb30,fb32,fb33,fb35,fb37,fb41,fb42,fb44]
    exact ⟨_, [], by simp, .bool, rfl⟩
  have d90 : decide (90 < (l.length : Int)) = false := by simp; omega
  by_cases h100 : 100 < key.size
  · repeat' (first|refine Go.a rfl ?_|refine Go.rg ?_|refine GoR.nil ?_|refine Go.ret ?_|refine Go.b rfl ?_|refine Go.rgS dmx (by decide) ?_|refine Go.rgF (id := 20) 8 [3, 4] [0] (fun _ => True) dmx (by decide) 4 (by decide) (by decide) rfl rfl rfl rfl dze30 (by simp [AM.scalarV, Value.cells]) (by trivial) ?_|refine Go.rgD (id := 44) [6] (fun _ => True) dmx (by decide) 7 (by decide) (by trivial) ?_|refine GoW.nil rfl ?_|((first|refine GoR.o (by rfl) (by rfl) ?_|refine GoW.o (by rfl) (by rfl) ?_|refine GoW.rd (by rfl) (by rfl) ?_);(conv => arg 1;simp only [G,Z,Y,Gx,un_neg,cutD,decide_true,decide_false,simprocAttr,fb2,fb3,fb4,fb9,fb22,fb24,fb28,fb30,fb32,fb33,fb35,fb37,fb41,fb42,fb44,d90, show decide (100 < (key.size : Int)) = true by simp; omega]);first|show GoR ..|(show _ ∧ GoW ..;refine ⟨by exact fun _ => trivial,?_⟩)|(show _ ∧ _ ∧ _ ∧ GoW ..;refine ⟨rfl,by trivial,(fun H _=>by simp only [G,Z,Y,Gx,un_neg,cutD,decide_true,decide_false,simprocAttr,fb2,fb3,fb4,fb9,fb22,fb24,fb28,fb30,fb32,fb33,fb35,fb37,fb41,fb42,fb44,d90, show decide (100 < (key.size : Int)) = true by simp; omega]),?_⟩))|(refine GoW.c c7 (by rfl) (by rfl) rfl ?_;(refine (known _).ret ?_);refine ⟨by exact fun _ => trivial,?_⟩)|(refine GoR.c c7 (by rfl) (by rfl) rfl ?_;(refine (known _).ret ?_))|refine GoR.s (by rfl) rfl rfl ?_|refine GoW.s (by rfl) rfl rfl (by exact fun _ => trivial) ?_|(refine GoR.splitG rfl (fun hc => ?_) (fun hc => ?_) <;> simp only [hc])|refine Go.condB rfl (fun hc => ?_) (fun hc => ?_))
    refine ⟨(by first | exact .inl rfl | exact .inr rfl), fin ?_⟩
    rw [resD_tmp (fn := Tryz.f3) rfl]
    simp only [optThen_some,resultD_tmp,resultD_cell,G,Z,Y,Gx,un_neg,cutD,decide_true,decide_false,simprocAttr,fb2,fb3,fb4,fb9,fb22,fb24,fb28,fb30,fb32,fb33,fb35,fb37,fb41,fb42,fb44]
    exact ⟨_, [], by simp, .bool, rfl⟩
  have d100 : decide (100 < (key.size : Int)) = false := by simp; omega
  by_cases hm : 1 ≤ most ∧ most ≤ 64
  rotate_left
  · by_cases hm1 : 1 ≤ most
    · repeat' (first|refine Go.a rfl ?_|refine Go.rg ?_|refine GoR.nil ?_|refine Go.ret ?_|refine Go.b rfl ?_|refine Go.rgS dmx (by decide) ?_|refine Go.rgF (id := 20) 8 [3, 4] [0] (fun _ => True) dmx (by decide) 4 (by decide) (by decide) rfl rfl rfl rfl dze30 (by simp [AM.scalarV, Value.cells]) (by trivial) ?_|refine Go.rgD (id := 44) [6] (fun _ => True) dmx (by decide) 7 (by decide) (by trivial) ?_|refine GoW.nil rfl ?_|((first|refine GoR.o (by rfl) (by rfl) ?_|refine GoW.o (by rfl) (by rfl) ?_|refine GoW.rd (by rfl) (by rfl) ?_);(conv => arg 1;simp only [G,Z,Y,Gx,un_neg,cutD,decide_true,decide_false,simprocAttr,fb2,fb3,fb4,fb9,fb22,fb24,fb28,fb30,fb32,fb33,fb35,fb37,fb41,fb42,fb44,d90, d100, decide_eq_true hm1, show decide (most ≤ 64) = false by simp; omega, bne_self_eq_false]);first|show GoR ..|(show _ ∧ GoW ..;refine ⟨by exact fun _ => trivial,?_⟩)|(show _ ∧ _ ∧ _ ∧ GoW ..;refine ⟨rfl,by trivial,(fun H _=>by simp only [G,Z,Y,Gx,un_neg,cutD,decide_true,decide_false,simprocAttr,fb2,fb3,fb4,fb9,fb22,fb24,fb28,fb30,fb32,fb33,fb35,fb37,fb41,fb42,fb44,d90, d100, decide_eq_true hm1, show decide (most ≤ 64) = false by simp; omega, bne_self_eq_false]),?_⟩))|(refine GoW.c c7 (by rfl) (by rfl) rfl ?_;(refine (known _).ret ?_);refine ⟨by exact fun _ => trivial,?_⟩)|(refine GoR.c c7 (by rfl) (by rfl) rfl ?_;(refine (known _).ret ?_))|(refine GoW.c c8 (by rfl) (by rfl) rfl ?_;(refine (tabNew1 hm _).ret ?_);refine ⟨by exact fun _ => trivial,?_⟩)|(refine GoR.c c8 (by rfl) (by rfl) rfl ?_;(refine (tabNew1 hm _).ret ?_))|refine GoR.s (by rfl) rfl rfl ?_|refine GoW.s (by rfl) rfl rfl (by exact fun _ => trivial) ?_|(refine GoR.splitG rfl (fun hc => ?_) (fun hc => ?_) <;> simp only [hc])|refine Go.condB rfl (fun hc => ?_) (fun hc => ?_))
      refine ⟨(by first | exact .inl rfl | exact .inr rfl), fin ?_⟩
      rw [resD_tmp (fn := Tryz.f3) rfl]
      simp only [optThen_some,resultD_tmp,resultD_cell,G,Z,Y,Gx,un_neg,cutD,decide_true,decide_false,simprocAttr,fb2,fb3,fb4,fb9,fb22,fb24,fb28,fb30,fb32,fb33,fb35,fb37,fb41,fb42,fb44]
      exact ⟨_, [], by simp, .bool, rfl⟩
    · repeat' (first|refine Go.a rfl ?_|refine Go.rg ?_|refine GoR.nil ?_|refine Go.ret ?_|refine Go.b rfl ?_|refine Go.rgS dmx (by decide) ?_|refine Go.rgF (id := 20) 8 [3, 4] [0] (fun _ => True) dmx (by decide) 4 (by decide) (by decide) rfl rfl rfl rfl dze30 (by simp [AM.scalarV, Value.cells]) (by trivial) ?_|refine Go.rgD (id := 44) [6] (fun _ => True) dmx (by decide) 7 (by decide) (by trivial) ?_|refine GoW.nil rfl ?_|((first|refine GoR.o (by rfl) (by rfl) ?_|refine GoW.o (by rfl) (by rfl) ?_|refine GoW.rd (by rfl) (by rfl) ?_);(conv => arg 1;simp only [G,Z,Y,Gx,un_neg,cutD,decide_true,decide_false,simprocAttr,fb2,fb3,fb4,fb9,fb22,fb24,fb28,fb30,fb32,fb33,fb35,fb37,fb41,fb42,fb44,d90, d100, decide_eq_false hm1, bne_self_eq_false]);first|show GoR ..|(show _ ∧ GoW ..;refine ⟨by exact fun _ => trivial,?_⟩)|(show _ ∧ _ ∧ _ ∧ GoW ..;refine ⟨rfl,by trivial,(fun H _=>by simp only [G,Z,Y,Gx,un_neg,cutD,decide_true,decide_false,simprocAttr,fb2,fb3,fb4,fb9,fb22,fb24,fb28,fb30,fb32,fb33,fb35,fb37,fb41,fb42,fb44,d90, d100, decide_eq_false hm1, bne_self_eq_false]),?_⟩))|(refine GoW.c c7 (by rfl) (by rfl) rfl ?_;(refine (known _).ret ?_);refine ⟨by exact fun _ => trivial,?_⟩)|(refine GoR.c c7 (by rfl) (by rfl) rfl ?_;(refine (known _).ret ?_))|(refine GoW.c c8 (by rfl) (by rfl) rfl ?_;(refine (tabNew1 hm _).ret ?_);refine ⟨by exact fun _ => trivial,?_⟩)|(refine GoR.c c8 (by rfl) (by rfl) rfl ?_;(refine (tabNew1 hm _).ret ?_))|refine GoR.s (by rfl) rfl rfl ?_|refine GoW.s (by rfl) rfl rfl (by exact fun _ => trivial) ?_|(refine GoR.splitG rfl (fun hc => ?_) (fun hc => ?_) <;> simp only [hc])|refine Go.condB rfl (fun hc => ?_) (fun hc => ?_))
      refine ⟨(by first | exact .inl rfl | exact .inr rfl), fin ?_⟩
      rw [resD_tmp (fn := Tryz.f3) rfl]
      simp only [optThen_some,resultD_tmp,resultD_cell,G,Z,Y,Gx,un_neg,cutD,decide_true,decide_false,simprocAttr,fb2,fb3,fb4,fb9,fb22,fb24,fb28,fb30,fb32,fb33,fb35,fb37,fb41,fb42,fb44]
      exact ⟨_, [], by simp, .bool, rfl⟩
  obtain ⟨hm1, hm64⟩ := hm
  repeat' (first|refine Go.a rfl ?_|refine Go.rg ?_|refine GoR.nil ?_|refine Go.ret ?_|refine Go.b rfl ?_|refine Go.rgS dmx (by decide) ?_|refine Go.rgF (id := 20) 8 [3, 4] [0] (fun _ => True) dmx (by decide) 4 (by decide) (by decide) rfl rfl rfl rfl dze30 (by simp [AM.scalarV, Value.cells]) (by trivial) ?_|refine Go.rgD (id := 44) [6] (fun _ => True) dmx (by decide) 7 (by decide) (by trivial) ?_|refine GoW.nil rfl ?_|((first|refine GoR.o (by rfl) (by rfl) ?_|refine GoW.o (by rfl) (by rfl) ?_|refine GoW.rd (by rfl) (by rfl) ?_);(conv => arg 1;simp only [G,Z,Y,Gx,un_neg,cutD,decide_true,decide_false,simprocAttr,fb2,fb3,fb4,fb9,fb22,fb24,fb28,fb30,fb32,fb33,fb35,fb37,fb41,fb42,fb44,d90, d100, decide_eq_true hm1, decide_eq_true hm64, bne_self_eq_false]);first|show GoR ..|(show _ ∧ GoW ..;refine ⟨by exact fun _ => trivial,?_⟩)|(show _ ∧ _ ∧ _ ∧ GoW ..;refine ⟨rfl,by trivial,(fun H _=>by simp only [G,Z,Y,Gx,un_neg,cutD,decide_true,decide_false,simprocAttr,fb2,fb3,fb4,fb9,fb22,fb24,fb28,fb30,fb32,fb33,fb35,fb37,fb41,fb42,fb44,d90, d100, decide_eq_true hm1, decide_eq_true hm64, bne_self_eq_false]),?_⟩))|(refine GoW.c c7 (by rfl) (by rfl) rfl ?_;(refine (known _).ret ?_);refine ⟨by exact fun _ => trivial,?_⟩)|(refine GoR.c c7 (by rfl) (by rfl) rfl ?_;(refine (known _).ret ?_))|(refine GoW.c c8 (by rfl) (by rfl) rfl ?_;(refine (new0 (S0 := S) hm1 hm64 .refl).mono ?_; rintro _ S1 ⟨T0, rfl, hT0, _, _⟩);refine ⟨by exact fun _ => trivial,?_⟩)|(refine GoR.c c8 (by rfl) (by rfl) rfl ?_;(refine (new0 (S0 := S) hm1 hm64 .refl).mono ?_; rintro _ S1 ⟨T0, rfl, hT0, _, _⟩))|refine GoR.s (by rfl) rfl rfl ?_|refine GoW.s (by rfl) rfl rfl (by exact fun _ => trivial) ?_|(refine GoR.splitG rfl (fun hc => ?_) (fun hc => ?_) <;> simp only [hc])|refine Go.condB rfl (fun hc => ?_) (fun hc => ?_))
  have hI0 : PlayI S (S1 ++ [.obj [.int .i64 most, .nils]]) T0 S1.length most [] .nils := ⟨hT0.app _, by rw [objAt_app0]; rfl, .nilE, fun hx => by have := hT0.tab.lt _ hx; omega, hT0.fr.len⟩
  generalize S1.length = mo at *
  refine Go.keep [(1, .sl none 10 l.length (acsC l)), (2, .str key), (7, .ptr T0.t 0), (10, .ptr mo 0), (11, .int .i64 ((0 : Nat) : Int))] (.cons .refl (.cons .refl (.cons .refl (.cons .refl (.cons .refl .nil))))) ?_
  refine Go.while (α := Nat × List Rw × Tb × D × Mem) (fun x => l.length - x.1) (fun x => [(1, .sl none 10 l.length (acsC l)), (2, .str key), (7, .ptr x.2.2.1.t 0), (10, .ptr mo 0), (11, .int .i64 (x.1 : Int))]) (fun x => x.2.2.2.2)
    (fun x => x.1 ≤ l.length ∧ x.2.1.length ≤ x.1 ∧ PlayI S x.2.2.2.2 x.2.2.1 mo most x.2.1 x.2.2.2.1) ?_ (0, [], T0, .nils, _) ⟨Nat.zero_le _, Nat.le_refl _, hI0⟩
  clear hI0 hT0
  rintro ⟨i, cur, T, o, S1⟩ ⟨hi, hcl, hI⟩ next
  dsimp only at hi hcl hI next
  have hok := hI.tab.ok
  have hmo : ∀ E, objAt (S1 ++ E) mo = some [.int .i64 most, o] := fun E => objAt_old hI.m
  have hw := hI.w
  by_cases h1 : i < l.length
  · have dl : decide ((i : Int) < (l.length : Int)) = true := by simp; omega
    have a1 := acsAt h1
    obtain ⟨Eg, hEg⟩ := (hI.tab.app [.obj l[i].c]).fr.pre (by simp)
    have hfw := fun S => few4 (orc := O) l[i].r S
    generalize l[i] = x at *
    have hox : ∀ E, objAt (S1 ++ (.obj x.c :: E)) S1.length = some x.c := fun E => by simp [objAt]
    cases hf : fewR x.r with
    | false =>
      clear next
      rw [hf] at hfw
      simp only [Ac.c, Rw.c] at *
      repeat' (first|refine Go.a rfl ?_|refine Go.rg ?_|refine GoR.nil ?_|refine Go.ret ?_|refine Go.b rfl ?_|refine Go.rgS dmx (by decide) ?_|refine Go.rgF (id := 20) 8 [3, 4] [0] (fun _ => True) dmx (by decide) 4 (by decide) (by decide) rfl rfl rfl rfl dze30 (by simp [AM.scalarV, Value.cells]) (by trivial) ?_|refine Go.rgD (id := 44) [6] (fun _ => True) dmx (by decide) 7 (by decide) (by trivial) ?_|refine GoW.nil rfl ?_|((first|refine GoR.o (by rfl) (by rfl) ?_|refine GoW.o (by rfl) (by rfl) ?_|refine GoW.rd (by rfl) (by rfl) ?_);(conv => arg 1;simp only [G,Z,Y,Gx,un_neg,cutD,decide_true,decide_false,simprocAttr,fb2,fb3,fb4,fb9,fb22,fb24,fb28,fb30,fb32,fb33,fb35,fb37,fb41,fb42,fb44,dl, a1, hox]);first|show GoR ..|(show _ ∧ GoW ..;refine ⟨by exact fun _ => trivial,?_⟩)|(show _ ∧ _ ∧ _ ∧ GoW ..;refine ⟨rfl,by trivial,(fun H _=>by simp only [G,Z,Y,Gx,un_neg,cutD,decide_true,decide_false,simprocAttr,fb2,fb3,fb4,fb9,fb22,fb24,fb28,fb30,fb32,fb33,fb35,fb37,fb41,fb42,fb44,dl, a1, hox]),?_⟩))|(refine GoW.c c9 (by rfl) (by rfl) rfl ?_;(refine (hfw _).ret ?_);refine ⟨by exact fun _ => trivial,?_⟩)|(refine GoR.c c9 (by rfl) (by rfl) rfl ?_;(refine (hfw _).ret ?_))|refine GoR.s (by rfl) rfl rfl ?_|refine GoW.s (by rfl) rfl rfl (by exact fun _ => trivial) ?_|(refine GoR.splitG rfl (fun hc => ?_) (fun hc => ?_) <;> simp only [hc])|refine Go.condB rfl (fun hc => ?_) (fun hc => ?_))
      refine ⟨(by first | exact .inl rfl | exact .inr rfl), fin ?_⟩
      rw [resD_tmp (fn := Tryz.f3) rfl]
      simp only [optThen_some,resultD_tmp,resultD_cell,G,Z,Y,Gx,un_neg,cutD,decide_true,decide_false,simprocAttr,fb2,fb3,fb4,fb9,fb22,fb24,fb28,fb30,fb32,fb33,fb35,fb37,fb41,fb42,fb44]
      exact ⟨_, Eg, hEg, .bool, rfl⟩
    | true =>
    rw [hf] at hfw
    obtain ⟨hfr, hor⟩ := fewR_ok hf
    by_cases hk : 100 < x.k.size
    · clear next
      simp only [Ac.c, Rw.c] at *
      repeat' (first|refine Go.a rfl ?_|refine Go.rg ?_|refine GoR.nil ?_|refine Go.ret ?_|refine Go.b rfl ?_|refine Go.rgS dmx (by decide) ?_|refine Go.rgF (id := 20) 8 [3, 4] [0] (fun _ => True) dmx (by decide) 4 (by decide) (by decide) rfl rfl rfl rfl dze30 (by simp [AM.scalarV, Value.cells]) (by trivial) ?_|refine Go.rgD (id := 44) [6] (fun _ => True) dmx (by decide) 7 (by decide) (by trivial) ?_|refine GoW.nil rfl ?_|((first|refine GoR.o (by rfl) (by rfl) ?_|refine GoW.o (by rfl) (by rfl) ?_|refine GoW.rd (by rfl) (by rfl) ?_);(conv => arg 1;simp only [G,Z,Y,Gx,un_neg,cutD,decide_true,decide_false,simprocAttr,fb2,fb3,fb4,fb9,fb22,fb24,fb28,fb30,fb32,fb33,fb35,fb37,fb41,fb42,fb44,dl, a1, hox, show decide (100 < (x.k.size : Int)) = true by simp; omega]);first|show GoR ..|(show _ ∧ GoW ..;refine ⟨by exact fun _ => trivial,?_⟩)|(show _ ∧ _ ∧ _ ∧ GoW ..;refine ⟨rfl,by trivial,(fun H _=>by simp only [G,Z,Y,Gx,un_neg,cutD,decide_true,decide_false,simprocAttr,fb2,fb3,fb4,fb9,fb22,fb24,fb28,fb30,fb32,fb33,fb35,fb37,fb41,fb42,fb44,dl, a1, hox, show decide (100 < (x.k.size : Int)) = true by simp; omega]),?_⟩))|(refine GoW.c c9 (by rfl) (by rfl) rfl ?_;(refine (hfw _).ret ?_);refine ⟨by exact fun _ => trivial,?_⟩)|(refine GoR.c c9 (by rfl) (by rfl) rfl ?_;(refine (hfw _).ret ?_))|refine GoR.s (by rfl) rfl rfl ?_|refine GoW.s (by rfl) rfl rfl (by exact fun _ => trivial) ?_|(refine GoR.splitG rfl (fun hc => ?_) (fun hc => ?_) <;> simp only [hc])|refine Go.condB rfl (fun hc => ?_) (fun hc => ?_))
      refine ⟨(by first | exact .inl rfl | exact .inr rfl), fin ?_⟩
      rw [resD_tmp (fn := Tryz.f3) rfl]
      simp only [optThen_some,resultD_tmp,resultD_cell,G,Z,Y,Gx,un_neg,cutD,decide_true,decide_false,simprocAttr,fb2,fb3,fb4,fb9,fb22,fb24,fb28,fb30,fb32,fb33,fb35,fb37,fb41,fb42,fb44]
      exact ⟨_, Eg, hEg, .bool, rfl⟩
    have dk : decide (100 < (x.k.size : Int)) = false := by simp; omega
    by_cases hnw : 1099511627776 < x.now
    · clear next
      simp only [Ac.c, Rw.c] at *
      repeat' (first|refine Go.a rfl ?_|refine Go.rg ?_|refine GoR.nil ?_|refine Go.ret ?_|refine Go.b rfl ?_|refine Go.rgS dmx (by decide) ?_|refine Go.rgF (id := 20) 8 [3, 4] [0] (fun _ => True) dmx (by decide) 4 (by decide) (by decide) rfl rfl rfl rfl dze30 (by simp [AM.scalarV, Value.cells]) (by trivial) ?_|refine Go.rgD (id := 44) [6] (fun _ => True) dmx (by decide) 7 (by decide) (by trivial) ?_|refine GoW.nil rfl ?_|((first|refine GoR.o (by rfl) (by rfl) ?_|refine GoW.o (by rfl) (by rfl) ?_|refine GoW.rd (by rfl) (by rfl) ?_);(conv => arg 1;simp only [G,Z,Y,Gx,un_neg,cutD,decide_true,decide_false,simprocAttr,fb2,fb3,fb4,fb9,fb22,fb24,fb28,fb30,fb32,fb33,fb35,fb37,fb41,fb42,fb44,dl, a1, hox, dk, decide_eq_true hnw]);first|show GoR ..|(show _ ∧ GoW ..;refine ⟨by exact fun _ => trivial,?_⟩)|(show _ ∧ _ ∧ _ ∧ GoW ..;refine ⟨rfl,by trivial,(fun H _=>by simp only [G,Z,Y,Gx,un_neg,cutD,decide_true,decide_false,simprocAttr,fb2,fb3,fb4,fb9,fb22,fb24,fb28,fb30,fb32,fb33,fb35,fb37,fb41,fb42,fb44,dl, a1, hox, dk, decide_eq_true hnw]),?_⟩))|(refine GoW.c c9 (by rfl) (by rfl) rfl ?_;(refine (hfw _).ret ?_);refine ⟨by exact fun _ => trivial,?_⟩)|(refine GoR.c c9 (by rfl) (by rfl) rfl ?_;(refine (hfw _).ret ?_))|refine GoR.s (by rfl) rfl rfl ?_|refine GoW.s (by rfl) rfl rfl (by exact fun _ => trivial) ?_|(refine GoR.splitG rfl (fun hc => ?_) (fun hc => ?_) <;> simp only [hc])|refine Go.condB rfl (fun hc => ?_) (fun hc => ?_))
      refine ⟨(by first | exact .inl rfl | exact .inr rfl), fin ?_⟩
      rw [resD_tmp (fn := Tryz.f3) rfl]
      simp only [optThen_some,resultD_tmp,resultD_cell,G,Z,Y,Gx,un_neg,cutD,decide_true,decide_false,simprocAttr,fb2,fb3,fb4,fb9,fb22,fb24,fb28,fb30,fb32,fb33,fb35,fb37,fb41,fb42,fb44]
      exact ⟨_, Eg, hEg, .bool, rfl⟩
    by_cases hag : 1099511627776 < x.age
    · clear next
      simp only [Ac.c, Rw.c] at *
      repeat' (first|refine Go.a rfl ?_|refine Go.rg ?_|refine GoR.nil ?_|refine Go.ret ?_|refine Go.b rfl ?_|refine Go.rgS dmx (by decide) ?_|refine Go.rgF (id := 20) 8 [3, 4] [0] (fun _ => True) dmx (by decide) 4 (by decide) (by decide) rfl rfl rfl rfl dze30 (by simp [AM.scalarV, Value.cells]) (by trivial) ?_|refine Go.rgD (id := 44) [6] (fun _ => True) dmx (by decide) 7 (by decide) (by trivial) ?_|refine GoW.nil rfl ?_|((first|refine GoR.o (by rfl) (by rfl) ?_|refine GoW.o (by rfl) (by rfl) ?_|refine GoW.rd (by rfl) (by rfl) ?_);(conv => arg 1;simp only [G,Z,Y,Gx,un_neg,cutD,decide_true,decide_false,simprocAttr,fb2,fb3,fb4,fb9,fb22,fb24,fb28,fb30,fb32,fb33,fb35,fb37,fb41,fb42,fb44,dl, a1, hox, dk, decide_eq_false hnw, decide_eq_true hag]);first|show GoR ..|(show _ ∧ GoW ..;refine ⟨by exact fun _ => trivial,?_⟩)|(show _ ∧ _ ∧ _ ∧ GoW ..;refine ⟨rfl,by trivial,(fun H _=>by simp only [G,Z,Y,Gx,un_neg,cutD,decide_true,decide_false,simprocAttr,fb2,fb3,fb4,fb9,fb22,fb24,fb28,fb30,fb32,fb33,fb35,fb37,fb41,fb42,fb44,dl, a1, hox, dk, decide_eq_false hnw, decide_eq_true hag]),?_⟩))|(refine GoW.c c9 (by rfl) (by rfl) rfl ?_;(refine (hfw _).ret ?_);refine ⟨by exact fun _ => trivial,?_⟩)|(refine GoR.c c9 (by rfl) (by rfl) rfl ?_;(refine (hfw _).ret ?_))|refine GoR.s (by rfl) rfl rfl ?_|refine GoW.s (by rfl) rfl rfl (by exact fun _ => trivial) ?_|(refine GoR.splitG rfl (fun hc => ?_) (fun hc => ?_) <;> simp only [hc])|refine Go.condB rfl (fun hc => ?_) (fun hc => ?_))
      refine ⟨(by first | exact .inl rfl | exact .inr rfl), fin ?_⟩
      rw [resD_tmp (fn := Tryz.f3) rfl]
      simp only [optThen_some,resultD_tmp,resultD_cell,G,Z,Y,Gx,un_neg,cutD,decide_true,decide_false,simprocAttr,fb2,fb3,fb4,fb9,fb22,fb24,fb28,fb30,fb32,fb33,fb35,fb37,fb41,fb42,fb44]
      exact ⟨_, Eg, hEg, .bool, rfl⟩
    clear hEg
    have dn := decide_eq_false hnw
    have da := decide_eq_false hag
    by_cases o1 : x.op = 1
    · have b1 : (x.op == 1) = true := by simpa using o1
      obtain ⟨y, e, he⟩ : ∃ y e, putT most cur x.r = (y, e) := ⟨_, _, rfl⟩
      have hyk : OkT y := by have := hok.putT (most := most) (by omega) hor; rwa [he] at this
      have hyl : y.length ≤ cur.length + 1 := by have := putT_le (most := most) hok.rise (r := x.r); rwa [he] at this
      have hof := fun S => of4 (orc := O) x.r (by have := hor.len; omega) S
      have hrp := fun S => CallD.weak (.cons (.agg' (.cons .refl (.cons hw .nil))) .refl) (refPutT (most := most) hok hm1 x.r hfr S)
      have hp := fun E => tabPut (hI.tab.app E).tab hok hm1 x.r hfr hor
      rw [he] at hrp hp
      simp only [Ac.c, Rw.c, refT] at *
      repeat' (first|refine Go.a rfl ?_|refine Go.rg ?_|refine GoR.nil ?_|refine Go.ret ?_|refine Go.b rfl ?_|refine Go.rgS dmx (by decide) ?_|refine Go.rgF (id := 20) 8 [3, 4] [0] (fun H => objAt H mo = some [.int .i64 most, o] ∧ objAt H S1.length = some [.int .i64 x.op, .str x.r.key, .int .i64 x.r.st.tick, .int .i64 x.r.st.inc, .int .i64 x.r.st.seq, .str x.r.st.org, .sl none 5 x.r.at_.length (attsC x.r.at_), .str x.k, .int .i64 x.now, .int .i64 x.age]) dmx (by decide) 4 (by decide) (by decide) rfl rfl rfl rfl dze30 (by simp [AM.scalarV, Value.cells]) (by (exact ⟨hmo _, hox _⟩)) ?_|refine Go.rgD (id := 44) [6] (fun H => objAt H mo = some [.int .i64 most, o] ∧ objAt H S1.length = some [.int .i64 x.op, .str x.r.key, .int .i64 x.r.st.tick, .int .i64 x.r.st.inc, .int .i64 x.r.st.seq, .str x.r.st.org, .sl none 5 x.r.at_.length (attsC x.r.at_), .str x.k, .int .i64 x.now, .int .i64 x.age]) dmx (by decide) 7 (by decide) (by (exact ⟨hmo _, hox _⟩)) ?_|refine GoW.nil rfl ?_|((first|refine GoR.o (by rfl) (by rfl) ?_|refine GoW.o (by rfl) (by rfl) ?_|refine GoW.rd (by rfl) (by rfl) ?_);(conv => arg 1;simp only [G,Z,Y,Gx,un_neg,cutD,decide_true,decide_false,simprocAttr,fb2,fb3,fb4,fb9,fb22,fb24,fb28,fb30,fb32,fb33,fb35,fb37,fb41,fb42,fb44,dl, a1, hox, dk, dn, da, b1, hmo, bne_self_eq_false]);first|show GoR ..|(show _ ∧ GoW ..;refine ⟨by (first|exact fun h => absurd h (by decide)|(intro _;(exact ⟨hmo _, hox _⟩))),?_⟩)|(show _ ∧ _ ∧ _ ∧ GoW ..;refine ⟨rfl,by (exact ⟨hmo _, hox _⟩),(fun H hI=>by (try dsimp only at hI);simp only [G,Z,Y,Gx,un_neg,cutD,decide_true,decide_false,simprocAttr,fb2,fb3,fb4,fb9,fb22,fb24,fb28,fb30,fb32,fb33,fb35,fb37,fb41,fb42,fb44,dl, a1, hox, dk, dn, da, b1, hmo, bne_self_eq_false,hI]),?_⟩))|(refine GoW.c c9 (by rfl) (by rfl) rfl ?_;(refine (hfw _).ret ?_);refine ⟨by (first|exact fun h => absurd h (by decide)|(intro _;(exact ⟨hmo _, hox _⟩))),?_⟩)|(refine GoR.c c9 (by rfl) (by rfl) rfl ?_;(refine (hfw _).ret ?_))|(refine GoW.c c11 (by rfl) (by rfl) rfl ?_;(refine (hof _).ret ?_);refine ⟨by (first|exact fun h => absurd h (by decide)|(intro _;(exact ⟨hmo _, hox _⟩))),?_⟩)|(refine GoR.c c11 (by rfl) (by rfl) rfl ?_;(refine (hof _).ret ?_))|(refine GoW.c c10 (by rfl) (by rfl) rfl ?_;(refine (hrp _).ret ?_);refine ⟨by (first|exact fun h => absurd h (by decide)|(intro _;(exact ⟨hmo _, hox _⟩))),?_⟩)|(refine GoR.c c10 (by rfl) (by rfl) rfl ?_;(refine (hrp _).ret ?_))|(refine GoW.c c12 (by rfl) (by rfl) rfl ?_;(refine (hp _).mono ?_; rintro _ S2 ⟨rfl, hmv⟩);refine ⟨by (first|exact fun h => absurd h (by decide)|(intro _;(exact ⟨hmo _, hox _⟩))),?_⟩)|(refine GoR.c c12 (by rfl) (by rfl) rfl ?_;(refine (hp _).mono ?_; rintro _ S2 ⟨rfl, hmv⟩))|refine GoR.s (by rfl) rfl rfl ?_|refine GoW.s (by rfl) rfl rfl (by (first|exact fun h => absurd h (by decide)|(intro _;(exact ⟨hmo _, hox _⟩)))) ?_|(refine GoR.splitG rfl (fun hc => ?_) (fun hc => ?_) <;> simp only [hc])|refine Go.condB rfl (fun hc => ?_) (fun hc => ?_))
      obtain ⟨T', e1, hT', hn', hm', hobj⟩ := hI.moved hyk hmv
      have hno := hobj (S1.length + 1) _ (by omega) (by simp [objAt]; rfl)
      have hI' := PlayI.stored (cur' := y) hT' hm' hn' hI.lo
      have hsm := CallD.weak (.cons .refl (.cons (.agg' (.cons .refl (.cons hI'.w .nil))) .nil)) (same13 (t := T.t) hI'.tab (e1) most)
      have hmm := hI'.m
      try simp only [refT] at hsm
      repeat' (first|refine Go.a rfl ?_|refine Go.rg ?_|refine GoR.nil ?_|refine Go.ret ?_|refine Go.b rfl ?_|refine Go.rgS dmx (by decide) ?_|refine Go.rgF (id := 20) 8 [3, 4] [0] (fun _ => True) dmx (by decide) 4 (by decide) (by decide) rfl rfl rfl rfl dze30 (by simp [AM.scalarV, Value.cells]) (by trivial) ?_|refine Go.rgD (id := 44) [6] (fun _ => True) dmx (by decide) 7 (by decide) (by trivial) ?_|refine GoW.nil rfl ?_|((first|refine GoR.o (by rfl) (by rfl) ?_|refine GoW.o (by rfl) (by rfl) ?_|refine GoW.rd (by rfl) (by rfl) ?_);(conv => arg 1;simp only [G,Z,Y,Gx,un_neg,cutD,decide_true,decide_false,simprocAttr,fb2,fb3,fb4,fb9,fb22,fb24,fb28,fb30,fb32,fb33,fb35,fb37,fb41,fb42,fb44,hno, hm', hmm, wrap_succ (show i < 4611686018427387904 by omega)]);first|show GoR ..|(show _ ∧ GoW ..;refine ⟨by exact fun _ => trivial,?_⟩)|(show _ ∧ _ ∧ _ ∧ GoW ..;refine ⟨rfl,by trivial,(fun H _=>by simp only [G,Z,Y,Gx,un_neg,cutD,decide_true,decide_false,simprocAttr,fb2,fb3,fb4,fb9,fb22,fb24,fb28,fb30,fb32,fb33,fb35,fb37,fb41,fb42,fb44,hno, hm', hmm, wrap_succ (show i < 4611686018427387904 by omega)]),?_⟩))|(refine GoW.c c15 (by rfl) (by rfl) rfl ?_;(refine (hrd _).ret ?_);refine ⟨by exact fun _ => trivial,?_⟩)|(refine GoR.c c15 (by rfl) (by rfl) rfl ?_;(refine (hrd _).ret ?_))|(refine GoW.c c20 (by rfl) (by rfl) rfl ?_;(refine hsm.ret ?_);refine ⟨by exact fun _ => trivial,?_⟩)|(refine GoR.c c20 (by rfl) (by rfl) rfl ?_;(refine hsm.ret ?_))|refine GoR.s (by rfl) rfl rfl ?_|refine GoW.s (by rfl) rfl rfl (by exact fun _ => trivial) ?_|(refine GoR.splitG rfl (fun hc => ?_) (fun hc => ?_) <;> simp only [hc])|refine Go.condB rfl (fun hc => ?_) (fun hc => ?_))
      rw [← e1]
      refine Go.lpN ?_
      refine Go.keep [(1, .sl none 10 l.length (acsC l)), (2, .str key), (7, .ptr T'.t 0), (10, .ptr mo 0), (11, .int .i64 ((i + 1 : Nat) : Int))] (.cons .refl (.cons .refl (.cons .refl (.cons .refl (.cons .refl (.nil)))))) ?_
      exact next (i + 1, y, T', _, _) (by dsimp only; omega) ⟨h1, by dsimp only; omega, hI'⟩
    have b1 : (x.op == 1) = false := by simpa using o1
    by_cases o2 : x.op = 2
    · have b2 : (x.op == 2) = true := by simpa using o2
      have hyk := hok.drop x.k
      have hyl : (dropK Rw.key cur x.k).length ≤ cur.length + 1 := by rw [lenK_drop hok.rise]; split <;> omega
      have hgt := fun S => CallD.weak (.cons (.agg' (.cons .refl (.cons hw .nil))) .refl) (refGetT (orc := O) (most := most) hok.rise hok.len x.k S)
      have hrd := fun S => CallD.weak (.cons (.agg' (.cons .refl (.cons hw .nil))) .refl) (refDropT (orc := O) (most := most) hok.len x.k S)
      have hd := fun E => tabDrop (hI.tab.app E).tab hok x.k
      simp only [restK_drop hok.rise] at hrd
      generalize dropK Rw.key cur x.k = y at *
      simp only [Ac.c, Rw.c, refT] at *
      repeat' (first|refine Go.a rfl ?_|refine Go.rg ?_|refine GoR.nil ?_|refine Go.ret ?_|refine Go.b rfl ?_|refine Go.rgS dmx (by decide) ?_|refine Go.rgF (id := 20) 8 [3, 4] [0] (fun _ => True) dmx (by decide) 4 (by decide) (by decide) rfl rfl rfl rfl dze30 (by simp [AM.scalarV, Value.cells]) (by trivial) ?_|refine Go.rgD (id := 44) [6] (fun _ => True) dmx (by decide) 7 (by decide) (by trivial) ?_|refine GoW.nil rfl ?_|((first|refine GoR.o (by rfl) (by rfl) ?_|refine GoW.o (by rfl) (by rfl) ?_|refine GoW.rd (by rfl) (by rfl) ?_);(conv => arg 1;simp only [G,Z,Y,Gx,un_neg,cutD,decide_true,decide_false,simprocAttr,fb2,fb3,fb4,fb9,fb22,fb24,fb28,fb30,fb32,fb33,fb35,fb37,fb41,fb42,fb44,dl, a1, hox, dk, dn, da, b1, b2, hmo, bne_self_eq_false]);first|show GoR ..|(show _ ∧ GoW ..;refine ⟨by exact fun _ => trivial,?_⟩)|(show _ ∧ _ ∧ _ ∧ GoW ..;refine ⟨rfl,by trivial,(fun H _=>by simp only [G,Z,Y,Gx,un_neg,cutD,decide_true,decide_false,simprocAttr,fb2,fb3,fb4,fb9,fb22,fb24,fb28,fb30,fb32,fb33,fb35,fb37,fb41,fb42,fb44,dl, a1, hox, dk, dn, da, b1, b2, hmo, bne_self_eq_false]),?_⟩))|(refine GoW.c c9 (by rfl) (by rfl) rfl ?_;(refine (hfw _).ret ?_);refine ⟨by exact fun _ => trivial,?_⟩)|(refine GoR.c c9 (by rfl) (by rfl) rfl ?_;(refine (hfw _).ret ?_))|(refine GoW.c c13 (by rfl) (by rfl) rfl ?_;(refine (hgt _).ret ?_);refine ⟨by exact fun _ => trivial,?_⟩)|(refine GoR.c c13 (by rfl) (by rfl) rfl ?_;(refine (hgt _).ret ?_))|(refine GoW.c c14 (by rfl) (by rfl) rfl ?_;(refine (hd _).mono ?_; rintro _ S2 ⟨rfl, hmv⟩);refine ⟨by exact fun _ => trivial,?_⟩)|(refine GoR.c c14 (by rfl) (by rfl) rfl ?_;(refine (hd _).mono ?_; rintro _ S2 ⟨rfl, hmv⟩))|refine GoR.s (by rfl) rfl rfl ?_|refine GoW.s (by rfl) rfl rfl (by exact fun _ => trivial) ?_|(refine GoR.splitG rfl (fun hc => ?_) (fun hc => ?_) <;> simp only [hc])|refine Go.condB rfl (fun hc => ?_) (fun hc => ?_))
      obtain ⟨T', e1, hT', hn', hm', hobj⟩ := hI.moved hyk hmv
      have hno := hobj S1.length _ (by omega) (by simp [objAt]; rfl)
      have hI' := PlayI.stored (cur' := y) hT' hm' hn' hI.lo
      have hsm := CallD.weak (.cons .refl (.cons (.agg' (.cons .refl (.cons hI'.w .nil))) .nil)) (same13 (t := T.t) hI'.tab (e1) most)
      have hmm := hI'.m
      try simp only [refT] at hsm
      repeat' (first|refine Go.a rfl ?_|refine Go.rg ?_|refine GoR.nil ?_|refine Go.ret ?_|refine Go.b rfl ?_|refine Go.rgS dmx (by decide) ?_|refine Go.rgF (id := 20) 8 [3, 4] [0] (fun _ => True) dmx (by decide) 4 (by decide) (by decide) rfl rfl rfl rfl dze30 (by simp [AM.scalarV, Value.cells]) (by trivial) ?_|refine Go.rgD (id := 44) [6] (fun _ => True) dmx (by decide) 7 (by decide) (by trivial) ?_|refine GoW.nil rfl ?_|((first|refine GoR.o (by rfl) (by rfl) ?_|refine GoW.o (by rfl) (by rfl) ?_|refine GoW.rd (by rfl) (by rfl) ?_);(conv => arg 1;simp only [G,Z,Y,Gx,un_neg,cutD,decide_true,decide_false,simprocAttr,fb2,fb3,fb4,fb9,fb22,fb24,fb28,fb30,fb32,fb33,fb35,fb37,fb41,fb42,fb44,hno, hm', hmm, wrap_succ (show i < 4611686018427387904 by omega)]);first|show GoR ..|(show _ ∧ GoW ..;refine ⟨by exact fun _ => trivial,?_⟩)|(show _ ∧ _ ∧ _ ∧ GoW ..;refine ⟨rfl,by trivial,(fun H _=>by simp only [G,Z,Y,Gx,un_neg,cutD,decide_true,decide_false,simprocAttr,fb2,fb3,fb4,fb9,fb22,fb24,fb28,fb30,fb32,fb33,fb35,fb37,fb41,fb42,fb44,hno, hm', hmm, wrap_succ (show i < 4611686018427387904 by omega)]),?_⟩))|(refine GoW.c c15 (by rfl) (by rfl) rfl ?_;(refine (hrd _).ret ?_);refine ⟨by exact fun _ => trivial,?_⟩)|(refine GoR.c c15 (by rfl) (by rfl) rfl ?_;(refine (hrd _).ret ?_))|(refine GoW.c c20 (by rfl) (by rfl) rfl ?_;(refine hsm.ret ?_);refine ⟨by exact fun _ => trivial,?_⟩)|(refine GoR.c c20 (by rfl) (by rfl) rfl ?_;(refine hsm.ret ?_))|refine GoR.s (by rfl) rfl rfl ?_|refine GoW.s (by rfl) rfl rfl (by exact fun _ => trivial) ?_|(refine GoR.splitG rfl (fun hc => ?_) (fun hc => ?_) <;> simp only [hc])|refine Go.condB rfl (fun hc => ?_) (fun hc => ?_))
      rw [← e1]
      refine Go.lpN ?_
      refine Go.keep [(1, .sl none 10 l.length (acsC l)), (2, .str key), (7, .ptr T'.t 0), (10, .ptr mo 0), (11, .int .i64 ((i + 1 : Nat) : Int))] (.cons .refl (.cons .refl (.cons .refl (.cons .refl (.cons .refl (.nil)))))) ?_
      exact next (i + 1, y, T', _, _) (by dsimp only; omega) ⟨h1, by dsimp only; omega, hI'⟩
    have b2 : (x.op == 2) = false := by simpa using o2
    by_cases o3 : x.op = 3
    · have b3 : (x.op == 3) = true := by simpa using o3
      by_cases hneg : x.now < 0 ∨ x.age < 0
      · have hrs := fun S => CallD.weak (.cons (.agg' (.cons .refl (.cons hw .nil))) .refl) (refSweepNo (orc := O) (most := most) (l := cur) hneg x.k S)
        have hs := fun E => tabSweepNo (orc := O) (S := S1 ++ E) (T := T) hneg x.k
        have htx := fun S => texts6 (orc := O) [] (by simp) S
        simp only [Ac.c, Rw.c, refT] at *
        have hyl : cur.length ≤ cur.length + 1 := by omega
        repeat' (first|refine Go.a rfl ?_|refine Go.rg ?_|refine GoR.nil ?_|refine Go.ret ?_|refine Go.b rfl ?_|refine Go.rgS dmx (by decide) ?_|refine Go.rgF (id := 20) 8 [3, 4] [0] (fun _ => True) dmx (by decide) 4 (by decide) (by decide) rfl rfl rfl rfl dze30 (by simp [AM.scalarV, Value.cells]) (by trivial) ?_|refine Go.rgD (id := 44) [6] (fun _ => True) dmx (by decide) 7 (by decide) (by trivial) ?_|refine GoW.nil rfl ?_|((first|refine GoR.o (by rfl) (by rfl) ?_|refine GoW.o (by rfl) (by rfl) ?_|refine GoW.rd (by rfl) (by rfl) ?_);(conv => arg 1;simp only [G,Z,Y,Gx,un_neg,cutD,decide_true,decide_false,simprocAttr,fb2,fb3,fb4,fb9,fb22,fb24,fb28,fb30,fb32,fb33,fb35,fb37,fb41,fb42,fb44,dl, a1, hox, dk, dn, da, b1, b2, b3, hmo]);first|show GoR ..|(show _ ∧ GoW ..;refine ⟨by exact fun _ => trivial,?_⟩)|(show _ ∧ _ ∧ _ ∧ GoW ..;refine ⟨rfl,by trivial,(fun H _=>by simp only [G,Z,Y,Gx,un_neg,cutD,decide_true,decide_false,simprocAttr,fb2,fb3,fb4,fb9,fb22,fb24,fb28,fb30,fb32,fb33,fb35,fb37,fb41,fb42,fb44,dl, a1, hox, dk, dn, da, b1, b2, b3, hmo]),?_⟩))|(refine GoW.c c9 (by rfl) (by rfl) rfl ?_;(refine (hfw _).ret ?_);refine ⟨by exact fun _ => trivial,?_⟩)|(refine GoR.c c9 (by rfl) (by rfl) rfl ?_;(refine (hfw _).ret ?_))|(refine GoW.c c16 (by rfl) (by rfl) rfl ?_;(refine (hrs _).ret ?_);refine ⟨by exact fun _ => trivial,?_⟩)|(refine GoR.c c16 (by rfl) (by rfl) rfl ?_;(refine (hrs _).ret ?_))|(refine GoW.c c18 (by rfl) (by rfl) rfl ?_;(refine (hs _).ret ?_);refine ⟨by exact fun _ => trivial,?_⟩)|(refine GoR.c c18 (by rfl) (by rfl) rfl ?_;(refine (hs _).ret ?_))|(refine GoW.c c17 (by rfl) (by rfl) rfl ?_;(refine (htx _).ret ?_);refine ⟨by exact fun _ => trivial,?_⟩)|(refine GoR.c c17 (by rfl) (by rfl) rfl ?_;(refine (htx _).ret ?_))|refine GoR.s (by rfl) rfl rfl ?_|refine GoW.s (by rfl) rfl rfl (by exact fun _ => trivial) ?_|(refine GoR.splitG rfl (fun hc => ?_) (fun hc => ?_) <;> simp only [hc])|refine Go.condB rfl (fun hc => ?_) (fun hc => ?_))
        have hI' := fun E => PlayI.stored (cur' := cur) (hI.tab.app E) (hmo E) hI.nt hI.lo
        have hsm := fun E => CallD.weak (.cons .refl (.cons (.agg' (.cons .refl (.cons (hI' E).w .nil))) .nil)) (same13 (t := T.t) (hI' E).tab rfl most)
        have hmm := fun E => (hI' E).m
        try simp only [refT] at hsm
        repeat' (first|refine Go.a rfl ?_|refine Go.rg ?_|refine GoR.nil ?_|refine Go.ret ?_|refine Go.b rfl ?_|refine Go.rgS dmx (by decide) ?_|refine Go.rgF (id := 20) 8 [3, 4] [0] (fun _ => True) dmx (by decide) 4 (by decide) (by decide) rfl rfl rfl rfl dze30 (by simp [AM.scalarV, Value.cells]) (by trivial) ?_|refine Go.rgD (id := 44) [6] (fun _ => True) dmx (by decide) 7 (by decide) (by trivial) ?_|refine GoW.nil rfl ?_|((first|refine GoR.o (by rfl) (by rfl) ?_|refine GoW.o (by rfl) (by rfl) ?_|refine GoW.rd (by rfl) (by rfl) ?_);(conv => arg 1;simp only [G,Z,Y,Gx,un_neg,cutD,decide_true,decide_false,simprocAttr,fb2,fb3,fb4,fb9,fb22,fb24,fb28,fb30,fb32,fb33,fb35,fb37,fb41,fb42,fb44,hmo, hmm, wrap_succ (show i < 4611686018427387904 by omega)]);first|show GoR ..|(show _ ∧ GoW ..;refine ⟨by exact fun _ => trivial,?_⟩)|(show _ ∧ _ ∧ _ ∧ GoW ..;refine ⟨rfl,by trivial,(fun H _=>by simp only [G,Z,Y,Gx,un_neg,cutD,decide_true,decide_false,simprocAttr,fb2,fb3,fb4,fb9,fb22,fb24,fb28,fb30,fb32,fb33,fb35,fb37,fb41,fb42,fb44,hmo, hmm, wrap_succ (show i < 4611686018427387904 by omega)]),?_⟩))|(refine GoW.c c20 (by rfl) (by rfl) rfl ?_;(refine (hsm _).ret ?_);refine ⟨by exact fun _ => trivial,?_⟩)|(refine GoR.c c20 (by rfl) (by rfl) rfl ?_;(refine (hsm _).ret ?_))|refine GoR.s (by rfl) rfl rfl ?_|refine GoW.s (by rfl) rfl rfl (by exact fun _ => trivial) ?_|(refine GoR.splitG rfl (fun hc => ?_) (fun hc => ?_) <;> simp only [hc])|refine Go.condB rfl (fun hc => ?_) (fun hc => ?_))
        refine Go.lpN ?_
        refine Go.keep [(1, .sl none 10 l.length (acsC l)), (2, .str key), (7, .ptr T.t 0), (10, .ptr mo 0), (11, .int .i64 ((i + 1 : Nat) : Int))] (.cons .refl (.cons .refl (.cons .refl (.cons .refl (.cons .refl (.nil)))))) ?_
        exact next (i + 1, cur, T, _, _) (by dsimp only; omega) ⟨h1, by dsimp only; omega, hI' _⟩
      have hn0 : 0 ≤ x.now := by omega
      have ha0 : 0 ≤ x.age := by omega
      have hyk := hok.sub (keptL_sub (now := x.now) (age := x.age) (keep := x.k))
      have hyl : (keptL x.now x.age x.k cur).length ≤ cur.length + 1 := by have := (keptL_sub (now := x.now) (age := x.age) (keep := x.k) (l := cur)).length_le; omega
      have hrs := fun S => CallD.weak (.cons (.agg' (.cons .refl (.cons hw .nil))) .refl) (refSweep (orc := O) (most := most) hok.len hn0 ha0 x.k S)
      have hs := fun E => tabSweep (hI.tab.app E).tab hok hn0 ha0 x.k
      have htx := fun S => texts6 (orc := O) (goneL x.now x.age x.k cur) (by have h1 := List.length_filter_le (goneP x.now x.age x.k) cur; have h2 := hok.len; unfold goneL; rw [List.length_map]; omega) S
      generalize keptL x.now x.age x.k cur = y at *
      generalize goneL x.now x.age x.k cur = g at *
      simp only [Ac.c, Rw.c, refT, strsD] at *
      repeat' (first|refine Go.a rfl ?_|refine Go.rg ?_|refine GoR.nil ?_|refine Go.ret ?_|refine Go.b rfl ?_|refine Go.rgS dmx (by decide) ?_|refine Go.rgF (id := 20) 8 [3, 4] [0] (fun _ => True) dmx (by decide) 4 (by decide) (by decide) rfl rfl rfl rfl dze30 (by simp [AM.scalarV, Value.cells]) (by trivial) ?_|refine Go.rgD (id := 44) [6] (fun _ => True) dmx (by decide) 7 (by decide) (by trivial) ?_|refine GoW.nil rfl ?_|((first|refine GoR.o (by rfl) (by rfl) ?_|refine GoW.o (by rfl) (by rfl) ?_|refine GoW.rd (by rfl) (by rfl) ?_);(conv => arg 1;simp only [G,Z,Y,Gx,un_neg,cutD,decide_true,decide_false,simprocAttr,fb2,fb3,fb4,fb9,fb22,fb24,fb28,fb30,fb32,fb33,fb35,fb37,fb41,fb42,fb44,dl, a1, hox, dk, dn, da, b1, b2, b3, hmo]);first|show GoR ..|(show _ ∧ GoW ..;refine ⟨by exact fun _ => trivial,?_⟩)|(show _ ∧ _ ∧ _ ∧ GoW ..;refine ⟨rfl,by trivial,(fun H _=>by simp only [G,Z,Y,Gx,un_neg,cutD,decide_true,decide_false,simprocAttr,fb2,fb3,fb4,fb9,fb22,fb24,fb28,fb30,fb32,fb33,fb35,fb37,fb41,fb42,fb44,dl, a1, hox, dk, dn, da, b1, b2, b3, hmo]),?_⟩))|(refine GoW.c c9 (by rfl) (by rfl) rfl ?_;(refine (hfw _).ret ?_);refine ⟨by exact fun _ => trivial,?_⟩)|(refine GoR.c c9 (by rfl) (by rfl) rfl ?_;(refine (hfw _).ret ?_))|(refine GoW.c c16 (by rfl) (by rfl) rfl ?_;(refine (hrs _).ret ?_);refine ⟨by exact fun _ => trivial,?_⟩)|(refine GoR.c c16 (by rfl) (by rfl) rfl ?_;(refine (hrs _).ret ?_))|(refine GoW.c c18 (by rfl) (by rfl) rfl ?_;(refine (hs _).mono ?_; rintro _ S2 ⟨rfl, hmv⟩);refine ⟨by exact fun _ => trivial,?_⟩)|(refine GoR.c c18 (by rfl) (by rfl) rfl ?_;(refine (hs _).mono ?_; rintro _ S2 ⟨rfl, hmv⟩))|(refine GoW.c c17 (by rfl) (by rfl) rfl ?_;(refine (htx _).ret ?_);refine ⟨by exact fun _ => trivial,?_⟩)|(refine GoR.c c17 (by rfl) (by rfl) rfl ?_;(refine (htx _).ret ?_))|refine GoR.s (by rfl) rfl rfl ?_|refine GoW.s (by rfl) rfl rfl (by exact fun _ => trivial) ?_|(refine GoR.splitG rfl (fun hc => ?_) (fun hc => ?_) <;> simp only [hc])|refine Go.condB rfl (fun hc => ?_) (fun hc => ?_))
      obtain ⟨T', e1, hT', hn', hm', hobj⟩ := hI.moved hyk hmv
      have hno := hobj (S1.length + 1) _ (by omega) (by simp [objAt]; rfl)
      have hI' := PlayI.stored (cur' := y) hT' hm' hn' hI.lo
      have hsm := CallD.weak (.cons .refl (.cons (.agg' (.cons .refl (.cons hI'.w .nil))) .nil)) (same13 (t := T.t) hI'.tab (e1) most)
      have hmm := hI'.m
      try simp only [refT] at hsm
      repeat' (first|refine Go.a rfl ?_|refine Go.rg ?_|refine GoR.nil ?_|refine Go.ret ?_|refine Go.b rfl ?_|refine Go.rgS dmx (by decide) ?_|refine Go.rgF (id := 20) 8 [3, 4] [0] (fun _ => True) dmx (by decide) 4 (by decide) (by decide) rfl rfl rfl rfl dze30 (by simp [AM.scalarV, Value.cells]) (by trivial) ?_|refine Go.rgD (id := 44) [6] (fun _ => True) dmx (by decide) 7 (by decide) (by trivial) ?_|refine GoW.nil rfl ?_|((first|refine GoR.o (by rfl) (by rfl) ?_|refine GoW.o (by rfl) (by rfl) ?_|refine GoW.rd (by rfl) (by rfl) ?_);(conv => arg 1;simp only [G,Z,Y,Gx,un_neg,cutD,decide_true,decide_false,simprocAttr,fb2,fb3,fb4,fb9,fb22,fb24,fb28,fb30,fb32,fb33,fb35,fb37,fb41,fb42,fb44,hno, hm', hmm, wrap_succ (show i < 4611686018427387904 by omega)]);first|show GoR ..|(show _ ∧ GoW ..;refine ⟨by exact fun _ => trivial,?_⟩)|(show _ ∧ _ ∧ _ ∧ GoW ..;refine ⟨rfl,by trivial,(fun H _=>by simp only [G,Z,Y,Gx,un_neg,cutD,decide_true,decide_false,simprocAttr,fb2,fb3,fb4,fb9,fb22,fb24,fb28,fb30,fb32,fb33,fb35,fb37,fb41,fb42,fb44,hno, hm', hmm, wrap_succ (show i < 4611686018427387904 by omega)]),?_⟩))|(refine GoW.c c15 (by rfl) (by rfl) rfl ?_;(refine (hrd _).ret ?_);refine ⟨by exact fun _ => trivial,?_⟩)|(refine GoR.c c15 (by rfl) (by rfl) rfl ?_;(refine (hrd _).ret ?_))|(refine GoW.c c20 (by rfl) (by rfl) rfl ?_;(refine hsm.ret ?_);refine ⟨by exact fun _ => trivial,?_⟩)|(refine GoR.c c20 (by rfl) (by rfl) rfl ?_;(refine hsm.ret ?_))|refine GoR.s (by rfl) rfl rfl ?_|refine GoW.s (by rfl) rfl rfl (by exact fun _ => trivial) ?_|(refine GoR.splitG rfl (fun hc => ?_) (fun hc => ?_) <;> simp only [hc])|refine Go.condB rfl (fun hc => ?_) (fun hc => ?_))
      rw [← e1]
      refine Go.lpN ?_
      refine Go.keep [(1, .sl none 10 l.length (acsC l)), (2, .str key), (7, .ptr T'.t 0), (10, .ptr mo 0), (11, .int .i64 ((i + 1 : Nat) : Int))] (.cons .refl (.cons .refl (.cons .refl (.cons .refl (.cons .refl (.nil)))))) ?_
      exact next (i + 1, y, T', _, _) (by dsimp only; omega) ⟨h1, by dsimp only; omega, hI'⟩
    have b3 : (x.op == 3) = false := by simpa using o3
    have hyl : cur.length ≤ cur.length + 1 := by omega
    by_cases o4 : x.op = 4
    · have b4 : (x.op == 4) = true := by simpa using o4
      have htw := fun E => tabTwin (orc := O) (hI.tab.app E).tab hok
      simp only [Ac.c, Rw.c, refT] at *
      repeat' (first|refine Go.a rfl ?_|refine Go.rg ?_|refine GoR.nil ?_|refine Go.ret ?_|refine Go.b rfl ?_|refine Go.rgS dmx (by decide) ?_|refine Go.rgF (id := 20) 8 [3, 4] [0] (fun _ => True) dmx (by decide) 4 (by decide) (by decide) rfl rfl rfl rfl dze30 (by simp [AM.scalarV, Value.cells]) (by trivial) ?_|refine Go.rgD (id := 44) [6] (fun _ => True) dmx (by decide) 7 (by decide) (by trivial) ?_|refine GoW.nil rfl ?_|((first|refine GoR.o (by rfl) (by rfl) ?_|refine GoW.o (by rfl) (by rfl) ?_|refine GoW.rd (by rfl) (by rfl) ?_);(conv => arg 1;simp only [G,Z,Y,Gx,un_neg,cutD,decide_true,decide_false,simprocAttr,fb2,fb3,fb4,fb9,fb22,fb24,fb28,fb30,fb32,fb33,fb35,fb37,fb41,fb42,fb44,dl, a1, hox, dk, dn, da, b1, b2, b3, b4, hmo]);first|show GoR ..|(show _ ∧ GoW ..;refine ⟨by exact fun _ => trivial,?_⟩)|(show _ ∧ _ ∧ _ ∧ GoW ..;refine ⟨rfl,by trivial,(fun H _=>by simp only [G,Z,Y,Gx,un_neg,cutD,decide_true,decide_false,simprocAttr,fb2,fb3,fb4,fb9,fb22,fb24,fb28,fb30,fb32,fb33,fb35,fb37,fb41,fb42,fb44,dl, a1, hox, dk, dn, da, b1, b2, b3, b4, hmo]),?_⟩))|(refine GoW.c c9 (by rfl) (by rfl) rfl ?_;(refine (hfw _).ret ?_);refine ⟨by exact fun _ => trivial,?_⟩)|(refine GoR.c c9 (by rfl) (by rfl) rfl ?_;(refine (hfw _).ret ?_))|(refine GoW.c c19 (by rfl) (by rfl) rfl ?_;(refine (htw _).mono ?_; rintro _ S2 ⟨U, rfl, hU, hUlo, hfrU⟩);refine ⟨by exact fun _ => trivial,?_⟩)|(refine GoR.c c19 (by rfl) (by rfl) rfl ?_;(refine (htw _).mono ?_; rintro _ S2 ⟨U, rfl, hU, hUlo, hfrU⟩))|refine GoR.s (by rfl) rfl rfl ?_|refine GoW.s (by rfl) rfl rfl (by exact fun _ => trivial) ?_)
      have hT2 := (hI.tab.app _).grow hfrU
      have hsw := tabSweep hT2.tab hok (now := 1099511627776) (age := 0) (by decide) (by decide) ⟨#[]⟩
      repeat' (first|refine Go.a rfl ?_|refine Go.rg ?_|refine GoR.nil ?_|refine Go.ret ?_|refine Go.b rfl ?_|refine Go.rgS dmx (by decide) ?_|refine Go.rgF (id := 20) 8 [3, 4] [0] (fun _ => True) dmx (by decide) 4 (by decide) (by decide) rfl rfl rfl rfl dze30 (by simp [AM.scalarV, Value.cells]) (by trivial) ?_|refine Go.rgD (id := 44) [6] (fun _ => True) dmx (by decide) 7 (by decide) (by trivial) ?_|refine GoW.nil rfl ?_|((first|refine GoR.o (by rfl) (by rfl) ?_|refine GoW.o (by rfl) (by rfl) ?_|refine GoW.rd (by rfl) (by rfl) ?_);(conv => arg 1;simp only [G,Z,Y,Gx,un_neg,cutD,decide_true,decide_false,simprocAttr,fb2,fb3,fb4,fb9,fb22,fb24,fb28,fb30,fb32,fb33,fb35,fb37,fb41,fb42,fb44]);first|show GoR ..|(show _ ∧ GoW ..;refine ⟨by exact fun _ => trivial,?_⟩)|(show _ ∧ _ ∧ _ ∧ GoW ..;refine ⟨rfl,by trivial,(fun H _=>by simp only [G,Z,Y,Gx,un_neg,cutD,decide_true,decide_false,simprocAttr,fb2,fb3,fb4,fb9,fb22,fb24,fb28,fb30,fb32,fb33,fb35,fb37,fb41,fb42,fb44]),?_⟩))|(refine GoW.c c18 (by rfl) (by rfl) rfl ?_;(refine hsw.mono ?_; rintro _ S3 ⟨rfl, T3, _, _, h31, h32, h33⟩);refine ⟨by exact fun _ => trivial,?_⟩)|(refine GoR.c c18 (by rfl) (by rfl) rfl ?_;(refine hsw.mono ?_; rintro _ S3 ⟨rfl, T3, _, _, h31, h32, h33⟩))|refine GoR.s (by rfl) rfl rfl ?_|refine GoW.s (by rfl) rfl rfl (by exact fun _ => trivial) ?_|(refine GoR.splitG rfl (fun hc => ?_) (fun hc => ?_) <;> simp only [hc])|refine Go.condB rfl (fun hc => ?_) (fun hc => ?_))
      have hle := h33.len
      have hUT : ∀ o ∈ U.own, o ∉ T.own := fun o ho hT => by
        have h1 := hUlo o ho
        have h2 := hI.tab.tab.lt o hT
        simp at h1
        omega
      have hI' : PlayI S S3 U mo most cur o := ⟨⟨hU.fr h33 hUT, hok, fun o ho => Nat.le_trans (hI.tab.app _).fr.len (hUlo o ho), hT2.fr.trans (F := []) h33 fun o ho => .inr (hT2.lo o ho)⟩, h33.obj (hfrU.obj (hmo _) (by simp)) hI.nt, hw, fun hx => by
        have h1 := hUlo mo hx
        have h2 := objAt_lt hI.m
        simp at h1
        omega, hI.lo⟩
      have e1 : U.t = U.t := rfl
      have hsm := CallD.weak (.cons .refl (.cons (.agg' (.cons .refl (.cons hI'.w .nil))) .nil)) (same13 (t := U.t) hI'.tab (e1) most)
      have hmm := hI'.m
      try simp only [refT] at hsm
      repeat' (first|refine Go.a rfl ?_|refine Go.rg ?_|refine GoR.nil ?_|refine Go.ret ?_|refine Go.b rfl ?_|refine Go.rgS dmx (by decide) ?_|refine Go.rgF (id := 20) 8 [3, 4] [0] (fun _ => True) dmx (by decide) 4 (by decide) (by decide) rfl rfl rfl rfl dze30 (by simp [AM.scalarV, Value.cells]) (by trivial) ?_|refine Go.rgD (id := 44) [6] (fun _ => True) dmx (by decide) 7 (by decide) (by trivial) ?_|refine GoW.nil rfl ?_|((first|refine GoR.o (by rfl) (by rfl) ?_|refine GoW.o (by rfl) (by rfl) ?_|refine GoW.rd (by rfl) (by rfl) ?_);(conv => arg 1;simp only [G,Z,Y,Gx,un_neg,cutD,decide_true,decide_false,simprocAttr,fb2,fb3,fb4,fb9,fb22,fb24,fb28,fb30,fb32,fb33,fb35,fb37,fb41,fb42,fb44,hmm, wrap_succ (show i < 4611686018427387904 by omega)]);first|show GoR ..|(show _ ∧ GoW ..;refine ⟨by exact fun _ => trivial,?_⟩)|(show _ ∧ _ ∧ _ ∧ GoW ..;refine ⟨rfl,by trivial,(fun H _=>by simp only [G,Z,Y,Gx,un_neg,cutD,decide_true,decide_false,simprocAttr,fb2,fb3,fb4,fb9,fb22,fb24,fb28,fb30,fb32,fb33,fb35,fb37,fb41,fb42,fb44,hmm, wrap_succ (show i < 4611686018427387904 by omega)]),?_⟩))|(refine GoW.c c15 (by rfl) (by rfl) rfl ?_;(refine (hrd _).ret ?_);refine ⟨by exact fun _ => trivial,?_⟩)|(refine GoR.c c15 (by rfl) (by rfl) rfl ?_;(refine (hrd _).ret ?_))|(refine GoW.c c20 (by rfl) (by rfl) rfl ?_;(refine hsm.ret ?_);refine ⟨by exact fun _ => trivial,?_⟩)|(refine GoR.c c20 (by rfl) (by rfl) rfl ?_;(refine hsm.ret ?_))|refine GoR.s (by rfl) rfl rfl ?_|refine GoW.s (by rfl) rfl rfl (by exact fun _ => trivial) ?_|(refine GoR.splitG rfl (fun hc => ?_) (fun hc => ?_) <;> simp only [hc])|refine Go.condB rfl (fun hc => ?_) (fun hc => ?_))
      rw [← e1]
      refine Go.lpN ?_
      refine Go.keep [(1, .sl none 10 l.length (acsC l)), (2, .str key), (7, .ptr U.t 0), (10, .ptr mo 0), (11, .int .i64 ((i + 1 : Nat) : Int))] (.cons .refl (.cons .refl (.cons .refl (.cons .refl (.cons .refl (.nil)))))) ?_
      exact next (i + 1, cur, U, _, _) (by dsimp only; omega) ⟨h1, by dsimp only; omega, hI'⟩
    have b4 : (x.op == 4) = false := by simpa using o4
    have hI' := hI.app
    simp only [Ac.c, Rw.c, refT] at *
    repeat' (first|refine Go.a rfl ?_|refine Go.rg ?_|refine GoR.nil ?_|refine Go.ret ?_|refine Go.b rfl ?_|refine Go.rgS dmx (by decide) ?_|refine Go.rgF (id := 20) 8 [3, 4] [0] (fun _ => True) dmx (by decide) 4 (by decide) (by decide) rfl rfl rfl rfl dze30 (by simp [AM.scalarV, Value.cells]) (by trivial) ?_|refine Go.rgD (id := 44) [6] (fun _ => True) dmx (by decide) 7 (by decide) (by trivial) ?_|refine GoW.nil rfl ?_|((first|refine GoR.o (by rfl) (by rfl) ?_|refine GoW.o (by rfl) (by rfl) ?_|refine GoW.rd (by rfl) (by rfl) ?_);(conv => arg 1;simp only [G,Z,Y,Gx,un_neg,cutD,decide_true,decide_false,simprocAttr,fb2,fb3,fb4,fb9,fb22,fb24,fb28,fb30,fb32,fb33,fb35,fb37,fb41,fb42,fb44,dl, a1, hox, dk, dn, da, b1, b2, b3, b4, hmo]);first|show GoR ..|(show _ ∧ GoW ..;refine ⟨by exact fun _ => trivial,?_⟩)|(show _ ∧ _ ∧ _ ∧ GoW ..;refine ⟨rfl,by trivial,(fun H _=>by simp only [G,Z,Y,Gx,un_neg,cutD,decide_true,decide_false,simprocAttr,fb2,fb3,fb4,fb9,fb22,fb24,fb28,fb30,fb32,fb33,fb35,fb37,fb41,fb42,fb44,dl, a1, hox, dk, dn, da, b1, b2, b3, b4, hmo]),?_⟩))|(refine GoW.c c9 (by rfl) (by rfl) rfl ?_;(refine (hfw _).ret ?_);refine ⟨by exact fun _ => trivial,?_⟩)|(refine GoR.c c9 (by rfl) (by rfl) rfl ?_;(refine (hfw _).ret ?_))|refine GoR.s (by rfl) rfl rfl ?_|refine GoW.s (by rfl) rfl rfl (by exact fun _ => trivial) ?_)
    have hsm := fun E => CallD.weak (.cons .refl (.cons (.agg' (.cons .refl (.cons (hI' E).w .nil))) .nil)) (same13 (t := T.t) (hI' E).tab rfl most)
    have hmm := fun E => (hI' E).m
    try simp only [refT] at hsm
    repeat' (first|refine Go.a rfl ?_|refine Go.rg ?_|refine GoR.nil ?_|refine Go.ret ?_|refine Go.b rfl ?_|refine Go.rgS dmx (by decide) ?_|refine Go.rgF (id := 20) 8 [3, 4] [0] (fun _ => True) dmx (by decide) 4 (by decide) (by decide) rfl rfl rfl rfl dze30 (by simp [AM.scalarV, Value.cells]) (by trivial) ?_|refine Go.rgD (id := 44) [6] (fun _ => True) dmx (by decide) 7 (by decide) (by trivial) ?_|refine GoW.nil rfl ?_|((first|refine GoR.o (by rfl) (by rfl) ?_|refine GoW.o (by rfl) (by rfl) ?_|refine GoW.rd (by rfl) (by rfl) ?_);(conv => arg 1;simp only [G,Z,Y,Gx,un_neg,cutD,decide_true,decide_false,simprocAttr,fb2,fb3,fb4,fb9,fb22,fb24,fb28,fb30,fb32,fb33,fb35,fb37,fb41,fb42,fb44,hmo, hmm, wrap_succ (show i < 4611686018427387904 by omega)]);first|show GoR ..|(show _ ∧ GoW ..;refine ⟨by exact fun _ => trivial,?_⟩)|(show _ ∧ _ ∧ _ ∧ GoW ..;refine ⟨rfl,by trivial,(fun H _=>by simp only [G,Z,Y,Gx,un_neg,cutD,decide_true,decide_false,simprocAttr,fb2,fb3,fb4,fb9,fb22,fb24,fb28,fb30,fb32,fb33,fb35,fb37,fb41,fb42,fb44,hmo, hmm, wrap_succ (show i < 4611686018427387904 by omega)]),?_⟩))|(refine GoW.c c20 (by rfl) (by rfl) rfl ?_;(refine (hsm _).ret ?_);refine ⟨by exact fun _ => trivial,?_⟩)|(refine GoR.c c20 (by rfl) (by rfl) rfl ?_;(refine (hsm _).ret ?_))|refine GoR.s (by rfl) rfl rfl ?_|refine GoW.s (by rfl) rfl rfl (by exact fun _ => trivial) ?_|(refine GoR.splitG rfl (fun hc => ?_) (fun hc => ?_) <;> simp only [hc])|refine Go.condB rfl (fun hc => ?_) (fun hc => ?_))
    refine Go.lpN ?_
    refine Go.keep [(1, .sl none 10 l.length (acsC l)), (2, .str key), (7, .ptr T.t 0), (10, .ptr mo 0), (11, .int .i64 ((i + 1 : Nat) : Int))] (.cons .refl (.cons .refl (.cons .refl (.cons .refl (.cons .refl (.nil)))))) ?_
    exact next (i + 1, cur, T, _, _) (by dsimp only; omega) ⟨h1, by dsimp only; omega, hI' _⟩
  · clear next
    obtain rfl : i = l.length := by omega
    have dl : decide ((l.length : Int) < (l.length : Int)) = false := by simp
    have hgt := tabGet (orc := O) hI.tab.tab hok key
    have hrg := fun S => CallD.weak (.cons (.agg' (.cons .refl (.cons hw .nil))) .refl) (refGetT (orc := O) (most := most) hok.rise hok.len key S)
    have hx : OkR ((lookK Rw.key cur key).getD noRow) := by
      cases hq : lookK Rw.key cur key with
      | none => exact ⟨by simp [noRow], by simp [noRow]⟩
      | some r => exact hok.ok r (lookK_mem hq).1
    generalize (lookK Rw.key cur key).getD noRow = x at *
    generalize (lookK Rw.key cur key).isSome = b at *
    have h4 := fun S => of4 (orc := O) x (by have := hx.len; omega) S
    have hsr := fun S => refSame (orc := O) x x (by have := hx.len; omega) hx.atl hx.atl S
    rw [sameR_self] at hsr
    have ho1 : ∀ E, objAt (S1 ++ (.obj x.c :: E)) S1.length = some x.c := fun E => by simp [objAt]
    have ho2 : ∀ c E, objAt (S1 ++ (c :: .obj x.c :: E)) (S1.length + 1) = some x.c := fun c E => by simp [objAt]
    obtain ⟨Eg, hEg⟩ := (hI.tab.app [.obj x.c, .obj x.c]).fr.pre (by simp)
    simp only [Rw.c, refT] at *
    cases b
    all_goals
      repeat' (first|refine Go.a rfl ?_|refine Go.rg ?_|refine GoR.nil ?_|refine Go.ret ?_|refine Go.b rfl ?_|refine Go.rgS dmx (by decide) ?_|refine Go.rgF (id := 20) 8 [3, 4] [0] (fun H => objAt H (S1.length + 1) = some [.str x.key, .int .i64 x.st.tick, .int .i64 x.st.inc, .int .i64 x.st.seq, .str x.st.org, .sl none 5 x.at_.length (attsC x.at_)]) dmx (by decide) 4 (by decide) (by decide) rfl rfl rfl rfl dze30 (by simp [AM.scalarV, Value.cells]) (by (simp [objAt])) ?_|refine Go.rgD (id := 44) [6] (fun H => objAt H (S1.length + 1) = some [.str x.key, .int .i64 x.st.tick, .int .i64 x.st.inc, .int .i64 x.st.seq, .str x.st.org, .sl none 5 x.at_.length (attsC x.at_)]) dmx (by decide) 7 (by decide) (by (simp [objAt])) ?_|refine GoW.nil rfl ?_|((first|refine GoR.o (by rfl) (by rfl) ?_|refine GoW.o (by rfl) (by rfl) ?_|refine GoW.rd (by rfl) (by rfl) ?_);(conv => arg 1;simp only [G,Z,Y,Gx,un_neg,cutD,decide_true,decide_false,simprocAttr,fb2,fb3,fb4,fb9,fb22,fb24,fb28,fb30,fb32,fb33,fb35,fb37,fb41,fb42,fb44,dl, hmo, eq_self, beq_self_eq_true, ho1, ho2]);first|show GoR ..|(show _ ∧ GoW ..;refine ⟨by (first|exact fun h => absurd h (by decide)|(intro _;(simp [objAt]))),?_⟩)|(show _ ∧ _ ∧ _ ∧ GoW ..;refine ⟨rfl,by (simp [objAt]),(fun H hI=>by (try dsimp only at hI);simp only [G,Z,Y,Gx,un_neg,cutD,decide_true,decide_false,simprocAttr,fb2,fb3,fb4,fb9,fb22,fb24,fb28,fb30,fb32,fb33,fb35,fb37,fb41,fb42,fb44,dl, hmo, eq_self, beq_self_eq_true, ho1, ho2,hI]),?_⟩))|(refine GoW.c c21 (by rfl) (by rfl) rfl ?_;(refine hgt.ret ?_);refine ⟨by (first|exact fun h => absurd h (by decide)|(intro _;(simp [objAt]))),?_⟩)|(refine GoR.c c21 (by rfl) (by rfl) rfl ?_;(refine hgt.ret ?_))|(refine GoW.c c13 (by rfl) (by rfl) rfl ?_;(refine (hrg _).ret ?_);refine ⟨by (first|exact fun h => absurd h (by decide)|(intro _;(simp [objAt]))),?_⟩)|(refine GoR.c c13 (by rfl) (by rfl) rfl ?_;(refine (hrg _).ret ?_))|(refine GoW.c c11 (by rfl) (by rfl) rfl ?_;(refine (h4 _).ret ?_);refine ⟨by (first|exact fun h => absurd h (by decide)|(intro _;(simp [objAt]))),?_⟩)|(refine GoR.c c11 (by rfl) (by rfl) rfl ?_;(refine (h4 _).ret ?_))|(refine GoW.c c22 (by rfl) (by rfl) rfl ?_;(refine (hsr _).ret ?_);refine ⟨by (first|exact fun h => absurd h (by decide)|(intro _;(simp [objAt]))),?_⟩)|(refine GoR.c c22 (by rfl) (by rfl) rfl ?_;(refine (hsr _).ret ?_))|refine GoR.s (by rfl) rfl rfl ?_|refine GoW.s (by rfl) rfl rfl (by (first|exact fun h => absurd h (by decide)|(intro _;(simp [objAt])))) ?_|(refine GoR.splitG rfl (fun hc => ?_) (fun hc => ?_) <;> simp only [hc])|refine Go.condB rfl (fun hc => ?_) (fun hc => ?_))
      refine ⟨(by first | exact .inl rfl | exact .inr rfl), fin ?_⟩
      rw [resD_tmp (fn := Tryz.f3) rfl]
      simp only [optThen_some,resultD_tmp,resultD_cell,G,Z,Y,Gx,un_neg,cutD,decide_true,decide_false,simprocAttr,fb2,fb3,fb4,fb9,fb22,fb24,fb28,fb30,fb32,fb33,fb35,fb37,fb41,fb42,fb44]
      exact ⟨_, Eg, hEg, .bool, rfl⟩
end Go.Proofs.DtT
